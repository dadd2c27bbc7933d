/- Lemmas for the law's walk. -/
import Derived.Test.YtnckmcnffadjoaaGreatDoorPk17
set_option maxRecDepth 100000
set_option maxHeartbeats 16000000
set_option linter.unusedSimpArgs false
namespace Go.Proofs.YtnckmcnffadjoaaGreatDoor
open Go.Proofs.Tryz
open Go.RowKit
variable {w V U:World} {cs:aZ} {t t':fB} {l:List (gG×Int)} {o:iE} {k:Int} {c:bT} {base B n m:Nat} {pv:Nat->cY} {x:dD} {xw:Option (Nat×dD)} {sb:Nat->Nat} {e:TypeId} {v:jO×List ig} {sv:Value} {q:cY} {hs:List ig}
theorem Xg(base:Nat)(w:World)(B:Nat)(pv:Nat->cY)(x:dD)(o:jO)(hs:List ig)(h:cE base w B pv x)(hf:gM w o hs)(hi:lr x)(a:World)(tR:kO a)(sK:a.heap.size<=base)(tS:Fr aS a w)(hr:(o.dW hs).right=true)(hw:o.what=4) :
  aB 14 #[.pointer (some ⟨B,0,none⟩),.agg o.cells.toArray] w (kf base w B pv (iK x (o.dW hs))):=by
 have vd:B<w.heap.size:=h.lt;have oM:=h.low;obtain⟨ah,ch,g_⟩:=hf.h_;obtain⟨w2,eG⟩:∃w2,w2=(w.alloc (.cells o.cells.toArray 41)).alloc (.cells bU 30):=⟨_,rfl⟩;have dE:Fr aS w w2:=by rw[eG];exact((ae aS w).alloc _).alloc _
 have k1:w2.heap[w.heap.size]?=some (.cells o.cells.toArray 41 (0,0)):=by rw[eG];exact((ae aS _).alloc _).keep (aC _ _) id
 have k2:w2.heap[w.heap.size+1]?=some (.cells bU 30 (0,0)):=by
  have h:=aC (w.alloc (.cells o.cells.toArray 41)) (.cells bU 30);rw[bP]at h;rw[eG];exact h
 have tU:=O (lJ o hs w2 (hf.dm dE));have HH:=O (h.dm dE);have HF:=O (hf.dm dE);have l_:=O g_;have HI:=O hi;have fU:=O dE;have mV:=O k1;have ra:=O k2;have py:=O (show base<=w.heap.size from ab);have xL:=O oM;have pn:=O vd;have SJ:=O tR;have SI:=O (tS.trans dE);have YJ:=O sK;rw[eG]at k1;rw[eF g_]at eG tU k1 ⊢;unfold bU at eG k1;have nP:=O eG;have vX:=O k1;clear eG g_ dE k1 k2 h hf hi tR sK tS
 obtain⟨i,wa,A1⟩:∃i:Nat,o.aN.part=(i:Int)/\i<4:=by
  obtain⟨h0,h1⟩:=iX hr;have Ub:0<=o.aN.part:=h0;have I_:o.aN.part<4:=h1;exact⟨o.aN.part.toNat,ab,ab⟩
 have Nw:(i:Int)<4:=ab;have qN:¬(i:Int)<0:=ab;have N2:¬(4:Int)<=(i:Int):=ab;have Lu:(0:Int)<=(i:Int):=ab;have tE:=O A1;have A_:=O wa;have J':=O (show iK x (o.dW hs)=(x,rep (if mM (x.part i).book (o.aN.dW hs) x.now then 5 else 4))by
  rw[qF hr wa (by show o.what≠10;omega),afr (show(o.dW hs).what=4 from hw),pg];rfl)
 rw[hr]at tU
 have xO:=O (show∀U,Fr aS w2 U->aB 33 #[.pointer (some ⟨(pv i).k,0,none⟩),.agg #[.int .i64 (i:Int),.bool o.aN.dt.aG,.string o.aN.dt.host,.int .i64 o.aN.dt.port,.bool o.aN.o.aG,.string o.aN.o.host,.int .i64 o.aN.o.port,.string o.aN.path,.string o.aN.query,.string o.aN.method,.slice ah hs.length ch,.bool o.aN.f_,.string o.aN.body],.int .i64 x.now] U fun e w'=>e=.returned (.bool (mM (x.part i).book (o.aN.dW hs) x.now))/\Fr aS U w' from fun U hU=>by
  have h:=Mx base U (pv i).k (pv i).kv (x.part i).book o.aN hs x.now ((HH.o.dm hU).part i tE.o).book (iU (HI.o.ok.part i).sZ.2.2.1 ag) (HF.o.dm hU).eB HF.o.aN;rw[Av l_.o,A_.o]at h;exact h)
 have HC:=O (show∀U,Fr aS w2 U->(U.cell? ⟨B,i*3+1,none⟩=some (.pointer (some ⟨(pv i).k,0,none⟩))/\U.cell? ⟨B,12,none⟩=some (.int .i64 x.now)/\U.cell? ⟨w.heap.size,1,none⟩=some (.int .i64 (i:Int))/\U.cell? ⟨w.heap.size,2,none⟩=some (.bool o.aN.dt.aG)/\U.cell? ⟨w.heap.size,3,none⟩=some (.string o.aN.dt.host)/\U.cell? ⟨w.heap.size,4,none⟩=some (.int .i64 o.aN.dt.port)/\U.cell? ⟨w.heap.size,5,none⟩=some (.bool o.aN.o.aG)/\U.cell? ⟨w.heap.size,6,none⟩=some (.string o.aN.o.host)/\U.cell? ⟨w.heap.size,7,none⟩=some (.int .i64 o.aN.o.port)/\U.cell? ⟨w.heap.size,8,none⟩=some (.string o.aN.path)/\U.cell? ⟨w.heap.size,9,none⟩=some (.string o.aN.query)/\U.cell? ⟨w.heap.size,10,none⟩=some (.string o.aN.method)/\U.cell? ⟨w.heap.size,11,none⟩=some (.slice ah hs.length ch)/\U.cell? ⟨w.heap.size,12,none⟩=some (.bool o.aN.f_)/\U.cell? ⟨w.heap.size,13,none⟩=some (.string o.aN.body))from fun U hU=>by
  have j1:=(HH.o.dm hU).partAt tE.o;have j2:=(HH.o.dm hU).eN;obtain⟨a0,a1,a2,a3,a4,a5,a6,a7,a8,a9,jP,jQ,a12,jN,jR,jy,j_,ka,ke,ko,a20,a21⟩:=eA (hU.keep mV.o id) l_.o;rw[A_.o]at a1;exact⟨j1.ib,by simp only[World.cell?,j2];rfl,a1,a2,a3,a4,a5,a6,a7,a8,a9,jP,jQ,a12,jN⟩)
 have HW:=O hw;clear hr hw A1 wa;go_enter func14,ntmps14;go_wp2_with (first|((with_reducible refine dr 8 ?_);refine aI rfl 41 (.tmp 3) rfl w.heap.size rfl _ _ (0,0) _ vX.o underlying41 rfl af ?_)|fail)
 rw[<-nP.o];refine tU.o.mono ?_;rintro e u⟨rfl,hu⟩;obtain⟨a0,a1,a2,a3,a4,a5,a6,a7,a8,a9,jP,jQ,a12,jN,jR,jy,j_,ka,ke,ko,a20,a21⟩:=eA (hu.keep mV.o id) l_.o;rw[A_.o]at a1;clear a0 a2 a3 a4 a5 a6 a7 a8 a9 jP jQ a12 jN jR jy j_ ka ke ko a20 a21;have qH:=O (show∀n,Fr aS w2 (u.drewN n)from fun n=>dG n hu);clear hu vX;go_wp2_with fail
 go_quiet (fail);clear a1;have mS:=qH.o nq;generalize u.drewN nq=u1 at mS ⊢;have tV:=O mS;clear mS qH;have Fz:=O (tV.o.keep mV.o id);rw[eF l_.o]at Fz;obtain⟨a0,a1,a2,a3,a4,a5,a6,a7,a8,a9,jP,jQ,a12,jN,jR,jy,j_,ka,ke,ko,a20,a21⟩:=eA (tV.o.keep mV.o id) l_.o;rw[A_.o]at a1;have xP:=HW.o;rw[xP]at a0;clear xP;clear a1 a2 a3 a4 a5 a6 a7 a8 a9 jP jQ a12 jN jR jy j_ ka ke ko a20 a21
 cases hb:mM (x.part i).book (o.aN.dW hs) x.now
 ·skip
  have HR:=O (J'.o.trans (by rw[hb];rfl:_=(x,rep 4)));rw[hb]at xO;clear hb J';go_wp2_with fail
  go_region_held3 (fun U=>Fr aS w2 U/\U.cell? ⟨B,i*3+1,none⟩=some (.pointer (some ⟨(pv i).k,0,none⟩))/\U.cell? ⟨B,12,none⟩=some (.int .i64 x.now)/\U.cell? ⟨w.heap.size,1,none⟩=some (.int .i64 (i:Int))/\U.cell? ⟨w.heap.size,2,none⟩=some (.bool o.aN.dt.aG)/\U.cell? ⟨w.heap.size,3,none⟩=some (.string o.aN.dt.host)/\U.cell? ⟨w.heap.size,4,none⟩=some (.int .i64 o.aN.dt.port)/\U.cell? ⟨w.heap.size,5,none⟩=some (.bool o.aN.o.aG)/\U.cell? ⟨w.heap.size,6,none⟩=some (.string o.aN.o.host)/\U.cell? ⟨w.heap.size,7,none⟩=some (.int .i64 o.aN.o.port)/\U.cell? ⟨w.heap.size,8,none⟩=some (.string o.aN.path)/\U.cell? ⟨w.heap.size,9,none⟩=some (.string o.aN.query)/\U.cell? ⟨w.heap.size,10,none⟩=some (.string o.aN.method)/\U.cell? ⟨w.heap.size,11,none⟩=some (.slice ah hs.length ch)/\U.cell? ⟨w.heap.size,12,none⟩=some (.bool o.aN.f_)/\U.cell? ⟨w.heap.size,13,none⟩=some (.string o.aN.body)) ((refine(fun hU=>⟨hU,HC.o _ hU⟩) ?_;first|exact aA tV.o|assumption))
   ((first
    |(go_at_call 33;refine(xO.o _ (aA tV.o)).mono ?_;rintro e u5 ⟨rfl,lN⟩;have uz:Fr aS w2 u5:=(aA tV.o).trans lN)))
  have HP:=O (show dp base w B pv x u5 from cJ fU.o (fE HH.o uz));have px:=O (uz.keep ra.o id);clear lN uz HC xO;go_wp2_with (first|((with_reducible refine cZ 30 ?_);refine aF rfl 30 (.tmp 4) (.tmp 50) rfl (w.heap.size+1) #[.int .i64 4,.string ⟨#[]⟩,.int .i64 0] rfl rfl _ bU px.o (bf _ rfl) rfl cC ?_)|fail)
  refine aW (bw bD _ _ (w.heap.size+1) 30 #[.int .i64 4,.string ⟨#[]⟩,.int .i64 0] (0,0) _ rfl (a_ _ (w.heap.size+1) _ _ _ _ px.o) underlying30 rfl (bf _ rfl)) rfl ?_;unfold kf;rw[HR.o];exact⟨rfl,eC HP.o py.o pn.o (bX _) px.o dM ag _⟩
 ·skip
  have HR:=O (J'.o.trans (by rw[hb];rfl:_=(x,rep 5)));rw[hb]at xO;clear hb J';go_wp2_with fail
  go_region_held3 (fun U=>Fr aS w2 U/\U.cell? ⟨B,i*3+1,none⟩=some (.pointer (some ⟨(pv i).k,0,none⟩))/\U.cell? ⟨B,12,none⟩=some (.int .i64 x.now)/\U.cell? ⟨w.heap.size,1,none⟩=some (.int .i64 (i:Int))/\U.cell? ⟨w.heap.size,2,none⟩=some (.bool o.aN.dt.aG)/\U.cell? ⟨w.heap.size,3,none⟩=some (.string o.aN.dt.host)/\U.cell? ⟨w.heap.size,4,none⟩=some (.int .i64 o.aN.dt.port)/\U.cell? ⟨w.heap.size,5,none⟩=some (.bool o.aN.o.aG)/\U.cell? ⟨w.heap.size,6,none⟩=some (.string o.aN.o.host)/\U.cell? ⟨w.heap.size,7,none⟩=some (.int .i64 o.aN.o.port)/\U.cell? ⟨w.heap.size,8,none⟩=some (.string o.aN.path)/\U.cell? ⟨w.heap.size,9,none⟩=some (.string o.aN.query)/\U.cell? ⟨w.heap.size,10,none⟩=some (.string o.aN.method)/\U.cell? ⟨w.heap.size,11,none⟩=some (.slice ah hs.length ch)/\U.cell? ⟨w.heap.size,12,none⟩=some (.bool o.aN.f_)/\U.cell? ⟨w.heap.size,13,none⟩=some (.string o.aN.body)) ((refine(fun hU=>⟨hU,HC.o _ hU⟩) ?_;first|exact aA tV.o|assumption))
   ((first
    |(go_at_call 33;refine(xO.o _ (aA tV.o)).mono ?_;rintro e u5 ⟨rfl,lN⟩;have uz:Fr aS w2 u5:=(aA tV.o).trans lN)))
  have HP:=O (show dp base w B pv x u5 from cJ fU.o (fE HH.o uz));have px:=O (uz.keep ra.o id);clear lN uz HC xO;go_wp2_with (first|((with_reducible refine cZ 30 ?_);refine aF rfl 30 (.tmp 4) (.tmp 49) rfl (w.heap.size+1) #[.int .i64 5,.string ⟨#[]⟩,.int .i64 0] rfl rfl _ bU px.o (bf _ rfl) rfl cC ?_)|fail)
  refine aW (bw bD _ _ (w.heap.size+1) 30 #[.int .i64 5,.string ⟨#[]⟩,.int .i64 0] (0,0) _ rfl (a_ _ (w.heap.size+1) _ _ _ _ px.o) underlying30 rfl (bf _ rfl)) rfl ?_;unfold kf;rw[HR.o];exact⟨rfl,eC HP.o py.o pn.o (bX _) px.o dM ag _⟩
theorem Ta{b:Nat}{t:TypeId}(h:w.heap[b]?=some (.cells cs.toArray t (0,0))):w.rangeAt b 0 cs:=fun j v hv=>by
 simp only[World.cell?,h];simpa using hv
theorem Pf(base:Nat)(w:World)(B:Nat)(pv:Nat->cY)(x:dD)(o:jO)(hs:List ig)(h:cE base w B pv x)(hf:gM w o hs)(hi:lr x)(a:World)(tR:kO a)(sK:a.heap.size<=base)(tS:Fr aS a w)(hr:(o.dW hs).right=true)(hw:o.what=5) :
  aB 14 #[.pointer (some ⟨B,0,none⟩),.agg o.cells.toArray] w (kf base w B pv (iK x (o.dW hs))):=by
 have vd:B<w.heap.size:=h.lt;have oM:=h.low;obtain⟨ah,ch,g_⟩:=hf.h_;obtain⟨w2,eG⟩:∃w2,w2=(w.alloc (.cells o.cells.toArray 41)).alloc (.cells bU 30):=⟨_,rfl⟩;have dE:Fr aS w w2:=by rw[eG];exact((ae aS w).alloc _).alloc _
 have k1:w2.heap[w.heap.size]?=some (.cells o.cells.toArray 41 (0,0)):=by rw[eG];exact((ae aS _).alloc _).keep (aC _ _) id
 have k2:w2.heap[w.heap.size+1]?=some (.cells bU 30 (0,0)):=by
  have h:=aC (w.alloc (.cells o.cells.toArray 41)) (.cells bU 30);rw[bP]at h;rw[eG];exact h
 have tU:=O (lJ o hs w2 (hf.dm dE));have HH:=O (h.dm dE);have HF:=O (hf.dm dE);have l_:=O g_;have HI:=O hi;have fU:=O dE;have mV:=O k1;have ra:=O k2;have py:=O (show base<=w.heap.size from ab);have xL:=O oM;have pn:=O vd;have SJ:=O tR;have SI:=O (tS.trans dE);have YJ:=O sK;rw[eG]at k1;rw[eF g_]at eG tU k1 ⊢;unfold bU at eG k1;have nP:=O eG;have vX:=O k1;clear eG g_ dE k1 k2 h hf hi tR sK tS
 obtain⟨i,wa,A1⟩:∃i:Nat,o.aN.part=(i:Int)/\i<4:=by
  obtain⟨h0,h1⟩:=iX hr;have Ub:0<=o.aN.part:=h0;have I_:o.aN.part<4:=h1;exact⟨o.aN.part.toNat,ab,ab⟩
 have Nw:(i:Int)<4:=ab;have qN:¬(i:Int)<0:=ab;have N2:¬(4:Int)<=(i:Int):=ab;have Lu:(0:Int)<=(i:Int):=ab;have tE:=O A1;have A_:=O wa;obtain⟨r,CM⟩:∃r,r=gU (x.part i) x.now (o.dW hs):=⟨_,rfl⟩;have HR:=O (show iK x (o.dW hs)=(x.set i r.1,r.2)by rw[qF hr wa (by show o.what≠10;omega),CM,afs (show(o.dW hs).what=5 from hw)]);rw[hr]at tU
 have HM:=O (show∀U,Fr aS w2 U->aB 34 #[.pointer (some ⟨B,i*3,none⟩),.agg o.cells.toArray,.int .i64 x.now] U (eK base U B (iY pv x.now) (i*3) (pv i) r)from fun U hU=>by
  have h:=My base U B (i*3) (iY pv x.now) (pv i) (x.part i) o hs x.now ((HH.o.dm hU).part i tE.o) ((HH.o.dm hU).partAt tE.o) xL.o (HF.o.dm hU) (HI.o.ok.part i) (SJ.o.pw.fr (SI.o.trans hU)) HI.o.ok.now.1 HI.o.ok.now.2;rw[<-CM]at h;exact h)
 rw[eF l_.o]at HM
 have HC:=O (show∀U,Fr aS w2 U->(U.heap[w.heap.size]?=some (.cells #[.int .i64 o.what,.int .i64 o.aN.part,.bool o.aN.dt.aG,.string o.aN.dt.host,.int .i64 o.aN.dt.port,.bool o.aN.o.aG,.string o.aN.o.host,.int .i64 o.aN.o.port,.string o.aN.path,.string o.aN.query,.string o.aN.method,.slice ah hs.length ch,.bool o.aN.f_,.string o.aN.body,.bool o.proxy,.string o.text,.string o.user,.string o.pass,.string o.bS,.int .i64 o.cert,.bool o.all,.int .i64 o.n] 41 (0,0))/\U.cell? ⟨B,12,none⟩=some (.int .i64 x.now))from fun U hU=>by
  have j2:=(HH.o.dm hU).eN;exact⟨by rw[<-eF l_.o];exact hU.keep mV.o id,by simp only[World.cell?,j2];rfl⟩)
 have HW:=O hw;clear hr hw CM A1 wa;go_enter func14,ntmps14;go_wp2_with (first|((with_reducible refine dr 8 ?_);refine aI rfl 41 (.tmp 3) rfl w.heap.size rfl _ _ (0,0) _ vX.o underlying41 rfl af ?_)|fail)
 rw[<-nP.o];refine tU.o.mono ?_;rintro e u⟨rfl,hu⟩;obtain⟨a0,a1,a2,a3,a4,a5,a6,a7,a8,a9,jP,jQ,a12,jN,jR,jy,j_,ka,ke,ko,a20,a21⟩:=eA (hu.keep mV.o id) l_.o;rw[A_.o]at a1;clear a0 a2 a3 a4 a5 a6 a7 a8 a9 jP jQ a12 jN jR jy j_ ka ke ko a20 a21;have qH:=O (show∀n,Fr aS w2 (u.drewN n)from fun n=>dG n hu);clear hu vX;go_wp2_with fail
 go_quiet (fail);clear a1;have mS:=qH.o nq;generalize u.drewN nq=u1 at mS ⊢;have tV:=O mS;clear mS qH;have Fz:=O (tV.o.keep mV.o id);rw[eF l_.o]at Fz;obtain⟨a0,a1,a2,a3,a4,a5,a6,a7,a8,a9,jP,jQ,a12,jN,jR,jy,j_,ka,ke,ko,a20,a21⟩:=eA (tV.o.keep mV.o id) l_.o;rw[A_.o]at a1;have xP:=HW.o;rw[xP]at a0;clear xP;clear a1 a2 a3 a4 a5 a6 a7 a8 a9 jP jQ a12 jN jR jy j_ ka ke ko a20 a21;go_wp2_with fail
 refine wp_region_held_drew (S:=(fun U=>U.heap[w.heap.size]?=some (.cells #[.int .i64 o.what,.int .i64 o.aN.part,.bool o.aN.dt.aG,.string o.aN.dt.host,.int .i64 o.aN.dt.port,.bool o.aN.o.aG,.string o.aN.o.host,.int .i64 o.aN.o.port,.string o.aN.path,.string o.aN.query,.string o.aN.method,.slice ah hs.length ch,.bool o.aN.f_,.string o.aN.body,.bool o.proxy,.string o.text,.string o.user,.string o.pass,.string o.bS,.int .i64 o.cert,.bool o.all,.int .i64 o.n] 41 (0,0))/\U.cell? ⟨B,12,none⟩=some (.int .i64 x.now))) af (HC.o _ (aA tV.o)) ?_
 intro zl;refine aU 0 53 rfl ?_
 refine tY 1 54 rfl (fI bD 41 (.tmp 3) rfl w.heap.size 0 rfl [.int .i64 o.what,.int .i64 o.aN.part,.bool o.aN.dt.aG,.string o.aN.dt.host,.int .i64 o.aN.dt.port,.bool o.aN.o.aG,.string o.aN.o.host,.int .i64 o.aN.o.port,.string o.aN.path,.string o.aN.query,.string o.aN.method,.slice ah hs.length ch,.bool o.aN.f_,.string o.aN.body,.bool o.proxy,.string o.text,.string o.user,.string o.pass,.string o.bS,.int .i64 o.cert,.bool o.all,.int .i64 o.n] _ (fun U hU=>Ta hU.1) underlying41 rfl af) ?_
 try simp only[Act.put,sA,sB,sC]
 refine aU 2 55 rfl ?_;refine aU 3 56 rfl ?_;refine aU 4 57 rfl ?_;refine aU 5 58 rfl ?_;refine eR 6 rfl fun K hK=>?_;go_simp;have tW:=aA tV.o;refine(HM.o _ tW).mono ?_;rintro e u5⟨rfl,hp⟩;unfold kt.val;have Mr:=tW.keep ra.o id;have px:=O (od (HH.o.dm tW) tE.o hp Mr dM ab);have hko:=od (HH.o.dm tW) tE.o hp (HC.o _ tW).1 jw ab
 have HP:=O (show dp base w B pv (x.set i r.1) u5 from cJ fU.o (cJ tW (kF (HH.o.dm tW) tE.o hp)));have aaU:u5.cell? ⟨B,12,none⟩=some (.int .i64 x.now):=by
  obtain⟨v',_,_,_,h4⟩:=hp;rw[yY pv x.now tE.o]at h4;simp only[World.cell?,h4];rfl
 have HS5:=O (And.intro hko aaU);have HB5:=O (show B<u5.heap.size by obtain⟨v',_,_,_,h4⟩:=hp;exact bq h4);clear hp Mr tW HM hko aaU;refine hK.out _ _ HS5.o ?_;intro xF;clear hK zl K
 try simp only[Act.put,sA,sB,sC]
 refine eR 7 rfl fun K hK=>?_;refine j9 rfl 30 (.tmp 4) (.tmp 59) rfl (w.heap.size+1) #[.int .i64 r.2.what,.string r.2.head,.int .i64 r.2.cert] rfl rfl 30 bU px.o (bf _ rfl) rfl cC ?_;have cP:=(ae (one (w.heap.size+1)) u5).setRow (fun _=>rfl) #[.int .i64 r.2.what,.string r.2.head,.int .i64 r.2.cert]
 refine hK.out _ _ ⟨cP.keep HS5.o.1 (fun e=>by have e':w.heap.size=w.heap.size+1:=e;omega),(cP.cell (p:=⟨B,12,none⟩) HB5.o (fun e=>by have e':B=w.heap.size+1:=e;have:=pn.o;omega)).trans HS5.o.2⟩ ?_;intro Aw;clear hK xF K Aw cP
 try simp only[Act.put,sA,sB,sC]
 refine wpAnyH_done af ?_ _;go_wp2_with fail
 refine aW (bw bD _ _ (w.heap.size+1) 30 #[.int .i64 r.2.what,.string r.2.head,.int .i64 r.2.cert] (0,0) _ rfl (a_ _ (w.heap.size+1) _ _ _ _ px.o) underlying30 rfl (bf _ rfl)) rfl ?_;unfold kf;rw[HR.o];exact⟨rfl,eC HP.o py.o pn.o (bX _) px.o dM ag _⟩
def akN(w:World)(l:List (gG×Int))(o:gG)(i:Value)(wr:World):Prop :=
 ∃k:Nat,k<=l.length/\i=.int .i64 k/\(l.take k).find? (fun c=>c.1.lz o)=none/\Fr aS w wr
theorem Tb{o:gG}{k:Nat}{c:gG×Int}(h:l[k]?=some c)(hn:(l.take k).find? (fun c=>c.1.lz o)=none)(hc:c.1.lz o=false):(l.take (k+1)).find? (fun c=>c.1.lz o)=none:=by
 rw[d_ h,List.find?_append,hn];simp[hc]
theorem Xi{o:gG}{k:Nat}{c:gG×Int}(h:l[k]?=some c)(hn:(l.take k).find? (fun c=>c.1.lz o)=none)(hc:c.1.lz o=true):l.find? (fun c=>c.1.lz o)=some c:=by
 have e:l=l.take (k+1)++l.drop (k+1):=(fS _ _).symm;rw[e,d_ h,List.find?_append,List.find?_append,hn];simp[hc]
theorem aa_(base:Nat)(w:World)(B:Nat)(pv:Nat->cY)(x:dD)(o:jO)(hs:List ig)(h:cE base w B pv x)(hf:gM w o hs)(hi:lr x)(a:World)(tR:kO a)(sK:a.heap.size<=base)(tS:Fr aS a w)(hr:(o.dW hs).right=true)(hw:o.what=6) :
  aB 14 #[.pointer (some ⟨B,0,none⟩),.agg o.cells.toArray] w (kf base w B pv (iK x (o.dW hs))):=by
 have vd:B<w.heap.size:=h.lt;have oM:=h.low;obtain⟨ah,ch,g_⟩:=hf.h_;obtain⟨w2,eG⟩:∃w2,w2=(w.alloc (.cells o.cells.toArray 41)).alloc (.cells bU 30):=⟨_,rfl⟩;have dE:Fr aS w w2:=by rw[eG];exact((ae aS w).alloc _).alloc _
 have k1:w2.heap[w.heap.size]?=some (.cells o.cells.toArray 41 (0,0)):=by rw[eG];exact((ae aS _).alloc _).keep (aC _ _) id
 have k2:w2.heap[w.heap.size+1]?=some (.cells bU 30 (0,0)):=by
  have h:=aC (w.alloc (.cells o.cells.toArray 41)) (.cells bU 30);rw[bP]at h;rw[eG];exact h
 have tU:=O (lJ o hs w2 (hf.dm dE));have HH:=O (h.dm dE);have HF:=O (hf.dm dE);have l_:=O g_;have HI:=O hi;have fU:=O dE;have mV:=O k1;have ra:=O k2;have py:=O (show base<=w.heap.size from ab);have xL:=O oM;have pn:=O vd;have SJ:=O tR;have SI:=O (tS.trans dE);have YJ:=O sK;rw[eG]at k1;rw[eF g_]at eG tU k1 ⊢;unfold bU at eG k1;have nP:=O eG;have vX:=O k1;clear eG g_ dE k1 k2 h hf hi tR sK tS
 obtain⟨i,wa,A1⟩:∃i:Nat,o.aN.part=(i:Int)/\i<4:=by
  obtain⟨h0,h1⟩:=iX hr;have Ub:0<=o.aN.part:=h0;have I_:o.aN.part<4:=h1;exact⟨o.aN.part.toNat,ab,ab⟩
 have Nw:(i:Int)<4:=ab;have qN:¬(i:Int)<0:=ab;have N2:¬(4:Int)<=(i:Int):=ab;have Lu:(0:Int)<=(i:Int):=ab;have tE:=O A1;have A_:=O wa;have HR:=O (show iK x (o.dW hs)=(x,Hc (x.part i) (o.dW hs))by
  rw[qF hr wa (by show o.what≠10;omega),aft (show(o.dW hs).what=6 from hw),pg])
 rw[hr]at tU;obtain⟨l,hl⟩:∃l,l=(x.part i).dJ:=⟨_,rfl⟩;obtain⟨cv,hcv⟩:∃cv,cv=(pv i).cv:=⟨_,rfl⟩;have mE:dZ 4 w2 cv (l.map lB):=by rw[hl,hcv];exact(HH.o.part i tE.o).dJ.at
 have hl8:l.length<=1000000:=by rw[hl];exact aE (HI.o.ok.part i).sZ.2.2.2 ag
 obtain⟨av,cc,fO⟩:=mE.form;rw[ai]at fO;subst fO;have aqq:=O mE;have hpk:Hc (x.part i) (o.dW hs)=match l.find? (fun c=>c.1.lz o.aN.o)with|some c=>⟨1,.empty,c.2⟩|none=>rep 3:=by rw[hl];rfl
 rw[hpk]at HR;have xO:=O hcv;have HW:=O hw;clear hr hw A1 wa hl hpk mE hcv;go_enter func14,ntmps14;go_wp2_with (first|((with_reducible refine dr 8 ?_);refine aI rfl 41 (.tmp 3) rfl w.heap.size rfl _ _ (0,0) _ vX.o underlying41 rfl af ?_)|fail)
 rw[<-nP.o];refine tU.o.mono ?_;rintro e u⟨rfl,hu⟩;obtain⟨a0,a1,a2,a3,a4,a5,a6,a7,a8,a9,jP,jQ,a12,jN,jR,jy,j_,ka,ke,ko,a20,a21⟩:=eA (hu.keep mV.o id) l_.o;rw[A_.o]at a1;clear a0 a2 a3 a4 a5 a6 a7 a8 a9 jP jQ a12 jN jR jy j_ ka ke ko a20 a21;have qH:=O (show∀n,Fr aS w2 (u.drewN n)from fun n=>dG n hu);clear hu vX;go_wp2_with fail
 go_quiet (fail);clear a1;have mS:=qH.o nq;generalize u.drewN nq=u1 at mS ⊢;have tV:=O mS;clear mS qH;have Fz:=O (tV.o.keep mV.o id);rw[eF l_.o]at Fz;obtain⟨a0,a1,a2,a3,a4,a5,a6,a7,a8,a9,jP,jQ,a12,jN,jR,jy,j_,ka,ke,ko,a20,a21⟩:=eA (tV.o.keep mV.o id) l_.o;rw[A_.o]at a1;have xP:=HW.o;rw[xP]at a0;clear xP;clear a1 a2 a3 a4 a8 a9 jP jQ a12 jN jR jy j_ ka ke ko a20 a21
 have HP1:=O (show u1.cell? ⟨B,i*3+2,none⟩=some (.slice av l.length cc)from by rw[xO.o];exact((HH.o.dm tV.o).partAt tE.o).mg);have p1:=HP1.o;go_wp2_with fail
 go_loopw[67] (akN u1 l o.aN.o) (fun i _=>l.length-(intOf i).toNat)
 case atStart=>exact⟨0,aL _,rfl,rfl,ae _ _⟩
 case round =>
  obtain⟨k,hk,rfl,hn,cP⟩:=hrel;have HN:=O hn;have qD:=O (tV.o.trans cP);have Wf:=O cP;clear hn;by_cases fe:k<l.length
  ·have pE:(k:Int)<(l.length:Int):=ab;rcases(aqq.o.fN qD.o).2 with ⟨_,_,_,e,_⟩|⟨bk,of,c,hf,h1,h2,h3,h4⟩
   ·have TV:=ar List.length e;rw[ai,List.length_nil]at TV;omega
   ·rw[ai]at hf;cases hf;rw[ai]at h1;unfold maxLen at h2;obtain⟨q,dS⟩:∃q,l[k]?=some q:=⟨_,List.getElem?_eq_getElem fe⟩;have hcell:=h4 k (lB q) (by rw[List.getElem?_map,dS];rfl);have WH:=O dS;have lM:(lB q).length=4:=rfl;have heq:=jG q.1 o.aN.o;obtain⟨a0,a1,a2,a3,a4,a5,a6,a7,a8,a9,jP,jQ,a12,jN,jR,jy,j_,ka,ke,ko,a20,a21⟩:=eA (qD.o.keep mV.o id) l_.o
    have HB8:=O (aC wr (.cells #[.bool q.1.aG,.string q.1.host,.int .i64 q.1.port,.int .i64 q.2] 97));have gX:Fr aS wr (wr.alloc (.cells #[.bool q.1.aG,.string q.1.host,.int .i64 q.1.port,.int .i64 q.2] 97)):=(ae aS wr).alloc _;have g5:=(gX.keep (qD.o.keep mV.o id) id);obtain⟨b0,b1,b2,b3,b4,b5,b6,b7,b8,b9,b10,b11,b12,b13,b14,b15,b16,b17,b18,b19,b20,b21⟩:=eA g5 l_.o;have sI:=O (qD.o.trans gX)
    have mF:=O (Wf.o.trans gX);have px:=O (sI.o.keep ra.o id);clear h4 dS gX g5 a0 a1 a2 a3 a4 a5 a6 a7 a8 a9 jP jQ a12 jN jR jy j_ ka ke ko a20 a21 b0 b1 b2 b3 b4 b8 b9 b10 b11 b12 b13 b14 b15 b16 b17 b18 b19 b20 b21 cP;unfold lB at hcell lM;cases hq:q.1.lz o.aN.o
    ·have Fu:=O (Tb WH.o HN.o hq);rw[hq]at heq;clear hq;go_wp2_with (first|((with_reducible refine dr 70 ?_);refine aY rfl 97 (.tmp 69) rfl bk (of+k*4) rfl _ _ hcell underlying97 rfl af ?_)|fail)
     go_roundw
     case rel=>exact⟨k+1,ab,bg,Fu.o,mF.o⟩
     case measure=>simp[intOf];omega
    ·have EY:=O (Xi WH.o HN.o hq);rw[EY.o]at HR;rw[hq]at heq;have HP:=O (show dp base w B pv x _ from cJ fU.o (fE HH.o sI.o));clear hq
     go_wp2_with (first|((with_reducible refine dr 70 ?_);refine aY rfl 97 (.tmp 69) rfl bk (of+k*4) rfl _ _ hcell underlying97 rfl af ?_)|((with_reducible refine cZ 30 ?_);refine aF rfl 30 (.tmp 4) (.tmp 80) rfl (w.heap.size+1) #[.int .i64 1,.string ⟨#[]⟩,.int .i64 q.2] rfl rfl _ bU px.o (bf _ rfl) rfl cC ?_)|fail)
     refine aW (bw bD _ _ (w.heap.size+1) 30 #[.int .i64 1,.string ⟨#[]⟩,.int .i64 q.2] (0,0) _ rfl (a_ _ (w.heap.size+1) _ _ _ _ px.o) underlying30 rfl (bf _ rfl)) rfl ?_;unfold kf;rw[HR.o];exact⟨rfl,eC HP.o py.o pn.o (bX _) px.o dM ag _⟩
  ·have hke:k=l.length:=ab;subst hke;have HHN:=O (show l.find? (fun c=>c.1.lz o.aN.o)=none by have h:=HN.o;rw[List.take_length]at h;exact h);rw[HHN.o]at HR;have HP:=O (show dp base w B pv x wr from cJ fU.o (fE HH.o qD.o));have px:=O (qD.o.keep ra.o id);clear cP
   go_wp2_with (first|((with_reducible refine cZ 30 ?_);refine aF rfl 30 (.tmp 4) (.tmp 82) rfl (w.heap.size+1) #[.int .i64 3,.string ⟨#[]⟩,.int .i64 0] rfl rfl _ bU px.o (bf _ rfl) rfl cC ?_)|fail)
   refine aW (bw bD _ _ (w.heap.size+1) 30 #[.int .i64 3,.string ⟨#[]⟩,.int .i64 0] (0,0) _ rfl (a_ _ (w.heap.size+1) _ _ _ _ px.o) underlying30 rfl (bf _ rfl)) rfl ?_;unfold kf;rw[HR.o];exact⟨rfl,eC HP.o py.o pn.o (bX _) px.o dM ag _⟩
theorem Td(base:Nat)(w:World)(B:Nat)(pv:Nat->cY)(x:dD)(o:jO)(hs:List ig)(h:cE base w B pv x)(hf:gM w o hs)(hi:lr x)(a:World)(tR:kO a)(sK:a.heap.size<=base)(tS:Fr aS a w)(hr:(o.dW hs).right=true)(hw:o.what=7) :
  aB 14 #[.pointer (some ⟨B,0,none⟩),.agg o.cells.toArray] w (kf base w B pv (iK x (o.dW hs))):=by
 have vd:B<w.heap.size:=h.lt;have oM:=h.low;obtain⟨ah,ch,g_⟩:=hf.h_;obtain⟨w2,eG⟩:∃w2,w2=(w.alloc (.cells o.cells.toArray 41)).alloc (.cells bU 30):=⟨_,rfl⟩;have dE:Fr aS w w2:=by rw[eG];exact((ae aS w).alloc _).alloc _
 have k1:w2.heap[w.heap.size]?=some (.cells o.cells.toArray 41 (0,0)):=by rw[eG];exact((ae aS _).alloc _).keep (aC _ _) id
 have k2:w2.heap[w.heap.size+1]?=some (.cells bU 30 (0,0)):=by
  have h:=aC (w.alloc (.cells o.cells.toArray 41)) (.cells bU 30);rw[bP]at h;rw[eG];exact h
 have tU:=O (lJ o hs w2 (hf.dm dE));have HH:=O (h.dm dE);have HF:=O (hf.dm dE);have l_:=O g_;have HI:=O hi;have fU:=O dE;have mV:=O k1;have ra:=O k2;have py:=O (show base<=w.heap.size from ab);have xL:=O oM;have pn:=O vd;have SJ:=O tR;have SI:=O (tS.trans dE);have YJ:=O sK;rw[eG]at k1;rw[eF g_]at eG tU k1 ⊢;unfold bU at eG k1;have nP:=O eG;have vX:=O k1;clear eG g_ dE k1 k2 h hf hi tR sK tS
 obtain⟨i,wa,A1⟩:∃i:Nat,o.aN.part=(i:Int)/\i<4:=by
  obtain⟨h0,h1⟩:=iX hr;have Ub:0<=o.aN.part:=h0;have I_:o.aN.part<4:=h1;exact⟨o.aN.part.toNat,ab,ab⟩
 have Nw:(i:Int)<4:=ab;have qN:¬(i:Int)<0:=ab;have N2:¬(4:Int)<=(i:Int):=ab;have Lu:(0:Int)<=(i:Int):=ab;have tE:=O A1;have A_:=O wa;obtain⟨r,CM⟩:∃r,r=jY (x.part i) (o.dW hs):=⟨_,rfl⟩;have HR:=O (show iK x (o.dW hs)=(x.set i r.1,r.2)by rw[qF hr wa (by show o.what≠10;omega),CM,afu (show(o.dW hs).what=7 from hw)]);rw[hr]at tU
 have HM:=O (show∀U,Fr aS w2 U->aB 35 #[.pointer (some ⟨B,i*3,none⟩),.agg o.cells.toArray] U (eK base U B (iY pv x.now) (i*3) (pv i) r)from fun U hU=>by
  have h:=Pj base U B (i*3) (iY pv x.now) (pv i) (x.part i) o hs ((HH.o.dm hU).part i tE.o) ((HH.o.dm hU).partAt tE.o) xL.o (HF.o.dm hU) (HI.o.ok.part i);rw[<-CM]at h;exact h)
 rw[eF l_.o]at HM;have HW:=O hw;clear hr hw CM A1 wa;go_enter func14,ntmps14;go_wp2_with (first|((with_reducible refine dr 8 ?_);refine aI rfl 41 (.tmp 3) rfl w.heap.size rfl _ _ (0,0) _ vX.o underlying41 rfl af ?_)|fail)
 rw[<-nP.o];refine tU.o.mono ?_;rintro e u⟨rfl,hu⟩;obtain⟨a0,a1,a2,a3,a4,a5,a6,a7,a8,a9,jP,jQ,a12,jN,jR,jy,j_,ka,ke,ko,a20,a21⟩:=eA (hu.keep mV.o id) l_.o;rw[A_.o]at a1;clear a0 a2 a3 a4 a5 a6 a7 a8 a9 jP jQ a12 jN jR jy j_ ka ke ko a20 a21;have qH:=O (show∀n,Fr aS w2 (u.drewN n)from fun n=>dG n hu);clear hu vX;go_wp2_with fail
 go_quiet (fail);clear a1;have mS:=qH.o nq;generalize u.drewN nq=u1 at mS ⊢;have tV:=O mS;clear mS qH;have Fz:=O (tV.o.keep mV.o id);rw[eF l_.o]at Fz;obtain⟨a0,a1,a2,a3,a4,a5,a6,a7,a8,a9,jP,jQ,a12,jN,jR,jy,j_,ka,ke,ko,a20,a21⟩:=eA (tV.o.keep mV.o id) l_.o;rw[A_.o]at a1;have xP:=HW.o;rw[xP]at a0;clear xP;clear a1 a2 a3 a4 a5 a6 a7 a8 a9 jP jQ a12 jN jR jy j_ ka ke ko a20 a21
 go_wp2_with (first|((with_reducible refine dr 86 ?_);refine aI rfl 41 (.tmp 3) rfl w.heap.size rfl _ _ (0,0) _ Fz.o underlying41 rfl af ?_)|fail)
 have tW:=tV.o;refine(HM.o _ tW).mono ?_;rintro e u5⟨rfl,hp⟩;unfold kt.val;have Mr:=tW.keep ra.o id;have px:=O (od (HH.o.dm tW) tE.o hp Mr dM ab);have HP:=O (show dp base w B pv (x.set i r.1) u5 from cJ fU.o (cJ tW (kF (HH.o.dm tW) tE.o hp)));clear hp Mr tW HM
 go_wp2_with (first|((with_reducible refine cZ 30 ?_);refine aF rfl 30 (.tmp 4) (.tmp 87) rfl (w.heap.size+1) #[.int .i64 r.2.what,.string r.2.head,.int .i64 r.2.cert] rfl rfl _ bU px.o (bf _ rfl) rfl cC ?_)|fail)
 refine aW (bw bD _ _ (w.heap.size+1) 30 #[.int .i64 r.2.what,.string r.2.head,.int .i64 r.2.cert] (0,0) _ rfl (a_ _ (w.heap.size+1) _ _ _ _ px.o) underlying30 rfl (bf _ rfl)) rfl ?_;unfold kf;rw[HR.o];exact⟨rfl,eC HP.o py.o pn.o (bX _) px.o dM ag _⟩
theorem cE.afO(h:cE base w B pv x)(n:Int):cE base (w.setCell ⟨B,12,none⟩ (.int .i64 n)) B pv {x with now:=n}/\Fr (one B) w (w.setCell ⟨B,12,none⟩ (.int .i64 n)):=by
 have kR:Fr (one B) w (w.setCell ⟨B,12,none⟩ (.int .i64 n)):=(ae (one B) w).setCell (p:=⟨B,12,none⟩) (fun _=>rfl) _;refine⟨⟨h.low,?_,fun i hi=>(h.part i hi).fr kR h.Sl (fun k hk e=>h.Ar hi (by have e':k=B:=e;rw[<-e'];exact hk)),h.apart⟩,kR⟩;rw[cq h.eN 12 (.int .i64 n)];rfl
theorem QT(base:Nat)(w:World)(B:Nat)(pv:Nat->cY)(x:dD)(o:jO)(hs:List ig)(h:cE base w B pv x)(hf:gM w o hs)(hi:lr x)(a:World)(tR:kO a)(sK:a.heap.size<=base)(tS:Fr aS a w)(hr:(o.dW hs).right=true)(hw:o.what=10) :
  aB 14 #[.pointer (some ⟨B,0,none⟩),.agg o.cells.toArray] w (kf base w B pv (iK x (o.dW hs))):=by
 have vd:B<w.heap.size:=h.lt;have oM:=h.low;obtain⟨ah,ch,g_⟩:=hf.h_;obtain⟨w2,eG⟩:∃w2,w2=(w.alloc (.cells o.cells.toArray 41)).alloc (.cells bU 30):=⟨_,rfl⟩;have dE:Fr aS w w2:=by rw[eG];exact((ae aS w).alloc _).alloc _
 have k1:w2.heap[w.heap.size]?=some (.cells o.cells.toArray 41 (0,0)):=by rw[eG];exact((ae aS _).alloc _).keep (aC _ _) id
 have k2:w2.heap[w.heap.size+1]?=some (.cells bU 30 (0,0)):=by
  have h:=aC (w.alloc (.cells o.cells.toArray 41)) (.cells bU 30);rw[bP]at h;rw[eG];exact h
 have tU:=O (lJ o hs w2 (hf.dm dE));have HH:=O (h.dm dE);have HF:=O (hf.dm dE);have l_:=O g_;have HI:=O hi;have fU:=O dE;have mV:=O k1;have ra:=O k2;have py:=O (show base<=w.heap.size from ab);have xL:=O oM;have pn:=O vd;have SJ:=O tR;have SI:=O (tS.trans dE);have YJ:=O sK;rw[eG]at k1;rw[eF g_]at eG tU k1 ⊢;unfold bU at eG k1;have nP:=O eG;have vX:=O k1;clear eG g_ dE k1 k2 h hf hi tR sK tS
 obtain⟨i,wa,A1⟩:∃i:Nat,o.aN.part=(i:Int)/\i<4:=by
  obtain⟨h0,h1⟩:=iX hr;have Ub:0<=o.aN.part:=h0;have I_:o.aN.part<4:=h1;exact⟨o.aN.part.toNat,ab,ab⟩
 have Nw:(i:Int)<4:=ab;have qN:¬(i:Int)<0:=ab;have N2:¬(4:Int)<=(i:Int):=ab;have Lu:(0:Int)<=(i:Int):=ab;have tE:=O A1;have A_:=O wa;have J':=O (show iK x (o.dW hs)=if o.n<0\/1099511627776-x.now<o.n then(x,rep 7)else({x with now:=x.now+o.n},rep 1)from sg hr hw);rw[hr]at tU;have n0:=HI.o.ok.now.1;have n1:=HI.o.ok.now.2;have on:=HF.o.n;have HW:=O hw;clear hr hw A1 wa;go_enter func14,ntmps14
 go_wp2_with (first|((with_reducible refine dr 8 ?_);refine aI rfl 41 (.tmp 3) rfl w.heap.size rfl _ _ (0,0) _ vX.o underlying41 rfl af ?_)|fail)
 rw[<-nP.o];refine tU.o.mono ?_;rintro e u⟨rfl,hu⟩;obtain⟨a0,a1,a2,a3,a4,a5,a6,a7,a8,a9,jP,jQ,a12,jN,jR,jy,j_,ka,ke,ko,a20,a21⟩:=eA (hu.keep mV.o id) l_.o;rw[A_.o]at a1;clear a0 a2 a3 a4 a5 a6 a7 a8 a9 jP jQ a12 jN jR jy j_ ka ke ko a20 a21;have qH:=O (show∀n,Fr aS w2 (u.drewN n)from fun n=>dG n hu);clear hu vX;go_wp2_with fail
 go_quiet (fail);clear a1;have mS:=qH.o nq;generalize u.drewN nq=u1 at mS ⊢;have tV:=O mS;clear mS qH;have Fz:=O (tV.o.keep mV.o id);rw[eF l_.o]at Fz;obtain⟨a0,a1,a2,a3,a4,a5,a6,a7,a8,a9,jP,jQ,a12,jN,jR,jy,j_,ka,ke,ko,a20,a21⟩:=eA (tV.o.keep mV.o id) l_.o;rw[A_.o]at a1;have xP:=HW.o;rw[xP]at a0;clear xP;clear a1 a2 a3 a4 a5 a6 a7 a8 a9 jP jQ a12 jN jR jy j_ ka ke ko a20
 have p1:u1.cell? ⟨B,12,none⟩=some (.int .i64 x.now):=by
  have j2:=(HH.o.dm tV.o).eN;simp only[World.cell?,j2];rfl
 have t_:=O (show∀n,Fr aS w2 (u1.drewN n)from fun n=>dG n tV.o);by_cases hn:o.n<0
 ·have hd:decide (o.n<0)=true:=bJ hn;have HR:=O (J'.o.trans (az (Or.inl hn)));go_wp2_with fail
  go_quiet (fail);have nC:=t_.o nq;generalize u1.drewN nq=u2 at nC ⊢;have px:=O (nC.keep ra.o id);have HPS:=O (show dp base w B pv x u2 from cJ fU.o (fE HH.o nC));go_wp2_with (first|((with_reducible refine cZ 30 ?_);refine aF rfl 30 (.tmp 4) (.tmp 103) rfl (w.heap.size+1) #[.int .i64 7,.string ⟨#[]⟩,.int .i64 0] rfl rfl _ bU px.o (bf _ rfl) rfl cC ?_)|fail)
  refine aW (bw bD _ _ (w.heap.size+1) 30 #[.int .i64 7,.string ⟨#[]⟩,.int .i64 0] (0,0) _ rfl (a_ _ (w.heap.size+1) _ _ _ _ px.o) underlying30 rfl (bf _ rfl)) rfl ?_;unfold kf;rw[HR.o];exact⟨rfl,eC HPS.o py.o pn.o (bX _) px.o dM ag _⟩
 ·have hd:decide (o.n<0)=false:=bj hn;by_cases hm:1099511627776-x.now<o.n
  ·have td:decide (1099511627776-x.now<o.n)=true:=bJ hm;have HR:=O (J'.o.trans (az (Or.inr hm)));go_wp2_with fail
   go_quiet (fail);have nC:=t_.o nq;generalize u1.drewN nq=u2 at nC ⊢;have px:=O (nC.keep ra.o id);have HPS:=O (show dp base w B pv x u2 from cJ fU.o (fE HH.o nC));go_wp2_with (first|((with_reducible refine cZ 30 ?_);refine aF rfl 30 (.tmp 4) (.tmp 103) rfl (w.heap.size+1) #[.int .i64 7,.string ⟨#[]⟩,.int .i64 0] rfl rfl _ bU px.o (bf _ rfl) rfl cC ?_)|fail)
   refine aW (bw bD _ _ (w.heap.size+1) 30 #[.int .i64 7,.string ⟨#[]⟩,.int .i64 0] (0,0) _ rfl (a_ _ (w.heap.size+1) _ _ _ _ px.o) underlying30 rfl (bf _ rfl)) rfl ?_;unfold kf;rw[HR.o];exact⟨rfl,eC HPS.o py.o pn.o (bX _) px.o dM ag _⟩
  ·have td:decide (1099511627776-x.now<o.n)=false:=bj hm;have HR:=O (J'.o.trans (aq ab));go_wp2_with fail
   go_quiet (fail);have nC:=t_.o nq;generalize u1.drewN nq=u2 at nC ⊢;have px:=O (nC.keep ra.o id);have HPS:=O (show dp base w B pv x u2 from cJ fU.o (fE HH.o nC));go_wp2_with fail
   have q1:u2.cell? ⟨B,12,none⟩=some (.int .i64 x.now):=by
    have j2:=(HH.o.dm nC).eN;simp only[World.cell?,j2];rfl
   have q2:u2.frozen? ⟨B,12,none⟩=false:=by
    have j2:=(HH.o.dm nC).eN;simp[World.frozen?,j2]
   obtain⟨a0,a1,a2,a3,a4,a5,a6,a7,a8,a9,jP,jQ,a12,jN,jR,jy,j_,ka,ke,ko,a20,a21⟩:=eA (nC.keep mV.o id) l_.o;clear a0 a1 a2 a3 a4 a5 a6 a7 a8 a9 jP jQ a12 jN jR jy j_ ka ke ko a20;have g1: -9223372036854775808<=x.now+o.n:=ab;have g2:x.now+o.n<=9223372036854775807:=ab
   go_region
   obtain⟨Cy,Nf⟩:=(HH.o.dm nC).afO (x.now+o.n);have hWP:dp base u2 B pv {x with now:=x.now+o.n} (u2.setCell ⟨B,12,none⟩ (.int .i64 (x.now+o.n))):=⟨pv,Cy,Nf.mono (fun k _ e=>Or.inl e),fun k hk=>Or.inl hk⟩;have HP:=O (show dp base w B pv {x with now:=x.now+o.n} _ from cJ fU.o (cJ nC (hWP.then (aA (ae aS _)))))
   have Qb:=O (show((u2.setCell ⟨B,12,none⟩ (.int .i64 (x.now+o.n))).drew).heap[w.heap.size+1]?=_ from Nf.keep px.o (fun e=>by have e':w.heap.size+1=B:=e;have:=pn.o;omega));clear Cy Nf hWP q1 q2 a21;go_wp2_with (first|((with_reducible refine cZ 30 ?_);refine aF rfl 30 (.tmp 4) (.tmp 113) rfl (w.heap.size+1) #[.int .i64 1,.string ⟨#[]⟩,.int .i64 0] rfl rfl _ bU Qb.o (bf _ rfl) rfl cC ?_)|fail)
   refine aW (bw bD _ _ (w.heap.size+1) 30 #[.int .i64 1,.string ⟨#[]⟩,.int .i64 0] (0,0) _ rfl (a_ _ (w.heap.size+1) _ _ _ _ Qb.o) underlying30 rfl (bf _ rfl)) rfl ?_;unfold kf;rw[HR.o];exact⟨rfl,eC HP.o py.o pn.o (bX _) Qb.o dM ag _⟩
theorem aba(base:Nat)(w:World)(B:Nat)(pv:Nat->cY)(x:dD)(o:jO)(hs:List ig)(h:cE base w B pv x)(hf:gM w o hs)(hi:lr x)(a:World)(tR:kO a)(sK:a.heap.size<=base)(tS:Fr aS a w)(hr:(o.dW hs).right=true)(hw:o.what=8\/o.what=9) :
  aB 14 #[.pointer (some ⟨B,0,none⟩),.agg o.cells.toArray] w (kf base w B pv (iK x (o.dW hs))):=by
 have vd:B<w.heap.size:=h.lt;have oM:=h.low;obtain⟨ah,ch,g_⟩:=hf.h_;obtain⟨w2,eG⟩:∃w2,w2=(w.alloc (.cells o.cells.toArray 41)).alloc (.cells bU 30):=⟨_,rfl⟩;have dE:Fr aS w w2:=by rw[eG];exact((ae aS w).alloc _).alloc _
 have k1:w2.heap[w.heap.size]?=some (.cells o.cells.toArray 41 (0,0)):=by rw[eG];exact((ae aS _).alloc _).keep (aC _ _) id
 have k2:w2.heap[w.heap.size+1]?=some (.cells bU 30 (0,0)):=by
  have h:=aC (w.alloc (.cells o.cells.toArray 41)) (.cells bU 30);rw[bP]at h;rw[eG];exact h
 have tU:=O (lJ o hs w2 (hf.dm dE));have HH:=O (h.dm dE);have HF:=O (hf.dm dE);have l_:=O g_;have HI:=O hi;have fU:=O dE;have mV:=O k1;have ra:=O k2;have py:=O (show base<=w.heap.size from ab);have xL:=O oM;have pn:=O vd;have SJ:=O tR;have SI:=O (tS.trans dE);have YJ:=O sK;rw[eG]at k1;rw[eF g_]at eG tU k1 ⊢;unfold bU at eG k1;have nP:=O eG;have vX:=O k1;clear eG g_ dE k1 k2 h hf hi tR sK tS
 obtain⟨i,wa,A1⟩:∃i:Nat,o.aN.part=(i:Int)/\i<4:=by
  obtain⟨h0,h1⟩:=iX hr;have Ub:0<=o.aN.part:=h0;have I_:o.aN.part<4:=h1;exact⟨o.aN.part.toNat,ab,ab⟩
 have Nw:(i:Int)<4:=ab;have qN:¬(i:Int)<0:=ab;have N2:¬(4:Int)<=(i:Int):=ab;have Lu:(0:Int)<=(i:Int):=ab;have tE:=O A1;have A_:=O wa;obtain⟨r,CM⟩:∃r,r=pG (x.part i) (o.dW hs):=⟨_,rfl⟩;have HR:=O (show iK x (o.dW hs)=(x.set i r.1,r.2)by rw[qF hr wa (by show o.what≠10;omega),CM,WL (show(o.dW hs).what=8\/(o.dW hs).what=9 from hw)]);rw[hr]at tU
 have HM:=O (show∀U,Fr aS w2 U->aB 36 #[.pointer (some ⟨B,i*3,none⟩),.agg o.cells.toArray] U (eK base U B (iY pv x.now) (i*3) (pv i) r)from fun U hU=>by
  have h:=Xl base U B (i*3) (iY pv x.now) (pv i) (x.part i) o hs ((HH.o.dm hU).part i tE.o) ((HH.o.dm hU).partAt tE.o) xL.o (HF.o.dm hU) (HI.o.ok.part i);rw[<-CM]at h;exact h)
 rw[eF l_.o]at HM;have HW:=O hw;clear hr hw CM A1 wa;go_enter func14,ntmps14;go_wp2_with (first|((with_reducible refine dr 8 ?_);refine aI rfl 41 (.tmp 3) rfl w.heap.size rfl _ _ (0,0) _ vX.o underlying41 rfl af ?_)|fail)
 rw[<-nP.o];refine tU.o.mono ?_;rintro e u⟨rfl,hu⟩;obtain⟨a0,a1,a2,a3,a4,a5,a6,a7,a8,a9,jP,jQ,a12,jN,jR,jy,j_,ka,ke,ko,a20,a21⟩:=eA (hu.keep mV.o id) l_.o;rw[A_.o]at a1;clear a0 a2 a3 a4 a5 a6 a7 a8 a9 jP jQ a12 jN jR jy j_ ka ke ko a20 a21;have qH:=O (show∀n,Fr aS w2 (u.drewN n)from fun n=>dG n hu);clear hu vX;go_wp2_with fail
 go_quiet (fail);clear a1;have mS:=qH.o nq;generalize u.drewN nq=u1 at mS ⊢;have tV:=O mS;clear mS qH;have Fz:=O (tV.o.keep mV.o id);rw[eF l_.o]at Fz;obtain⟨a0,a1,a2,a3,a4,a5,a6,a7,a8,a9,jP,jQ,a12,jN,jR,jy,j_,ka,ke,ko,a20,a21⟩:=eA (tV.o.keep mV.o id) l_.o;rw[A_.o]at a1;have xP:=HW.o
 have hne:(o.what==1)=false/\(o.what==2)=false/\(o.what==3)=false/\(o.what==4)=false/\(o.what==5)=false/\(o.what==6)=false/\(o.what==7)=false/\(o.what==10)=false:=by
  refine⟨?_,?_,?_,?_,?_,?_,?_,?_⟩<;>(rw[aO];omega)
 obtain⟨n1,n2,n3,n4,n5,n6,n7,n10⟩:=hne;have m1:¬o.what=1:=ab;have m2:¬o.what=2:=ab;have m3:¬o.what=3:=ab;have m4:¬o.what=4:=ab;have m5:¬o.what=5:=ab;have m6:¬o.what=6:=ab;have m7:¬o.what=7:=ab;have m10:¬o.what=10:=ab;clear xP;clear a1 a2 a3 a4 a5 a6 a7 a8 a9 jP jQ a12 jN jR jy j_ ka ke ko a20 a21
 go_wp2_with (first|((with_reducible refine dr 115 ?_);refine aI rfl 41 (.tmp 3) rfl w.heap.size rfl _ _ (0,0) _ Fz.o underlying41 rfl af ?_)|fail)
 have tW:=tV.o;refine(HM.o _ tW).mono ?_;rintro e u5⟨rfl,hp⟩;unfold kt.val;have Mr:=tW.keep ra.o id;have px:=O (od (HH.o.dm tW) tE.o hp Mr dM ab);have HP:=O (show dp base w B pv (x.set i r.1) u5 from cJ fU.o (cJ tW (kF (HH.o.dm tW) tE.o hp)));clear hp Mr tW HM
 go_wp2_with (first|((with_reducible refine cZ 30 ?_);refine aF rfl 30 (.tmp 4) (.tmp 116) rfl (w.heap.size+1) #[.int .i64 r.2.what,.string r.2.head,.int .i64 r.2.cert] rfl rfl _ bU px.o (bf _ rfl) rfl cC ?_)|fail)
 refine aW (bw bD _ _ (w.heap.size+1) 30 #[.int .i64 r.2.what,.string r.2.head,.int .i64 r.2.cert] (0,0) _ rfl (a_ _ (w.heap.size+1) _ _ _ _ px.o) underlying30 rfl (bf _ rfl)) rfl ?_;unfold kf;rw[HR.o];exact⟨rfl,eC HP.o py.o pn.o (bX _) px.o dM ag _⟩
theorem step1(h:(t.tab n).does=1):stepT t n=({(t.put n {t.tab n with seen:=t.w,num:=t.num,does:=2})with steps:=t.steps+1},rep 0,false):=by unfold stepT;rw[az h]
theorem step2(h:(t.tab n).does=2):stepT t n=({(t.put n {t.tab n with ec:=(iK (t.tab n).seen (t.tab n).op).2,seen:=(iK (t.tab n).seen (t.tab n).op).1,does:=3})with steps:=t.steps+1},rep 0,false):=by unfold stepT;rw[aq ab,az h]
theorem ak8(h:(t.tab n).does=3):stepT t n=iB {t with steps:=t.steps+1} n:=by unfold stepT;rw[aq ab,aq ab]
structure jZ (base:Nat) (U:World) (v:jO×List ig) (o:iE):Prop where
 fit:gM U v.1 v.2
 is:v.1.dW v.2=o
 own:OwnRows base 171 2 U v.1.aN.eB (v.2.map ig.cells)
def Fy(x:ua×(jO×List ig)):aZ:=.int .i64 x.1.tab :: (x.2.1.cells++(pC x.1.ec++[.int .i64 x.1.iG,.int .i64 x.1.fin]))
def oA(base:Nat)(U:World)(sv:Value)(l:List ua):Prop:=∃es:List (ua×(jO×List ig)),es.map (·.1)=l/\OwnRows base 43 28 U sv (es.map Fy)/\∀x∈es,jZ base U x.2 x.1.op
def oL(xw:Option (Nat×dD))(B:Nat)(sb:Nat->Nat)(t:fB):Nat->Option (Nat×dD):=fun i=>if i=6 then some (B,t.w)else if i=7 then xw else if i<6/\((t.tab i).does=2\/(t.tab i).does=3)then some (sb i,(t.tab i).seen)else none
theorem O2(hw:t'.w=t.w)(h:∀n,n<6->((t'.tab n).does=2\/(t'.tab n).does=3)->((t.tab n).does=2\/(t.tab n).does=3)/\(t'.tab n).seen=(t.tab n).seen):∀j p,oL xw B sb t' j=some p->oL xw B sb t j=some p:=by
 intro j p hp;unfold oL at hp ⊢;by_cases e6:j=6
 ·rw[az e6]at hp ⊢;rw[<-hw];exact hp
 ·rw[aq e6]at hp ⊢;by_cases e7:j=7
  ·rw[az e7]at hp ⊢;exact hp
  ·rw[aq e7]at hp ⊢;split at hp
   ·rename_i hc;obtain⟨q1,q2⟩:=h j hc.1 hc.2;rw[az ⟨hc.1,q1⟩, <-q2];exact hp
   ·cases hp
theorem O5(hw:t'.w=t.w)(i:Nat)(ht:∀n,n≠i->t'.tab n=t.tab n)(h2:(t'.tab i).does≠2)(h3:(t'.tab i).does≠3):∀j p,oL xw B sb t' j=some p->oL xw B sb t j=some p :=
 O2 hw fun n _ hd=>by
  by_cases e:n=i
  ·subst e;exact absurd hd (fun h=>h.elim h2 h3)
  ·rw[ht n e]at hd ⊢;exact⟨hd,rfl⟩
structure df (xw:Option (Nat×dD)) (a U:World) (T:Nat) (t:fB):Prop where
 ex:∃B g sv sb,gD U T B g sv t/\xQ a.heap.size U (oL xw B sb t)/\oA a.heap.size U sv t.cU/\∀n,n<6->((t.tab n).does≠0->jZ a.heap.size U ((g n).o,(g n).hs) (t.tab n).op)/\((t.tab n).does=2\/(t.tab n).does=3->(g n).sp=.pointer (some ⟨sb n,0,none⟩))
 low:a.heap.size<=T
 fr:Fr aS a U
structure gF (k:Int) (t:fB):Prop where
 steps:0<=t.steps/\t.steps<=k
 num:∀p i,0<=t.num p i/\t.num p i<=k
 fails:∀n,(t.tab n).fails<=3
 does:∀n,(t.tab n).does<=3
 inv:lr t.w
 seen:∀n,(t.tab n).does=2\/(t.tab n).does=3->lr (t.tab n).seen
 ops:∀n,(t.tab n).does≠0->(t.tab n).op.user.size<=5000/\(t.tab n).op.pass.size<=5000/\(t.tab n).op.path.size<=5000
section
variable {xw : Option (Nat × dD)} {base : Nat} {a U U' : World} {T : Nat} {t : fB}
def gW(U U':World):Prop:=∃S:dF,Fr S U U'/\∀(n:Nat) (c:bT) (e:TypeId),U.heap[n]?=some (.cells c e (0,0))->(eX e/\e≠86)/\e≠43/\e≠75->¬S n
theorem gW.W7(h:Fr aS U U'):gW U U':=⟨aS,h,fun _ _ _ _ _ h=>h⟩
theorem gW.refl(U:World):gW U U:=gW.W7 (ae _ _)
theorem gW.O7(h:Kept U U'):gW U U':=by
 obtain⟨S,hf,hs⟩:=h;exact⟨S,hf,fun n c e hn he=>hs n c e hn he.1.1 he.1.2⟩
theorem gW.block(h:gW U U')(hn:U.heap[n]?=some (.cells c e (0,0)))(he:(eX e/\e≠86)/\e≠43/\e≠75):U'.heap[n]?=some (.cells c e (0,0)):=by
 obtain⟨S,hf,hs⟩:=h;exact hf.keep hn (hs n c e hn he)
theorem gW.step{Z:dF}(h:gW U V)(g:Fr Z V U')(hz:∀(n:Nat) (c:bT) (e:TypeId),n<U.heap.size->V.heap[n]?=some (.cells c e (0,0))->(eX e/\e≠86)/\e≠43/\e≠75->¬Z n):gW U U':=by
 obtain⟨S,hf,hs⟩:=h;refine⟨fun n=>S n\/Z n,(hf.mono fun _ _ h=>Or.inl h).trans (g.mono fun _ _ h=>Or.inr h),?_⟩;rintro n c e hn he(q|q)
 ·exact hs n c e hn he q
 ·exact hz n c e (bq hn) (hf.keep hn (hs n c e hn he)) he q
theorem gW.trans(h:gW U V)(g:gW V U'):gW U U':=by
 obtain⟨Z,hg,hz⟩:=g;exact h.step hg fun n c e _ hn he=>hz n c e hn he
theorem gW.tabs(h:gW U V)(hT:V.heap[T]?=some (.cells c 75 (0,0)))(g:Fr (one T) V U'):gW U U':=h.step g fun n c' e _ hn he q=>by
 cases(show n=T from q);rw[hT]at hn;cases hn;exact he.2.2 rfl
theorem gW.new(h:gW U V)(g:Fr (one m) V U')(hm:U.heap.size<=m):gW U U':=h.step g fun n c' e hl _ _ q=>by
 have:n=m:=q;omega
theorem su:(eX 30/\30≠86)/\30≠43/\30≠75:=by unfold eX;decide
theorem ET:eX 171/\171≠86:=by unfold eX;decide
theorem mR:eX 43/\43≠86:=by unfold eX;decide
theorem rJ:eX 75/\75≠86:=by unfold eX;decide
theorem jZ.rows(h:jZ base U v o)(g:OwnRows base 171 2 U' v.1.aN.eB (v.2.map ig.cells)):jZ base U' v o:=⟨{h.fit with eB:=g.at},h.is,g⟩
theorem jZ.kept(h:jZ base U v o)(hk:Kept U U'):jZ base U' v o:=h.rows (hk.rows h.own ET.1 ET.2)
theorem jZ.one(h:jZ base U v o)(hb:U.heap[n]?=some (.cells c e (0,0)))(he:e≠171)(hf:Fr (one n) U U'):jZ base U' v o :=
 h.rows (h.own.fr hf fun g hg q=>h.own.not hb he (by rw[hg];exact ar some q))
theorem oA.kept{l:List ua}(h:oA base U sv l)(hk:Kept U U'):oA base U' sv l:=by
 obtain⟨es,h1,h2,h3⟩:=h;exact⟨es,h1,hk.rows h2 mR.1 mR.2,fun x hx=>(h3 x hx).kept hk⟩
theorem oA.one{l:List ua}(h:oA base U sv l)(hb:U.heap[n]?=some (.cells c e (0,0)))(he:e≠171)(he':e≠43)(hf:Fr (one n) U U'):oA base U' sv l:=by
 obtain⟨es,h1,h2,h3⟩:=h;exact⟨es,h1,h2.fr hf fun g hg q=>h2.not hb he' (by rw[hg];exact ar some q),fun x hx=>(h3 x hx).one hb he hf⟩
theorem df.dm(h:df xw a U T t)(hf:Fr aS U U'):df xw a U' T t:=by
 obtain⟨B,g,sv,sb,h1,h2,h3,h4⟩:=h.ex;exact⟨⟨B,g,sv,sb,h1.fr hf id,h2.dm hf,h3.kept (gj hf),fun n hn=>⟨fun hd=>((h4 n hn).1 hd).kept (gj hf),(h4 n hn).2⟩⟩,h.low,h.fr.trans hf⟩
theorem df.put{B:Nat}{g:Nat->rC}{sv:Value}{sb:Nat->Nat}{t':fB}{g':Nat->rC}(h1:gD U T B g sv t)(h2:xQ a.heap.size U (oL xw B sb t))(h3:oA a.heap.size U sv t.cU)
  (h4:∀n,n<6->((t.tab n).does≠0->jZ a.heap.size U ((g n).o,(g n).hs) (t.tab n).op)/\((t.tab n).does=2\/(t.tab n).does=3->(g n).sp=.pointer (some ⟨sb n,0,none⟩)))(lD:a.heap.size<=T)(cP:Fr aS a U)
  (hb:gD U' T B g' sv t'/\Fr (one T) U U')(hs:t'.cU=t.cU)(hw:∀i p,oL xw B sb t' i=some p->oL xw B sb t i=some p)
  (h4':∀n,n<6->((t'.tab n).does≠0->((g' n).o=(g n).o/\(g' n).hs=(g n).hs/\(t'.tab n).op=(t.tab n).op/\(t.tab n).does≠0)\/jZ a.heap.size U ((g' n).o,(g' n).hs) (t'.tab n).op)/\((t'.tab n).does=2\/(t'.tab n).does=3->(g' n).sp=.pointer (some ⟨sb n,0,none⟩))):df xw a U' T t':=by
 obtain⟨hb,hf⟩:=hb;obtain⟨c,hc,_⟩:=h1.eN;refine⟨⟨B,g',sv,sb,hb,(h2.one lD hc rJ.1 rJ.2 ag hf).sub hw,by rw[hs];exact h3.one hc ag ag hf,fun n hn=>⟨fun hd=>?_,(h4' n hn).2⟩⟩,lD,cP.step hf fun k hk e=>?_⟩
 ·rcases(h4' n hn).1 hd with ⟨e1,e2,e3,e4⟩|q
  ·rw[e1,e2,e3];exact((h4 n hn).1 e4).one hc ag hf
  ·exact q.one hc ag hf
 ·have:k=T:=e;omega
theorem df.aside(h:df xw a U T t)(hn:a.heap.size<=n)(hb:U.heap[n]?=some (.cells c e (0,0)))(he:eX e/\e≠86)(h1:e≠171)(h2:e≠43)(h3:e≠75)(h4:e≠9)(hf:Fr (one n) U U'):df xw a U' T t:=by
 obtain⟨B,g,sv,sb,g1,g2,g3,g4⟩:=h.ex;obtain⟨d,hd,_⟩:=g1.eN;have hT:¬(one n) T:=fun e'=>by
  cases(show T=n from e');rw[hd]at hb;cases hb;exact h3 rfl
 refine⟨⟨B,g,sv,sb,g1.fr hf hT,g2.one hn hb he.1 he.2 h4 hf,g3.one hb h1 h2 hf,fun m hm=>⟨fun hd=>((g4 m hm).1 hd).one hb h1 hf,(g4 m hm).2⟩⟩,h.low,h.fr.step hf fun k hk e'=>?_⟩;have:k=n:=e';omega
end
abbrev lL := @gW.refl
abbrev kP := @df.put
abbrev eL := @gW.W7
theorem JA(base:Nat)(w:World)(B:Nat)(pv:Nat->cY)(x:dD)(o:jO)(hs:List ig)(h:cE base w B pv x)(hf:gM w o hs)(hi:lr x)(a:World)(tR:kO a)(sK:a.heap.size<=base)(tS:Fr aS a w) :
  aB 14 #[.pointer (some ⟨B,0,none⟩),.agg o.cells.toArray] w (kf base w B pv (iK x (o.dW hs))):=by
 cases hr:(o.dW hs).right
 ·exact afw base w B pv x o hs h hf hi a tR sK tS hr
 ·obtain⟨h1,h2⟩:=EN hr;have I_:1<=o.what:=h1;have h2':o.what<=10:=h2;have hq:o.what=1\/o.what=2\/o.what=3\/o.what=4\/o.what=5\/o.what=6\/o.what=7\/(o.what=8\/o.what=9)\/o.what=10:=ab;rcases hq with hq|hq|hq|hq|hq|hq|hq|hq|hq
  ·exact SS base w B pv x o hs h hf hi a tR sK tS hr hq
  ·exact Pe base w B pv x o hs h hf hi a tR sK tS hr hq
  ·exact MG base w B pv x o hs h hf hi a tR sK tS hr hq
  ·exact Xg base w B pv x o hs h hf hi a tR sK tS hr hq
  ·exact Pf base w B pv x o hs h hf hi a tR sK tS hr hq
  ·exact aa_ base w B pv x o hs h hf hi a tR sK tS hr hq
  ·exact Td base w B pv x o hs h hf hi a tR sK tS hr hq
  ·exact aba base w B pv x o hs h hf hi a tR sK tS hr hq
  ·exact QT base w B pv x o hs h hf hi a tR sK tS hr hq
def H9(b:Bool)(w:World)(p:Addr)(v:Value):World:=if b then w.setCell p v else w
theorem AH{a:World}(h:Fr (one B) a w)(b:Bool)(k:Nat)(v:Value):Fr (one B) a (H9 b w ⟨B,k,none⟩ v):=by
 cases b
 ·exact h
 ·exact h.setCell (p:=⟨B,k,none⟩) (fun _=>rfl) v
theorem AI{t:TypeId}{f:Nat×Nat}(h:w.heap[B]?=some (.cells cs.toArray t f))(b:Bool)(k:Nat){old:Value}(hk:cs[k]?=some old)(v:Value) :
  (H9 b w ⟨B,k,none⟩ v).heap[B]?=some (.cells (cs.set k (if b then v else old)).toArray t f):=by
 cases b
 ·have e:cs.set k old=cs:=by
   apply js;intro i;by_cases hi:i=k
   ·subst hi;rw[List.getElem?_set_self (List.getElem?_eq_some_iff.1 hk).1,hk]
   ·rw[List.getElem?_set_ne (lj hi)]
  show w.heap[B]?=some (.cells (cs.set k old).toArray t f);rw[e,h]
 ·show(w.setCell ⟨B,k,none⟩ v).heap[B]?=some (.cells (cs.set k v).toArray t f);rw[cq h k v,List.setIfInBounds_toArray]
def H_(b0 b1 b2:Bool)(v q:cY):cY :=
 ⟨if b0 then q.b else v.b,if b0 then q.gv else v.gv,if b0 then q.wv else v.wv,if b1 then q.k else v.k,if b1 then q.kv else v.kv,if b2 then q.cv else v.cv⟩
theorem Ps{b0 b1 b2:Bool}{v:cY}{k:Nat}(h:(H_ b0 b1 b2 v q).kn k):v.kn k\/q.kn k:=by
 rcases h with h|h|h
 ·cases b0
  ·exact Or.inl (Or.inl h)
  ·exact Or.inr (Or.inl h)
 ·cases b1
  ·exact Or.inl (Or.inr (Or.inl h))
  ·exact Or.inr (Or.inr (Or.inl h))
 ·cases b2
  ·exact Or.inl (Or.inr (Or.inr h))
  ·exact Or.inr (Or.inr (Or.inr h))
theorem eV.take{v:cY}{P F:dR}(h:eV base w v P)(g:eV base w q F)(b0 b1 b2:Bool) :
  eV base w (H_ b0 b1 b2 v q) ⟨if b0 then F.bG else P.bG,if b0 then F.waits else P.waits,if b1 then F.book else P.book,if b2 then F.dJ else P.dJ⟩ :=
 ⟨by cases b0;exact h.oK;exact g.oK,by cases b1;exact h.book;exact g.book,by cases b2;exact h.dJ;exact g.dJ⟩
def QX(b0 b1 b2 b3:Bool)(W:World)(B i:Nat)(q:cY)(n:Int):World :=
 H9 b3 (H9 b2 (H9 b1 (H9 b0 W ⟨B,i*3,none⟩ (.pointer (some ⟨q.b,0,none⟩))) ⟨B,i*3+1,none⟩ (.pointer (some ⟨q.k,0,none⟩))) ⟨B,i*3+2,none⟩ q.cv) ⟨B,12,none⟩ (.int .i64 n)
theorem Tl{base:Nat}{w W:World}{B N:Nat}{pv qc:Nat->cY}{x f:dD}(h:cE base w B pv x)(hW:Fr aS w W)(hc:cE base W N qc f)(hn:∀k,lI N qc k->w.heap.size<=k){part:Int}{i:Nat}(hi:i<4)(hp:part=(i:Int)){c:Nat}{b0 b1 b2 b3:Bool}
  (h0:c.testBit 0=b0)(h1:c.testBit 1=b1)(h2:c.testBit 2=b2)(h3:c.testBit 3=b3):dp base w B pv (kh x f part c) (QX b0 b1 b2 b3 W B i (qc i) f.now):=by
 have hB:=h.dm hW;have cP:Fr (one B) W (QX b0 b1 b2 b3 W B i (qc i) f.now):=AH (AH (AH (AH (ae _ _) _ _ _) _ _ _) _ _ _) _ _ _;have hpi:part.toNat=i:=by rw[hp];simp
 have hx:kh x f part c={part:=fun j=>if j=i then⟨if b0 then(f.part j).bG else(x.part j).bG,if b0 then(f.part j).waits else(x.part j).waits,if b1 then(f.part j).book else(x.part j).book,if b2 then(f.part j).dJ else(x.part j).dJ⟩else x.part j,now:=if b3 then f.now else x.now}:=by
  rw[uA ab ab,hpi];unfold i_;rw[h0,h1,h2,h3]
 have sS:∀j k,j<4->(pv j).kn k->k<w.heap.size:=fun j k hj hk=>h.jq (Or.inr ⟨j,hj,hk⟩);have hge:∀k,(qc i).kn k->w.heap.size<=k:=fun k hk=>hn k (Or.inr ⟨i,hi,hk⟩);have lA:∀j k,j<4->(yX pv i (H_ b0 b1 b2 (pv i) (qc i)) j).kn k->(pv j).kn k\/(j=i/\w.heap.size<=k):=by
  intro j k hj hk;by_cases Gs:j=i
  ·subst Gs;rw[tC]at hk;rcases Ps hk with e|e
   ·exact Or.inl e
   ·exact Or.inr ⟨rfl,hge k e⟩
  ·rw[mP pv _ Gs]at hk;exact Or.inl hk
 rw[hx];refine⟨yX pv i (H_ b0 b1 b2 (pv i) (qc i)),⟨h.low,?_,fun j hj=>?_,fun j l hj hl Zk k hkj UN=>?_⟩,?_,?_⟩
 ·obtain⟨c0,c1,c2⟩:=xD pv x.now hi;have e0:=AI hB.eN b0 (i*3) c0 (.pointer (some ⟨(qc i).b,0,none⟩));have e1:=AI e0 b1 (i*3+1) (old:=.pointer (some ⟨(pv i).k,0,none⟩)) (by rw[List.getElem?_set_ne ab];exact c1) (.pointer (some ⟨(qc i).k,0,none⟩));have e2:=AI e1 b2 (i*3+2) (old:=(pv i).cv) (by rw[List.getElem?_set_ne ab,List.getElem?_set_ne ab];exact c2) (qc i).cv
  have e3:=AI e2 b3 12 (old:=.int .i64 x.now) (by rw[List.getElem?_set_ne ab,List.getElem?_set_ne ab,List.getElem?_set_ne ab];exact Oz pv x.now) (.int .i64 f.now);unfold QX;rw[e3]
  have s1:(((iY pv x.now).set (i*3) (if b0=true then .pointer (some ⟨(qc i).b,0,none⟩)else .pointer (some ⟨(pv i).b,0,none⟩))).set (i*3+1) (if b1=true then .pointer (some ⟨(qc i).k,0,none⟩)else .pointer (some ⟨(pv i).k,0,none⟩))).set (i*3+2) (if b2=true then(qc i).cv else(pv i).cv)=iY (yX pv i (H_ b0 b1 b2 (pv i) (qc i))) x.now:=by
   rw[<-yY pv x.now hi];unfold pB H_;cases b0<;>cases b1<;>rfl
  rw[s1];cases b3
  ·rw[aq ag,yk];rfl
  ·rw[az rfl,yk];rfl
 ·by_cases Gs:j=i
  ·subst Gs;rw[tC];show eV base _ _ (if j=j then _ else _);rw[az rfl];have hB':¬(qc j).kn B:=fun e=>by
    have a1:=hge B e;have a2:=h.lt;omega
   exact((hB.part j hj).fr cP hB.Sl (fun k hk e=>hB.Ar hj (by have e':k=B:=e;rw[<-e'];exact hk))).take ((hc.part j hj).fr cP hB.Sl (fun k hk e=>hB' (by have e':k=B:=e;rw[<-e'];exact hk))) b0 b1 b2
  ·rw[mP pv _ Gs];show eV base _ _ (if j=i then _ else _);rw[aq Gs];exact(hB.part j hj).fr cP hB.Sl (fun k hk e=>hB.Ar hj (by have e':k=B:=e;rw[<-e'];exact hk))
 ·rcases lA j k hj hkj with e|⟨e,he⟩
  ·rcases lA l k hl UN with g|⟨g,hg⟩
   ·exact h.apart j l hj hl Zk k e g
   ·have:=sS j k hj e;omega
  ·rcases lA l k hl UN with g|⟨g,hg⟩
   ·have:=sS l k hl g;omega
   ·exact Zk (e.trans g.symm)
 ·exact(hW.mono (T:=lI B pv) (fun _ _ h=>absurd h id)).step cP (fun k _ e=>Or.inl e)
 ·rintro k(rfl|⟨j,hj,hk⟩)
  ·exact Or.inl (Or.inl rfl)
  ·rcases lA j k hj hk with e|⟨_,e⟩
   ·exact Or.inl (Or.inr ⟨j,hj,e⟩)
   ·exact Or.inr e
theorem cE.aqu(h:cE base w B pv x)(oM:base<=n)(hn:¬lI B pv n){cs:bT}{t:TypeId}(hb:w.heap[n]?=some (.cells cs t (0,0)))(ht:t≠9)(k:Nat)(v:Value) :
  cE base (w.setCell ⟨n,k,none⟩ v) B pv x/\Fr (one n) w (w.setCell ⟨n,k,none⟩ v):=by
 have kR:Fr (one n) w (w.setCell ⟨n,k,none⟩ v):=(ae (one n) w).setCell (p:=⟨n,k,none⟩) (fun _=>rfl) _;refine⟨h.fr kR ?_ (fun k hk e=>hn (by have e':k=n:=e;rw[<-e'];exact hk)),kR⟩;rintro k rfl _;exact⟨oM,fun c f e=>by rw[hb]at e;cases e;exact ht rfl⟩
theorem EZ{U':World}{x':dD}(h:cE base U B pv x)(hf:Fr aS w U)(hb:w.heap.size<=base)(hp:dp base U B pv x' U') :
  ∃zh,cE base U' B zh x'/\Fr aS w U'/\∀(n:Nat) (c:bT) (t:TypeId),U.heap[n]?=some (.cells c t (0,0))->eX t->t≠86->U'.heap[n]?=some (.cells c t (0,0)):=by
 have N1:=hp.frame h hf hb;obtain⟨zh,h1,h2,_⟩:=hp;exact⟨zh,h1,N1,fun n c t hn ht hw=>h2.keep hn (h.xc hn ht hw)⟩
theorem Hz(h:cE base U B pv x)(hf:Fr aS w U)(oM:base<=n)(Yx:w.heap.size<=n){cs:bT}{t:TypeId}(hb:U.heap[n]?=some (.cells cs t (0,0)))(ht:eX t)(hw:t≠86)(hs:t≠9)(k:Nat)(v:Value) :
  cE base (U.setCell ⟨n,k,none⟩ v) B pv x/\Fr aS w (U.setCell ⟨n,k,none⟩ v)/\(U.setCell ⟨n,k,none⟩ v).heap[n]?=some (.cells (cs.setIfInBounds k v) t (0,0)) /\
   ∀(m:Nat) (o:Obj),m≠n->U.heap[m]?=some o->(U.setCell ⟨n,k,none⟩ v).heap[m]?=some o:=by
 obtain⟨h1,h2⟩:=h.aqu oM (h.xc hb ht hw) hb hs k v;exact⟨h1,hf.gN (p:=⟨n,k,none⟩) Yx _,cq hb k v,fun m o hm ho=>h2.keep ho (fun e=>hm e)⟩
theorem QU{o:jO}(h:cE w.heap.size U B pv x)(hf:Fr aS w U)(hi:lr x)(ht:kO w)(ho:gM U o hs) :
  aB 14 #[.pointer (some ⟨B,0,none⟩),.agg o.cells.toArray] U (fun e w'=>e=.returned (.agg #[.int .i64 (iK x (o.dW hs)).2.what,.string (iK x (o.dW hs)).2.head,.int .i64 (iK x (o.dW hs)).2.cert])/\dp w.heap.size U B pv (iK x (o.dW hs)).1 w') :=
 JA w.heap.size U B pv x o hs h ho hi w ht (ay _) hf
theorem gF.new:gF 0 sq:=⟨⟨fM _,fM _⟩,fun _ _=>⟨fM _,fM _⟩,fun _=>aL _,fun _=>aL _,lr.new,fun _ h=>by simp[sq,fo]at h,fun _ h=>by simp[sq,fo]at h⟩
theorem gF.mono{j:Int}(h:gF k t)(hk:k<=j):gF j t:={h with steps:=⟨h.steps.1,Int.le_trans h.steps.2 hk⟩,num:=fun p i=>⟨(h.num p i).1,Int.le_trans (h.num p i).2 hk⟩}
theorem Tg{f:Nat->Nat->Int}(h:∀p i,0<=f p i/\f p i<=k)(p i:Nat):0<=AD o f p i/\AD o f p i<=k+1:=by
 unfold AD;have:=h p i;split<;>omega
theorem gF.ends(h:gF k t)(n:Nat)(r:kt):gF k (ja t n r):=by
 unfold ja;refine⟨h.steps,h.num,fun m=>?_,fun m=>?_,h.inv,fun m=>?_,fun m=>?_⟩
 ·show(if m=n then fo else t.tab m).fails<=3;split
  ·exact aL _
  ·exact h.fails m
 ·show(if m=n then fo else t.tab m).does<=3;split
  ·exact aL _
  ·exact h.does m
 ·show(if m=n then fo else t.tab m).does=2\/(if m=n then fo else t.tab m).does=3->lr (if m=n then fo else t.tab m).seen;split
  ·intro e;simp[fo]at e
  ·exact h.seen m
 ·show(if m=n then fo else t.tab m).does≠0->_;split
  ·intro e;exact absurd rfl e
  ·rename_i hm;simp only[aq hm];exact h.ops m
theorem gF.put(h:gF k t)(n:Nat)(x:vo)(hf:x.fails<=3)(hd:x.does<=3)(hs:x.does=2\/x.does=3->lr x.seen)(ho:x.does≠0->x.op.user.size<=5000/\x.op.pass.size<=5000/\x.op.path.size<=5000):gF k (t.put n x):=by
 refine⟨h.steps,h.num,fun m=>?_,fun m=>?_,h.inv,fun m=>?_,fun m=>?_⟩
 ·show(if m=n then x else t.tab m).fails<=3;split
  ·exact hf
  ·exact h.fails m
 ·show(if m=n then x else t.tab m).does<=3;split
  ·exact hd
  ·exact h.does m
 ·show(if m=n then x else t.tab m).does=2\/(if m=n then x else t.tab m).does=3->lr (if m=n then x else t.tab m).seen;split
  ·exact hs
  ·exact h.seen m
 ·show(if m=n then x else t.tab m).does≠0->(if m=n then x else t.tab m).op.user.size<=5000/\(if m=n then x else t.tab m).op.pass.size<=5000/\(if m=n then x else t.tab m).op.path.size<=5000;split
  ·exact ho
  ·exact h.ops m
theorem gF.tick(h:gF k t):gF (k+1) {t with steps:=t.steps+1}:=by
 have g:=h.mono (show k<=k+1 from ab);exact{g with steps:=⟨by have:=h.steps.1;show 0<=t.steps+1;omega,by have:=h.steps.2;show t.steps+1<=k+1;omega⟩}
theorem gF.iG{k:Int}{t:fB}(h:gF k t)(n:Int)(o:iE)(ho:o.user.size<=5000/\o.pass.size<=5000/\o.path.size<=5000):gF (k+1) (za t n o).1:=by
 have g:=h.mono (show k<=k+1 from ab);unfold za;split
 ·split
  ·exact(h.put n.toNat {fo with does:=1,op:=o,iG:=t.steps+1} (aL _) (show 1<=3 from ag) (fun e=>by simp at e) (fun _=>ho)).tick
  ·exact g
 ·exact g
theorem gF.cancel(h:gF k t)(n:Int):gF (k+1) (nU t n).1:=by
 have g:=h.mono (show k<=k+1 from ab);unfold nU;split
 ·split
  ·exact g
  ·exact(h.put n.toNat fo (aL _) (aL _) (fun e=>by simp[fo]at e) (fun e=>absurd rfl e)).tick
 ·exact g
theorem gF.fail(h:gF k t)(n:Nat)(r:kt):gF k (ja (t.put n {t.tab n with fails:=m}) n r):=by
 have e:ja (t.put n {t.tab n with fails:=m}) n r=ja t n r:=by
  unfold ja fB.put;simp only[eo]
  congr 1
  funext i
  split
  ·rfl
  ·rfl
 rw[e];exact h.ends n r
theorem gF.Pn(h:gF k t)(n:Nat)(hd:(t.tab n).does=3):gF (k+1) (iB t n).1:=by
 have g:=h.mono (show k<=k+1 from ab);unfold iB;split
 ·refine gF.ends ?_ n _;split
  ·exact{g with inv:=h.inv.take (h.seen n (Or.inr hd)) _ _,num:=Tg h.num}
  ·exact g
 ·split
  ·rename_i hf;exact g.put n _ hf (show 1<=3 from ag) (fun e=>by simp at e) (fun _=>h.ops n ab)
  ·exact g.fail n _
theorem gF.stepT{k:Int}{t:fB}(h:gF k t)(n:Nat)(h0:(t.tab n).does≠0):gF (k+2) (stepT t n).1:=by
 unfold Go.Proofs.YtnckmcnffadjoaaGreatDoor.stepT;split
 ·have q:=(h.put n {t.tab n with seen:=t.w,num:=t.num,does:=2} (h.fails n) (show 2<=3 from ag) (fun _=>h.inv) (fun _=>h.ops n h0)).tick;exact q.mono ab
 ·split
  ·rename_i h2;have q:=(h.put n {t.tab n with ec:=(iK (t.tab n).seen (t.tab n).op).2,seen:=(iK (t.tab n).seen (t.tab n).op).1,does:=3} (h.fails n) (show 3<=3 from ag) (fun _=>(h.seen n (Or.inl h2)).iK _ (h.ops n h0).1 (h.ops n h0).2.1 (h.ops n h0).2.2) (fun _=>h.ops n h0)).tick;exact q.mono ab
  ·have hd:(t.tab n).does=3:=by have:=h.does n;omega
   exact(h.tick.Pn n hd).mono ab
theorem gF.step(h:gF k t)(n:Int):gF (k+2) (lC t n).1:=by
 have g:=h.mono (show k<=k+2 from ab);unfold lC;split
 ·split
  ·exact g
  ·rename_i h0;exact h.stepT _ h0
 ·exact g
theorem vJ.fr{w':World}{o:jO}(h:vJ w o hs)(hf:Fr aS w w'):vJ w' o hs:={h with aN:={h.aN with eB:=bh h.aN.eB hf}}
section
variable {a U U' : World} {B C : Nat} {pv qv : Nat → cY} {x x' y : dD}
end
theorem lr.sZ(h:lr x):∀i,i<4->(x.part i).bG.length<68719476736/\(x.part i).waits.length<68719476736/\(x.part i).book.length<1000000/\(x.part i).dJ.length<=1000000:=fun i _=>by
 obtain⟨l1,l2,l3,l4⟩:=(h.ok.part i).sZ;exact⟨ab,ab,ab,ab⟩
theorem JJ(t:fB)(n:Nat):(iB t n).1.cU.length<=t.cU.length+1:=by
 unfold iB;split
 ·split<;>simp[ja]
 ·split
  ·simp[fB.put]
  ·simp[ja,fB.put]
theorem Fa(t:fB)(n:Int):(lC t n).1.cU.length<=t.cU.length+1:=by
 unfold lC;split
 ·split
  ·simp
  ·unfold stepT;split
   ·simp[fB.put]
   ·split
    ·simp[fB.put]
    ·exact JJ _ _
 ·simp
theorem BO(t:fB)(n:Int)(o:iE):(za t n o).1.cU=t.cU:=by
 unfold za;split
 ·split<;>rfl
 ·rfl
theorem Ib(t:fB)(n:Int):(nU t n).1.cU=t.cU:=by
 unfold nU;split
 ·split<;>rfl
 ·rfl
theorem X3{xs:dh}{t:TypeId}(hx:∀x∈xs,x.length=22/\∀u∈x,u.oneCell'=true)(h:w.heap[n]?=some (.cells xs.flatten.toArray t (0,0)))(hm:m=xs.length)(hl:m<=4):dZ 22 w (.slice (some ⟨n,0,none⟩) m m) xs:=by
 subst hm;refine⟨hx,Or.inr ⟨n,0,xs.length,rfl,ay _,ft,bq h,fun j x hj i u hi=>?_⟩⟩;simp only[World.cell?,h,bz];have key:∀(ys:dh),(∀z∈ys,z.length=22)->∀(j:Nat) (z:aZ) (i:Nat) (u:Value),ys[j]?=some z->z[i]?=some u->ys.flatten[j*22+i]?=some u:=by
  intro ys
  induction ys with
  |nil=>intro _ j z i u hj;cases j<;>cases hj
  |cons y ys ih =>
   intro hy j z i u hj hi;rw[List.flatten_cons];have GC:=hy y (cM ..);cases j with
   |zero =>
    have e:y=z:=by simpa using hj
    subst e;have hil:=(List.getElem?_eq_some_iff.1 hi).1;rw[ir,bz,List.getElem?_append_left ab];exact hi
   |succ j =>
    rw[List.getElem?_append_right ab,show(j+1)*22+i-y.length=j*22+i from ab];exact ih (fun z hz=>hy z (bN _ hz)) j z i u (by simpa using hj) hi
 simpa using key xs (fun z hz=>(hx z hz).1) j x i u hj hi
theorem JL.one{t:TypeId}{o:jO}{ah:eO}{ch:Nat}(h:vJ w o hs)(hh:o.aN.eB=.slice ah hs.length ch)(hb:w.heap[n]?=some (.cells o.cells.toArray t (0,0))):JL w (.slice (some ⟨n,0,none⟩) 1 1) [(o,hs)]:=by
 refine⟨X3 (xs:=[o.cells]) (fun x hx=>?_) (by simpa using hb) rfl ag,aR,fun p hp=>?_⟩
 ·rw[cH]at hx;subst hx;exact⟨rfl,af' o hh⟩
 ·rw[cH]at hp;subst hp;exact h
theorem TC(o:jO)(hs:List ig):Fj [(o,hs)]=!sF (o,hs):=by
 unfold Fj;simp
