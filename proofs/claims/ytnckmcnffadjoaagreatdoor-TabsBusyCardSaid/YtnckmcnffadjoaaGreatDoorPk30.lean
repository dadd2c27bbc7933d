/- Lemmas for the law's walk. -/
import Derived.Test.YtnckmcnffadjoaaGreatDoorPk29
import Derived.Test.YtnckmcnffadjoaaGreatDoorPk28
set_option maxRecDepth 100000
set_option maxHeartbeats 16000000
set_option linter.unusedSimpArgs false
namespace Go.Proofs.YtnckmcnffadjoaaGreatDoor
open Go.Proofs.Tryz
open Go.RowKit
variable {w:World} {l:List (gz×Int)} {o:gz} {k n:Nat} {c:gz×Int} {t:fD}
theorem OX(base:Nat)(w:World)(B:Nat)(pv:Nat->cU)(x:dx)(o:jG)(hs:List gZ)(h:cz base w B pv x)(hf:gH w o hs)(hi:lh x)(a:World)(tN:kG a)(sG:a.heap.size<=base)(tO:Fr aR a w)(hr:(o.dS hs).right=true)(hw:o.what=2) :
  Calls prog 14 #[.pointer (some ⟨B,0,none⟩),.agg o.cells.toArray] w (j6 base w B pv (iC x (o.dS hs))):=by
 have uW:B<w.heap.size:=h.lt;have oF:=h.low;obtain⟨ah,ch,gV⟩:=hf.gX;obtain⟨w2,eB⟩:∃w2,w2=(w.alloc (.cells o.cells.toArray 41)).alloc (.cells bR 30):=⟨_,rfl⟩;have dy:Fr aR w w2:=by rw[eB];exact((ae aR w).alloc _).alloc _
 have k1:w2.heap[w.heap.size]?=some (.cells o.cells.toArray 41 (0,0)):=by rw[eB];exact((ae aR _).alloc _).keep (aB _ _) id
 have k2:w2.heap[w.heap.size+1]?=some (.cells bR 30 (0,0)):=by
  have h:=aB (w.alloc (.cells o.cells.toArray 41)) (.cells bR 30);rw[bM]at h;rw[eB];exact h
 have tP:=O (lA o hs w2 (hf.dh dy));have HH:=O (h.dh dy);have HF:=O (hf.dh dy);have lS:=O gV;have HI:=O hi;have fO:=O dy;have mP:=O k1;have qR:=O k2;have pj:=O (show base<=w.heap.size from ab);have xG:=O oF;have o9:=O uW;have Ss:=O tN;have Sr:=O (tO.trans dy);have Yx:=O sG;rw[eB]at k1;rw[eA gV]at eB tP k1 ⊢;unfold bR at eB k1;have nJ:=O eB;have vS:=O k1;clear eB gV dy k1 k2 h hf hi tN sG tO
 obtain⟨i,vW,AQ⟩:∃i:Nat,o.aL.part=(i:Int)/\i<4:=by
  obtain⟨h0,h1⟩:=iM hr;have TY:0<=o.aL.part:=h0;have IQ:o.aL.part<4:=h1;exact⟨o.aL.part.toNat,ab,ab⟩
 have Nd:(i:Int)<4:=ab;have qD:¬(i:Int)<0:=ab;have NP:¬(4:Int)<=(i:Int):=ab;have Lf:(0:Int)<=(i:Int):=ab;have tz:=O AQ;have AR:=O vW;obtain⟨r,CC⟩:∃r,r=fJ (x.part i) (o.dS hs):=⟨_,rfl⟩;have HR:=O (show iC x (o.dS hs)=(x.set i r.1,r.2)by rw[qw hr vW (by show o.what≠10;omega),CC,ae_ (show(o.dS hs).what=2 from hw)]);rw[hr]at tP
 have HM:=O (show∀U,Fr aR w2 U->Calls prog 31 #[.pointer (some ⟨B,i*3,none⟩),.agg o.cells.toArray] U (eF base U B (iP pv x.now) (i*3) (pv i) r)from fun U hU=>by
  have h:=Mm base U B (i*3) (iP pv x.now) (pv i) (x.part i) o hs ((HH.o.dh hU).part i tz.o) ((HH.o.dh hU).partAt tz.o) xG.o (HF.o.dh hU) (HI.o.ok.part i);rw[<-CC]at h;exact h)
 rw[eA lS.o]at HM;have HW:=O hw;clear hr hw CC AQ vW;go_enter func14,ntmps14;go_wp2_with (first|((with_reducible refine cY 8 ?_);refine aH rfl 41 (.tmp 3) rfl w.heap.size rfl _ _ (0,0) _ vS.o underlying41 rfl af ?_)|fail)
 rw[<-nJ.o];refine tP.o.mono ?_;rintro e u⟨rfl,hu⟩;obtain⟨a0,a1,a2,a3,a4,a5,a6,a7,a8,a9,jI,jJ,a12,jH,jK,jr,jY,jZ,j5,kf,a20,a21⟩:=eh (hu.keep mP.o id) lS.o;rw[AR.o]at a1;clear a0 a2 a3 a4 a5 a6 a7 a8 a9 jI jJ a12 jH jK jr jY jZ j5 kf a20 a21;have qy:=O (show∀n,Fr aR w2 (u.drewN n)from fun n=>dz n hu);clear hu vS;go_wp2_with fail
 go_quiet (fail);clear a1;have mL:=qy.o nq;generalize u.drewN nq=u1 at mL ⊢;have tQ:=O mL;clear mL qy;have Fp:=O (tQ.o.keep mP.o id);rw[eA lS.o]at Fp;obtain⟨a0,a1,a2,a3,a4,a5,a6,a7,a8,a9,jI,jJ,a12,jH,jK,jr,jY,jZ,j5,kf,a20,a21⟩:=eh (tQ.o.keep mP.o id) lS.o;rw[AR.o]at a1;have xJ:=HW.o;rw[xJ]at a0;clear xJ;clear a1 a2 a3 a4 a5 a6 a7 a8 a9 jI jJ a12 jH jK jr jY jZ j5 kf a20 a21
 go_wp2_with (first|((with_reducible refine cY 29 ?_);refine aH rfl 41 (.tmp 3) rfl w.heap.size rfl _ _ (0,0) _ Fp.o underlying41 rfl af ?_)|fail)
 have tR:=tQ.o;refine(HM.o _ tR).mono ?_;rintro e u5⟨rfl,hp⟩;unfold kx.val;have Mc:=tR.keep qR.o id;have ph:=O (nY (HH.o.dh tR) tz.o hp Mc dH ab);have HP:=O (show dk base w B pv (x.set i r.1) u5 from cF fO.o (cF tR (ky (HH.o.dh tR) tz.o hp)));clear hp Mc tR HM
 go_wp2_with (first|((with_reducible refine cV 30 ?_);refine aE rfl 30 (.tmp 4) (.tmp 30) rfl (w.heap.size+1) #[.int .i64 r.2.what,.string r.2.head,.int .i64 r.2.cert] rfl rfl _ bR ph.o (bd _ rfl) rfl ct ?_)|fail)
 refine aS (bu bC _ _ (w.heap.size+1) 30 #[.int .i64 r.2.what,.string r.2.head,.int .i64 r.2.cert] (0,0) _ rfl (aX _ (w.heap.size+1) _ _ _ _ ph.o) underlying30 rfl (bd _ rfl)) rfl ?_;unfold j6;rw[HR.o];exact⟨rfl,ew HP.o pj.o o9.o (bU _) ph.o dH ag _⟩
theorem Mq(base:Nat)(w:World)(B:Nat)(pv:Nat->cU)(x:dx)(o:jG)(hs:List gZ)(h:cz base w B pv x)(hf:gH w o hs)(hi:lh x)(a:World)(tN:kG a)(sG:a.heap.size<=base)(tO:Fr aR a w)(hr:(o.dS hs).right=true)(hw:o.what=3) :
  Calls prog 14 #[.pointer (some ⟨B,0,none⟩),.agg o.cells.toArray] w (j6 base w B pv (iC x (o.dS hs))):=by
 have uW:B<w.heap.size:=h.lt;have oF:=h.low;obtain⟨ah,ch,gV⟩:=hf.gX;obtain⟨w2,eB⟩:∃w2,w2=(w.alloc (.cells o.cells.toArray 41)).alloc (.cells bR 30):=⟨_,rfl⟩;have dy:Fr aR w w2:=by rw[eB];exact((ae aR w).alloc _).alloc _
 have k1:w2.heap[w.heap.size]?=some (.cells o.cells.toArray 41 (0,0)):=by rw[eB];exact((ae aR _).alloc _).keep (aB _ _) id
 have k2:w2.heap[w.heap.size+1]?=some (.cells bR 30 (0,0)):=by
  have h:=aB (w.alloc (.cells o.cells.toArray 41)) (.cells bR 30);rw[bM]at h;rw[eB];exact h
 have tP:=O (lA o hs w2 (hf.dh dy));have HH:=O (h.dh dy);have HF:=O (hf.dh dy);have lS:=O gV;have HI:=O hi;have fO:=O dy;have mP:=O k1;have qR:=O k2;have pj:=O (show base<=w.heap.size from ab);have xG:=O oF;have o9:=O uW;have Ss:=O tN;have Sr:=O (tO.trans dy);have Yx:=O sG;rw[eB]at k1;rw[eA gV]at eB tP k1 ⊢;unfold bR at eB k1;have nJ:=O eB;have vS:=O k1;clear eB gV dy k1 k2 h hf hi tN sG tO
 obtain⟨i,vW,AQ⟩:∃i:Nat,o.aL.part=(i:Int)/\i<4:=by
  obtain⟨h0,h1⟩:=iM hr;have TY:0<=o.aL.part:=h0;have IQ:o.aL.part<4:=h1;exact⟨o.aL.part.toNat,ab,ab⟩
 have Nd:(i:Int)<4:=ab;have qD:¬(i:Int)<0:=ab;have NP:¬(4:Int)<=(i:Int):=ab;have Lf:(0:Int)<=(i:Int):=ab;have tz:=O AQ;have AR:=O vW;obtain⟨r,CC⟩:∃r,r=fV (x.part i) (o.dS hs):=⟨_,rfl⟩;have HR:=O (show iC x (o.dS hs)=(x.set i r.1,r.2)by rw[qw hr vW (by show o.what≠10;omega),CC,ae' (show(o.dS hs).what=3 from hw)]);rw[hr]at tP
 have HM:=O (show∀U,Fr aR w2 U->Calls prog 32 #[.pointer (some ⟨B,i*3,none⟩),.agg o.cells.toArray] U (eF base U B (iP pv x.now) (i*3) (pv i) r)from fun U hU=>by
  have h:=Jm base U B (i*3) (iP pv x.now) (pv i) (x.part i) o hs ((HH.o.dh hU).part i tz.o) ((HH.o.dh hU).partAt tz.o) xG.o (HF.o.dh hU) (HI.o.ok.part i) (HI.o.path i);rw[<-CC]at h;exact h)
 rw[eA lS.o]at HM;have HW:=O hw;clear hr hw CC AQ vW;go_enter func14,ntmps14;go_wp2_with (first|((with_reducible refine cY 8 ?_);refine aH rfl 41 (.tmp 3) rfl w.heap.size rfl _ _ (0,0) _ vS.o underlying41 rfl af ?_)|fail)
 rw[<-nJ.o];refine tP.o.mono ?_;rintro e u⟨rfl,hu⟩;obtain⟨a0,a1,a2,a3,a4,a5,a6,a7,a8,a9,jI,jJ,a12,jH,jK,jr,jY,jZ,j5,kf,a20,a21⟩:=eh (hu.keep mP.o id) lS.o;rw[AR.o]at a1;clear a0 a2 a3 a4 a5 a6 a7 a8 a9 jI jJ a12 jH jK jr jY jZ j5 kf a20 a21;have qy:=O (show∀n,Fr aR w2 (u.drewN n)from fun n=>dz n hu);clear hu vS;go_wp2_with fail
 go_quiet (fail);clear a1;have mL:=qy.o nq;generalize u.drewN nq=u1 at mL ⊢;have tQ:=O mL;clear mL qy;have Fp:=O (tQ.o.keep mP.o id);rw[eA lS.o]at Fp;obtain⟨a0,a1,a2,a3,a4,a5,a6,a7,a8,a9,jI,jJ,a12,jH,jK,jr,jY,jZ,j5,kf,a20,a21⟩:=eh (tQ.o.keep mP.o id) lS.o;rw[AR.o]at a1;have xJ:=HW.o;rw[xJ]at a0;clear xJ;clear a1 a2 a3 a4 a5 a6 a7 a8 a9 jI jJ a12 jH jK jr jY jZ j5 kf a20 a21
 go_wp2_with (first|((with_reducible refine cY 34 ?_);refine aH rfl 41 (.tmp 3) rfl w.heap.size rfl _ _ (0,0) _ Fp.o underlying41 rfl af ?_)|fail)
 have tR:=tQ.o;refine(HM.o _ tR).mono ?_;rintro e u5⟨rfl,hp⟩;unfold kx.val;have Mc:=tR.keep qR.o id;have ph:=O (nY (HH.o.dh tR) tz.o hp Mc dH ab);have HP:=O (show dk base w B pv (x.set i r.1) u5 from cF fO.o (cF tR (ky (HH.o.dh tR) tz.o hp)));clear hp Mc tR HM
 go_wp2_with (first|((with_reducible refine cV 30 ?_);refine aE rfl 30 (.tmp 4) (.tmp 35) rfl (w.heap.size+1) #[.int .i64 r.2.what,.string r.2.head,.int .i64 r.2.cert] rfl rfl _ bR ph.o (bd _ rfl) rfl ct ?_)|fail)
 refine aS (bu bC _ _ (w.heap.size+1) 30 #[.int .i64 r.2.what,.string r.2.head,.int .i64 r.2.cert] (0,0) _ rfl (aX _ (w.heap.size+1) _ _ _ _ ph.o) underlying30 rfl (bd _ rfl)) rfl ?_;unfold j6;rw[HR.o];exact⟨rfl,ew HP.o pj.o o9.o (bU _) ph.o dH ag _⟩
theorem WV(base:Nat)(w:World)(B:Nat)(pv:Nat->cU)(x:dx)(o:jG)(hs:List gZ)(h:cz base w B pv x)(hf:gH w o hs)(hi:lh x)(a:World)(tN:kG a)(sG:a.heap.size<=base)(tO:Fr aR a w)(hr:(o.dS hs).right=true)(hw:o.what=4) :
  Calls prog 14 #[.pointer (some ⟨B,0,none⟩),.agg o.cells.toArray] w (j6 base w B pv (iC x (o.dS hs))):=by
 have uW:B<w.heap.size:=h.lt;have oF:=h.low;obtain⟨ah,ch,gV⟩:=hf.gX;obtain⟨w2,eB⟩:∃w2,w2=(w.alloc (.cells o.cells.toArray 41)).alloc (.cells bR 30):=⟨_,rfl⟩;have dy:Fr aR w w2:=by rw[eB];exact((ae aR w).alloc _).alloc _
 have k1:w2.heap[w.heap.size]?=some (.cells o.cells.toArray 41 (0,0)):=by rw[eB];exact((ae aR _).alloc _).keep (aB _ _) id
 have k2:w2.heap[w.heap.size+1]?=some (.cells bR 30 (0,0)):=by
  have h:=aB (w.alloc (.cells o.cells.toArray 41)) (.cells bR 30);rw[bM]at h;rw[eB];exact h
 have tP:=O (lA o hs w2 (hf.dh dy));have HH:=O (h.dh dy);have HF:=O (hf.dh dy);have lS:=O gV;have HI:=O hi;have fO:=O dy;have mP:=O k1;have qR:=O k2;have pj:=O (show base<=w.heap.size from ab);have xG:=O oF;have o9:=O uW;have Ss:=O tN;have Sr:=O (tO.trans dy);have Yx:=O sG;rw[eB]at k1;rw[eA gV]at eB tP k1 ⊢;unfold bR at eB k1;have nJ:=O eB;have vS:=O k1;clear eB gV dy k1 k2 h hf hi tN sG tO
 obtain⟨i,vW,AQ⟩:∃i:Nat,o.aL.part=(i:Int)/\i<4:=by
  obtain⟨h0,h1⟩:=iM hr;have TY:0<=o.aL.part:=h0;have IQ:o.aL.part<4:=h1;exact⟨o.aL.part.toNat,ab,ab⟩
 have Nd:(i:Int)<4:=ab;have qD:¬(i:Int)<0:=ab;have NP:¬(4:Int)<=(i:Int):=ab;have Lf:(0:Int)<=(i:Int):=ab;have tz:=O AQ;have AR:=O vW;have JX:=O (show iC x (o.dS hs)=(x,rep (if mF (x.part i).book (o.aL.dS hs) x.now then 5 else 4))by
  rw[qw hr vW (by show o.what≠10;omega),afa (show(o.dS hs).what=4 from hw),oY];rfl)
 rw[hr]at tP
 have xI:=O (show∀U,Fr aR w2 U->Calls prog 33 #[.pointer (some ⟨(pv i).k,0,none⟩),.agg #[.int .i64 (i:Int),.bool o.aL.dm.aF,.string o.aL.dm.host,.int .i64 o.aL.dm.port,.bool o.aL.o.aF,.string o.aL.o.host,.int .i64 o.aL.o.port,.string o.aL.path,.string o.aL.query,.string o.aL.method,.slice ah hs.length ch,.bool o.aL.fU,.string o.aL.body],.int .i64 x.now] U fun e w'=>e=.returned (.bool (mF (x.part i).book (o.aL.dS hs) x.now))/\Fr aR U w' from fun U hU=>by
  have h:=Mj base U (pv i).k (pv i).kv (x.part i).book o.aL hs x.now ((HH.o.dh hU).part i tz.o).book (iK (HI.o.ok.part i).tG.2.2.1 ag) (HF.o.dh hU).eo HF.o.aL;rw[Al lS.o,AR.o]at h;exact h)
 have HC:=O (show∀U,Fr aR w2 U->(U.cell? ⟨B,i*3+1,none⟩=some (.pointer (some ⟨(pv i).k,0,none⟩))/\U.cell? ⟨B,12,none⟩=some (.int .i64 x.now)/\U.cell? ⟨w.heap.size,1,none⟩=some (.int .i64 (i:Int))/\U.cell? ⟨w.heap.size,2,none⟩=some (.bool o.aL.dm.aF)/\U.cell? ⟨w.heap.size,3,none⟩=some (.string o.aL.dm.host)/\U.cell? ⟨w.heap.size,4,none⟩=some (.int .i64 o.aL.dm.port)/\U.cell? ⟨w.heap.size,5,none⟩=some (.bool o.aL.o.aF)/\U.cell? ⟨w.heap.size,6,none⟩=some (.string o.aL.o.host)/\U.cell? ⟨w.heap.size,7,none⟩=some (.int .i64 o.aL.o.port)/\U.cell? ⟨w.heap.size,8,none⟩=some (.string o.aL.path)/\U.cell? ⟨w.heap.size,9,none⟩=some (.string o.aL.query)/\U.cell? ⟨w.heap.size,10,none⟩=some (.string o.aL.method)/\U.cell? ⟨w.heap.size,11,none⟩=some (.slice ah hs.length ch)/\U.cell? ⟨w.heap.size,12,none⟩=some (.bool o.aL.fU)/\U.cell? ⟨w.heap.size,13,none⟩=some (.string o.aL.body))from fun U hU=>by
  have j1:=(HH.o.dh hU).partAt tz.o;have j2:=(HH.o.dh hU).eI;obtain⟨a0,a1,a2,a3,a4,a5,a6,a7,a8,a9,jI,jJ,a12,jH,jK,jr,jY,jZ,j5,kf,a20,a21⟩:=eh (hU.keep mP.o id) lS.o;rw[AR.o]at a1;exact⟨j1.hZ,by simp only[World.cell?,j2];rfl,a1,a2,a3,a4,a5,a6,a7,a8,a9,jI,jJ,a12,jH⟩)
 have HW:=O hw;clear hr hw AQ vW;go_enter func14,ntmps14;go_wp2_with (first|((with_reducible refine cY 8 ?_);refine aH rfl 41 (.tmp 3) rfl w.heap.size rfl _ _ (0,0) _ vS.o underlying41 rfl af ?_)|fail)
 rw[<-nJ.o];refine tP.o.mono ?_;rintro e u⟨rfl,hu⟩;obtain⟨a0,a1,a2,a3,a4,a5,a6,a7,a8,a9,jI,jJ,a12,jH,jK,jr,jY,jZ,j5,kf,a20,a21⟩:=eh (hu.keep mP.o id) lS.o;rw[AR.o]at a1;clear a0 a2 a3 a4 a5 a6 a7 a8 a9 jI jJ a12 jH jK jr jY jZ j5 kf a20 a21;have qy:=O (show∀n,Fr aR w2 (u.drewN n)from fun n=>dz n hu);clear hu vS;go_wp2_with fail
 go_quiet (fail);clear a1;have mL:=qy.o nq;generalize u.drewN nq=u1 at mL ⊢;have tQ:=O mL;clear mL qy;have Fp:=O (tQ.o.keep mP.o id);rw[eA lS.o]at Fp;obtain⟨a0,a1,a2,a3,a4,a5,a6,a7,a8,a9,jI,jJ,a12,jH,jK,jr,jY,jZ,j5,kf,a20,a21⟩:=eh (tQ.o.keep mP.o id) lS.o;rw[AR.o]at a1;have xJ:=HW.o;rw[xJ]at a0;clear xJ;clear a1 a2 a3 a4 a5 a6 a7 a8 a9 jI jJ a12 jH jK jr jY jZ j5 kf a20 a21
 cases hb:mF (x.part i).book (o.aL.dS hs) x.now
 ·skip
  have HR:=O (JX.o.trans (by rw[hb];rfl:_=(x,rep 4)));rw[hb]at xI;clear hb JX;go_wp2_with fail
  go_region_held3 (fun U=>Fr aR w2 U/\U.cell? ⟨B,i*3+1,none⟩=some (.pointer (some ⟨(pv i).k,0,none⟩))/\U.cell? ⟨B,12,none⟩=some (.int .i64 x.now)/\U.cell? ⟨w.heap.size,1,none⟩=some (.int .i64 (i:Int))/\U.cell? ⟨w.heap.size,2,none⟩=some (.bool o.aL.dm.aF)/\U.cell? ⟨w.heap.size,3,none⟩=some (.string o.aL.dm.host)/\U.cell? ⟨w.heap.size,4,none⟩=some (.int .i64 o.aL.dm.port)/\U.cell? ⟨w.heap.size,5,none⟩=some (.bool o.aL.o.aF)/\U.cell? ⟨w.heap.size,6,none⟩=some (.string o.aL.o.host)/\U.cell? ⟨w.heap.size,7,none⟩=some (.int .i64 o.aL.o.port)/\U.cell? ⟨w.heap.size,8,none⟩=some (.string o.aL.path)/\U.cell? ⟨w.heap.size,9,none⟩=some (.string o.aL.query)/\U.cell? ⟨w.heap.size,10,none⟩=some (.string o.aL.method)/\U.cell? ⟨w.heap.size,11,none⟩=some (.slice ah hs.length ch)/\U.cell? ⟨w.heap.size,12,none⟩=some (.bool o.aL.fU)/\U.cell? ⟨w.heap.size,13,none⟩=some (.string o.aL.body)) ((refine(fun hU=>⟨hU,HC.o _ hU⟩) ?_;first|exact aA tQ.o|assumption))
   ((first
    |(go_at_call 33;refine(xI.o _ (aA tQ.o)).mono ?_;rintro e u5 ⟨rfl,lG⟩;have ur:Fr aR w2 u5:=(aA tQ.o).trans lG)))
  have HP:=O (show dk base w B pv x u5 from cF fO.o (fu HH.o ur));have ph:=O (ur.keep qR.o id);clear lG ur HC xI;go_wp2_with (first|((with_reducible refine cV 30 ?_);refine aE rfl 30 (.tmp 4) (.tmp 50) rfl (w.heap.size+1) #[.int .i64 4,.string ⟨#[]⟩,.int .i64 0] rfl rfl _ bR ph.o (bd _ rfl) rfl ct ?_)|fail)
  refine aS (bu bC _ _ (w.heap.size+1) 30 #[.int .i64 4,.string ⟨#[]⟩,.int .i64 0] (0,0) _ rfl (aX _ (w.heap.size+1) _ _ _ _ ph.o) underlying30 rfl (bd _ rfl)) rfl ?_;unfold j6;rw[HR.o];exact⟨rfl,ew HP.o pj.o o9.o (bU _) ph.o dH ag _⟩
 ·skip
  have HR:=O (JX.o.trans (by rw[hb];rfl:_=(x,rep 5)));rw[hb]at xI;clear hb JX;go_wp2_with fail
  go_region_held3 (fun U=>Fr aR w2 U/\U.cell? ⟨B,i*3+1,none⟩=some (.pointer (some ⟨(pv i).k,0,none⟩))/\U.cell? ⟨B,12,none⟩=some (.int .i64 x.now)/\U.cell? ⟨w.heap.size,1,none⟩=some (.int .i64 (i:Int))/\U.cell? ⟨w.heap.size,2,none⟩=some (.bool o.aL.dm.aF)/\U.cell? ⟨w.heap.size,3,none⟩=some (.string o.aL.dm.host)/\U.cell? ⟨w.heap.size,4,none⟩=some (.int .i64 o.aL.dm.port)/\U.cell? ⟨w.heap.size,5,none⟩=some (.bool o.aL.o.aF)/\U.cell? ⟨w.heap.size,6,none⟩=some (.string o.aL.o.host)/\U.cell? ⟨w.heap.size,7,none⟩=some (.int .i64 o.aL.o.port)/\U.cell? ⟨w.heap.size,8,none⟩=some (.string o.aL.path)/\U.cell? ⟨w.heap.size,9,none⟩=some (.string o.aL.query)/\U.cell? ⟨w.heap.size,10,none⟩=some (.string o.aL.method)/\U.cell? ⟨w.heap.size,11,none⟩=some (.slice ah hs.length ch)/\U.cell? ⟨w.heap.size,12,none⟩=some (.bool o.aL.fU)/\U.cell? ⟨w.heap.size,13,none⟩=some (.string o.aL.body)) ((refine(fun hU=>⟨hU,HC.o _ hU⟩) ?_;first|exact aA tQ.o|assumption))
   ((first
    |(go_at_call 33;refine(xI.o _ (aA tQ.o)).mono ?_;rintro e u5 ⟨rfl,lG⟩;have ur:Fr aR w2 u5:=(aA tQ.o).trans lG)))
  have HP:=O (show dk base w B pv x u5 from cF fO.o (fu HH.o ur));have ph:=O (ur.keep qR.o id);clear lG ur HC xI;go_wp2_with (first|((with_reducible refine cV 30 ?_);refine aE rfl 30 (.tmp 4) (.tmp 49) rfl (w.heap.size+1) #[.int .i64 5,.string ⟨#[]⟩,.int .i64 0] rfl rfl _ bR ph.o (bd _ rfl) rfl ct ?_)|fail)
  refine aS (bu bC _ _ (w.heap.size+1) 30 #[.int .i64 5,.string ⟨#[]⟩,.int .i64 0] (0,0) _ rfl (aX _ (w.heap.size+1) _ _ _ _ ph.o) underlying30 rfl (bd _ rfl)) rfl ?_;unfold j6;rw[HR.o];exact⟨rfl,ew HP.o pj.o o9.o (bU _) ph.o dH ag _⟩
theorem SM{b:Nat}{cs:List Value}{t:TypeId}(h:w.heap[b]?=some (.cells cs.toArray t (0,0))):w.rangeAt b 0 cs:=fun j v hv=>by
 simp only[World.cell?,h];simpa using hv
theorem OY(base:Nat)(w:World)(B:Nat)(pv:Nat->cU)(x:dx)(o:jG)(hs:List gZ)(h:cz base w B pv x)(hf:gH w o hs)(hi:lh x)(a:World)(tN:kG a)(sG:a.heap.size<=base)(tO:Fr aR a w)(hr:(o.dS hs).right=true)(hw:o.what=5) :
  Calls prog 14 #[.pointer (some ⟨B,0,none⟩),.agg o.cells.toArray] w (j6 base w B pv (iC x (o.dS hs))):=by
 have uW:B<w.heap.size:=h.lt;have oF:=h.low;obtain⟨ah,ch,gV⟩:=hf.gX;obtain⟨w2,eB⟩:∃w2,w2=(w.alloc (.cells o.cells.toArray 41)).alloc (.cells bR 30):=⟨_,rfl⟩;have dy:Fr aR w w2:=by rw[eB];exact((ae aR w).alloc _).alloc _
 have k1:w2.heap[w.heap.size]?=some (.cells o.cells.toArray 41 (0,0)):=by rw[eB];exact((ae aR _).alloc _).keep (aB _ _) id
 have k2:w2.heap[w.heap.size+1]?=some (.cells bR 30 (0,0)):=by
  have h:=aB (w.alloc (.cells o.cells.toArray 41)) (.cells bR 30);rw[bM]at h;rw[eB];exact h
 have tP:=O (lA o hs w2 (hf.dh dy));have HH:=O (h.dh dy);have HF:=O (hf.dh dy);have lS:=O gV;have HI:=O hi;have fO:=O dy;have mP:=O k1;have qR:=O k2;have pj:=O (show base<=w.heap.size from ab);have xG:=O oF;have o9:=O uW;have Ss:=O tN;have Sr:=O (tO.trans dy);have Yx:=O sG;rw[eB]at k1;rw[eA gV]at eB tP k1 ⊢;unfold bR at eB k1;have nJ:=O eB;have vS:=O k1;clear eB gV dy k1 k2 h hf hi tN sG tO
 obtain⟨i,vW,AQ⟩:∃i:Nat,o.aL.part=(i:Int)/\i<4:=by
  obtain⟨h0,h1⟩:=iM hr;have TY:0<=o.aL.part:=h0;have IQ:o.aL.part<4:=h1;exact⟨o.aL.part.toNat,ab,ab⟩
 have Nd:(i:Int)<4:=ab;have qD:¬(i:Int)<0:=ab;have NP:¬(4:Int)<=(i:Int):=ab;have Lf:(0:Int)<=(i:Int):=ab;have tz:=O AQ;have AR:=O vW;obtain⟨r,CC⟩:∃r,r=gP (x.part i) x.now (o.dS hs):=⟨_,rfl⟩;have HR:=O (show iC x (o.dS hs)=(x.set i r.1,r.2)by rw[qw hr vW (by show o.what≠10;omega),CC,afb (show(o.dS hs).what=5 from hw)]);rw[hr]at tP
 have HM:=O (show∀U,Fr aR w2 U->Calls prog 34 #[.pointer (some ⟨B,i*3,none⟩),.agg o.cells.toArray,.int .i64 x.now] U (eF base U B (iP pv x.now) (i*3) (pv i) r)from fun U hU=>by
  have h:=Mk base U B (i*3) (iP pv x.now) (pv i) (x.part i) o hs x.now ((HH.o.dh hU).part i tz.o) ((HH.o.dh hU).partAt tz.o) xG.o (HF.o.dh hU) (HI.o.ok.part i) (Ss.o.pw.fr (Sr.o.trans hU)) HI.o.ok.now.1 HI.o.ok.now.2;rw[<-CC]at h;exact h)
 rw[eA lS.o]at HM
 have HC:=O (show∀U,Fr aR w2 U->(U.heap[w.heap.size]?=some (.cells #[.int .i64 o.what,.int .i64 o.aL.part,.bool o.aL.dm.aF,.string o.aL.dm.host,.int .i64 o.aL.dm.port,.bool o.aL.o.aF,.string o.aL.o.host,.int .i64 o.aL.o.port,.string o.aL.path,.string o.aL.query,.string o.aL.method,.slice ah hs.length ch,.bool o.aL.fU,.string o.aL.body,.bool o.proxy,.string o.text,.string o.user,.string o.pass,.string o.bP,.int .i64 o.cert,.bool o.all,.int .i64 o.n] 41 (0,0))/\U.cell? ⟨B,12,none⟩=some (.int .i64 x.now))from fun U hU=>by
  have j2:=(HH.o.dh hU).eI;exact⟨by rw[<-eA lS.o];exact hU.keep mP.o id,by simp only[World.cell?,j2];rfl⟩)
 have HW:=O hw;clear hr hw CC AQ vW;go_enter func14,ntmps14;go_wp2_with (first|((with_reducible refine cY 8 ?_);refine aH rfl 41 (.tmp 3) rfl w.heap.size rfl _ _ (0,0) _ vS.o underlying41 rfl af ?_)|fail)
 rw[<-nJ.o];refine tP.o.mono ?_;rintro e u⟨rfl,hu⟩;obtain⟨a0,a1,a2,a3,a4,a5,a6,a7,a8,a9,jI,jJ,a12,jH,jK,jr,jY,jZ,j5,kf,a20,a21⟩:=eh (hu.keep mP.o id) lS.o;rw[AR.o]at a1;clear a0 a2 a3 a4 a5 a6 a7 a8 a9 jI jJ a12 jH jK jr jY jZ j5 kf a20 a21;have qy:=O (show∀n,Fr aR w2 (u.drewN n)from fun n=>dz n hu);clear hu vS;go_wp2_with fail
 go_quiet (fail);clear a1;have mL:=qy.o nq;generalize u.drewN nq=u1 at mL ⊢;have tQ:=O mL;clear mL qy;have Fp:=O (tQ.o.keep mP.o id);rw[eA lS.o]at Fp;obtain⟨a0,a1,a2,a3,a4,a5,a6,a7,a8,a9,jI,jJ,a12,jH,jK,jr,jY,jZ,j5,kf,a20,a21⟩:=eh (tQ.o.keep mP.o id) lS.o;rw[AR.o]at a1;have xJ:=HW.o;rw[xJ]at a0;clear xJ;clear a1 a2 a3 a4 a5 a6 a7 a8 a9 jI jJ a12 jH jK jr jY jZ j5 kf a20 a21
 go_wp2_with fail
 refine wp_region_held_drew (S:=(fun U=>U.heap[w.heap.size]?=some (.cells #[.int .i64 o.what,.int .i64 o.aL.part,.bool o.aL.dm.aF,.string o.aL.dm.host,.int .i64 o.aL.dm.port,.bool o.aL.o.aF,.string o.aL.o.host,.int .i64 o.aL.o.port,.string o.aL.path,.string o.aL.query,.string o.aL.method,.slice ah hs.length ch,.bool o.aL.fU,.string o.aL.body,.bool o.proxy,.string o.text,.string o.user,.string o.pass,.string o.bP,.int .i64 o.cert,.bool o.all,.int .i64 o.n] 41 (0,0))/\U.cell? ⟨B,12,none⟩=some (.int .i64 x.now))) af (HC.o _ (aA tQ.o)) ?_
 intro zc;refine tkN 0 53 rfl ?_
 refine tT 1 54 rfl (fB bC 41 (.tmp 3) rfl w.heap.size 0 rfl [.int .i64 o.what,.int .i64 o.aL.part,.bool o.aL.dm.aF,.string o.aL.dm.host,.int .i64 o.aL.dm.port,.bool o.aL.o.aF,.string o.aL.o.host,.int .i64 o.aL.o.port,.string o.aL.path,.string o.aL.query,.string o.aL.method,.slice ah hs.length ch,.bool o.aL.fU,.string o.aL.body,.bool o.proxy,.string o.text,.string o.user,.string o.pass,.string o.bP,.int .i64 o.cert,.bool o.all,.int .i64 o.n] _ (fun U hU=>SM hU.1) underlying41 rfl af) ?_
 try simp only[Act.put,sA,sB,sC]
 refine tkN 2 55 rfl ?_
 refine tkN 3 56 rfl ?_
 refine tkN 4 57 rfl ?_
 refine tkN 5 58 rfl ?_
 refine eL 6 rfl fun K hK=>?_;go_simp;have tR:=aA tQ.o;refine(HM.o _ tR).mono ?_;rintro e u5⟨rfl,hp⟩;unfold kx.val;have Mc:=tR.keep qR.o id;have ph:=O (nY (HH.o.dh tR) tz.o hp Mc dH ab);have hko:=nY (HH.o.dh tR) tz.o hp (HC.o _ tR).1 jo ab;have HP:=O (show dk base w B pv (x.set i r.1) u5 from cF fO.o (cF tR (ky (HH.o.dh tR) tz.o hp)));have aaI:u5.cell? ⟨B,12,none⟩=some (.int .i64 x.now):=by
  obtain⟨v',_,_,_,h4⟩:=hp;rw[yP pv x.now tz.o]at h4;simp only[World.cell?,h4];rfl
 have HS5:=O (And.intro hko aaI);have HB5:=O (show B<u5.heap.size by obtain⟨v',_,_,_,h4⟩:=hp;exact bj h4);clear hp Mc tR HM hko aaI;refine hK.out _ _ HS5.o ?_;intro xz;clear hK zc K
 try simp only[Act.put,sA,sB,sC]
 refine eL 7 rfl fun K hK=>?_;refine jX rfl 30 (.tmp 4) (.tmp 59) rfl (w.heap.size+1) #[.int .i64 r.2.what,.string r.2.head,.int .i64 r.2.cert] rfl rfl 30 bR ph.o (bd _ rfl) rfl ct ?_;have cK:=(ae (one (w.heap.size+1)) u5).setRow (fun _=>rfl) #[.int .i64 r.2.what,.string r.2.head,.int .i64 r.2.cert]
 refine hK.out _ _ ⟨cK.keep HS5.o.1 (fun e=>by have e':w.heap.size=w.heap.size+1:=e;omega),(cK.cell (p:=⟨B,12,none⟩) HB5.o (fun e=>by have e':B=w.heap.size+1:=e;have:=o9.o;omega)).trans HS5.o.2⟩ ?_;intro Am;clear hK xz K Am cK
 try simp only[Act.put,sA,sB,sC]
 refine wpAnyH_done af ?_ _;go_wp2_with fail
 refine aS (bu bC _ _ (w.heap.size+1) 30 #[.int .i64 r.2.what,.string r.2.head,.int .i64 r.2.cert] (0,0) _ rfl (aX _ (w.heap.size+1) _ _ _ _ ph.o) underlying30 rfl (bd _ rfl)) rfl ?_;unfold j6;rw[HR.o];exact⟨rfl,ew HP.o pj.o o9.o (bU _) ph.o dH ag _⟩
def akt(w:World)(l:List (gz×Int))(o:gz)(i:Value)(wr:World):Prop :=
 ∃k:Nat,k<=l.length/\i=.int .i64 k/\(l.take k).find? (fun c=>c.1.ll o)=none/\Fr aR w wr
theorem SN(h:l[k]?=some c)(hn:(l.take k).find? (fun c=>c.1.ll o)=none)(hc:c.1.ll o=false):(l.take (k+1)).find? (fun c=>c.1.ll o)=none:=by
 rw[dW h,List.find?_append,hn];simp[hc]
theorem WX(h:l[k]?=some c)(hn:(l.take k).find? (fun c=>c.1.ll o)=none)(hc:c.1.ll o=true):l.find? (fun c=>c.1.ll o)=some c:=by
 have e:l=l.take (k+1)++l.drop (k+1):=(fM _ _).symm;rw[e,dW h,List.find?_append,List.find?_append,hn];simp[hc]
theorem aaU(base:Nat)(w:World)(B:Nat)(pv:Nat->cU)(x:dx)(o:jG)(hs:List gZ)(h:cz base w B pv x)(hf:gH w o hs)(hi:lh x)(a:World)(tN:kG a)(sG:a.heap.size<=base)(tO:Fr aR a w)(hr:(o.dS hs).right=true)(hw:o.what=6) :
  Calls prog 14 #[.pointer (some ⟨B,0,none⟩),.agg o.cells.toArray] w (j6 base w B pv (iC x (o.dS hs))):=by
 have uW:B<w.heap.size:=h.lt;have oF:=h.low;obtain⟨ah,ch,gV⟩:=hf.gX;obtain⟨w2,eB⟩:∃w2,w2=(w.alloc (.cells o.cells.toArray 41)).alloc (.cells bR 30):=⟨_,rfl⟩;have dy:Fr aR w w2:=by rw[eB];exact((ae aR w).alloc _).alloc _
 have k1:w2.heap[w.heap.size]?=some (.cells o.cells.toArray 41 (0,0)):=by rw[eB];exact((ae aR _).alloc _).keep (aB _ _) id
 have k2:w2.heap[w.heap.size+1]?=some (.cells bR 30 (0,0)):=by
  have h:=aB (w.alloc (.cells o.cells.toArray 41)) (.cells bR 30);rw[bM]at h;rw[eB];exact h
 have tP:=O (lA o hs w2 (hf.dh dy));have HH:=O (h.dh dy);have HF:=O (hf.dh dy);have lS:=O gV;have HI:=O hi;have fO:=O dy;have mP:=O k1;have qR:=O k2;have pj:=O (show base<=w.heap.size from ab);have xG:=O oF;have o9:=O uW;have Ss:=O tN;have Sr:=O (tO.trans dy);have Yx:=O sG;rw[eB]at k1;rw[eA gV]at eB tP k1 ⊢;unfold bR at eB k1;have nJ:=O eB;have vS:=O k1;clear eB gV dy k1 k2 h hf hi tN sG tO
 obtain⟨i,vW,AQ⟩:∃i:Nat,o.aL.part=(i:Int)/\i<4:=by
  obtain⟨h0,h1⟩:=iM hr;have TY:0<=o.aL.part:=h0;have IQ:o.aL.part<4:=h1;exact⟨o.aL.part.toNat,ab,ab⟩
 have Nd:(i:Int)<4:=ab;have qD:¬(i:Int)<0:=ab;have NP:¬(4:Int)<=(i:Int):=ab;have Lf:(0:Int)<=(i:Int):=ab;have tz:=O AQ;have AR:=O vW;have HR:=O (show iC x (o.dS hs)=(x,G5 (x.part i) (o.dS hs))by
  rw[qw hr vW (by show o.what≠10;omega),afc (show(o.dS hs).what=6 from hw),oY])
 rw[hr]at tP;obtain⟨l,hl⟩:∃l,l=(x.part i).dE:=⟨_,rfl⟩;obtain⟨cv,hcv⟩:∃cv,cv=(pv i).cv:=⟨_,rfl⟩;have mq:dV 4 w2 cv (l.map lo):=by rw[hl,hcv];exact(HH.o.part i tz.o).dE.at
 have hl8:l.length<=1000000:=by rw[hl];exact aD (HI.o.ok.part i).tG.2.2.2 ag
 obtain⟨av,cc,fI⟩:=mq.form;rw[ai]at fI;subst fI;have ap9:=O mq;have hpk:G5 (x.part i) (o.dS hs)=match l.find? (fun c=>c.1.ll o.aL.o)with|some c=>⟨1,.empty,c.2⟩|none=>rep 3:=by rw[hl];rfl
 rw[hpk]at HR;have xI:=O hcv;have HW:=O hw;clear hr hw AQ vW hl hpk mq hcv;go_enter func14,ntmps14;go_wp2_with (first|((with_reducible refine cY 8 ?_);refine aH rfl 41 (.tmp 3) rfl w.heap.size rfl _ _ (0,0) _ vS.o underlying41 rfl af ?_)|fail)
 rw[<-nJ.o];refine tP.o.mono ?_;rintro e u⟨rfl,hu⟩;obtain⟨a0,a1,a2,a3,a4,a5,a6,a7,a8,a9,jI,jJ,a12,jH,jK,jr,jY,jZ,j5,kf,a20,a21⟩:=eh (hu.keep mP.o id) lS.o;rw[AR.o]at a1;clear a0 a2 a3 a4 a5 a6 a7 a8 a9 jI jJ a12 jH jK jr jY jZ j5 kf a20 a21;have qy:=O (show∀n,Fr aR w2 (u.drewN n)from fun n=>dz n hu);clear hu vS;go_wp2_with fail
 go_quiet (fail);clear a1;have mL:=qy.o nq;generalize u.drewN nq=u1 at mL ⊢;have tQ:=O mL;clear mL qy;have Fp:=O (tQ.o.keep mP.o id);rw[eA lS.o]at Fp;obtain⟨a0,a1,a2,a3,a4,a5,a6,a7,a8,a9,jI,jJ,a12,jH,jK,jr,jY,jZ,j5,kf,a20,a21⟩:=eh (tQ.o.keep mP.o id) lS.o;rw[AR.o]at a1;have xJ:=HW.o;rw[xJ]at a0;clear xJ;clear a1 a2 a3 a4 a8 a9 jI jJ a12 jH jK jr jY jZ j5 kf a20 a21
 have HP1:=O (show u1.cell? ⟨B,i*3+2,none⟩=some (.slice av l.length cc)from by rw[xI.o];exact((HH.o.dh tQ.o).partAt tz.o).lV);have p1:=HP1.o;go_wp2_with fail
 go_loopw[67] (akt u1 l o.aL.o) (fun i _=>l.length-(intOf i).toNat)
 case atStart=>exact⟨0,aI _,rfl,rfl,ae _ _⟩
 case round =>
  obtain⟨k,hk,rfl,hn,cK⟩:=hrel;have HN:=O hn;have sx:=O (tQ.o.trans cK);have V3:=O cK;clear hn;by_cases eX:k<l.length
  ·have py:(k:Int)<(l.length:Int):=ab;rcases(ap9.o.fH sx.o).2 with ⟨_,_,_,e,_⟩|⟨bk,of,c,hf,h1,h2,h3,h4⟩
   ·have TH:=ar List.length e;rw[ai,List.length_nil]at TH;omega
   ·rw[ai]at hf;cases hf;rw[ai]at h1;unfold maxLen at h2;obtain⟨q,dN⟩:∃q,l[k]?=some q:=⟨_,List.getElem?_eq_getElem eX⟩;have hcell:=h4 k (lo q) (by rw[List.getElem?_map,dN];rfl);have Wt:=O dN;have lF:(lo q).length=4:=rfl;have heq:=jz q.1 o.aL.o;obtain⟨a0,a1,a2,a3,a4,a5,a6,a7,a8,a9,jI,jJ,a12,jH,jK,jr,jY,jZ,j5,kf,a20,a21⟩:=eh (sx.o.keep mP.o id) lS.o
    have HB8:=O (aB wr (.cells #[.bool q.1.aF,.string q.1.host,.int .i64 q.1.port,.int .i64 q.2] 97));have gS:Fr aR wr (wr.alloc (.cells #[.bool q.1.aF,.string q.1.host,.int .i64 q.1.port,.int .i64 q.2] 97)):=(ae aR wr).alloc _;have g5:=(gS.keep (sx.o.keep mP.o id) id);obtain⟨b0,b1,b2,b3,b4,b5,b6,b7,b8,b9,b10,b11,b12,b13,b14,b15,b16,b17,b18,b19,b20,b21⟩:=eh g5 lS.o
    have sD:=O (sx.o.trans gS);have mr:=O (V3.o.trans gS);have ph:=O (sD.o.keep qR.o id);clear h4 dN gS g5 a0 a1 a2 a3 a4 a5 a6 a7 a8 a9 jI jJ a12 jH jK jr jY jZ j5 kf a20 a21 b0 b1 b2 b3 b4 b8 b9 b10 b11 b12 b13 b14 b15 b16 b17 b18 b19 b20 b21 cK;unfold lo at hcell lF;cases hq:q.1.ll o.aL.o
    ·have Cx:=O (SN Wt.o HN.o hq);rw[hq]at heq;clear hq;go_wp2_with (first|((with_reducible refine cY 70 ?_);refine aU rfl 97 (.tmp 69) rfl bk (of+k*4) rfl _ _ hcell underlying97 rfl af ?_)|fail)
     go_roundw
     case rel=>exact⟨k+1,ab,a_,Cx.o,mr.o⟩
     case measure=>simp[intOf];omega
    ·have EO:=O (WX Wt.o HN.o hq);rw[EO.o]at HR;rw[hq]at heq;have HP:=O (show dk base w B pv x _ from cF fO.o (fu HH.o sD.o));clear hq
     go_wp2_with (first|((with_reducible refine cY 70 ?_);refine aU rfl 97 (.tmp 69) rfl bk (of+k*4) rfl _ _ hcell underlying97 rfl af ?_)|((with_reducible refine cV 30 ?_);refine aE rfl 30 (.tmp 4) (.tmp 80) rfl (w.heap.size+1) #[.int .i64 1,.string ⟨#[]⟩,.int .i64 q.2] rfl rfl _ bR ph.o (bd _ rfl) rfl ct ?_)|fail)
     refine aS (bu bC _ _ (w.heap.size+1) 30 #[.int .i64 1,.string ⟨#[]⟩,.int .i64 q.2] (0,0) _ rfl (aX _ (w.heap.size+1) _ _ _ _ ph.o) underlying30 rfl (bd _ rfl)) rfl ?_;unfold j6;rw[HR.o];exact⟨rfl,ew HP.o pj.o o9.o (bU _) ph.o dH ag _⟩
  ·have hke:k=l.length:=ab;subst hke;have HHN:=O (show l.find? (fun c=>c.1.ll o.aL.o)=none by have h:=HN.o;rw[List.take_length]at h;exact h);rw[HHN.o]at HR;have HP:=O (show dk base w B pv x wr from cF fO.o (fu HH.o sx.o));have ph:=O (sx.o.keep qR.o id);clear cK
   go_wp2_with (first|((with_reducible refine cV 30 ?_);refine aE rfl 30 (.tmp 4) (.tmp 82) rfl (w.heap.size+1) #[.int .i64 3,.string ⟨#[]⟩,.int .i64 0] rfl rfl _ bR ph.o (bd _ rfl) rfl ct ?_)|fail)
   refine aS (bu bC _ _ (w.heap.size+1) 30 #[.int .i64 3,.string ⟨#[]⟩,.int .i64 0] (0,0) _ rfl (aX _ (w.heap.size+1) _ _ _ _ ph.o) underlying30 rfl (bd _ rfl)) rfl ?_;unfold j6;rw[HR.o];exact⟨rfl,ew HP.o pj.o o9.o (bU _) ph.o dH ag _⟩
theorem SR(base:Nat)(w:World)(B:Nat)(pv:Nat->cU)(x:dx)(o:jG)(hs:List gZ)(h:cz base w B pv x)(hf:gH w o hs)(hi:lh x)(a:World)(tN:kG a)(sG:a.heap.size<=base)(tO:Fr aR a w)(hr:(o.dS hs).right=true)(hw:o.what=7) :
  Calls prog 14 #[.pointer (some ⟨B,0,none⟩),.agg o.cells.toArray] w (j6 base w B pv (iC x (o.dS hs))):=by
 have uW:B<w.heap.size:=h.lt;have oF:=h.low;obtain⟨ah,ch,gV⟩:=hf.gX;obtain⟨w2,eB⟩:∃w2,w2=(w.alloc (.cells o.cells.toArray 41)).alloc (.cells bR 30):=⟨_,rfl⟩;have dy:Fr aR w w2:=by rw[eB];exact((ae aR w).alloc _).alloc _
 have k1:w2.heap[w.heap.size]?=some (.cells o.cells.toArray 41 (0,0)):=by rw[eB];exact((ae aR _).alloc _).keep (aB _ _) id
 have k2:w2.heap[w.heap.size+1]?=some (.cells bR 30 (0,0)):=by
  have h:=aB (w.alloc (.cells o.cells.toArray 41)) (.cells bR 30);rw[bM]at h;rw[eB];exact h
 have tP:=O (lA o hs w2 (hf.dh dy));have HH:=O (h.dh dy);have HF:=O (hf.dh dy);have lS:=O gV;have HI:=O hi;have fO:=O dy;have mP:=O k1;have qR:=O k2;have pj:=O (show base<=w.heap.size from ab);have xG:=O oF;have o9:=O uW;have Ss:=O tN;have Sr:=O (tO.trans dy);have Yx:=O sG;rw[eB]at k1;rw[eA gV]at eB tP k1 ⊢;unfold bR at eB k1;have nJ:=O eB;have vS:=O k1;clear eB gV dy k1 k2 h hf hi tN sG tO
 obtain⟨i,vW,AQ⟩:∃i:Nat,o.aL.part=(i:Int)/\i<4:=by
  obtain⟨h0,h1⟩:=iM hr;have TY:0<=o.aL.part:=h0;have IQ:o.aL.part<4:=h1;exact⟨o.aL.part.toNat,ab,ab⟩
 have Nd:(i:Int)<4:=ab;have qD:¬(i:Int)<0:=ab;have NP:¬(4:Int)<=(i:Int):=ab;have Lf:(0:Int)<=(i:Int):=ab;have tz:=O AQ;have AR:=O vW;obtain⟨r,CC⟩:∃r,r=jR (x.part i) (o.dS hs):=⟨_,rfl⟩;have HR:=O (show iC x (o.dS hs)=(x.set i r.1,r.2)by rw[qw hr vW (by show o.what≠10;omega),CC,afd (show(o.dS hs).what=7 from hw)]);rw[hr]at tP
 have HM:=O (show∀U,Fr aR w2 U->Calls prog 35 #[.pointer (some ⟨B,i*3,none⟩),.agg o.cells.toArray] U (eF base U B (iP pv x.now) (i*3) (pv i) r)from fun U hU=>by
  have h:=O2 base U B (i*3) (iP pv x.now) (pv i) (x.part i) o hs ((HH.o.dh hU).part i tz.o) ((HH.o.dh hU).partAt tz.o) xG.o (HF.o.dh hU) (HI.o.ok.part i);rw[<-CC]at h;exact h)
 rw[eA lS.o]at HM;have HW:=O hw;clear hr hw CC AQ vW;go_enter func14,ntmps14;go_wp2_with (first|((with_reducible refine cY 8 ?_);refine aH rfl 41 (.tmp 3) rfl w.heap.size rfl _ _ (0,0) _ vS.o underlying41 rfl af ?_)|fail)
 rw[<-nJ.o];refine tP.o.mono ?_;rintro e u⟨rfl,hu⟩;obtain⟨a0,a1,a2,a3,a4,a5,a6,a7,a8,a9,jI,jJ,a12,jH,jK,jr,jY,jZ,j5,kf,a20,a21⟩:=eh (hu.keep mP.o id) lS.o;rw[AR.o]at a1;clear a0 a2 a3 a4 a5 a6 a7 a8 a9 jI jJ a12 jH jK jr jY jZ j5 kf a20 a21;have qy:=O (show∀n,Fr aR w2 (u.drewN n)from fun n=>dz n hu);clear hu vS;go_wp2_with fail
 go_quiet (fail);clear a1;have mL:=qy.o nq;generalize u.drewN nq=u1 at mL ⊢;have tQ:=O mL;clear mL qy;have Fp:=O (tQ.o.keep mP.o id);rw[eA lS.o]at Fp;obtain⟨a0,a1,a2,a3,a4,a5,a6,a7,a8,a9,jI,jJ,a12,jH,jK,jr,jY,jZ,j5,kf,a20,a21⟩:=eh (tQ.o.keep mP.o id) lS.o;rw[AR.o]at a1;have xJ:=HW.o;rw[xJ]at a0;clear xJ;clear a1 a2 a3 a4 a5 a6 a7 a8 a9 jI jJ a12 jH jK jr jY jZ j5 kf a20 a21
 go_wp2_with (first|((with_reducible refine cY 86 ?_);refine aH rfl 41 (.tmp 3) rfl w.heap.size rfl _ _ (0,0) _ Fp.o underlying41 rfl af ?_)|fail)
 have tR:=tQ.o;refine(HM.o _ tR).mono ?_;rintro e u5⟨rfl,hp⟩;unfold kx.val;have Mc:=tR.keep qR.o id;have ph:=O (nY (HH.o.dh tR) tz.o hp Mc dH ab);have HP:=O (show dk base w B pv (x.set i r.1) u5 from cF fO.o (cF tR (ky (HH.o.dh tR) tz.o hp)));clear hp Mc tR HM
 go_wp2_with (first|((with_reducible refine cV 30 ?_);refine aE rfl 30 (.tmp 4) (.tmp 87) rfl (w.heap.size+1) #[.int .i64 r.2.what,.string r.2.head,.int .i64 r.2.cert] rfl rfl _ bR ph.o (bd _ rfl) rfl ct ?_)|fail)
 refine aS (bu bC _ _ (w.heap.size+1) 30 #[.int .i64 r.2.what,.string r.2.head,.int .i64 r.2.cert] (0,0) _ rfl (aX _ (w.heap.size+1) _ _ _ _ ph.o) underlying30 rfl (bd _ rfl)) rfl ?_;unfold j6;rw[HR.o];exact⟨rfl,ew HP.o pj.o o9.o (bU _) ph.o dH ag _⟩
theorem cz.afw{base:Nat}{B:Nat}{pv:Nat->cU}{x:dx}(h:cz base w B pv x)(n:Int):cz base (w.setCell ⟨B,12,none⟩ (.int .i64 n)) B pv {x with now:=n}/\Fr (one B) w (w.setCell ⟨B,12,none⟩ (.int .i64 n)):=by
 have kJ:Fr (one B) w (w.setCell ⟨B,12,none⟩ (.int .i64 n)):=(ae (one B) w).setCell (p:=⟨B,12,none⟩) (fun _=>rfl) _;refine⟨⟨h.low,?_,fun i hi=>(h.part i hi).fr kJ h.R7 (fun k hk e=>h.Aj hi (by have e':k=B:=e;rw[<-e'];exact hk)),h.apart⟩,kJ⟩;rw[b_ h.eI 12 (.int .i64 n)];rfl
theorem QF(base:Nat)(w:World)(B:Nat)(pv:Nat->cU)(x:dx)(o:jG)(hs:List gZ)(h:cz base w B pv x)(hf:gH w o hs)(hi:lh x)(a:World)(tN:kG a)(sG:a.heap.size<=base)(tO:Fr aR a w)(hr:(o.dS hs).right=true)(hw:o.what=10) :
  Calls prog 14 #[.pointer (some ⟨B,0,none⟩),.agg o.cells.toArray] w (j6 base w B pv (iC x (o.dS hs))):=by
 have uW:B<w.heap.size:=h.lt;have oF:=h.low;obtain⟨ah,ch,gV⟩:=hf.gX;obtain⟨w2,eB⟩:∃w2,w2=(w.alloc (.cells o.cells.toArray 41)).alloc (.cells bR 30):=⟨_,rfl⟩;have dy:Fr aR w w2:=by rw[eB];exact((ae aR w).alloc _).alloc _
 have k1:w2.heap[w.heap.size]?=some (.cells o.cells.toArray 41 (0,0)):=by rw[eB];exact((ae aR _).alloc _).keep (aB _ _) id
 have k2:w2.heap[w.heap.size+1]?=some (.cells bR 30 (0,0)):=by
  have h:=aB (w.alloc (.cells o.cells.toArray 41)) (.cells bR 30);rw[bM]at h;rw[eB];exact h
 have tP:=O (lA o hs w2 (hf.dh dy));have HH:=O (h.dh dy);have HF:=O (hf.dh dy);have lS:=O gV;have HI:=O hi;have fO:=O dy;have mP:=O k1;have qR:=O k2;have pj:=O (show base<=w.heap.size from ab);have xG:=O oF;have o9:=O uW;have Ss:=O tN;have Sr:=O (tO.trans dy);have Yx:=O sG;rw[eB]at k1;rw[eA gV]at eB tP k1 ⊢;unfold bR at eB k1;have nJ:=O eB;have vS:=O k1;clear eB gV dy k1 k2 h hf hi tN sG tO
 obtain⟨i,vW,AQ⟩:∃i:Nat,o.aL.part=(i:Int)/\i<4:=by
  obtain⟨h0,h1⟩:=iM hr;have TY:0<=o.aL.part:=h0;have IQ:o.aL.part<4:=h1;exact⟨o.aL.part.toNat,ab,ab⟩
 have Nd:(i:Int)<4:=ab;have qD:¬(i:Int)<0:=ab;have NP:¬(4:Int)<=(i:Int):=ab;have Lf:(0:Int)<=(i:Int):=ab;have tz:=O AQ;have AR:=O vW;have JX:=O (show iC x (o.dS hs)=if o.n<0\/1099511627776-x.now<o.n then(x,rep 7)else({x with now:=x.now+o.n},rep 1)from rX hr hw);rw[hr]at tP;have n0:=HI.o.ok.now.1;have n1:=HI.o.ok.now.2;have on:=HF.o.n;have HW:=O hw;clear hr hw AQ vW;go_enter func14,ntmps14
 go_wp2_with (first|((with_reducible refine cY 8 ?_);refine aH rfl 41 (.tmp 3) rfl w.heap.size rfl _ _ (0,0) _ vS.o underlying41 rfl af ?_)|fail)
 rw[<-nJ.o];refine tP.o.mono ?_;rintro e u⟨rfl,hu⟩;obtain⟨a0,a1,a2,a3,a4,a5,a6,a7,a8,a9,jI,jJ,a12,jH,jK,jr,jY,jZ,j5,kf,a20,a21⟩:=eh (hu.keep mP.o id) lS.o;rw[AR.o]at a1;clear a0 a2 a3 a4 a5 a6 a7 a8 a9 jI jJ a12 jH jK jr jY jZ j5 kf a20 a21;have qy:=O (show∀n,Fr aR w2 (u.drewN n)from fun n=>dz n hu);clear hu vS;go_wp2_with fail
 go_quiet (fail);clear a1;have mL:=qy.o nq;generalize u.drewN nq=u1 at mL ⊢;have tQ:=O mL;clear mL qy;have Fp:=O (tQ.o.keep mP.o id);rw[eA lS.o]at Fp;obtain⟨a0,a1,a2,a3,a4,a5,a6,a7,a8,a9,jI,jJ,a12,jH,jK,jr,jY,jZ,j5,kf,a20,a21⟩:=eh (tQ.o.keep mP.o id) lS.o;rw[AR.o]at a1;have xJ:=HW.o;rw[xJ]at a0;clear xJ;clear a1 a2 a3 a4 a5 a6 a7 a8 a9 jI jJ a12 jH jK jr jY jZ j5 kf a20
 have p1:u1.cell? ⟨B,12,none⟩=some (.int .i64 x.now):=by
  have j2:=(HH.o.dh tQ.o).eI;simp only[World.cell?,j2];rfl
 have tW:=O (show∀n,Fr aR w2 (u1.drewN n)from fun n=>dz n tQ.o);by_cases hn:o.n<0
 ·have hd:decide (o.n<0)=true:=bf hn;have HR:=O (JX.o.trans (az (Or.inl hn)));go_wp2_with fail
  go_quiet (fail);have nv:=tW.o nq;generalize u1.drewN nq=u2 at nv ⊢;have ph:=O (nv.keep qR.o id);have HPS:=O (show dk base w B pv x u2 from cF fO.o (fu HH.o nv));go_wp2_with (first|((with_reducible refine cV 30 ?_);refine aE rfl 30 (.tmp 4) (.tmp 103) rfl (w.heap.size+1) #[.int .i64 7,.string ⟨#[]⟩,.int .i64 0] rfl rfl _ bR ph.o (bd _ rfl) rfl ct ?_)|fail)
  refine aS (bu bC _ _ (w.heap.size+1) 30 #[.int .i64 7,.string ⟨#[]⟩,.int .i64 0] (0,0) _ rfl (aX _ (w.heap.size+1) _ _ _ _ ph.o) underlying30 rfl (bd _ rfl)) rfl ?_;unfold j6;rw[HR.o];exact⟨rfl,ew HPS.o pj.o o9.o (bU _) ph.o dH ag _⟩
 ·have hd:decide (o.n<0)=false:=bh hn;by_cases hm:1099511627776-x.now<o.n
  ·have sV:decide (1099511627776-x.now<o.n)=true:=bf hm;have HR:=O (JX.o.trans (az (Or.inr hm)));go_wp2_with fail
   go_quiet (fail);have nv:=tW.o nq;generalize u1.drewN nq=u2 at nv ⊢;have ph:=O (nv.keep qR.o id);have HPS:=O (show dk base w B pv x u2 from cF fO.o (fu HH.o nv));go_wp2_with (first|((with_reducible refine cV 30 ?_);refine aE rfl 30 (.tmp 4) (.tmp 103) rfl (w.heap.size+1) #[.int .i64 7,.string ⟨#[]⟩,.int .i64 0] rfl rfl _ bR ph.o (bd _ rfl) rfl ct ?_)|fail)
   refine aS (bu bC _ _ (w.heap.size+1) 30 #[.int .i64 7,.string ⟨#[]⟩,.int .i64 0] (0,0) _ rfl (aX _ (w.heap.size+1) _ _ _ _ ph.o) underlying30 rfl (bd _ rfl)) rfl ?_;unfold j6;rw[HR.o];exact⟨rfl,ew HPS.o pj.o o9.o (bU _) ph.o dH ag _⟩
  ·have sV:decide (1099511627776-x.now<o.n)=false:=bh hm;have HR:=O (JX.o.trans (aq ab));go_wp2_with fail
   go_quiet (fail);have nv:=tW.o nq;generalize u1.drewN nq=u2 at nv ⊢;have ph:=O (nv.keep qR.o id);have HPS:=O (show dk base w B pv x u2 from cF fO.o (fu HH.o nv));go_wp2_with fail
   have q1:u2.cell? ⟨B,12,none⟩=some (.int .i64 x.now):=by
    have j2:=(HH.o.dh nv).eI;simp only[World.cell?,j2];rfl
   have q2:u2.frozen? ⟨B,12,none⟩=false:=by
    have j2:=(HH.o.dh nv).eI;simp[World.frozen?,j2]
   obtain⟨a0,a1,a2,a3,a4,a5,a6,a7,a8,a9,jI,jJ,a12,jH,jK,jr,jY,jZ,j5,kf,a20,a21⟩:=eh (nv.keep mP.o id) lS.o;clear a0 a1 a2 a3 a4 a5 a6 a7 a8 a9 jI jJ a12 jH jK jr jY jZ j5 kf a20;have g1: -9223372036854775808<=x.now+o.n:=ab;have g2:x.now+o.n<=9223372036854775807:=ab
   go_region
   obtain⟨Cp,MX⟩:=(HH.o.dh nv).afw (x.now+o.n);have hWP:dk base u2 B pv {x with now:=x.now+o.n} (u2.setCell ⟨B,12,none⟩ (.int .i64 (x.now+o.n))):=⟨pv,Cp,MX.mono (fun k _ e=>Or.inl e),fun k hk=>Or.inl hk⟩;have HP:=O (show dk base w B pv {x with now:=x.now+o.n} _ from cF fO.o (cF nv (hWP.then (aA (ae aR _)))))
   have PX:=O (show((u2.setCell ⟨B,12,none⟩ (.int .i64 (x.now+o.n))).drew).heap[w.heap.size+1]?=_ from MX.keep ph.o (fun e=>by have e':w.heap.size+1=B:=e;have:=o9.o;omega));clear Cp MX hWP q1 q2 a21;go_wp2_with (first|((with_reducible refine cV 30 ?_);refine aE rfl 30 (.tmp 4) (.tmp 113) rfl (w.heap.size+1) #[.int .i64 1,.string ⟨#[]⟩,.int .i64 0] rfl rfl _ bR PX.o (bd _ rfl) rfl ct ?_)|fail)
   refine aS (bu bC _ _ (w.heap.size+1) 30 #[.int .i64 1,.string ⟨#[]⟩,.int .i64 0] (0,0) _ rfl (aX _ (w.heap.size+1) _ _ _ _ PX.o) underlying30 rfl (bd _ rfl)) rfl ?_;unfold j6;rw[HR.o];exact⟨rfl,ew HP.o pj.o o9.o (bU _) PX.o dH ag _⟩
theorem aaW(base:Nat)(w:World)(B:Nat)(pv:Nat->cU)(x:dx)(o:jG)(hs:List gZ)(h:cz base w B pv x)(hf:gH w o hs)(hi:lh x)(a:World)(tN:kG a)(sG:a.heap.size<=base)(tO:Fr aR a w)(hr:(o.dS hs).right=true)(hw:o.what=8\/o.what=9) :
  Calls prog 14 #[.pointer (some ⟨B,0,none⟩),.agg o.cells.toArray] w (j6 base w B pv (iC x (o.dS hs))):=by
 have uW:B<w.heap.size:=h.lt;have oF:=h.low;obtain⟨ah,ch,gV⟩:=hf.gX;obtain⟨w2,eB⟩:∃w2,w2=(w.alloc (.cells o.cells.toArray 41)).alloc (.cells bR 30):=⟨_,rfl⟩;have dy:Fr aR w w2:=by rw[eB];exact((ae aR w).alloc _).alloc _
 have k1:w2.heap[w.heap.size]?=some (.cells o.cells.toArray 41 (0,0)):=by rw[eB];exact((ae aR _).alloc _).keep (aB _ _) id
 have k2:w2.heap[w.heap.size+1]?=some (.cells bR 30 (0,0)):=by
  have h:=aB (w.alloc (.cells o.cells.toArray 41)) (.cells bR 30);rw[bM]at h;rw[eB];exact h
 have tP:=O (lA o hs w2 (hf.dh dy));have HH:=O (h.dh dy);have HF:=O (hf.dh dy);have lS:=O gV;have HI:=O hi;have fO:=O dy;have mP:=O k1;have qR:=O k2;have pj:=O (show base<=w.heap.size from ab);have xG:=O oF;have o9:=O uW;have Ss:=O tN;have Sr:=O (tO.trans dy);have Yx:=O sG;rw[eB]at k1;rw[eA gV]at eB tP k1 ⊢;unfold bR at eB k1;have nJ:=O eB;have vS:=O k1;clear eB gV dy k1 k2 h hf hi tN sG tO
 obtain⟨i,vW,AQ⟩:∃i:Nat,o.aL.part=(i:Int)/\i<4:=by
  obtain⟨h0,h1⟩:=iM hr;have TY:0<=o.aL.part:=h0;have IQ:o.aL.part<4:=h1;exact⟨o.aL.part.toNat,ab,ab⟩
 have Nd:(i:Int)<4:=ab;have qD:¬(i:Int)<0:=ab;have NP:¬(4:Int)<=(i:Int):=ab;have Lf:(0:Int)<=(i:Int):=ab;have tz:=O AQ;have AR:=O vW;obtain⟨r,CC⟩:∃r,r=pA (x.part i) (o.dS hs):=⟨_,rfl⟩;have HR:=O (show iC x (o.dS hs)=(x.set i r.1,r.2)by rw[qw hr vW (by show o.what≠10;omega),CC,Wx (show(o.dS hs).what=8\/(o.dS hs).what=9 from hw)]);rw[hr]at tP
 have HM:=O (show∀U,Fr aR w2 U->Calls prog 36 #[.pointer (some ⟨B,i*3,none⟩),.agg o.cells.toArray] U (eF base U B (iP pv x.now) (i*3) (pv i) r)from fun U hU=>by
  have h:=W7 base U B (i*3) (iP pv x.now) (pv i) (x.part i) o hs ((HH.o.dh hU).part i tz.o) ((HH.o.dh hU).partAt tz.o) xG.o (HF.o.dh hU) (HI.o.ok.part i);rw[<-CC]at h;exact h)
 rw[eA lS.o]at HM;have HW:=O hw;clear hr hw CC AQ vW;go_enter func14,ntmps14;go_wp2_with (first|((with_reducible refine cY 8 ?_);refine aH rfl 41 (.tmp 3) rfl w.heap.size rfl _ _ (0,0) _ vS.o underlying41 rfl af ?_)|fail)
 rw[<-nJ.o];refine tP.o.mono ?_;rintro e u⟨rfl,hu⟩;obtain⟨a0,a1,a2,a3,a4,a5,a6,a7,a8,a9,jI,jJ,a12,jH,jK,jr,jY,jZ,j5,kf,a20,a21⟩:=eh (hu.keep mP.o id) lS.o;rw[AR.o]at a1;clear a0 a2 a3 a4 a5 a6 a7 a8 a9 jI jJ a12 jH jK jr jY jZ j5 kf a20 a21;have qy:=O (show∀n,Fr aR w2 (u.drewN n)from fun n=>dz n hu);clear hu vS;go_wp2_with fail
 go_quiet (fail);clear a1;have mL:=qy.o nq;generalize u.drewN nq=u1 at mL ⊢;have tQ:=O mL;clear mL qy;have Fp:=O (tQ.o.keep mP.o id);rw[eA lS.o]at Fp;obtain⟨a0,a1,a2,a3,a4,a5,a6,a7,a8,a9,jI,jJ,a12,jH,jK,jr,jY,jZ,j5,kf,a20,a21⟩:=eh (tQ.o.keep mP.o id) lS.o;rw[AR.o]at a1;have xJ:=HW.o
 have hne:(o.what==1)=false/\(o.what==2)=false/\(o.what==3)=false/\(o.what==4)=false/\(o.what==5)=false/\(o.what==6)=false/\(o.what==7)=false/\(o.what==10)=false:=by
  refine⟨?_,?_,?_,?_,?_,?_,?_,?_⟩<;>(rw[aN];omega)
 obtain⟨n1,n2,n3,n4,n5,n6,n7,n10⟩:=hne;have m1:¬o.what=1:=ab;have m2:¬o.what=2:=ab;have m3:¬o.what=3:=ab;have m4:¬o.what=4:=ab;have m5:¬o.what=5:=ab;have m6:¬o.what=6:=ab;have m7:¬o.what=7:=ab;have m10:¬o.what=10:=ab;clear xJ;clear a1 a2 a3 a4 a5 a6 a7 a8 a9 jI jJ a12 jH jK jr jY jZ j5 kf a20 a21
 go_wp2_with (first|((with_reducible refine cY 115 ?_);refine aH rfl 41 (.tmp 3) rfl w.heap.size rfl _ _ (0,0) _ Fp.o underlying41 rfl af ?_)|fail)
 have tR:=tQ.o;refine(HM.o _ tR).mono ?_;rintro e u5⟨rfl,hp⟩;unfold kx.val;have Mc:=tR.keep qR.o id;have ph:=O (nY (HH.o.dh tR) tz.o hp Mc dH ab);have HP:=O (show dk base w B pv (x.set i r.1) u5 from cF fO.o (cF tR (ky (HH.o.dh tR) tz.o hp)));clear hp Mc tR HM
 go_wp2_with (first|((with_reducible refine cV 30 ?_);refine aE rfl 30 (.tmp 4) (.tmp 116) rfl (w.heap.size+1) #[.int .i64 r.2.what,.string r.2.head,.int .i64 r.2.cert] rfl rfl _ bR ph.o (bd _ rfl) rfl ct ?_)|fail)
 refine aS (bu bC _ _ (w.heap.size+1) 30 #[.int .i64 r.2.what,.string r.2.head,.int .i64 r.2.cert] (0,0) _ rfl (aX _ (w.heap.size+1) _ _ _ _ ph.o) underlying30 rfl (bd _ rfl)) rfl ?_;unfold j6;rw[HR.o];exact⟨rfl,ew HP.o pj.o o9.o (bU _) ph.o dH ag _⟩
theorem step1(h:(t.tab n).does=1):stepT t n=({(t.put n {t.tab n with seen:=t.w,num:=t.num,does:=2})with steps:=t.steps+1},rep 0,false):=by unfold stepT;rw[az h]
theorem step2(h:(t.tab n).does=2):stepT t n=({(t.put n {t.tab n with dI:=(iC (t.tab n).seen (t.tab n).op).2,seen:=(iC (t.tab n).seen (t.tab n).op).1,does:=3})with steps:=t.steps+1},rep 0,false):=by unfold stepT;rw[aq ab,az h]
theorem akO(h:(t.tab n).does=3):stepT t n=iT {t with steps:=t.steps+1} n:=by unfold stepT;rw[aq ab,aq ab]
