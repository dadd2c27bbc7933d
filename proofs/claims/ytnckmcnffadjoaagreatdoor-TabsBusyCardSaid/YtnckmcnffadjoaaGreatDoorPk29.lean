/- Lemmas for the law's walk. -/
import Derived.Test.YtnckmcnffadjoaaGreatDoorPk26
import Derived.Test.YtnckmcnffadjoaaGreatDoorPk27
set_option maxRecDepth 100000
set_option maxHeartbeats 16000000
set_option linter.unusedSimpArgs false
namespace Go.Proofs.YtnckmcnffadjoaaGreatDoor
open Go.Proofs.Tryz
open Go.RowKit
variable {base b n i B:Nat} {w w':World} {t:fD} {v:Value} {c:Array Value} {p:dM} {x:dx} {o:iz}
theorem nC.one{gv wv:Value}{gs:List (aP bD)}{u:List (bI bD)×Option (bI bD)}{e:Ending}(h:nC base w b gv wv gs u e w') :
  kF base w b gv wv gs u.1 w'/\∃X:Array Value,e=.returned (.tuple #[.agg X,.bool u.2.isSome])/\X.size=13/\X.all (·.oneCell')=true/\∀x,u.2=some x->∃r:bI Value,X=r.cells.toArray/\r.Reads (dr base w') x:=by
 obtain⟨h1,h2⟩:=h;refine⟨h1,?_⟩;cases hu:u.2 with
 |none=>rw[hu]at h2;exact⟨wS,h2,rfl,Qp,fun x hx=>by cases hx⟩
 |some g =>
  rw[hu]at h2;obtain⟨r,e1,e2,e3⟩:=h2;exact⟨r.cells.toArray,e1,rfl,bW e3,fun x hx=>by cases hx;exact⟨r,rfl,e2⟩⟩
theorem Mp{X:Array Value}(h:X.size=13):(prog.info? 133).map (·.size)=some X.size:=by rw[h];kernel_rfl
def AnJ(base:Nat)(w2:World)(B off:Nat)(cs:List Value)(v:cU)(p:dM)(x:Option (bI bD))(n:Nat)(X:Array Value)(W:World):Prop :=
 tu base w2 B off cs v p n X 133 W/\∀g,x=some g->∃r:bI Value,X=r.cells.toArray/\r.Reads (dr base W) g
theorem Jm(base:Nat)(w:World)(B off:Nat)(cs:List Value)(v:cU)(p:dM)(o:jG)(hs:List gZ)(h:eP base w v p)(ha:gT w B cs off v)(oF:base<=B)(hf:gH w o hs)(hk:nr p)(hwp:∀x∈p.waits,x.path.size<=5000) :
  Calls prog 32 #[.pointer (some ⟨B,off,none⟩),.agg o.cells.toArray] w (eF base w B cs off v (fV p (o.dS hs))):=by
 have uW:B<w.heap.size:=bj ha.eI;have Hf:¬v.ke B:=h.fg ha.eI ag;obtain⟨ah,ch,gV⟩:=hf.gX;obtain⟨w2,eB⟩:∃w2,w2=(w.alloc (.cells o.cells.toArray 41)).alloc (.cells bR 30):=⟨_,rfl⟩;have dy:Fr aR w w2:=by rw[eB];exact((ae aR w).alloc _).alloc _
 have k1:w2.heap[w.heap.size]?=some (.cells o.cells.toArray 41 (0,0)):=by rw[eB];exact((ae aR _).alloc _).keep (aB _ _) id
 have k2:w2.heap[w.heap.size+1]?=some (.cells bR 30 (0,0)):=by
  have h:=aB (w.alloc (.cells o.cells.toArray 41)) (.cells bR 30);rw[bM]at h;rw[eB];exact h
 have xD:w2.heap.size=w.heap.size+2:=by rw[eB];simp
 have Wp:=O (show∀U,Fr aR w2 U->U.heap[w.heap.size]?=some (.cells o.cells.toArray 41 (0,0))from fun U hU=>hU.keep k1 id);have C5:=O Hf;have HH:=O h;have HA:=O ha;have HF:=O hf;have lS:=O gV;have HK:=O hk;have fO:=O dy;have mP:=O k1;have qR:=O k2;have pj:=O (show base<=w.heap.size from ab);have xG:=O oF;have o9:=O uW;have Se:=O eB
 obtain⟨a0,a1,a2,a3,a4,a5,a6,a7,a8,a9,jI,jJ,a12,jH,jK,jr,jY,jZ,j5,kf,a20,a21⟩:=eh k1 gV;rw[eB]at a0 a1 a2 a3 a4 a5 a6 a7 a8 a9 jI jJ a12 jH jK jr jY jZ j5 kf a20 a21;rw[eA gV]at eB a0 a1 a2 a3 a4 a5 a6 a7 a8 a9 jI jJ a12 jH jK jr jY jZ j5 kf a20 a21 ⊢;unfold bR at eB a0 a1 a2 a3 a4 a5 a6 a7 a8 a9 jI jJ a12 jH jK jr jY jZ j5 kf a20 a21;have nJ:=O eB;clear eB gV dy k1 k2 h ha hf Hf hk
 go_enter func32,ntmps32;have Su:=HK.o.tG;have HC:=O (show∀U,Fr (dt v.b v.gv v.wv) w2 U->(U.cell? ⟨B,off,none⟩=some (.pointer (some ⟨v.b,0,none⟩))/\U.cell? ⟨w.heap.size,5,none⟩=some (.bool o.aL.o.aF)/\U.cell? ⟨w.heap.size,6,none⟩=some (.string o.aL.o.host)/\U.cell? ⟨w.heap.size,7,none⟩=some (.int .i64 o.aL.o.port)/\U.cell? ⟨w.heap.size,14,none⟩=some (.bool o.proxy))from fun U hU=>by
  have j1:=(HA.o.dh fO.o).fr hU (fun hb=>C5.o (Or.inl hb));have j2:=hU.keep mP.o (fun hb=>(HH.o.dh fO.o).fg mP.o jo (Or.inl hb));obtain⟨a0,a1,a2,a3,a4,a5,a6,a7,a8,a9,jI,jJ,a12,jH,jK,jr,jY,jZ,j5,kf,a20,a21⟩:=eh j2 lS.o;exact⟨j1.cell0,a5,a6,a7,jK⟩)
 have Q5:=O (show∀U,Fr aR w2 U->Calls prog 59 #[.pointer (some ⟨v.b,0,none⟩),.agg #[.bool o.aL.o.aF,.string o.aL.o.host,.int .i64 o.aL.o.port],.bool o.proxy] U (nC base U v.b v.gv v.wv p.bF (mj o.aL.o o.proxy p.waits))from fun U hU=>Lx base U v.b v.gv v.wv p.bF p.waits o.aL.o o.proxy ((HH.o.dh fO.o).dh hU).oC ab);have sJ:=nJ.o;go_wp2_with fail
 rw[<-sJ];clear a0 a1 a2 a3 a4 a5 a6 a7 a8 a9 jI jJ a12 jH jK jr jY jZ j5 kf a20 a21 sJ xD;have ako:=O (show base<=w2.heap.size from aD pj.o fO.o.size);have akp:=O (show B<w2.heap.size from cN o9.o fO.o.size);obtain⟨tk,htk⟩:∃tk,tk=mj o.aL.o o.proxy p.waits:=⟨_,rfl⟩;rw[<-htk]at Q5;have HTE:=O htk;clear htk;obtain⟨ok,Bf⟩:∃ok,ok=tk.2.isSome:=⟨_,rfl⟩;have NL:=O Bf;clear Bf
 apply V8 (P:=AnJ base w2 B off cs v {p with waits:=tk.1} tk.2)
 ·intro hJ;have HJ:=O hJ;clear hJ;refine wp_region_held_drew (S:=(fun U=>U.cell? ⟨B,off,none⟩=some (.pointer (some ⟨v.b,0,none⟩))/\U.cell? ⟨w.heap.size,5,none⟩=some (.bool o.aL.o.aF)/\U.cell? ⟨w.heap.size,6,none⟩=some (.string o.aL.o.host)/\U.cell? ⟨w.heap.size,7,none⟩=some (.int .i64 o.aL.o.port)/\U.cell? ⟨w.heap.size,14,none⟩=some (.bool o.proxy))) af (HC.o _ (aA (ae _ _))) ?_;intro zc
  refine tkN 0 8 rfl ?_
  refine tkN 1 9 rfl ?_
  refine tkN 2 10 rfl ?_
  refine tkN 3 11 rfl ?_
  refine tkN 4 12 rfl ?_
  refine tkN 5 13 rfl ?_
  refine tkN 6 14 rfl ?_
  refine tkN 7 15 rfl ?_
  refine tkN 8 16 rfl ?_
  refine tkN 9 17 rfl ?_
  refine EF 10 14 rfl rfl (fun K hK=>?_) fun K hK=>?_
  ·go_simp;refine(Q5.o _ (aA (ae _ _))).mono ?_;rintro e u3 L0;obtain⟨tK,X,rfl,Hg,L5,Ev⟩:=nC.one L0;rw[<-NL.o];have OE:=O tK;have HX:=O (And.intro Hg (And.intro L5 Ev));have wW:Fr (dt v.b v.gv v.wv) w2 u3:=(aA (ae _ _)).trans (by obtain⟨_,_,_,h,_⟩:=tK;exact h);have Bz:=O wW;clear L0 tK Hg L5 Ev wW;refine hK.out _ _ (HC.o _ Bz.o) ?_;intro xz;clear hK zc K
   try simp only[Act.put,sA,sB,sC]
   refine tkN 11 7 rfl ?_
   refine tkN 12 19 rfl ?_
   refine tkN 13 20 rfl ?_
   refine eL 14 rfl fun K hK=>?_;go_simp;obtain⟨n,hne⟩:∃n,n=u3.heap.size:=⟨_,rfl⟩;obtain⟨w4,qF⟩:∃w4,w4=u3.alloc (.cells wS 133):=⟨_,rfl⟩;have Wq:w4.heap[n]?=some (.cells wS 133 (0,0)):=by rw[qF,hne];exact aB _ _
   have kK:Fr (dt v.b v.gv v.wv) w2 w4:=by rw[qF];exact Bz.o.alloc _
   have HZ4:=O Wq;have jV:=O kK;have Oq:=O qF;have CN:=O hne;rw[<-qF, <-hne];clear qF hne Wq kK;refine hK.out _ _ (HC.o _ jV.o) ?_;intro Am;clear hK xz K
   try simp only[Act.put,sA,sB,sC]
   refine eL 15 rfl fun K hK=>?_;refine jX rfl 133 (.tmp 5) (.tmp 19) rfl n X rfl rfl 133 wS HZ4.o (Mp HX.o.1) HX.o.1.symm HX.o.2.1 ?_;obtain⟨W,hW⟩:∃W,W=w4.setRow n X:=⟨_,rfl⟩;have Ci:Fr (dt v.b v.gv v.wv) w2 W:=by rw[hW];exact iY jV.o (by rw[CN.o];exact Bz.o.size) _
   have hP:=tu.after (z:=wS) (cZ (aA (ae aR w2)) (eQ ((HH.o.dh fO.o).dh (aA (ae aR w2))) ((HA.o.dh fO.o).dh (aA (ae aR w2))) C5.o OE.o)) ako.o akp.o (t:=133) ag X;rw[<-Oq.o, <-CN.o, <-hW]at hP;rw[<-hW];refine hK.out _ _ (HC.o _ Ci) ?_;intro FP;clear hK Am K
   try simp only[Act.put,sA,sB,sC]
   refine tkN 16 6 rfl ?_
   clear FP;refine wpAnyH_done af ?_ _;exact HJ.o n X W ⟨hP.1,fun g hg=>by
    obtain⟨r,e1,e2⟩:=HX.o.2.2 g hg;exact⟨r,e1,e2.mono (fun v l h=>hP.2 v l h)⟩⟩
  ·go_simp;obtain⟨n,hne⟩:∃n,n=w2.heap.size:=⟨_,rfl⟩;obtain⟨w4,qF⟩:∃w4,w4=(w2.alloc (.cells wS 133)).drew:=⟨_,rfl⟩;have Wq:w4.heap[n]?=some (.cells wS 133 (0,0)):=by rw[qF,hne];exact aB w2 _
   have kK:Fr aR w2 w4:=by rw[qF];exact((ae _ _).alloc _).drew
   have HZ4:=O Wq;have jV:=O kK;have CN:=O (show w2.heap.size<=n from ab);rw[<-qF, <-hne];clear qF hne Wq kK;refine hK.out _ _ (HC.o _ (jV.o.mono (fun _ _ h=>absurd h id))) ?_;intro xz;clear hK zc K
   try simp only[Act.put,sA,sB,sC]
   refine eL 10 rfl fun K hK=>?_;go_simp;refine(Q5.o _ jV.o).mono ?_;rintro e u3 L0;obtain⟨tK,X,rfl,Hg,L5,Ev⟩:=nC.one L0;rw[<-NL.o];have OE:=O tK;have HX:=O (And.intro Hg (And.intro L5 Ev));have wW:Fr (dt v.b v.gv v.wv) w2 u3:=(jV.o.mono (fun _ _ h=>absurd h id)).trans (by obtain⟨_,_,_,h,_⟩:=tK;exact h)
   have UB:u3.heap[n]?=some (.cells wS 133 (0,0)):=(show Fr (dt v.b v.gv v.wv) w4 u3 by obtain⟨_,_,_,h,_⟩:=tK;exact h).keep HZ4.o (fun hb=>by have:=(HH.o.dh fO.o).jh (Or.inl hb);have:=CN.o;omega);have Bz:=O wW;have HZ3:=O UB;clear L0 tK Hg L5 Ev wW UB;refine hK.out _ _ (HC.o _ Bz.o) ?_;intro Am;clear hK xz K
   try simp only[Act.put,sA,sB,sC]
   refine tkN 11 7 rfl ?_
   refine tkN 12 19 rfl ?_
   refine tkN 13 20 rfl ?_
   refine eL 15 rfl fun K hK=>?_;refine jX rfl 133 (.tmp 5) (.tmp 19) rfl n X rfl rfl 133 wS HZ3.o (Mp HX.o.1) HX.o.1.symm HX.o.2.1 ?_;obtain⟨W,hW⟩:∃W,W=u3.setRow n X:=⟨_,rfl⟩;have Ci:Fr (dt v.b v.gv v.wv) w2 W:=by rw[hW];exact iY Bz.o CN.o _
   have hP:=tu.before (HH.o.dh fO.o) jV.o CN.o HZ4.o (eQ ((HH.o.dh fO.o).dh jV.o) ((HA.o.dh fO.o).dh jV.o) C5.o OE.o) ako.o akp.o ag X;rw[<-hW]at hP;rw[<-hW];refine hK.out _ _ (HC.o _ Ci) ?_;intro FP;clear hK Am K
   try simp only[Act.put,sA,sB,sC]
   refine tkN 16 6 rfl ?_
   clear FP;refine wpAnyH_done af ?_ _;exact HJ.o n X W ⟨hP.1,fun g hg=>by
    obtain⟨r,e1,e2⟩:=HX.o.2.2 g hg;exact⟨r,e1,e2.mono (fun v l h=>hP.2 v l h)⟩⟩
 ·intro n X W hj;obtain⟨⟨v1,i1,f1,Ch,Wr,hX,Ws,V9⟩,He⟩:=hj;have aa1:=iu (HA.o.dh fO.o) Wr;have o1:=eH (HH.o.dh fO.o) f1 mP.o jo ab;have r1:=eH (HH.o.dh fO.o) f1 qR.o dH ab;have I1:=O i1;have F1:=O f1;have FT1:=O Ch;have L7:=O aa1;have O1:=O o1;have R1:=O r1;have HXB:=O hX;have HNF:=O Ws;have HNA:=O V9;clear i1 f1 Ch aa1 o1 r1 Wr hX Ws V9 Q5 HC;cases SL:tk.2 with
  |none =>
   have rS:ok=false:=by rw[NL.o,SL];rfl
   have HR:=O (show fV p (o.dS hs)=({p with waits:=tk.1},rep 2)by
    unfold fV;rw[show mj (o.dS hs).o (o.dS hs).proxy p.waits=(tk.1,none)from by rw[<-SL];exact HTE.o.symm])
   have HP:=O (show di base w2 B cs off v {p with waits:=tk.1} W from⟨v1,I1.o,F1.o,FT1.o,L7.o.eI⟩);rw[rS];clear He SL NL HTE rS;go_wp2_with (first|((with_reducible refine cV 30 ?_);refine aE rfl 30 (.tmp 4) (.tmp 23) rfl (w.heap.size+1) #[.int .i64 2,.string ⟨#[]⟩,.int .i64 0] rfl rfl _ bR R1.o (bd _ rfl) rfl ct ?_)|fail)
   refine aS (bu bC _ _ (w.heap.size+1) 30 #[.int .i64 2,.string ⟨#[]⟩,.int .i64 0] (0,0) _ rfl (aX _ (w.heap.size+1) _ _ _ _ R1.o) underlying30 rfl (bd _ rfl)) rfl ?_;unfold eF;rw[HR.o];exact⟨rfl,dw (HP.o.after fO.o) pj.o o9.o (bU _) R1.o eK ag _⟩
  |some g =>
   have rS:ok=true:=by rw[NL.o,SL];rfl
   obtain⟨r,Ym,hr⟩:=He g SL;have hgm:g∈p.waits:=Br (o:=o.aL.o) (proxy:=o.proxy) (by rw[<-HTE.o];exact SL);have hgp:=hwp g hgm;have HR:=O (show fV p (o.dS hs)=({p with waits:=tk.1,bF:=vP p.bF ⟨g.o,g.proxy,o.user,o.pass,g.a,0,nX g.a g.proxy g.path⟩},rep 1)by
    unfold fV;rw[show mj (o.dS hs).o (o.dS hs).proxy p.waits=(tk.1,some g)from by rw[<-SL];exact HTE.o.symm];rfl)
   obtain⟨q1,q2,q3,q4⟩:=hr;have qa:=q4;obtain⟨e1,e2,e3,e4,e5,e6,e7,Bn⟩:=q4;obtain⟨ad,cd,xV⟩:=Bn.rd.form;have vt:X= #[.bool g.o.aF,.string g.o.host,.int .i64 g.o.port,.bool g.proxy,.string g.path,.int .i64 g.a.scheme,.string g.a.aK,.string g.a.bq,.string g.a.cj,.bool g.a.cy,.string g.a.eE,.bool g.a.cM,.slice ad g.a.dom.length cd]:=by
    rw[Ym];unfold bI.cells;rw[q1,q2,q3,e1,e2,e3,e4,e5,e6,e7,xV]
   rw[vt]at HXB;have akr:r.a.cells=[.int .i64 g.a.scheme,.string g.a.aK,.string g.a.bq,.string g.a.cj,.bool g.a.cy,.string g.a.eE,.bool g.a.cM,.slice ad g.a.dom.length cd]:=by unfold fK.cells;rw[e1,e2,e3,e4,e5,e6,e7,xV]
   have xi:=O (show∀U,Fr aR W U->Calls prog 60 #[.agg #[.int .i64 g.a.scheme,.string g.a.aK,.string g.a.bq,.string g.a.cj,.bool g.a.cy,.string g.a.eE,.bool g.a.cM,.slice ad g.a.dom.length cd],.bool g.proxy,.string g.path] U (rA base U (nX g.a g.proxy g.path))from fun U hU=>by
    have h:=RP base r.a g.a g.proxy g.path U (qa.mono (fun _ _ h=>h.dh hU)) ab;rw[akr]at h;exact h)
   have HPU:=O (show∀U lv,Fr aR W U->dr base U lv (nX g.a g.proxy g.path)->Calls prog 57 #[.pointer (some ⟨v1.b,0,none⟩),.agg #[.bool g.o.aF,.string g.o.host,.int .i64 g.o.port,.bool g.proxy,.string o.user,.string o.pass,.int .i64 g.a.scheme,.string g.a.aK,.string g.a.bq,.string g.a.cj,.bool g.a.cy,.string g.a.eE,.bool g.a.cM,.slice ad g.a.dom.length cd,.int .i64 0,lv]] U (IW base U v1.b v1.gv v1.wv (vP p.bF ⟨g.o,g.proxy,o.user,o.pass,g.a,0,nX g.a g.proxy g.path⟩) tk.1)from fun U lv hU hl=>by
    have h:=Qm base U v1.b v1.gv v1.wv p.bF tk.1 ⟨g.o,g.proxy,o.user,o.pass,r.a,0,lv⟩ ⟨g.o,g.proxy,o.user,o.pass,g.a,0,nX g.a g.proxy g.path⟩ (I1.o.dh hU).oC ⟨rfl,rfl,rfl,rfl,qa.mono (fun _ _ h=>h.dh hU),rfl,hl⟩ ab;unfold aP.cells at h;rw[e1,e2,e3,e4,e5,e6,e7,xV]at h;exact h)
   have HC:=O (show∀U,Fr (dt v1.b v1.gv v1.wv) W U->(U.cell? ⟨B,off,none⟩=some (.pointer (some ⟨v1.b,0,none⟩))/\U.cell? ⟨n,0,none⟩=some (.bool g.o.aF)/\U.cell? ⟨n,1,none⟩=some (.string g.o.host)/\U.cell? ⟨n,2,none⟩=some (.int .i64 g.o.port)/\U.cell? ⟨n,3,none⟩=some (.bool g.proxy)/\U.cell? ⟨n,4,none⟩=some (.string g.path)/\U.cell? ⟨n,5,none⟩=some (.int .i64 g.a.scheme)/\U.cell? ⟨n,6,none⟩=some (.string g.a.aK)/\U.cell? ⟨n,7,none⟩=some (.string g.a.bq)/\U.cell? ⟨n,8,none⟩=some (.string g.a.cj)/\U.cell? ⟨n,9,none⟩=some (.bool g.a.cy)/\U.cell? ⟨n,10,none⟩=some (.string g.a.eE)/\U.cell? ⟨n,11,none⟩=some (.bool g.a.cM)/\U.cell? ⟨n,12,none⟩=some (.slice ad g.a.dom.length cd)/\U.cell? ⟨w.heap.size,16,none⟩=some (.string o.user)/\U.cell? ⟨w.heap.size,17,none⟩=some (.string o.pass))from fun U hU=>by
    have j1:=L7.o.fr hU (fun hb=>I1.o.fg L7.o.eI ag (Or.inl hb));have j2:=hU.keep HXB.o (fun hb=>HNF.o (Or.inl hb));have j3:=hU.keep O1.o (fun hb=>I1.o.fg O1.o jo (Or.inl hb));obtain⟨a0,a1,a2,a3,a4,a5,a6,a7,a8,a9,jI,jJ,a12,jH,jK,jr,jY,jZ,j5,kf,a20,a21⟩:=eh j3 lS.o;refine⟨j1.cell0,?_,?_,?_,?_,?_,?_,?_,?_,?_,?_,?_,?_,?_,jY,jZ⟩<;>simp[World.cell?,j2])
   rw[rS];clear He SL NL HTE rS hgm hgp hwp qa q1 q2 q3 e1 e2 e3 e4 e5 e6 e7 Bn xV vt akr Ym;go_wp2_with fail
   go_region_held3 (fun U=>Fr (dt v1.b v1.gv v1.wv) W U/\U.cell? ⟨B,off,none⟩=some (.pointer (some ⟨v1.b,0,none⟩))/\U.cell? ⟨n,0,none⟩=some (.bool g.o.aF)/\U.cell? ⟨n,1,none⟩=some (.string g.o.host)/\U.cell? ⟨n,2,none⟩=some (.int .i64 g.o.port)/\U.cell? ⟨n,3,none⟩=some (.bool g.proxy)/\U.cell? ⟨n,4,none⟩=some (.string g.path)/\U.cell? ⟨n,5,none⟩=some (.int .i64 g.a.scheme)/\U.cell? ⟨n,6,none⟩=some (.string g.a.aK)/\U.cell? ⟨n,7,none⟩=some (.string g.a.bq)/\U.cell? ⟨n,8,none⟩=some (.string g.a.cj)/\U.cell? ⟨n,9,none⟩=some (.bool g.a.cy)/\U.cell? ⟨n,10,none⟩=some (.string g.a.eE)/\U.cell? ⟨n,11,none⟩=some (.bool g.a.cM)/\U.cell? ⟨n,12,none⟩=some (.slice ad g.a.dom.length cd)/\U.cell? ⟨w.heap.size,16,none⟩=some (.string o.user)/\U.cell? ⟨w.heap.size,17,none⟩=some (.string o.pass)) ((refine(fun hU=>⟨hU,HC.o _ hU⟩) ?_;first|exact aA (ae _ _)|assumption))
    ((first
     |(go_at_call 60;refine(xi.o _ (aA (ae _ _))).mono ?_;rintro e u5 ⟨lv,rfl,Bj,lG⟩;obtain⟨pa,pc,Ny⟩:=Bj.rd.form;subst Ny;have ur:Fr aR W u5:=(aA (ae _ _)).trans lG;have aks:Fr (dt v1.b v1.gv v1.wv) W u5:=ur.mono (fun _ _ h=>absurd h id))
     |(go_at_call 57;refine(HPU.o _ _ ur Bj).mono ?_;rintro e u6 ⟨rfl,Bk⟩;have FV:Fr (dt v1.b v1.gv v1.wv) W u6:=aks.trans (by obtain⟨_,_,_,h,_⟩:=Bk;exact h))))
   have Wv:=eQ (I1.o.dh ur) (L7.o.dh ur) (I1.o.fg L7.o.eI ag) Bk;have HP:=O (show di base w2 B cs off v {p with waits:=tk.1,bF:=vP p.bF ⟨g.o,g.proxy,o.user,o.pass,g.a,0,nX g.a g.proxy g.path⟩} u6 from gK F1.o FT1.o (cZ ur Wv));have r6:=O (eH (B:=B) I1.o (FV.mono (fun k _ hk=>Or.inr (Or.inl hk))) R1.o dH ab);clear Wv Bk FV aks ur Bj lG HC xi HPU
   go_wp2_with (first|((with_reducible refine cV 30 ?_);refine aE rfl 30 (.tmp 4) (.tmp 45) rfl (w.heap.size+1) #[.int .i64 1,.string ⟨#[]⟩,.int .i64 0] rfl rfl _ bR r6.o (bd _ rfl) rfl ct ?_)|fail)
   refine aS (bu bC _ _ (w.heap.size+1) 30 #[.int .i64 1,.string ⟨#[]⟩,.int .i64 0] (0,0) _ rfl (aX _ (w.heap.size+1) _ _ _ _ r6.o) underlying30 rfl (bd _ rfl)) rfl ?_;unfold eF;rw[HR.o];exact⟨rfl,dw (HP.o.after fO.o) pj.o o9.o (bU _) r6.o eK ag _⟩
structure mN (t:fD):Prop where
 low:0<=t.steps
 tab:∀n,(t.tab n).does≠0->1<=(t.tab n).gG/\(t.tab n).gG<=t.steps/\∀e∈t.cX,e.tab=n->e.fin<(t.tab n).gG
 ev:∀e∈t.cX,1<=e.gG/\e.gG<e.fin/\e.fin<=t.steps
 pw:t.cX.Pairwise (fun a b=>a.fin<b.fin/\(a.tab=b.tab->a.fin<b.gG))
theorem mN.new:mN sa:=⟨fG _,fun n h=>absurd rfl h,fun e h=>(by cases h),List.Pairwise.nil⟩
theorem mN.quiet{t':fD}(h:mN t)(hs:t'.cX=t.cX)(ht:t.steps<=t'.steps)(hn:∀n,(t'.tab n).does≠0->((t.tab n).does≠0/\(t'.tab n).gG=(t.tab n).gG)\/((t'.tab n).gG=t'.steps/\t.steps<t'.steps)):mN t':=by
 have hl:=h.low;refine⟨ab,fun n hd=>?_,fun e he=>?_,by rw[hs];exact h.pw⟩
 ·rw[hs];rcases hn n hd with ⟨g1,g2⟩|⟨g1,g2⟩
  ·obtain⟨a,b,c⟩:=h.tab n g1;rw[g2];exact⟨a,ab,c⟩
  ·rw[g1];exact⟨ab,fG _,fun e he _=>by have:=(h.ev e he).2.2;omega⟩
 ·rw[hs]at he;obtain⟨a,b,c⟩:=h.ev e he;exact⟨a,b,ab⟩
theorem mN.ends{t1:fD}(h:mN t)(hd:(t.tab n).does≠0)(h1:t1.cX=t.cX)(h2:t1.steps=t.steps+1)(h3:∀m,(t1.tab m).gG=(t.tab m).gG/\((t1.tab m).does≠0->(t.tab m).does≠0))(r:kx):mN (ja t1 n r):=by
 have hl:=h.low;obtain⟨b1,b2,b3⟩:=h.tab n hd;obtain⟨e0,he0,e1,e2,e3⟩:∃e0,(ja t1 n r).cX=t.cX++[e0]/\e0.tab=n/\e0.gG=(t.tab n).gG/\e0.fin=t.steps+1:=⟨_,by unfold ja;rw[h1],rfl,(h3 n).1,h2⟩;have jq:(ja t1 n r).steps=t.steps+1:=h2;refine⟨by rw[jq];omega,fun m hm=>?_,fun e he=>?_,?_⟩
 ·by_cases e:m=n
  ·subst e;rw[pd]at hm;exact absurd rfl hm
  ·rw[mM _ _ _ e]at hm ⊢;obtain⟨a,b,c⟩:=h.tab m ((h3 m).2 hm);rw[(h3 m).1,jq,he0];refine⟨a,ab,fun x hx hxt=>?_⟩;rcases bK.1 hx with hx|hx
   ·exact c x hx hxt
   ·rw[cE]at hx;subst hx;exact absurd (hxt.symm.trans e1) e
 ·rw[jq];rw[he0]at he;rcases bK.1 he with hx|hx
  ·obtain⟨a,b,c⟩:=h.ev e hx;exact⟨a,b,ab⟩
  ·rw[cE]at hx;subst hx;exact⟨ab,ab,ab⟩
 ·rw[he0];refine List.pairwise_append.2 ⟨h.pw,List.pairwise_singleton _ _,fun a ha b hb=>?_⟩;rw[cE]at hb;subst hb;have:=(h.ev a ha).2.2;exact⟨ab,fun e=>by rw[e2];exact b3 a ha (e.trans e1)⟩
theorem mN.step(h:mN t)(hd:(t.tab n).does≠0):mN (stepT t n).1:=by
 unfold stepT;split
 ·refine h.quiet rfl (by show t.steps<=t.steps+1;omega) (fun m hm=>Or.inl ?_);by_cases e:m=n
  ·subst e;exact⟨hd,by show((t.put m _).tab m).gG=_;rw[gi]⟩
  ·have Cr:((t.put n {t.tab n with seen:=t.w,num:=t.num,does:=2}).tab m).does≠0:=hm;rw[ix _ _ e]at Cr;exact⟨Cr,by show((t.put n _).tab m).gG=_;rw[ix _ _ e]⟩
 ·split
  ·refine h.quiet rfl (by show t.steps<=t.steps+1;omega) (fun m hm=>Or.inl ?_);by_cases e:m=n
   ·subst e;exact⟨hd,by show((t.put m _).tab m).gG=_;rw[gi]⟩
   ·have Cr:((t.put n {t.tab n with dI:=(iC (t.tab n).seen (t.tab n).op).2,seen:=(iC (t.tab n).seen (t.tab n).op).1,does:=3}).tab m).does≠0:=hm;rw[ix _ _ e]at Cr;exact⟨Cr,by show((t.put n _).tab m).gG=_;rw[ix _ _ e]⟩
  ·unfold iT;split
   ·split
    ·exact h.ends (t1:={t with steps:=t.steps+1,w:=_,num:=_}) hd rfl rfl (fun m=>⟨rfl,fun g=>g⟩) _
    ·exact h.ends (t1:={t with steps:=t.steps+1}) hd rfl rfl (fun m=>⟨rfl,fun g=>g⟩) _
   ·split
    ·refine h.quiet rfl (by show t.steps<=t.steps+1;omega) (fun m hm=>Or.inl ?_);by_cases e:m=n
     ·subst e;exact⟨hd,by show((fD.put _ m _).tab m).gG=_;rw[gi]⟩
     ·rw[ix _ _ e]at hm ⊢;exact⟨hm,rfl⟩
    ·refine h.ends (t1:=({t with steps:=t.steps+1}:fD).put n {t.tab n with fails:=(t.tab n).fails+1}) hd rfl rfl (fun m=>?_) _;by_cases e:m=n
     ·subst e;rw[gi];exact⟨rfl,fun g=>g⟩
     ·rw[ix _ _ e];exact⟨rfl,fun g=>g⟩
theorem mN.move(h:mN t)(m:Sz):mN (qT t m):=by
 unfold qT;split
 ·unfold yS;split
  ·split
   ·refine h.quiet rfl (by show t.steps<=t.steps+1;omega) (fun k hk=>?_);by_cases e:k=m.tab.toNat
    ·subst e;exact Or.inr ⟨by show((t.put _ _).tab _).gG=t.steps+1;rw[gi],by show t.steps<t.steps+1;omega⟩
    ·have NK:((t.put m.tab.toNat {fe with does:=1,op:=m.op,gG:=t.steps+1}).tab k).does≠0:=hk;rw[ix _ _ e]at NK;exact Or.inl ⟨NK,by show((t.put _ _).tab k).gG=_;rw[ix _ _ e]⟩
   ·exact h
  ·exact h
 ·split
  ·unfold nM;split
   ·split
    ·exact h
    ·refine h.quiet rfl (by show t.steps<=t.steps+1;omega) (fun k hk=>Or.inl ?_);by_cases e:k=m.tab.toNat
     ·subst e;exact absurd (by show((t.put _ fe).tab _).does=0;rw[gi];rfl) hk
     ·have NK:((t.put m.tab.toNat fe).tab k).does≠0:=hk;rw[ix _ _ e]at NK;exact⟨NK,by show((t.put _ _).tab k).gG=_;rw[ix _ _ e]⟩
   ·exact h
  ·split
   ·unfold lC;split
    ·split
     ·exact h
     ·rename_i hd;exact h.step hd
    ·exact h
   ·exact h
open Go.ChangeShapes Go.WideShapes Go.ChangeAt Go.RowKit Go.Deep
structure vn (w:World) (v:Value) (ms:List tA):Prop where
 rows:dV 24 w v (ms.map tA.cells)
 fit:∀m∈ms,gH w m.o m.hs
theorem vn.dh{ms:List tA}(h:vn w v ms)(hf:Fr aR w w'):vn w' v ms:=⟨bg h.rows hf,fun m hm=>(h.fit m hm).dh hf⟩
variable {H : Type} {enc : TypeId × Value → H} {W : World}
structure AI (w:World) (m:tA):Prop where
 op:vE w m.o m.hs
 kind:(Lit.int .i64 m.kind).wf=true
 tab:(Lit.int .i64 m.tab).wf=true
abbrev xf(w:World)(v:Value)(ms:List tA):Prop:=dV 24 w v (ms.map tA.cells)/\ms.length<=140737488355328/\∀m∈ms,AI w m
theorem MK:prog.cellsOf 66=24:=af
theorem akV{α:Type}{l:List α}(h:l.length=24):∃(a0 a1:α) (r:List α),l=a0 :: a1 :: r/\r.length=22:=by
 match l,h with
 |a0 :: a1 :: r,h=>exact⟨a0,a1,r,rfl,by simpa using h⟩
theorem abj{fuel:Nat}{cs:List Value}{x:DataW H×List MemPlace}(h:DataW.trod enc prog W 0 (fun _=>true) true fuel 66 cs=some x) :
  ∃b:tA,cs=b.cells/\cs.length=24/\(∀u∈cs,u.oneCell'=true)/\(pC prog 66 x.1->AI W b):=by
 obtain⟨hl,n,hf⟩:=n9 underlying66 h;rw[MK]at hl;obtain⟨c0,c1,cr,rfl,hcr⟩:=akV hl;obtain⟨y0,h0,l0⟩:=hf 0 3 0 _ rfl pV;obtain⟨y1,h1,l1⟩:=hf 1 3 1 _ rfl pV;obtain⟨y2,h2,l2⟩:=hf 2 41 2 _ rfl MJ;simp only[List.drop,List.take]at h0 h1 h2;rw[aC ab]at h2;obtain⟨b0,e0,w0⟩:=kI underlying3 h0;obtain⟨b1,e1,w1⟩:=kI underlying3 h1;obtain⟨b2,e2,_,o2,s2⟩:=abi h2;simp only[fE,iL]at e0 e1;subst e0 e1
 refine⟨⟨b0,b1,b2.1,b2.2⟩,by rw[e2];rfl,hl,fun u hu=>?_,fun hL=>⟨s2 (l2 hL),w0,w1⟩⟩;rcases bB.1 hu with rfl|hu
 ·rfl
 rcases bB.1 hu with rfl|hu
 ·rfl
 ·exact o2 u hu
instance:Inhabited tA:=⟨⟨0,0,(default:jG×List gZ).1,[]⟩⟩
theorem Cl{d:DataW H}{p:List MemPlace}(hv:Value.okWide prog W .any base 22 v)(h:DataW.Trod enc prog W 0 (fun _=>true) true 22 v d p)(hL:pC prog 22 d) :
  ∃ms:List tA,xf W v ms:=by
 obtain⟨a,len,cap,rfl⟩:=okWide_slice underlying22 hv;obtain⟨fuel,hf⟩:=h;obtain⟨v',css,bs,e,hr,hb,hs⟩:=EZ (Q:=fun cs (b:tA)=>cs=b.cells) (S:=fun b=>AI W b) underlying22 MK ag (by kernel_rfl:prog.bytesOf 66=288) abj hf;simp only[Value.cells,fE,iL]at e;subst e;rw[E0 hb]at hr;have h2:=hs hL;refine⟨bs,hr,?_,h2.2⟩;have hk:reachBytes=140737488351232:=rfl;have:=h2.1;omega
structure kG (w:World):Prop where
 Z3:xA w
 pw:wO w
theorem kG.fr(h:kG w)(hf:Fr aR w w'):kG w':=⟨h.Z3.fr hf,h.pw.fr hf⟩
def j6(base:Nat)(w:World)(B:Nat)(pv:Nat->cU)(r:dx×kx)(e:Ending)(w':World):Prop :=
 e=.returned r.2.val/\dk base w B pv r.1 w'
section
variable {base : Nat} {a w w' : World} {B : Nat} {pv : Nat → cU} {x : dx}
theorem dk.after(hf:Fr aR a w)(h:dk base w B pv x w'):dk base a B pv x w':=by
 obtain⟨yZ,h1,h2,h3⟩:=h;refine⟨yZ,h1,fX (S:=lz B pv) (hf.mono (fun _ _ h=>absurd h id)) h2 (fun _ _ h=>h),fun k hk=>?_⟩;rcases h3 k hk with h|h
 ·exact Or.inl h
 ·exact Or.inr (aD hf.size h)
theorem dk.then(h:dk base a B pv x w)(hf:Fr aR w w'):dk base a B pv x w':=by
 obtain⟨yZ,h1,h2,h3⟩:=h;exact⟨yZ,h1.dh hf,h2.step (T:=aR) hf (fun _ _ h=>absurd h id),h3⟩
theorem dk.row(h:dk base w B pv x w'){n:Nat}{old:Array Value}{t:TypeId}(oF:base<=w.heap.size)(hB:B<w.heap.size)(hn:w.heap.size<=n)(hr:w'.heap[n]?=some (.cells old t (0,0)))
  (ht:eR t)(hs:t≠9)(new:Array Value):dk base w B pv x (w'.setRow n new):=by
 obtain⟨yZ,h1,h2,h3⟩:=h;have kJ:Fr (one n) w' (w'.setRow n new):=(ae (one n) w').setRow (fun _=>rfl) _;have mU:sr base w' (one n):=by
  rintro k rfl _;exact⟨ab,fun c f e=>by rw[hr]at e;cases e;exact hs rfl⟩
 refine⟨yZ,h1.fr kJ mU (fun i hi e=>?_),h2.step kJ (fun k hk e=>?_),h3⟩
 ·have e':i=n:=e;subst e';rcases hi with rfl|⟨j,hj,hi⟩
  ·omega
  ·exact(h1.part j hj).fg hr ht hi
 ·have e':k=n:=e;omega
theorem nY(h:cz base w B pv x){t:TypeId}(hi:i<4)(hp:di base w B (iP pv x.now) (i*3) (pv i) p w')(hn:w.heap[n]?=some (.cells c t (0,0)))(ht:eR t)(hB:n≠B):w'.heap[n]?=some (.cells c t (0,0)):=by
 obtain⟨v',h1,h2,h3,h4⟩:=hp;exact eH (h.part i hi) h2 hn ht hB
end
theorem qw(hr:o.right=true)(hi:o.part=(i:Int))(hw:o.what≠10):iC x o=(x.set i (sF (x.part i) x.now o).1,(sF (x.part i) x.now o).2):=by
 rw[qt hr hw,hi];rfl
theorem Wx{n:Int}(h:o.what=8\/o.what=9):sF p n o=pA p o:=by
 unfold sF;rcases h with h|h<;>rw[h]<;>rfl
theorem cz.wX{pv:Nat->cU}(h:cz base w B pv x){t:TypeId}(hn:w.heap[n]?=some (.cells c t (0,0)))(ht:eR t)(hw:t≠86):¬lz B pv n:=fun hk=>by
 rcases hk with rfl|⟨i,hi,hk⟩
 ·rw[h.eI]at hn;cases hn;exact hw rfl
 ·exact(h.part i hi).fg hn ht hk
abbrev cF := @dk.after
abbrev ew := @dk.row
def CD(k:Nat):Value:=if k=0 then .nilIface else .iface 105 (.int .i64 k)
section
variable {U : World} {T B : Nat} {g : Nat → rp} {sv : Value} {t : fD}
theorem Ji{n:Int}(h:FU n=true):∃i:Nat,n=(i:Int)/\i<6:=by
 unfold FU at h;simp only[cD,dD]at h;exact⟨n.toNat,ab,ab⟩
theorem OL(U:World)(T:Nat)(hi:i<6) :
  Calls prog 42 #[.pointer (some ⟨T,0,none⟩),.int .i64 i] U fun e w'=>e=.returned (.tuple #[.pointer (some ⟨T,17+i*45,none⟩),.nilIface])/\w'=U:=by
 have h1:(i:Int)<6:=ab;have h0:¬(i:Int)<0:=ab;have h2:¬(6:Int)<=(i:Int):=ab;have h3:(0:Int)<=(i:Int):=ab;go_enter func42,ntmps42;go_wp2;go_ret2;exact⟨rfl,rfl⟩
theorem Jj(U:World)(T:Nat){n:Int}(hn:FU n=false) :
  Calls prog 42 #[.pointer (some ⟨T,0,none⟩),.int .i64 n] U fun e w'=>e=.returned (.tuple #[.pointer none,CD 2])/\w'=U:=by
 have hh:¬(0<=n/\n<6):=by
  intro hh;unfold FU at hn;simp[hh.1,hh.2]at hn
 clear hn;by_cases h0:n<0
 ·have h1:¬(0:Int)<=n:=ab;clear hh;go_enter func42,ntmps42;go_wp2;go_ret2;exact⟨rfl,rfl⟩
 ·have h1:(0:Int)<=n:=ab;have h4:(6:Int)<=n:=ab;have h5:¬n<6:=ab;clear hh;go_enter func42,ntmps42;go_wp2;go_ret2;exact⟨rfl,rfl⟩
end
def qU(n:Nat)(b:Int)(e:xK):Bool:=(cJ e.op).2&&(decide (e.dI.what≠6)&&(decide (b<e.fin)&&decide (e.tab≠n)))
def rq(l:List xK)(n:Nat)(b:Int):Nat:=(l.filter (qU n b)).length
theorem EX(l:List xK)(e:xK)(n:Nat)(b:Int):rq (l++[e]) n b=rq l n b+(if qU n b e then 1 else 0):=by
 unfold rq;rw[cC,aM];cases h:qU n b e<;>simp[h]
structure nt (t:fD):Prop where
 one:∀n,(t.tab n).does=1->(t.tab n).fails<=rq t.cX n (t.tab n).gG
 two:∀n,(t.tab n).does=2\/(t.tab n).does=3->∃c,(t.tab n).fails<=c/\c<=rq t.cX n (t.tab n).gG/\(c=rq t.cX n (t.tab n).gG->(t.tab n).num=t.num)
 ev:∀k e,t.cX[k]?=some e->e.dI.what=6->3<rq (t.cX.take k) e.tab e.gG
theorem nt.new:nt sa:=⟨fun n h=>(by cases h),fun n h=>(by rcases h with h|h<;>cases h),fun k e h=>(by cases h)⟩
theorem nt.quiet{t t':fD}(h:nt t)(hs:t'.cX=t.cX)(hn:t'.num=t.num)(m:Nat)(hm:∀n,n≠m->t'.tab n=t.tab n)
  (h1:(t'.tab m).does=1->(t'.tab m).fails<=rq t.cX m (t'.tab m).gG)(h2:(t'.tab m).does=2\/(t'.tab m).does=3->∃c,(t'.tab m).fails<=c/\c<=rq t.cX m (t'.tab m).gG/\(c=rq t.cX m (t'.tab m).gG->(t'.tab m).num=t.num)):nt t':=by
 refine⟨fun n hd=>?_,fun n hd=>?_,by rw[hs];exact h.ev⟩
 ·rw[hs];by_cases e:n=m
  ·subst e;exact h1 hd
  ·rw[hm n e]at hd ⊢; exact h.one n hd
 ·rw[hs,hn];by_cases e:n=m
  ·subst e;exact h2 hd
  ·rw[hm n e]at hd ⊢; exact h.two n hd
theorem nt.ends{t t':fD}{e0:xK}{m:Nat}(h:nt t)(hs:t'.cX=t.cX++[e0])(hm:∀n,n≠m->t'.tab n=t.tab n)(h0:(t'.tab m).does=0)
  (hb:e0.dI.what=6->3<rq t.cX e0.tab e0.gG)(hn:t'.num=t.num\/∀n,n≠m->(t.tab n).does≠0->qU n (t.tab n).gG e0=true):nt t':=by
 refine⟨fun n hd=>?_,fun n hd=>?_,fun k e he h6=>?_⟩
 ·by_cases e:n=m
  ·subst e;rw[h0]at hd;cases hd
  ·rw[hm n e]at hd ⊢;rw[hs,EX];have:=h.one n hd;omega
 ·by_cases e:n=m
  ·subst e;rw[h0]at hd;rcases hd with hd|hd<;>cases hd
  ·rw[hm n e]at hd ⊢;obtain⟨c,c1,c2,c3⟩:=h.two n hd;rw[hs,EX];refine⟨c,c1,ab,fun hc=>?_⟩;rcases hn with hn|hn
   ·rw[hn];refine c3 ?_;split at hc<;>omega
   ·have hz:(t.tab n).does≠0:=ab;rw[hn n e hz,az rfl]at hc;omega
 ·rw[hs]at he ⊢;rcases take_len _ _ he with ⟨g1,g2⟩|⟨_,rfl,g2⟩
  ·rw[g2];exact h.ev k e g1 h6
  ·rw[g2];exact hb h6
theorem abh{f g:Nat->Nat->Int}(h:f=g):vA o g=vA o f:=by rw[h]
theorem nt.step(h:nt t)(hi:ou t)(ho:mN t)(hd:(t.tab n).does=1\/(t.tab n).does=2\/(t.tab n).does=3):nt (stepT t n).1:=by
 unfold stepT;by_cases h1:(t.tab n).does=1
 ·rw[az h1];have e:({(t.put n {t.tab n with seen:=t.w,num:=t.num,does:=2})with steps:=t.steps+1}:fD).tab n={t.tab n with seen:=t.w,num:=t.num,does:=2}:=gi t n _;refine h.quiet rfl rfl n (fun m e=>ix t _ e) (fun g=>?_) (fun _=>?_)
  ·rw[e]at g;cases g
  ·rw[e];exact⟨_,h.one n h1,ay _,fun _=>rfl⟩
 rw[aq h1];by_cases h2:(t.tab n).does=2
 ·rw[az h2];have e:({(t.put n {t.tab n with dI:=(iC (t.tab n).seen (t.tab n).op).2,seen:=(iC (t.tab n).seen (t.tab n).op).1,does:=3})with steps:=t.steps+1}:fD).tab n={t.tab n with dI:=(iC (t.tab n).seen (t.tab n).op).2,seen:=(iC (t.tab n).seen (t.tab n).op).1,does:=3}:=gi t n _;refine h.quiet rfl rfl n (fun m e=>ix t _ e) (fun g=>?_) (fun _=>?_)
  ·rw[e]at g;cases g
  ·rw[e];exact h.two n (Or.inl h2)
 rw[aq h2];have h3:(t.tab n).does=3:=ab;obtain⟨c,c1,c2,c3⟩:=h.two n (Or.inr h3);obtain⟨s,g1,g2,g3⟩:=hi.work n h3;have h6:(t.tab n).dI.what≠6:=by rw[g3];exact MD _ _
 unfold iT;split
 ·cases hw:(cJ (t.tab n).op).2
  ·refine nt.ends (e0:=⟨n,(t.tab n).op,(t.tab n).dI,(t.tab n).gG,t.steps+1⟩) (m:=n) h ?_ (fun m e=>?_) ?_ (fun g=>absurd g h6) (Or.inl ?_)
   ·rfl
   ·exact mM _ _ _ e
   ·show((ja _ n _).tab n).does=0;rw[pd];rfl
   ·rfl
  ·refine nt.ends (e0:=⟨n,(t.tab n).op,(t.tab n).dI,(t.tab n).gG,t.steps+1⟩) (m:=n) h ?_ (fun m e=>?_) ?_ (fun g=>absurd g h6) (Or.inr fun m e hm=>?_)
   ·rfl
   ·exact mM _ _ _ e
   ·show((ja _ n _).tab n).does=0;rw[pd];rfl
   ·have hb:=(ho.tab m hm).2.1;unfold qU;simp only[hw,jL,cD,dD];exact⟨h6,ab,fun g=>e g.symm⟩
 ·rename_i hv;have sO:c<rq t.cX n (t.tab n).gG:=by
   rcases eM c (rq t.cX n (t.tab n).gG)with g|g
   ·exact g
   ·exact absurd (abh (c3 ab)) hv
  split
  ·have e:(fD.put {t with steps:=t.steps+1} n {t.tab n with fails:=(t.tab n).fails+1,does:=1}).tab n={t.tab n with fails:=(t.tab n).fails+1,does:=1}:=gi _ n _;refine h.quiet rfl rfl n (fun m e=>ix _ _ e) (fun _=>?_) (fun g=>?_)
   ·show((fD.put {t with steps:=t.steps+1} n {t.tab n with fails:=(t.tab n).fails+1,does:=1}).tab n).fails<=rq t.cX n ((fD.put {t with steps:=t.steps+1} n {t.tab n with fails:=(t.tab n).fails+1,does:=1}).tab n).gG;rw[e];show(t.tab n).fails+1<=rq t.cX n (t.tab n).gG;omega
   ·have g':((fD.put {t with steps:=t.steps+1} n {t.tab n with fails:=(t.tab n).fails+1,does:=1}).tab n).does=2\/((fD.put {t with steps:=t.steps+1} n {t.tab n with fails:=(t.tab n).fails+1,does:=1}).tab n).does=3:=g;rw[e]at g';rcases g' with g'|g'<;>cases g'
  ·rename_i hf;have NN:¬(t.tab n).fails+1<=3:=hf;have e:(fD.put {t with steps:=t.steps+1} n {t.tab n with fails:=(t.tab n).fails+1}).tab n={t.tab n with fails:=(t.tab n).fails+1}:=gi _ n _;refine nt.ends (e0:=⟨n,(t.tab n).op,rep 6,(t.tab n).gG,t.steps+1⟩) (m:=n) h ?_ (fun m e=>?_) ?_ (fun _=>?_) (Or.inl rfl)
   ·show t.cX++[(⟨n,((fD.put {t with steps:=t.steps+1} n {t.tab n with fails:=(t.tab n).fails+1}).tab n).op,rep 6,((fD.put {t with steps:=t.steps+1} n {t.tab n with fails:=(t.tab n).fails+1}).tab n).gG,t.steps+1⟩:xK)]=_;rw[e]
   ·exact(mM _ _ _ e).trans (ix _ _ e)
   ·show((ja _ n _).tab n).does=0;rw[pd];rfl
   ·show 3<rq t.cX n (t.tab n).gG;omega
structure vD (t:fD):Prop where
 OT:pU t
 ord:mN t
 XA:nt t
theorem vD.new:vD sa:=⟨⟨ou.new,xe.new⟩,mN.new,nt.new⟩
theorem vD.move(h:vD t)(m:Sz):vD (qT t m):=by
 refine⟨h.OT.move m,h.ord.move m,?_⟩;unfold qT;split
 ·unfold yS;split
  ·split
   ·have e:({(t.put m.tab.toNat {fe with does:=1,op:=m.op,gG:=t.steps+1})with steps:=t.steps+1}:fD).tab m.tab.toNat={fe with does:=1,op:=m.op,gG:=t.steps+1}:=gi t _ _;refine h.XA.quiet rfl rfl m.tab.toNat (fun k e=>ix t _ e) (fun _=>?_) (fun g=>?_)
    ·rw[e];exact aI _
    ·rw[e]at g;rcases g with g|g<;>cases g
   ·exact h.XA
  ·exact h.XA
 ·split
  ·unfold nM;split
   ·split
    ·exact h.XA
    ·have e:({(t.put m.tab.toNat fe)with steps:=t.steps+1}:fD).tab m.tab.toNat=fe:=gi t _ _;refine h.XA.quiet rfl rfl m.tab.toNat (fun k e=>ix t _ e) (fun g=>?_) (fun g=>?_)
     ·rw[e]at g;cases g
     ·rw[e]at g;rcases g with g|g<;>cases g
   ·exact h.XA
  ·split
   ·unfold lC;split
    ·split
     ·exact h.XA
     ·rename_i hd;have:=h.OT.2 m.tab.toNat;exact h.XA.step h.OT.1 h.ord ab
    ·exact h.XA
   ·exact h.XA
theorem vD.run(l:List Sz):vD (wY l):=by
 unfold wY;have:∀(l:List Sz) (t:fD),vD t->vD (l.foldl qT t):=by
  intro l
  induction l with
  |nil=>intro t h;exact h
  |cons m l ih=>intro t h;exact ih _ (h.move m)
 exact this l _ vD.new
def xL(base:Nat)(U:World)(ws:Nat->Option (Nat×dx)):Prop :=
 ∃pv:Nat->Nat->cU,(∀i B x,ws i=some (B,x)->cz base U B (pv i) x)/\∀i j B x C y,i≠j->ws i=some (B,x)->ws j=some (C,y)->∀k,lz B (pv i) k->¬lz C (pv j) k
section
variable {base : Nat} {a U U' : World} {ws : Nat → Option (Nat × dx)}
theorem xL.dh(h:xL base U ws)(hf:Fr aR U U'):xL base U' ws:=by
 obtain⟨pv,h1,h2⟩:=h;exact⟨pv,fun i B x hi=>(h1 i B x hi).dh hf,h2⟩
theorem xL.sub{ws':Nat->Option (Nat×dx)}(h:xL base U ws)(hs:∀i p,ws' i=some p->ws i=some p):xL base U ws':=by
 obtain⟨pv,h1,h2⟩:=h;exact⟨pv,fun i B x hi=>h1 i B x (hs _ _ hi),fun i j B x C y Q8 hi hj=>h2 i j B x C y Q8 (hs _ _ hi) (hs _ _ hj)⟩
theorem xL.one(h:xL base U ws)(oF:base<=n){t:TypeId}(hb:U.heap[n]?=some (.cells c t (0,0)))(ht:eR t)(hw:t≠86)(hs:t≠9)(hf:Fr (one n) U U'):xL base U' ws:=by
 obtain⟨pv,h1,h2⟩:=h;refine⟨pv,fun i B x hi=>(h1 i B x hi).fr hf ?_ (fun k hk e=>?_),h2⟩
 ·rintro k rfl _;exact⟨oF,fun c f e=>by rw[hb]at e;cases e;exact hs rfl⟩
 ·cases(show k=n from e);exact(h1 i B x hi).wX hb ht hw hk
theorem xL.at(h:xL base U ws)(hi:ws i=some (B,x)):∃pv,cz base U B pv x:=by
 obtain⟨pv,h1,_⟩:=h;exact⟨pv i,h1 i B x hi⟩
def Kept(U U':World):Prop:=∃S:Nat->Prop,Fr S U U'/\∀(n:Nat) (c:Array Value) (t:TypeId),U.heap[n]?=some (.cells c t (0,0))->eR t->t≠86->¬S n
theorem Kept.WM(h:Fr aR U U'):Kept U U':=⟨aR,h,fun _ _ _ _ _ _ h=>h⟩
theorem Kept.refl(U:World):Kept U U:=Kept.WM (ae _ _)
theorem Kept.block(h:Kept U U'){t:TypeId}(hn:U.heap[n]?=some (.cells c t (0,0)))(ht:eR t)(hw:t≠86):U'.heap[n]?=some (.cells c t (0,0)):=by
 obtain⟨S,hf,hs⟩:=h;exact hf.keep hn (hs n c t hn ht hw)
theorem Kept.trans{V:World}(h:Kept U U')(g:Kept U' V):Kept U V:=by
 obtain⟨S,hf,hs⟩:=h;obtain⟨Z,hg,hz⟩:=g;refine⟨fun n=>S n\/Z n,(hf.mono fun _ _ h=>Or.inl h).trans (hg.mono fun _ _ h=>Or.inr h),?_⟩;rintro n c t hn ht hw(e|e)
 ·exact hs n c t hn ht hw e
 ·exact hz n c t (hf.keep hn (hs n c t hn ht hw)) ht hw e
theorem Kept.rows(h:Kept U U'){k:Nat}{e:TypeId}{xs:List (List Value)}(hr:OwnRows b e k U v xs)(ht:eR e)(hw:e≠86):OwnRows b e k U' v xs:=by
 obtain⟨S,hf,hs⟩:=h;refine hr.fr hf fun g hg=>?_;obtain⟨c,hc⟩:=hr.BX hg;exact hs g c e hc ht hw
theorem Kept.eI(h:Kept U U'){T:Nat}{g:Nat->rp}{sv:Value}(hb:gu U T B g sv t):gu U' T B g sv t:=by
 obtain⟨S,hf,hs⟩:=h;obtain⟨c,hc,_⟩:=hb.eI;exact hb.fr hf (hs T c _ hc (by unfold eR;decide) ag)
theorem xL.act{f:FuncId}{args:Array Value}{R:Ending->Prop}(h:xL base U ws)(hf:Fr aR a U)(sG:a.heap.size<=base){i B:Nat}{x x':dx}(hi:ws i=some (B,x))
  (hc:∀pv,cz base U B pv x->Calls prog f args U fun e w'=>R e/\dk base U B pv x' w') :
  Calls prog f args U fun e w'=>R e/\xL base w' (fun j=>if j=i then some (B,x')else ws j)/\Fr aR a w'/\Kept U w':=by
 obtain⟨pv,h1,h2⟩:=h;have g:=h1 i B x hi;refine(hc (pv i) g).mono fun e w' hh=>⟨hh.1,?_,hh.2.frame g hf sG,?_⟩
 ·obtain⟨yZ,g1,g2,g3⟩:=hh.2;refine⟨fun j=>if j=i then yZ else pv j,fun j C y hj=>?_,fun j k C y D z hjk hj hk q hq Hk=>?_⟩
  ·by_cases e:j=i
   ·simp only[az e,en,iU]at hj ⊢;obtain⟨rfl,rfl⟩:=hj;exact g1
   ·simp only[aq e]at hj ⊢;exact(h1 j C y hj).fr g2 g.off (fun k hk=>h2 j i C y B x e hj hi k hk)
  ·by_cases e:j=i
   ·have e':¬k=i:=fun e'=>hjk (e.trans e'.symm);simp only[az e,aq e',en,iU]at hj hk hq Hk;obtain⟨rfl,rfl⟩:=hj;rcases g3 q hq with r|r
    ·exact h2 k i D z B x e' hk hi q Hk r
    ·have:=(h1 k D z hk).jh Hk;omega
   ·by_cases e':k=i
    ·simp only[az e',aq e,en,iU]at hj hk hq Hk;obtain⟨rfl,rfl⟩:=hk;rcases g3 q Hk with r|r
     ·exact h2 j i C y B x e hj hi q hq r
     ·have:=(h1 j C y hj).jh hq;omega
    ·simp only[aq e',aq e]at hj hk hq Hk;exact h2 j k C y D z hjk hj hk q hq Hk
 ·obtain⟨yZ,g1,g2,g3⟩:=hh.2;exact⟨_,g2,fun n c t hn ht hw=>g.wX hn ht hw⟩
theorem xL.add(h:xL base U ws)(hf:Fr aR U U'){C:Nat}{qv:Nat->cU}{y:dx}(hc:cz base U' C qv y)(hn:∀j,lz C qv j->U.heap.size<=j):xL base U' (fun j=>if j=i then some (C,y)else ws j):=by
 obtain⟨pv,h1,h2⟩:=h;refine⟨fun j=>if j=i then qv else pv j,fun j D z hj=>?_,fun j k D z E z' hjk hj hk q hq Hk=>?_⟩
 ·by_cases e:j=i
  ·simp only[az e,en,iU]at hj ⊢;obtain⟨rfl,rfl⟩:=hj;exact hc
  ·simp only[aq e]at hj ⊢;exact(h1 j D z hj).dh hf
 ·by_cases e:j=i
  ·have e':¬k=i:=fun e'=>hjk (e.trans e'.symm);simp only[az e,aq e',en,iU]at hj hk hq Hk;obtain⟨rfl,rfl⟩:=hj;have a1:=hn q hq;have a2:=(h1 k E z' hk).jh Hk;omega
  ·by_cases e':k=i
   ·simp only[az e',aq e,en,iU]at hj hk hq Hk;obtain⟨rfl,rfl⟩:=hk;have a1:=hn q Hk;have a2:=(h1 j D z hj).jh hq;omega
   ·simp only[aq e',aq e]at hj hk hq Hk;exact h2 j k D z E z' hjk hj hk q hq Hk
end
abbrev fW := @Kept.WM
theorem aff(base:Nat)(w:World)(B:Nat)(pv:Nat->cU)(x:dx)(o:jG)(hs:List gZ)(h:cz base w B pv x)(hf:gH w o hs)(hi:lh x)(a:World)(tN:kG a)(sG:a.heap.size<=base)(tO:Fr aR a w)(hr:(o.dS hs).right=false) :
  Calls prog 14 #[.pointer (some ⟨B,0,none⟩),.agg o.cells.toArray] w (j6 base w B pv (iC x (o.dS hs))):=by
 have uW:B<w.heap.size:=h.lt;have oF:=h.low;obtain⟨ah,ch,gV⟩:=hf.gX;obtain⟨w2,eB⟩:∃w2,w2=(w.alloc (.cells o.cells.toArray 41)).alloc (.cells bR 30):=⟨_,rfl⟩;have dy:Fr aR w w2:=by rw[eB];exact((ae aR w).alloc _).alloc _
 have k1:w2.heap[w.heap.size]?=some (.cells o.cells.toArray 41 (0,0)):=by rw[eB];exact((ae aR _).alloc _).keep (aB _ _) id
 have k2:w2.heap[w.heap.size+1]?=some (.cells bR 30 (0,0)):=by
  have h:=aB (w.alloc (.cells o.cells.toArray 41)) (.cells bR 30);rw[bM]at h;rw[eB];exact h
 have tP:=O (lA o hs w2 (hf.dh dy));have HH:=O (h.dh dy);have HF:=O (hf.dh dy);have lS:=O gV;have HI:=O hi;have fO:=O dy;have mP:=O k1;have qR:=O k2;have pj:=O (show base<=w.heap.size from ab);have xG:=O oF;have o9:=O uW;have Ss:=O tN;have Sr:=O (tO.trans dy);have Yx:=O sG;rw[eB]at k1;rw[eA gV]at eB tP k1 ⊢;unfold bR at eB k1;have nJ:=O eB;have vS:=O k1;clear eB gV dy k1 k2 h hf hi tN sG tO
 have HR:=O (show iC x (o.dS hs)=(x,rep 7)from th hr);rw[hr]at tP;clear hr;go_enter func14,ntmps14;go_wp2_with (first|((with_reducible refine cY 8 ?_);refine aH rfl 41 (.tmp 3) rfl w.heap.size rfl _ _ (0,0) _ vS.o underlying41 rfl af ?_)|fail)
 rw[<-nJ.o];refine tP.o.mono ?_;rintro e u⟨rfl,hu⟩;have HU:=O hu;have HP:=O (show dk base w B pv x u from cF fO.o (fu HH.o hu));have ph:=O (hu.keep qR.o id);clear hu vS;go_wp2_with (first|((with_reducible refine cV 30 ?_);refine aE rfl 30 (.tmp 4) (.tmp 11) rfl (w.heap.size+1) #[.int .i64 7,.string ⟨#[]⟩,.int .i64 0] rfl rfl _ bR ph.o (bd _ rfl) rfl ct ?_)|fail)
 refine aS (bu bC _ _ (w.heap.size+1) 30 #[.int .i64 7,.string ⟨#[]⟩,.int .i64 0] (0,0) _ rfl (aX _ (w.heap.size+1) _ _ _ _ ph.o) underlying30 rfl (bd _ rfl)) rfl ?_;unfold j6;rw[HR.o];exact⟨rfl,ew HP.o pj.o o9.o (bU _) ph.o dH ag _⟩
theorem SC(base:Nat)(w:World)(B:Nat)(pv:Nat->cU)(x:dx)(o:jG)(hs:List gZ)(h:cz base w B pv x)(hf:gH w o hs)(hi:lh x)(a:World)(tN:kG a)(sG:a.heap.size<=base)(tO:Fr aR a w)(hr:(o.dS hs).right=true)(hw:o.what=1) :
  Calls prog 14 #[.pointer (some ⟨B,0,none⟩),.agg o.cells.toArray] w (j6 base w B pv (iC x (o.dS hs))):=by
 have uW:B<w.heap.size:=h.lt;have oF:=h.low;obtain⟨ah,ch,gV⟩:=hf.gX;obtain⟨w2,eB⟩:∃w2,w2=(w.alloc (.cells o.cells.toArray 41)).alloc (.cells bR 30):=⟨_,rfl⟩;have dy:Fr aR w w2:=by rw[eB];exact((ae aR w).alloc _).alloc _
 have k1:w2.heap[w.heap.size]?=some (.cells o.cells.toArray 41 (0,0)):=by rw[eB];exact((ae aR _).alloc _).keep (aB _ _) id
 have k2:w2.heap[w.heap.size+1]?=some (.cells bR 30 (0,0)):=by
  have h:=aB (w.alloc (.cells o.cells.toArray 41)) (.cells bR 30);rw[bM]at h;rw[eB];exact h
 have tP:=O (lA o hs w2 (hf.dh dy));have HH:=O (h.dh dy);have HF:=O (hf.dh dy);have lS:=O gV;have HI:=O hi;have fO:=O dy;have mP:=O k1;have qR:=O k2;have pj:=O (show base<=w.heap.size from ab);have xG:=O oF;have o9:=O uW;have Ss:=O tN;have Sr:=O (tO.trans dy);have Yx:=O sG;rw[eB]at k1;rw[eA gV]at eB tP k1 ⊢;unfold bR at eB k1;have nJ:=O eB;have vS:=O k1;clear eB gV dy k1 k2 h hf hi tN sG tO
 obtain⟨i,vW,AQ⟩:∃i:Nat,o.aL.part=(i:Int)/\i<4:=by
  obtain⟨h0,h1⟩:=iM hr;have TY:0<=o.aL.part:=h0;have IQ:o.aL.part<4:=h1;exact⟨o.aL.part.toNat,ab,ab⟩
 have Nd:(i:Int)<4:=ab;have qD:¬(i:Int)<0:=ab;have NP:¬(4:Int)<=(i:Int):=ab;have Lf:(0:Int)<=(i:Int):=ab;have tz:=O AQ;have AR:=O vW;obtain⟨r,CC⟩:∃r,r=iw (x.part i) (o.dS hs):=⟨_,rfl⟩;have HR:=O (show iC x (o.dS hs)=(x.set i r.1,r.2)by rw[qw hr vW (by show o.what≠10;omega),CC,ae9 (show(o.dS hs).what=1 from hw)]);rw[hr]at tP
 have HM:=O (show∀U,Fr aR w2 U->Calls prog 30 #[.pointer (some ⟨B,i*3,none⟩),.agg o.cells.toArray] U (eF base U B (iP pv x.now) (i*3) (pv i) r)from fun U hU=>by
  have h:=OC base U B (i*3) (iP pv x.now) (pv i) (x.part i) o hs ((HH.o.dh hU).part i tz.o) ((HH.o.dh hU).partAt tz.o) xG.o (HF.o.dh hU) (HI.o.ok.part i) (HI.o.sm i) a Ss.o.Z3 Yx.o (Sr.o.trans hU);rw[<-CC]at h;exact h)
 rw[eA lS.o]at HM;have HW:=O hw;clear hr hw CC AQ vW;go_enter func14,ntmps14;go_wp2_with (first|((with_reducible refine cY 8 ?_);refine aH rfl 41 (.tmp 3) rfl w.heap.size rfl _ _ (0,0) _ vS.o underlying41 rfl af ?_)|fail)
 rw[<-nJ.o];refine tP.o.mono ?_;rintro e u⟨rfl,hu⟩;obtain⟨a0,a1,a2,a3,a4,a5,a6,a7,a8,a9,jI,jJ,a12,jH,jK,jr,jY,jZ,j5,kf,a20,a21⟩:=eh (hu.keep mP.o id) lS.o;rw[AR.o]at a1;clear a0 a2 a3 a4 a5 a6 a7 a8 a9 jI jJ a12 jH jK jr jY jZ j5 kf a20 a21;have qy:=O (show∀n,Fr aR w2 (u.drewN n)from fun n=>dz n hu);clear hu vS;go_wp2_with fail
 go_quiet (fail);clear a1;have mL:=qy.o nq;generalize u.drewN nq=u1 at mL ⊢;have tQ:=O mL;clear mL qy;have Fp:=O (tQ.o.keep mP.o id);rw[eA lS.o]at Fp;obtain⟨a0,a1,a2,a3,a4,a5,a6,a7,a8,a9,jI,jJ,a12,jH,jK,jr,jY,jZ,j5,kf,a20,a21⟩:=eh (tQ.o.keep mP.o id) lS.o;rw[AR.o]at a1;have xJ:=HW.o;rw[xJ]at a0;clear xJ;clear a1 a2 a3 a4 a5 a6 a7 a8 a9 jI jJ a12 jH jK jr jY jZ j5 kf a20 a21
 go_wp2_with (first|((with_reducible refine cY 24 ?_);refine aH rfl 41 (.tmp 3) rfl w.heap.size rfl _ _ (0,0) _ Fp.o underlying41 rfl af ?_)|fail)
 have tR:=tQ.o;refine(HM.o _ tR).mono ?_;rintro e u5⟨rfl,hp⟩;unfold kx.val;have Mc:=tR.keep qR.o id;have ph:=O (nY (HH.o.dh tR) tz.o hp Mc dH ab);have HP:=O (show dk base w B pv (x.set i r.1) u5 from cF fO.o (cF tR (ky (HH.o.dh tR) tz.o hp)));clear hp Mc tR HM
 go_wp2_with (first|((with_reducible refine cV 30 ?_);refine aE rfl 30 (.tmp 4) (.tmp 25) rfl (w.heap.size+1) #[.int .i64 r.2.what,.string r.2.head,.int .i64 r.2.cert] rfl rfl _ bR ph.o (bd _ rfl) rfl ct ?_)|fail)
 refine aS (bu bC _ _ (w.heap.size+1) 30 #[.int .i64 r.2.what,.string r.2.head,.int .i64 r.2.cert] (0,0) _ rfl (aX _ (w.heap.size+1) _ _ _ _ ph.o) underlying30 rfl (bd _ rfl)) rfl ?_;unfold j6;rw[HR.o];exact⟨rfl,ew HP.o pj.o o9.o (bU _) ph.o dH ag _⟩
