/- Lemmas for the law's walk. -/
import Derived.Test.YtnckmcnffadjoaaGreatDoorPm16
set_option maxRecDepth 100000
set_option maxHeartbeats 16000000
set_option linter.unusedSimpArgs false
namespace Go.Proofs.YtnckmcnffadjoaaGreatDoor
open Go.Proofs.Tryz
open Go.RowKit
theorem nA.one{base:Nat}{w:World}{b:Nat}{gv wv:Value}{gs:List (aP bE)}{u:List (bJ bE)×Option (bJ bE)}{e:Ending}{w':World}(h:nA base w b gv wv gs u e w') :
  kE base w b gv wv gs u.1 w'/\∃X:bS,e=.returned (.tuple #[.agg X,.bool u.2.isSome])/\X.size=13/\X.all (·.oneCell')=true/\∀x,u.2=some x->∃r:bJ Value,X=r.cells.toArray/\r.Reads (dv base w') x:=by
 obtain⟨h1,h2⟩:=h;refine⟨h1,?_⟩;cases hu:u.2 with
 |none=>rw[hu]at h2;exact⟨v_,h2,rfl,P_,fun x hx=>by cases hx⟩
 |some g =>
  rw[hu]at h2;obtain⟨r,e1,e2,e3⟩:=h2;exact⟨r.cells.toArray,e1,rfl,bX e3,fun x hx=>by cases hx;exact⟨r,rfl,e2⟩⟩
theorem Ma{X:bS}(h:X.size=13):(prog.info? 133).map (·.size)=some X.size:=by rw[h];kernel_rfl
def AnJ(base:Nat)(w2:World)(B off:Nat)(cs:aX)(v:cV)(p:dS)(x:Option (bJ bE))(n:Nat)(X:bS)(W:World):Prop :=
 sS base w2 B off cs v p n X 133 W/\∀g,x=some g->∃r:bJ Value,X=r.cells.toArray/\r.Reads (dv base W) g
theorem IX(base:Nat)(w:World)(B off:Nat)(cs:aX)(v:cV)(p:dS)(o:jQ)(hs:List ig)(h:eQ base w v p)(ha:gT w B cs off v)(oB:base<=B)(hf:gI w o hs)(hk:nr p)(hwp:∀x∈p.waits,x.path.size<=5000) :
  aB 32 #[.pointer (some ⟨B,off,none⟩),.agg o.cells.toArray] w (eI base w B cs off v (gy p (o.dR hs))):=by
 have uM:B<w.heap.size:=bj ha.eL;have GP:¬v.j_ B:=h.fi ha.eL ag;obtain⟨ah,ch,gH⟩:=hf.gZ;obtain⟨w2,eE⟩:∃w2,w2=(w.alloc (.cells o.cells.toArray 41)).alloc (.cells bT 30):=⟨_,rfl⟩;have dB:Fr aS w w2:=by rw[eE];exact((ae aS w).alloc _).alloc _
 have k1:w2.heap[w.heap.size]?=some (.cells o.cells.toArray 41 (0,0)):=by rw[eE];exact((ae aS _).alloc _).keep (aC _ _) id
 have k2:w2.heap[w.heap.size+1]?=some (.cells bT 30 (0,0)):=by
  have h:=aC (w.alloc (.cells o.cells.toArray 41)) (.cells bT 30);rw[bO]at h;rw[eE];exact h
 have xb:w2.heap.size=w.heap.size+2:=by rw[eE];simp
 have Wg:=O (show∀U,Fr aS w2 U->U.heap[w.heap.size]?=some (.cells o.cells.toArray 41 (0,0))from fun U hU=>hU.keep k1 id);have CK:=O GP;have HH:=O h;have HA:=O ha;have HF:=O hf;have lD:=O gH;have HK:=O hk;have f_:=O dB;have mN:=O k1;have qO:=O k2;have ph:=O (show base<=w.heap.size from ab);have xe:=O oB;have o7:=O uM;have RV:=O eE
 obtain⟨a0,a1,a2,a3,a4,a5,a6,a7,a8,a9,jI,jJ,a12,jG,jK,jo,jV,jW,jX,ka,a20,a21⟩:=ep k1 gH;rw[eE]at a0 a1 a2 a3 a4 a5 a6 a7 a8 a9 jI jJ a12 jG jK jo jV jW jX ka a20 a21;rw[d_ gH]at eE a0 a1 a2 a3 a4 a5 a6 a7 a8 a9 jI jJ a12 jG jK jo jV jW jX ka a20 a21 ⊢;unfold bT at eE a0 a1 a2 a3 a4 a5 a6 a7 a8 a9 jI jJ a12 jG jK jo jV jW jX ka a20 a21;have nI:=O eE;clear eE gH dB k1 k2 h ha hf GP hk
 go_enter func32,ntmps32;have Sc:=HK.o.tP;have HC:=O (show∀U,Fr (dw v.b v.gv v.wv) w2 U->(U.cell? ⟨B,off,none⟩=some (.pointer (some ⟨v.b,0,none⟩))/\U.cell? ⟨w.heap.size,5,none⟩=some (.bool o.aJ.o.aE)/\U.cell? ⟨w.heap.size,6,none⟩=some (.string o.aJ.o.host)/\U.cell? ⟨w.heap.size,7,none⟩=some (.int .i64 o.aJ.o.port)/\U.cell? ⟨w.heap.size,14,none⟩=some (.bool o.proxy))from fun U hU=>by
  have j1:=(HA.o.dm f_.o).fr hU (fun hb=>CK.o (Or.inl hb));have j2:=hU.keep mN.o (fun hb=>(HH.o.dm f_.o).fi mN.o jl (Or.inl hb));obtain⟨a0,a1,a2,a3,a4,a5,a6,a7,a8,a9,jI,jJ,a12,jG,jK,jo,jV,jW,jX,ka,a20,a21⟩:=ep j2 lD.o;exact⟨j1.cell0,a5,a6,a7,jK⟩)
 have QP:=O (show∀U,Fr aS w2 U->aB 59 #[.pointer (some ⟨v.b,0,none⟩),.agg #[.bool o.aJ.o.aE,.string o.aJ.o.host,.int .i64 o.aJ.o.port],.bool o.proxy] U (nA base U v.b v.gv v.wv p.bH (ml o.aJ.o o.proxy p.waits))from fun U hU=>Lh base U v.b v.gv v.wv p.bH p.waits o.aJ.o o.proxy ((HH.o.dm f_.o).dm hU).oz ab);have si:=nI.o;go_wp2_with fail
 rw[<-si];clear a0 a1 a2 a3 a4 a5 a6 a7 a8 a9 jI jJ a12 jG jK jo jV jW jX ka a20 a21 si xb;have ake:=O (show base<=w2.heap.size from aG ph.o f_.o.size);have akf:=O (show B<w2.heap.size from cP o7.o f_.o.size);obtain⟨tk,htk⟩:∃tk,tk=ml o.aJ.o o.proxy p.waits:=⟨_,rfl⟩;rw[<-htk]at QP;have HTE:=O htk;clear htk;obtain⟨ok,CE⟩:∃ok,ok=tk.2.isSome:=⟨_,rfl⟩;have KM:=O CE;clear CE
 apply VY (P:=AnJ base w2 B off cs v {p with waits:=tk.1} tk.2)
 ·intro hJ;have HJ:=O hJ;clear hJ;refine wp_region_held_drew (S:=(fun U=>U.cell? ⟨B,off,none⟩=some (.pointer (some ⟨v.b,0,none⟩))/\U.cell? ⟨w.heap.size,5,none⟩=some (.bool o.aJ.o.aE)/\U.cell? ⟨w.heap.size,6,none⟩=some (.string o.aJ.o.host)/\U.cell? ⟨w.heap.size,7,none⟩=some (.int .i64 o.aJ.o.port)/\U.cell? ⟨w.heap.size,14,none⟩=some (.bool o.proxy))) af (HC.o _ (aA (ae _ _))) ?_;intro Az
  refine aW 0 8 rfl ?_;refine aW 1 9 rfl ?_;refine aW 2 10 rfl ?_;refine aW 3 11 rfl ?_;refine aW 4 12 rfl ?_;refine aW 5 13 rfl ?_;refine aW 6 14 rfl ?_;refine aW 7 15 rfl ?_;refine aW 8 16 rfl ?_;refine aW 9 17 rfl ?_;refine Ej 10 14 rfl rfl (fun K hK=>?_) fun K hK=>?_
  ·go_simp;refine(QP.o _ (aA (ae _ _))).mono ?_;rintro e u3 LL;obtain⟨tu,X,rfl,GQ,LM,D'⟩:=nA.one LL;rw[<-KM.o];have JD:=O tu;have HX:=O (And.intro GQ (And.intro LM D'));have wm:Fr (dw v.b v.gv v.wv) w2 u3:=(aA (ae _ _)).trans (by obtain⟨_,_,_,h,_⟩:=tu;exact h);have Bl:=O wm;clear LL tu GQ LM D' wm;refine hK.out _ _ (HC.o _ Bl.o) ?_;intro yu;clear hK Az K
   try simp only[Act.put,sA,sB,sC]
   refine aW 11 7 rfl ?_;refine aW 12 19 rfl ?_;refine aW 13 20 rfl ?_;refine eT 14 rfl fun K hK=>?_;go_simp;obtain⟨n,hne⟩:∃n,n=u3.heap.size:=⟨_,rfl⟩;obtain⟨w4,qC⟩:∃w4,w4=u3.alloc (.cells v_ 133):=⟨_,rfl⟩;have Wh:w4.heap[n]?=some (.cells v_ 133 (0,0)):=by rw[qC,hne];exact aC _ _
   have kQ:Fr (dw v.b v.gv v.wv) w2 w4:=by rw[qC];exact Bl.o.alloc _
   have HZ4:=O Wh;have jZ:=O kQ;have N_:=O qC;have Cv:=O hne;rw[<-qC, <-hne];clear qC hne Wh kQ;refine hK.out _ _ (HC.o _ jZ.o) ?_;intro B7;clear hK yu K
   try simp only[Act.put,sA,sB,sC]
   refine eT 15 rfl fun K hK=>?_;refine jU rfl 133 (.tmp 5) (.tmp 19) rfl n X rfl rfl 133 v_ HZ4.o (Ma HX.o.1) HX.o.1.symm HX.o.2.1 ?_;obtain⟨W,hW⟩:∃W,W=w4.setRow n X:=⟨_,rfl⟩;have B8:Fr (dw v.b v.gv v.wv) w2 W:=by rw[hW];exact gV jZ.o (by rw[Cv.o];exact Bl.o.size) _
   have hP:=sS.after (z:=v_) (dh (aA (ae aS w2)) (eR ((HH.o.dm f_.o).dm (aA (ae aS w2))) ((HA.o.dm f_.o).dm (aA (ae aS w2))) CK.o JD.o)) ake.o akf.o (t:=133) ag X;rw[<-N_.o, <-Cv.o, <-hW]at hP;rw[<-hW];refine hK.out _ _ (HC.o _ B8) ?_;intro Fu;clear hK B7 K
   try simp only[Act.put,sA,sB,sC]
   refine aW 16 6 rfl ?_;clear Fu;refine wpAnyH_done af ?_ _;exact HJ.o n X W ⟨hP.1,fun g hg=>by
    obtain⟨r,e1,e2⟩:=HX.o.2.2 g hg;exact⟨r,e1,e2.mono (fun v l h=>hP.2 v l h)⟩⟩
  ·go_simp;obtain⟨n,hne⟩:∃n,n=w2.heap.size:=⟨_,rfl⟩;obtain⟨w4,qC⟩:∃w4,w4=(w2.alloc (.cells v_ 133)).drew:=⟨_,rfl⟩;have Wh:w4.heap[n]?=some (.cells v_ 133 (0,0)):=by rw[qC,hne];exact aC w2 _
   have kQ:Fr aS w2 w4:=by rw[qC];exact((ae _ _).alloc _).drew
   have HZ4:=O Wh;have jZ:=O kQ;have Cv:=O (show w2.heap.size<=n from ab);rw[<-qC, <-hne];clear qC hne Wh kQ;refine hK.out _ _ (HC.o _ (jZ.o.mono (fun _ _ h=>absurd h id))) ?_;intro yu;clear hK Az K
   try simp only[Act.put,sA,sB,sC]
   refine eT 10 rfl fun K hK=>?_;go_simp;refine(QP.o _ jZ.o).mono ?_;rintro e u3 LL;obtain⟨tu,X,rfl,GQ,LM,D'⟩:=nA.one LL;rw[<-KM.o];have JD:=O tu;have HX:=O (And.intro GQ (And.intro LM D'));have wm:Fr (dw v.b v.gv v.wv) w2 u3:=(jZ.o.mono (fun _ _ h=>absurd h id)).trans (by obtain⟨_,_,_,h,_⟩:=tu;exact h)
   have Up:u3.heap[n]?=some (.cells v_ 133 (0,0)):=(show Fr (dw v.b v.gv v.wv) w4 u3 by obtain⟨_,_,_,h,_⟩:=tu;exact h).keep HZ4.o (fun hb=>by have:=(HH.o.dm f_.o).jr (Or.inl hb);have:=Cv.o;omega);have Bl:=O wm;have HZ3:=O Up;clear LL tu GQ LM D' wm Up;refine hK.out _ _ (HC.o _ Bl.o) ?_;intro B7;clear hK yu K
   try simp only[Act.put,sA,sB,sC]
   refine aW 11 7 rfl ?_;refine aW 12 19 rfl ?_;refine aW 13 20 rfl ?_;refine eT 15 rfl fun K hK=>?_;refine jU rfl 133 (.tmp 5) (.tmp 19) rfl n X rfl rfl 133 v_ HZ3.o (Ma HX.o.1) HX.o.1.symm HX.o.2.1 ?_;obtain⟨W,hW⟩:∃W,W=u3.setRow n X:=⟨_,rfl⟩;have B8:Fr (dw v.b v.gv v.wv) w2 W:=by rw[hW];exact gV Bl.o Cv.o _
   have hP:=sS.before (HH.o.dm f_.o) jZ.o Cv.o HZ4.o (eR ((HH.o.dm f_.o).dm jZ.o) ((HA.o.dm f_.o).dm jZ.o) CK.o JD.o) ake.o akf.o ag X;rw[<-hW]at hP;rw[<-hW];refine hK.out _ _ (HC.o _ B8) ?_;intro Fu;clear hK B7 K
   try simp only[Act.put,sA,sB,sC]
   refine aW 16 6 rfl ?_;clear Fu;refine wpAnyH_done af ?_ _;exact HJ.o n X W ⟨hP.1,fun g hg=>by
    obtain⟨r,e1,e2⟩:=HX.o.2.2 g hg;exact⟨r,e1,e2.mono (fun v l h=>hP.2 v l h)⟩⟩
 ·intro n X W hj;obtain⟨⟨v1,i1,f1,B6,Wi,hX,Wj,VZ⟩,GN⟩:=hj;have aa1:=ix (HA.o.dm f_.o) Wi;have o1:=eK (HH.o.dm f_.o) f1 mN.o jl ab;have r1:=eK (HH.o.dm f_.o) f1 qO.o dM ab;have I1:=O i1;have F1:=O f1;have FT1:=O B6;have LN:=O aa1;have O1:=O o1;have R1:=O r1;have HXB:=O hX;have HNF:=O Wj;have HNA:=O VZ;clear i1 f1 B6 aa1 o1 r1 Wi hX Wj VZ QP HC;cases Sr:tk.2 with
  |none =>
   have rO:ok=false:=by rw[KM.o,Sr];rfl
   have HR:=O (show gy p (o.dR hs)=({p with waits:=tk.1},rep 2)by
    unfold gy;rw[show ml (o.dR hs).o (o.dR hs).proxy p.waits=(tk.1,none)from by rw[<-Sr];exact HTE.o.symm])
   have HP:=O (show dk base w2 B cs off v {p with waits:=tk.1} W from⟨v1,I1.o,F1.o,FT1.o,LN.o.eL⟩);rw[rO];clear GN Sr KM HTE rO;go_wp2_with (first|((with_reducible refine cW 30 ?_);refine aF rfl 30 (.tmp 4) (.tmp 23) rfl (w.heap.size+1) #[.int .i64 2,.string ⟨#[]⟩,.int .i64 0] rfl rfl _ bT R1.o (bf _ rfl) rfl bW ?_)|fail)
   refine aU (bu bC _ _ (w.heap.size+1) 30 #[.int .i64 2,.string ⟨#[]⟩,.int .i64 0] (0,0) _ rfl (aY _ (w.heap.size+1) _ _ _ _ R1.o) underlying30 rfl (bf _ rfl)) rfl ?_;unfold eI;rw[HR.o];exact⟨rfl,dz (HP.o.after f_.o) ph.o o7.o (bV _) R1.o eN ag _⟩
  |some g =>
   have rO:ok=true:=by rw[KM.o,Sr];rfl
   obtain⟨r,X',hr⟩:=GN g Sr;have hgm:g∈p.waits:=Be (o:=o.aJ.o) (proxy:=o.proxy) (by rw[<-HTE.o];exact Sr);have hgp:=hwp g hgm;have HR:=O (show gy p (o.dR hs)=({p with waits:=tk.1,bH:=vq p.bH ⟨g.o,g.proxy,o.user,o.pass,g.a,0,nX g.a g.proxy g.path⟩},rep 1)by
    unfold gy;rw[show ml (o.dR hs).o (o.dR hs).proxy p.waits=(tk.1,some g)from by rw[<-Sr];exact HTE.o.symm];rfl)
   obtain⟨q1,q2,q3,q4⟩:=hr;have qa:=q4;obtain⟨e1,e2,e3,e4,e5,e6,e7,A'⟩:=q4;obtain⟨ad,cd,xx⟩:=A'.rd.form;have xr:X= #[.bool g.o.aE,.string g.o.host,.int .i64 g.o.port,.bool g.proxy,.string g.path,.int .i64 g.a.scheme,.string g.a.aK,.string g.a.bq,.string g.a.cy,.bool g.a.cA,.string g.a.eH,.bool g.a.cN,.slice ad g.a.dom.length cd]:=by
    rw[X'];unfold bJ.cells;rw[q1,q2,q3,e1,e2,e3,e4,e5,e6,e7,xx]
   rw[xr]at HXB;have akh:r.a.cells=[.int .i64 g.a.scheme,.string g.a.aK,.string g.a.bq,.string g.a.cy,.bool g.a.cA,.string g.a.eH,.bool g.a.cN,.slice ad g.a.dom.length cd]:=by unfold fK.cells;rw[e1,e2,e3,e4,e5,e6,e7,xx]
   have xN:=O (show∀U,Fr aS W U->aB 60 #[.agg #[.int .i64 g.a.scheme,.string g.a.aK,.string g.a.bq,.string g.a.cy,.bool g.a.cA,.string g.a.eH,.bool g.a.cN,.slice ad g.a.dom.length cd],.bool g.proxy,.string g.path] U (rq base U (nX g.a g.proxy g.path))from fun U hU=>by
    have h:=Rz base r.a g.a g.proxy g.path U (qa.mono (fun _ _ h=>h.dm hU)) ab;rw[akh]at h;exact h)
   have HPU:=O (show∀U lv,Fr aS W U->dv base U lv (nX g.a g.proxy g.path)->aB 57 #[.pointer (some ⟨v1.b,0,none⟩),.agg #[.bool g.o.aE,.string g.o.host,.int .i64 g.o.port,.bool g.proxy,.string o.user,.string o.pass,.int .i64 g.a.scheme,.string g.a.aK,.string g.a.bq,.string g.a.cy,.bool g.a.cA,.string g.a.eH,.bool g.a.cN,.slice ad g.a.dom.length cd,.int .i64 0,lv]] U (Iy base U v1.b v1.gv v1.wv (vq p.bH ⟨g.o,g.proxy,o.user,o.pass,g.a,0,nX g.a g.proxy g.path⟩) tk.1)from fun U lv hU hl=>by
    have h:=P7 base U v1.b v1.gv v1.wv p.bH tk.1 ⟨g.o,g.proxy,o.user,o.pass,r.a,0,lv⟩ ⟨g.o,g.proxy,o.user,o.pass,g.a,0,nX g.a g.proxy g.path⟩ (I1.o.dm hU).oz ⟨rfl,rfl,rfl,rfl,qa.mono (fun _ _ h=>h.dm hU),rfl,hl⟩ ab;unfold aP.cells at h;rw[e1,e2,e3,e4,e5,e6,e7,xx]at h;exact h)
   have HC:=O (show∀U,Fr (dw v1.b v1.gv v1.wv) W U->(U.cell? ⟨B,off,none⟩=some (.pointer (some ⟨v1.b,0,none⟩))/\U.cell? ⟨n,0,none⟩=some (.bool g.o.aE)/\U.cell? ⟨n,1,none⟩=some (.string g.o.host)/\U.cell? ⟨n,2,none⟩=some (.int .i64 g.o.port)/\U.cell? ⟨n,3,none⟩=some (.bool g.proxy)/\U.cell? ⟨n,4,none⟩=some (.string g.path)/\U.cell? ⟨n,5,none⟩=some (.int .i64 g.a.scheme)/\U.cell? ⟨n,6,none⟩=some (.string g.a.aK)/\U.cell? ⟨n,7,none⟩=some (.string g.a.bq)/\U.cell? ⟨n,8,none⟩=some (.string g.a.cy)/\U.cell? ⟨n,9,none⟩=some (.bool g.a.cA)/\U.cell? ⟨n,10,none⟩=some (.string g.a.eH)/\U.cell? ⟨n,11,none⟩=some (.bool g.a.cN)/\U.cell? ⟨n,12,none⟩=some (.slice ad g.a.dom.length cd)/\U.cell? ⟨w.heap.size,16,none⟩=some (.string o.user)/\U.cell? ⟨w.heap.size,17,none⟩=some (.string o.pass))from fun U hU=>by
    have j1:=LN.o.fr hU (fun hb=>I1.o.fi LN.o.eL ag (Or.inl hb));have j2:=hU.keep HXB.o (fun hb=>HNF.o (Or.inl hb));have j3:=hU.keep O1.o (fun hb=>I1.o.fi O1.o jl (Or.inl hb));obtain⟨a0,a1,a2,a3,a4,a5,a6,a7,a8,a9,jI,jJ,a12,jG,jK,jo,jV,jW,jX,ka,a20,a21⟩:=ep j3 lD.o;refine⟨j1.cell0,?_,?_,?_,?_,?_,?_,?_,?_,?_,?_,?_,?_,?_,jV,jW⟩<;>simp[World.cell?,j2])
   rw[rO];clear GN Sr KM HTE rO hgm hgp hwp qa q1 q2 q3 e1 e2 e3 e4 e5 e6 e7 A' xx xr akh X';go_wp2_with fail
   go_region_held3 (fun U=>Fr (dw v1.b v1.gv v1.wv) W U/\U.cell? ⟨B,off,none⟩=some (.pointer (some ⟨v1.b,0,none⟩))/\U.cell? ⟨n,0,none⟩=some (.bool g.o.aE)/\U.cell? ⟨n,1,none⟩=some (.string g.o.host)/\U.cell? ⟨n,2,none⟩=some (.int .i64 g.o.port)/\U.cell? ⟨n,3,none⟩=some (.bool g.proxy)/\U.cell? ⟨n,4,none⟩=some (.string g.path)/\U.cell? ⟨n,5,none⟩=some (.int .i64 g.a.scheme)/\U.cell? ⟨n,6,none⟩=some (.string g.a.aK)/\U.cell? ⟨n,7,none⟩=some (.string g.a.bq)/\U.cell? ⟨n,8,none⟩=some (.string g.a.cy)/\U.cell? ⟨n,9,none⟩=some (.bool g.a.cA)/\U.cell? ⟨n,10,none⟩=some (.string g.a.eH)/\U.cell? ⟨n,11,none⟩=some (.bool g.a.cN)/\U.cell? ⟨n,12,none⟩=some (.slice ad g.a.dom.length cd)/\U.cell? ⟨w.heap.size,16,none⟩=some (.string o.user)/\U.cell? ⟨w.heap.size,17,none⟩=some (.string o.pass)) ((refine(fun hU=>⟨hU,HC.o _ hU⟩) ?_;first|exact aA (ae _ _)|assumption))
    ((first
     |(go_at_call 60;refine(xN.o _ (aA (ae _ _))).mono ?_;rintro e u5 ⟨lv,rfl,AY,lQ⟩;obtain⟨pa,pc,Nl⟩:=AY.rd.form;subst Nl;have ud:Fr aS W u5:=(aA (ae _ _)).trans lQ;have aki:Fr (dw v1.b v1.gv v1.wv) W u5:=ud.mono (fun _ _ h=>absurd h id))
     |(go_at_call 57;refine(HPU.o _ _ ud AY).mono ?_;rintro e u6 ⟨rfl,AZ⟩;have Fz:Fr (dw v1.b v1.gv v1.wv) W u6:=aki.trans (by obtain⟨_,_,_,h,_⟩:=AZ;exact h))))
   have Wm:=eR (I1.o.dm ud) (LN.o.dm ud) (I1.o.fi LN.o.eL ag) AZ;have HP:=O (show dk base w2 B cs off v {p with waits:=tk.1,bH:=vq p.bH ⟨g.o,g.proxy,o.user,o.pass,g.a,0,nX g.a g.proxy g.path⟩} u6 from gL F1.o FT1.o (dh ud Wm));have r6:=O (eK (B:=B) I1.o (Fz.mono (fun k _ hk=>Or.inr (Or.inl hk))) R1.o dM ab);clear Wm AZ Fz aki ud AY lQ HC xN HPU
   go_wp2_with (first|((with_reducible refine cW 30 ?_);refine aF rfl 30 (.tmp 4) (.tmp 45) rfl (w.heap.size+1) #[.int .i64 1,.string ⟨#[]⟩,.int .i64 0] rfl rfl _ bT r6.o (bf _ rfl) rfl bW ?_)|fail)
   refine aU (bu bC _ _ (w.heap.size+1) 30 #[.int .i64 1,.string ⟨#[]⟩,.int .i64 0] (0,0) _ rfl (aY _ (w.heap.size+1) _ _ _ _ r6.o) underlying30 rfl (bf _ rfl)) rfl ?_;unfold eI;rw[HR.o];exact⟨rfl,dz (HP.o.after f_.o) ph.o o7.o (bV _) r6.o eN ag _⟩
