/- Lemmas for the law's walk. -/
import Derived.Test.YtnckmcnffadjoaaGreatDoorPm16
set_option maxRecDepth 100000
set_option maxHeartbeats 16000000
set_option linter.unusedSimpArgs false
namespace Go.Proofs.YtnckmcnffadjoaaGreatDoor
open Go.Proofs.Tryz
open Go.RowKit
variable {base:Nat} {X:bS}
theorem tX.one{w:World}{m:Option (aP bE)}{e:Ending}{w':World}(h:tX base w m e w') :
  Fr aS w w'/\∃X:bS,e=.returned (.tuple #[.agg X,.bool m.isSome])/\X.size=16/\X.all (·.oneCell')=true/\∀x,m=some x->∃r:aP Value,X=r.cells.toArray/\r.Reads (dv base w') x:=by
 obtain⟨h1,h2⟩:=h;refine⟨h1,?_⟩;cases hu:m with
 |none=>rw[hu]at h2;exact⟨eS,h2,rfl,du,fun x hx=>by cases hx⟩
 |some g =>
  rw[hu]at h2;obtain⟨r,e1,e2,e3⟩:=h2;exact⟨r.cells.toArray,e1,rfl,bX e3,fun x hx=>by cases hx;exact⟨r,rfl,e2⟩⟩
theorem G5(h:X.size=16):(prog.info? 114).map (·.size)=some X.size:=by rw[h];kernel_rfl
def GtJ(base:Nat)(x4:World)(gm:Option (aP bE))(n:Nat)(X:bS)(W:World):Prop :=
 Fr aS x4 W/\W.heap[n]?=some (.cells X 114 (0,0))/\x4.heap.size<=n/\X.size=16/\∀g,gm=some g->∃r:aP Value,X=r.cells.toArray/\r.Reads (dv base W) g
theorem L5{n:Nat}{u:World}{z:bS}{t:TypeId}(hn:u.heap[n]?=some (.cells z t (0,0)))(hs:t≠9)(hb:base<=n):∀vv ss,dv base u vv ss->dv base (u.setRow n X) vv ss:=fun vv ss h =>
 h.fr ((ae (one n) u).setRow (fun _=>rfl) _) (by
  rintro k rfl _;exact⟨hb,fun c f e=>by rw[hn]at e;cases e;exact hs rfl⟩)
theorem L7(base:Nat)(w:World)(B off:Nat)(cs:aX)(v:cV)(p:dS)(o:jQ)(hs:List ig)(h:eQ base w v p)(ha:gT w B cs off v)(oB:base<=B)(hf:gI w o hs)(hk:nr p) :
  aB 31 #[.pointer (some ⟨B,off,none⟩),.agg o.cells.toArray] w (eI base w B cs off v (fM p (o.dR hs))):=by
 have uM:B<w.heap.size:=bj ha.eL;have GP:¬v.j_ B:=h.fi ha.eL ag;obtain⟨ah,ch,gH⟩:=hf.gZ;obtain⟨w2,eE⟩:∃w2,w2=(w.alloc (.cells o.cells.toArray 41)).alloc (.cells bT 30):=⟨_,rfl⟩;have dB:Fr aS w w2:=by rw[eE];exact((ae aS w).alloc _).alloc _
 have k1:w2.heap[w.heap.size]?=some (.cells o.cells.toArray 41 (0,0)):=by rw[eE];exact((ae aS _).alloc _).keep (aC _ _) id
 have k2:w2.heap[w.heap.size+1]?=some (.cells bT 30 (0,0)):=by
  have h:=aC (w.alloc (.cells o.cells.toArray 41)) (.cells bT 30);rw[bO]at h;rw[eE];exact h
 have xb:w2.heap.size=w.heap.size+2:=by rw[eE];simp
 have Wg:=O (show∀U,Fr aS w2 U->U.heap[w.heap.size]?=some (.cells o.cells.toArray 41 (0,0))from fun U hU=>hU.keep k1 id);have CK:=O GP;have HH:=O h;have HA:=O ha;have HF:=O hf;have lD:=O gH;have HK:=O hk;have f_:=O dB;have mN:=O k1;have qO:=O k2;have ph:=O (show base<=w.heap.size from ab);have xe:=O oB;have o7:=O uM;have RV:=O eE
 obtain⟨a0,a1,a2,a3,a4,a5,a6,a7,a8,a9,jI,jJ,a12,jG,jK,jo,jV,jW,jX,ka,a20,a21⟩:=ep k1 gH;rw[eE]at a0 a1 a2 a3 a4 a5 a6 a7 a8 a9 jI jJ a12 jG jK jo jV jW jX ka a20 a21;rw[d_ gH]at eE a0 a1 a2 a3 a4 a5 a6 a7 a8 a9 jI jJ a12 jG jK jo jV jW jX ka a20 a21 ⊢;unfold bT at eE a0 a1 a2 a3 a4 a5 a6 a7 a8 a9 jI jJ a12 jG jK jo jV jW jX ka a20 a21;have nI:=O eE;have Sr:=hf.text;have PA:=O (RH o.text w2 ab)
 clear Sr eE gH dB k1 k2 h ha hf GP hk;go_enter func31,ntmps31;have Sc:=HK.o.tP;have afh:=O xb;have si:=nI.o;go_wp2_with fail
 rw[<-si];clear a0 a1 a2 a3 a4 a5 a6 a7 a8 a9 jI jJ a12 jG jK jo jV jW jX ka a20 a21 si xb;refine PA.o.mono ?_;rintro e u1 Gj;obtain⟨ui,Gj⟩:=Gj;clear PA;have IG:=O ui;cases hch:mC o.text.data.toList with
 |error n =>
  rw[hch]at Gj;obtain⟨er,rfl,hen⟩:=Gj;obtain⟨et,ev,rfl⟩:=hen.acv;have HR:=O (show fM p (o.dR hs)=(p,rep 7)by unfold fM;rw[show(o.dR hs).text=o.text from rfl,hch]);have Bj:=O (ui.keep qO.o id);have HP:=O (mo HH.o HA.o (f_.o.trans IG.o));clear hch hen ui
  go_wp2_with (first|((with_reducible refine cW 30 ?_);refine aF rfl 30 (.tmp 4) (.tmp 19) rfl (w.heap.size+1) #[.int .i64 7,.string ⟨#[]⟩,.int .i64 0] rfl rfl _ bT Bj.o (bf _ rfl) rfl bW ?_)|fail)
  refine aU (bu bC _ _ (w.heap.size+1) 30 #[.int .i64 7,.string ⟨#[]⟩,.int .i64 0] (0,0) _ rfl (aY _ (w.heap.size+1) _ _ _ _ Bj.o) underlying30 rfl (bf _ rfl)) rfl ?_;unfold eI;rw[HR.o];exact⟨rfl,dz HP.o ph.o o7.o (bV _) Bj.o eN ag _⟩
 |ok l =>
  rw[hch]at Gj;obtain⟨vl,rfl,AO⟩:=Gj;have td:=RJ hch;have hlen:l.length<=1000000:=by have:=(Kn hch).2;omega
  have BE:=O (Wb vl l u1 AO.at hlen td);obtain⟨al,cl,Ti⟩:=AO.form;subst Ti;have HCH:=O hch;clear hch AO td hlen ui;go_wp2_with fail
  refine BE.o.mono ?_;rintro e u2⟨nu,r,hr,rfl⟩;clear BE;obtain⟨m,hm⟩:∃m,m=ji l:=⟨_,rfl⟩;rw[<-hm]at hr ⊢;have HM:=O hm;obtain⟨e1,e2,e3,e4,e5,e6,e7,A'⟩:=hr;have Ih:dv base u2 r.dom m.dom:=A'.in (by have h:=(Qd HCH.o).2.2.2;rw[<-hm]at h;omega);obtain⟨ad,cd,xx⟩:=Ih.rd.form
  have uH:r.cells=[.int .i64 m.scheme,.string m.aK,.string m.bq,.string m.cy,.bool m.cA,.string m.eH,.bool m.cN,.slice ad m.dom.length cd]:=by unfold fK.cells;rw[e1,e2,e3,e4,e5,e6,e7,xx]
  rw[xx]at Ih;rw[uH];have tI:=O (IG.o.trans nu);have apX:=O Ih;obtain⟨x3,xv⟩:∃x3,x3=u2.alloc (.cells #[.int .i64 m.scheme,.string m.aK,.string m.bq,.string m.cy,.bool m.cA,.string m.eH,.bool m.cN,.slice ad m.dom.length cd] 112):=⟨_,rfl⟩;have tu:=aC u2 (.cells #[.int .i64 m.scheme,.string m.aK,.string m.bq,.string m.cy,.bool m.cA,.string m.eH,.bool m.cN,.slice ad m.dom.length cd] 112)
  have iz:Fr aS w2 x3:=by rw[xv];exact tI.o.alloc _
  rw[<-xv]at tu;have JD:=O tu;have iA:=O iz;have Ol:x3.heap.size=u2.heap.size+1:=by rw[xv];simp
  have TG:=O xv;have Vo:=O (show w.heap.size+2<=u2.heap.size from by have h1:=tI.o.size;have h2:=afh.o;omega);clear A' Ih e1 e2 e3 e4 e5 e6 e7 xx uH nu hm tu iz xv;by_cases hsc:0<m.scheme
  ·obtain⟨a0,a1,a2,a3,a4,a5,a6,a7,a8,a9,jI,jJ,a12,jG,jK,jo,jV,jW,jX,ka,a20,a21⟩:=ep (Wg.o x3 iA.o) lD.o;rw[TG.o]at a0 a1 a2 a3 a4 a5 a6 a7 a8 a9 jI jJ a12 jG jK jo jV jW jX ka a20 a21;go_wp2_with fail
   obtain⟨x4,Y2⟩:∃x4,x4=(u2.alloc (.cells #[.int .i64 m.scheme,.string m.aK,.string m.bq,.string m.cy,.bool m.cA,.string m.eH,.bool m.cN,.slice ad m.dom.length cd] 112)).alloc (.cells #[.bool o.aJ.o.aE,.string o.aJ.o.host,.int .i64 o.aJ.o.port] 32):=⟨_,rfl⟩;rw[<-Y2];rw[<-TG.o]at Y2;have aaH:Fr aS x3 x4:=by rw[Y2];exact(ae _ _).alloc _
   have HB9:=O (show x4.heap[u2.heap.size+1]?=some (.cells #[.bool o.aJ.o.aE,.string o.aJ.o.host,.int .i64 o.aJ.o.port] 32 (0,0))from by
    have h:=aC x3 (.cells #[.bool o.aJ.o.aE,.string o.aJ.o.host,.int .i64 o.aJ.o.port] 32);rw[Ol]at h;rw[Y2];exact h)
   have HB7:=O (aaH.keep JD.o id);have jZ:=O (iA.o.trans aaH);have apY:=O (show Fr aS x3 x4 from aaH);have apZ:=O (show Fr aS u2 x3 from by rw[TG.o];exact(ae _ _).alloc _);clear Y2 aaH a0 a1 a2 a3 a4 a5 a6 a7 a8 a9 jI jJ a12 jG jK jo jV jW jX ka a20 a21 Ol
   have G3:=O (show∀U,Fr aS x4 U->(U.cell? ⟨B,off,none⟩=some (.pointer (some ⟨v.b,0,none⟩))/\U.cell? ⟨u2.heap.size+1,0,none⟩=some (.bool o.aJ.o.aE)/\U.cell? ⟨u2.heap.size+1,1,none⟩=some (.string o.aJ.o.host)/\U.cell? ⟨u2.heap.size+1,2,none⟩=some (.int .i64 o.aJ.o.port)/\U.cell? ⟨w.heap.size,14,none⟩=some (.bool o.proxy)/\U.cell? ⟨u2.heap.size,1,none⟩=some (.string m.aK))from fun U hU=>by
    have j1:=(HA.o.dm (f_.o.trans jZ.o)).dm hU;have j2:=hU.keep HB9.o id;have j3:=hU.keep HB7.o id;obtain⟨a0,a1,a2,a3,a4,a5,a6,a7,a8,a9,jI,jJ,a12,jG,jK,jo,jV,jW,jX,ka,a20,a21⟩:=ep (Wg.o U (jZ.o.trans hU)) lD.o;refine⟨j1.cell0,?_,?_,?_,jK,?_⟩<;>simp[World.cell?,j2,j3])
   have HGT:=O (show∀U,Fr aS x4 U->aB 56 #[.pointer (some ⟨v.b,0,none⟩),.agg #[.bool o.aJ.o.aE,.string o.aJ.o.host,.int .i64 o.aJ.o.port],.bool o.proxy,.string m.aK] U (tX base U (p.bH.find? (mX o.aJ.o o.proxy m.aK)))from fun U hU=>Wq base U v.b v.gv v.wv p.bH p.waits o.aJ.o o.proxy m.aK (((HH.o.dm (f_.o.trans jZ.o)).dm hU).oz));obtain⟨gm,hgm⟩:∃gm,gm=p.bH.find? (mX o.aJ.o o.proxy m.aK):=⟨_,rfl⟩
   rw[<-hgm]at HGT;have HGM:=O hgm;obtain⟨ok,CE⟩:∃ok,ok=gm.isSome:=⟨_,rfl⟩;have KM:=O CE;have afi:=O (show base<=x4.heap.size from aG ph.o (f_.o.trans jZ.o).size);clear hgm CE;apply VY (P:=GtJ base x4 gm)
   ·intro hJ;have HJ:=O hJ;clear hJ
    refine wp_region_held_drew (S:=(fun U=>U.cell? ⟨B,off,none⟩=some (.pointer (some ⟨v.b,0,none⟩))/\U.cell? ⟨u2.heap.size+1,0,none⟩=some (.bool o.aJ.o.aE)/\U.cell? ⟨u2.heap.size+1,1,none⟩=some (.string o.aJ.o.host)/\U.cell? ⟨u2.heap.size+1,2,none⟩=some (.int .i64 o.aJ.o.port)/\U.cell? ⟨w.heap.size,14,none⟩=some (.bool o.proxy)/\U.cell? ⟨u2.heap.size,1,none⟩=some (.string m.aK))) af (G3.o _ (aA (ae _ _))) ?_
    intro Az;refine aW 0 33 rfl ?_;refine aW 1 34 rfl ?_;refine aW 2 35 rfl ?_;refine aW 3 36 rfl ?_;refine aW 4 37 rfl ?_;refine aW 5 38 rfl ?_;refine aW 6 39 rfl ?_;refine aW 7 40 rfl ?_;refine aW 8 41 rfl ?_;refine Ej 9 13 rfl rfl (fun K hK=>?_) fun K hK=>?_
    ·go_simp;refine(HGT.o _ (aA (ae _ _))).mono ?_;rintro e u5 LL;obtain⟨lQ,X,rfl,GQ,LM,D'⟩:=tX.one LL;rw[<-KM.o];have HX:=O (And.intro GQ (And.intro LM D'));have xn:=O ((aA (ae aS x4)).trans lQ);clear LL GQ LM D' lQ;refine hK.out _ _ (G3.o _ xn.o) ?_;intro yu;clear hK Az K
     try simp only[Act.put,sA,sB,sC]
     refine aW 10 32 rfl ?_;refine aW 11 43 rfl ?_;refine aW 12 44 rfl ?_;refine eT 13 rfl fun K hK=>?_;go_simp;obtain⟨n,hne⟩:∃n,n=u5.heap.size:=⟨_,rfl⟩;obtain⟨w6,zG⟩:∃w6,w6=u5.alloc (.cells eS 114):=⟨_,rfl⟩;have HZZ:=O (show w6.heap[n]?=some (.cells eS 114 (0,0))by rw[zG,hne];exact aC _ _);have afk:Fr aS u5 w6:=by rw[zG];exact(ae _ _).alloc _
     have yH:=O (xn.o.trans afk);have ap1:=O afk;have Cv:=O (show x4.heap.size<=n by rw[hne];exact xn.o.size);rw[<-zG, <-hne];clear zG hne afk;refine hK.out _ _ (G3.o _ yH.o) ?_;intro B7;clear hK yu K
     try simp only[Act.put,sA,sB,sC]
     refine eT 14 rfl fun K hK=>?_;refine jU rfl 114 (.tmp 10) (.tmp 43) rfl n X rfl rfl 114 eS HZZ.o (G5 HX.o.1) HX.o.1.symm HX.o.2.1 ?_;obtain⟨W,hW⟩:∃W,W=w6.setRow n X:=⟨_,rfl⟩;have B8:Fr aS x4 W:=by rw[hW];exact gV yH.o Cv.o _
     have Z':W.heap[n]?=some (.cells X 114 (0,0)):=by rw[hW];exact jR HZZ.o
     have hWS:∀vv ss,dv base u5 vv ss->dv base W vv ss:=fun vv ss h=>by rw[hW];exact L5 HZZ.o ag (aG afi.o Cv.o) vv ss (h.dm ap1.o)
     rw[<-hW];refine hK.out _ _ (G3.o _ B8) ?_;intro Fu;clear hK B7 K
     try simp only[Act.put,sA,sB,sC]
     refine aW 15 8 rfl ?_;clear Fu;refine wpAnyH_done af ?_ _;exact HJ.o n X W ⟨B8,Z',Cv.o,HX.o.1,fun g hg=>by
      obtain⟨r,e1,e2⟩:=HX.o.2.2 g hg;exact⟨r,e1,e2.mono (fun v l h=>hWS v l h)⟩⟩
    ·go_simp;obtain⟨n,hne⟩:∃n,n=x4.heap.size:=⟨_,rfl⟩;obtain⟨w6,zG⟩:∃w6,w6=(x4.alloc (.cells eS 114)).drew:=⟨_,rfl⟩;have hz6:w6.heap[n]?=some (.cells eS 114 (0,0)):=by rw[zG,hne];exact aC x4 _
     have yH:=O (show Fr aS x4 w6 by rw[zG];exact((ae _ _).alloc _).drew);have Cv:=O (show x4.heap.size<=n from ab);have HZ6:=O hz6;rw[<-zG, <-hne];clear zG hne hz6;refine hK.out _ _ (G3.o _ yH.o) ?_;intro yu;clear hK Az K
     try simp only[Act.put,sA,sB,sC]
     refine eT 9 rfl fun K hK=>?_;go_simp;refine(HGT.o _ yH.o).mono ?_;rintro e u5 LL;obtain⟨lQ,X,rfl,GQ,LM,D'⟩:=tX.one LL;rw[<-KM.o];have HX:=O (And.intro GQ (And.intro LM D'));have xn:=O (yH.o.trans lQ);have HZZ:=O (lQ.keep HZ6.o id);clear LL GQ LM D' lQ;refine hK.out _ _ (G3.o _ xn.o) ?_;intro B7;clear hK yu K
     try simp only[Act.put,sA,sB,sC]
     refine aW 10 32 rfl ?_;refine aW 11 43 rfl ?_;refine aW 12 44 rfl ?_;refine eT 14 rfl fun K hK=>?_;refine jU rfl 114 (.tmp 10) (.tmp 43) rfl n X rfl rfl 114 eS HZZ.o (G5 HX.o.1) HX.o.1.symm HX.o.2.1 ?_;obtain⟨W,hW⟩:∃W,W=u5.setRow n X:=⟨_,rfl⟩;have B8:Fr aS x4 W:=by rw[hW];exact gV xn.o Cv.o _
     have Z':W.heap[n]?=some (.cells X 114 (0,0)):=by rw[hW];exact jR HZZ.o
     have hWS:∀vv ss,dv base u5 vv ss->dv base W vv ss:=fun vv ss h=>by rw[hW];exact L5 HZZ.o ag (aG afi.o Cv.o) vv ss (h)
     rw[<-hW];refine hK.out _ _ (G3.o _ B8) ?_;intro Fu;clear hK B7 K
     try simp only[Act.put,sA,sB,sC]
     refine aW 15 8 rfl ?_;clear Fu;refine wpAnyH_done af ?_ _;exact HJ.o n X W ⟨B8,Z',Cv.o,HX.o.1,fun g hg=>by
      obtain⟨r,e1,e2⟩:=HX.o.2.2 g hg;exact⟨r,e1,e2.mono (fun v l h=>hWS v l h)⟩⟩
   ·intro n X W hj;obtain⟨B8,Z',VZ,UG,GN⟩:=hj;have HW:=O (jZ.o.trans B8);have xh:=O (f_.o.trans HW.o);have I0:=O (HH.o.dm xh.o);have A0:=O (HA.o.dm xh.o);have afl:=O (B8.keep HB9.o id);have WM:=O (B8.keep HB7.o id);have afm:=O (HW.o.keep mN.o id);have aj9:=O (HW.o.keep qO.o id);have HSW:=O (apX.o.dm (show Fr aS u2 W from apZ.o.trans (apY.o.trans B8)));have ap4:=O Z';have VO:=O GN
    have hn7:u2.heap.size≠B:=by have:=Vo.o;omega
    have hn9:u2.heap.size+1≠B:=by have:=Vo.o;omega
    clear B8 Z' GN G3 HGT
    have Uy:=O (show∀U,Fr (dw v.b v.gv v.wv) W U->(U.cell? ⟨B,off,none⟩=some (.pointer (some ⟨v.b,0,none⟩))/\U.cell? ⟨u2.heap.size+1,0,none⟩=some (.bool o.aJ.o.aE)/\U.cell? ⟨u2.heap.size+1,1,none⟩=some (.string o.aJ.o.host)/\U.cell? ⟨u2.heap.size+1,2,none⟩=some (.int .i64 o.aJ.o.port)/\U.cell? ⟨w.heap.size,14,none⟩=some (.bool o.proxy)/\U.cell? ⟨u2.heap.size,1,none⟩=some (.string m.aK))from fun U hU=>by
     have j1:=A0.o.fr hU (fun hb=>CK.o (Or.inl hb));have j2:=hU.keep afl.o (fun hb=>I0.o.fi afl.o pQ (Or.inl hb));have j3:=hU.keep WM.o (fun hb=>I0.o.fi WM.o Bf (Or.inl hb));have j4:=hU.keep afm.o (fun hb=>I0.o.fi afm.o jl (Or.inl hb));obtain⟨a0,a1,a2,a3,a4,a5,a6,a7,a8,a9,jI,jJ,a12,jG,jK,jo,jV,jW,jX,ka,a20,a21⟩:=ep j4 lD.o;refine⟨j1.cell0,?_,?_,?_,jK,?_⟩<;>simp[World.cell?,j2,j3])
    have Tt:=O (show∀U,Fr aS W U->aB 53 #[.pointer (some ⟨v.b,0,none⟩),.agg #[.bool o.aJ.o.aE,.string o.aJ.o.host,.int .i64 o.aJ.o.port],.bool o.proxy,.string m.aK] U (v8 base U v.b v.gv v.wv p.bH p.waits (mX o.aJ.o o.proxy m.aK))from fun U hU=>zF base U v.b v.gv v.wv p.bH p.waits o.aJ.o o.proxy m.aK (I0.o.dm hU).oz);cases L_:gm
    case' none =>
     have rO:ok=false:=by rw[KM.o,L_];rfl
     have HR:=O (show fM p (o.dR hs)=({p with bH:=uW p.bH o.aJ.o o.proxy m.aK,waits:=zL p.waits ⟨o.aJ.o,o.proxy,o.aJ.path,m⟩},rep 3)by
      unfold fM;rw[show(o.dR hs).text=o.text from rfl,HCH.o];simp only;rw[<-HM.o,az hsc];rw[show ZR p.bH (o.dR hs).o (o.dR hs).proxy m.aK=none from by rw[<-L_];exact HGM.o.symm];rfl)
     rw[rO];clear L_ KM rO;go_wp2_with fail
    case' some g =>
     have rO:ok=true:=by rw[KM.o,L_];rfl
     obtain⟨r2,X',ot⟩:=VO.o g L_;obtain⟨p1,p2,p3,p4,p5,p6,p7⟩:=ot;have HPA:=O p7;obtain⟨e1,e2,e3,e4,e5,e6,e7,xB⟩:=p5;obtain⟨ad2,cd2,aj_⟩:=xB.rd.form;obtain⟨ap2,cp2,afn⟩:=p7.rd.form;have HPB:=O (show dv base W (.slice ap2 g.paths.length cp2) g.paths from by rw[<-afn];exact p7)
     have xr:X= #[.bool g.o.aE,.string g.o.host,.int .i64 g.o.port,.bool g.proxy,.string g.user,.string g.pass,.int .i64 g.a.scheme,.string g.a.aK,.string g.a.bq,.string g.a.cy,.bool g.a.cA,.string g.a.eH,.bool g.a.cN,.slice ad2 g.a.dom.length cd2,.int .i64 g.count,.slice ap2 g.paths.length cp2]:=by
      rw[X'];unfold aP.cells;rw[p1,p2,p3,p4,p6,e1,e2,e3,e4,e5,e6,e7,aj_,afn]
     have Eh:=WM.o;have Sd:=ap4.o;rw[xr]at Sd;have q0:W.cell? ⟨u2.heap.size,0,none⟩=some (.int .i64 m.scheme):=by simp[World.cell?,Eh]
     have q2:W.cell? ⟨u2.heap.size,2,none⟩=some (.string m.bq):=by simp[World.cell?,Eh]
     have q6:W.cell? ⟨u2.heap.size,6,none⟩=some (.bool m.cN):=by simp[World.cell?,Eh]
     have t6:W.cell? ⟨n,6,none⟩=some (.int .i64 g.a.scheme):=by simp[World.cell?,Sd]
     have t8:W.cell? ⟨n,8,none⟩=some (.string g.a.bq):=by simp[World.cell?,Sd]
     have rh:=O Sd;have TE:=O (show(m.cN&&(m.scheme==g.a.scheme&&m.bq.toList !=g.a.bq.toList))=false->fM p (o.dR hs)=({p with bH:=uW p.bH o.aJ.o o.proxy m.aK,waits:=zL p.waits ⟨o.aJ.o,o.proxy,o.aJ.path,m⟩},rep 3)from fun ir=>by
      unfold fM;rw[show(o.dR hs).text=o.text from rfl,HCH.o];simp only;rw[<-HM.o,az hsc];rw[show ZR p.bH (o.dR hs).o (o.dR hs).proxy m.aK=some g from by rw[<-L_];exact HGM.o.symm];unfold D8;simp only;rw[ir];rfl)
     have HGL:=O (show ZR p.bH (o.dR hs).o (o.dR hs).proxy m.aK=some g from by rw[<-L_];exact HGM.o.symm);rw[rO];clear L_ KM rO X' p1 p2 p3 p4 p6 p7 e1 e2 e3 e4 e5 e6 e7 xB aj_ afn xr Eh Sd UG;cases ir:m.cN
     case' false =>
      have HR:=O (TE.o (by rw[ir];rfl));rw[ir]at q6;clear ir TE;go_wp2_with fail
     case' true =>
      by_cases L':m.scheme=g.a.scheme
      case' pos =>
       by_cases Li:m.bq=g.a.bq
       case' pos =>
        have HR:=O (TE.o (by rw[Li];simp));rw[ir]at q6;rw[L']at q0;rw[Li]at q2;clear ir TE;have HNO:=O Li;have Yh:=O L';clear Li L';go_wp2_with fail
       case neg =>
        have HR:=O (show fM p (o.dR hs)=({p with bH:=vq p.bH {g with a:=m,count:=0}},rep 1)by
         unfold fM;rw[show(o.dR hs).text=o.text from rfl,HCH.o];simp only;rw[<-HM.o,az hsc];rw[HGL.o];unfold D8;simp only;rw[show(m.cN&&(m.scheme==g.a.scheme&&m.bq.toList !=g.a.bq.toList))=true from by rw[ir,L'];simp;exact fun e=>Li (toList_inj.1 e)];rfl)
        have Eh:=WM.o;rw[L']at Eh q0;rw[ir]at Eh q6;have q1b:W.cell? ⟨u2.heap.size,1,none⟩=some (.string m.aK):=by simp[World.cell?,Eh]
        have q3b:W.cell? ⟨u2.heap.size,3,none⟩=some (.string m.cy):=by simp[World.cell?,Eh]
        have q4b:W.cell? ⟨u2.heap.size,4,none⟩=some (.bool m.cA):=by simp[World.cell?,Eh]
        have q5b:W.cell? ⟨u2.heap.size,5,none⟩=some (.string m.eH):=by simp[World.cell?,Eh]
        have q7b:W.cell? ⟨u2.heap.size,7,none⟩=some (.slice ad m.dom.length cd):=by simp[World.cell?,Eh]
        have z6:W.cell? ⟨n,6,none⟩=some (.int .i64 g.a.scheme):=by simp[World.cell?,rh.o]
        have y6:W.frozen? ⟨n,6,none⟩=false:=by simp[World.frozen?,rh.o]
        have z7:W.cell? ⟨n,7,none⟩=some (.string g.a.aK):=by simp[World.cell?,rh.o]
        have y7:W.frozen? ⟨n,7,none⟩=false:=by simp[World.frozen?,rh.o]
        have z8:W.cell? ⟨n,8,none⟩=some (.string g.a.bq):=by simp[World.cell?,rh.o]
        have y8:W.frozen? ⟨n,8,none⟩=false:=by simp[World.frozen?,rh.o]
        have z9:W.cell? ⟨n,9,none⟩=some (.string g.a.cy):=by simp[World.cell?,rh.o]
        have y9:W.frozen? ⟨n,9,none⟩=false:=by simp[World.frozen?,rh.o]
        have z10:W.cell? ⟨n,10,none⟩=some (.bool g.a.cA):=by simp[World.cell?,rh.o]
        have y10:W.frozen? ⟨n,10,none⟩=false:=by simp[World.frozen?,rh.o]
        have z11:W.cell? ⟨n,11,none⟩=some (.string g.a.eH):=by simp[World.cell?,rh.o]
        have y11:W.frozen? ⟨n,11,none⟩=false:=by simp[World.frozen?,rh.o]
        have z12:W.cell? ⟨n,12,none⟩=some (.bool g.a.cN):=by simp[World.cell?,rh.o]
        have y12:W.frozen? ⟨n,12,none⟩=false:=by simp[World.frozen?,rh.o]
        have z13:W.cell? ⟨n,13,none⟩=some (.slice ad2 g.a.dom.length cd2):=by simp[World.cell?,rh.o]
        have JG:W.frozen? ⟨n,13,none⟩=false:=by simp[World.frozen?,rh.o]
        have z14:W.cell? ⟨n,14,none⟩=some (.int .i64 g.count):=by simp[World.cell?,rh.o]
        have Fy:W.frozen? ⟨n,14,none⟩=false:=by simp[World.frozen?,rh.o]
        have Yh:=O L';have mj:=O ir;have Jz:¬m.bq.toList=g.a.bq.toList:=fun e=>Li (by cases hx:m.bq;cases hy:g.a.bq;rw[hx,hy]at e;simpa[aO]using e);have AU:(m.bq.toList==g.a.bq.toList)=false:=aL.2 Jz;have Wj:¬v.j_ n:=fun hk=>by have:=(HH.o.dm (f_.o.trans jZ.o)).jr hk;omega
        have awF:=bj HB9.o;have acB:rY base W (one n):=by
         rintro k rfl _;exact⟨aG afi.o VZ,fun c f e=>by rw[rh.o]at e;cases e⟩
        have Ay:n≠B:=by have h1:=o7.o;have h2:=(f_.o.trans jZ.o).size;omega
        have PF:n≠w.heap.size:=by have h2:=(jZ.o).size;have h3:=afh.o;omega
        have aka:n≠w.heap.size+1:=by have h2:=(jZ.o).size;have h3:=afh.o;omega
        have hln:w.heap.size<=n:=by have h2:=(f_.o.trans jZ.o).size;omega
        have HNF:=O Wj;have afo:=O acB;have EU:=O Ay;have HN0:=O PF;have HN1:=O aka;have JF:=O hln;clear Eh ir L' TE acB Li Ay PF aka Wj hln
        obtain⟨V,hV⟩:∃V,V=(((((((((W.setCell ⟨n,6,none⟩ (.int .i64 g.a.scheme)).setCell ⟨n,7,none⟩ (.string m.aK)).setCell ⟨n,8,none⟩ (.string m.bq)).setCell ⟨n,9,none⟩ (.string m.cy)).setCell ⟨n,10,none⟩ (.bool m.cA)).setCell ⟨n,11,none⟩ (.string m.eH)).setCell ⟨n,12,none⟩ (.bool true)).setCell ⟨n,13,none⟩ (.slice ad m.dom.length cd)).setCell ⟨n,14,none⟩ (.int .i64 0)):=⟨_,rfl⟩;go_wp2_with fail
        rw[<-hV]
        have Yd:Fr (one n) W V:=by rw[hV];exact((((((((((ae (one n) W).setCell (p:=⟨n,6,none⟩) (fun _=>rfl) _).setCell (p:=⟨n,7,none⟩) (fun _=>rfl) _).setCell (p:=⟨n,8,none⟩) (fun _=>rfl) _).setCell (p:=⟨n,9,none⟩) (fun _=>rfl) _).setCell (p:=⟨n,10,none⟩) (fun _=>rfl) _).setCell (p:=⟨n,11,none⟩) (fun _=>rfl) _).setCell (p:=⟨n,12,none⟩) (fun _=>rfl) _).setCell (p:=⟨n,13,none⟩) (fun _=>rfl) _).setCell (p:=⟨n,14,none⟩) (fun _=>rfl) _)
        have hwV:Fr aS w V:=by rw[hV];exact(((((((((xh.o.gJ (p:=⟨n,6,none⟩) JF.o _).gJ (p:=⟨n,7,none⟩) JF.o _).gJ (p:=⟨n,8,none⟩) JF.o _).gJ (p:=⟨n,9,none⟩) JF.o _).gJ (p:=⟨n,10,none⟩) JF.o _).gJ (p:=⟨n,11,none⟩) JF.o _).gJ (p:=⟨n,12,none⟩) JF.o _).gJ (p:=⟨n,13,none⟩) JF.o _).gJ (p:=⟨n,14,none⟩) JF.o _)
        have hbV:V.heap[n]?=some (.cells #[.bool g.o.aE,.string g.o.host,.int .i64 g.o.port,.bool g.proxy,.string g.user,.string g.pass,.int .i64 g.a.scheme,.string m.aK,.string m.bq,.string m.cy,.bool m.cA,.string m.eH,.bool true,.slice ad m.dom.length cd,.int .i64 0,.slice ap2 g.paths.length cp2] 114 (0,0)):=by
         have e1:=cg rh.o 6 (.int .i64 g.a.scheme);have e2:=cg e1 7 (.string m.aK);have e3:=cg e2 8 (.string m.bq);have e4:=cg e3 9 (.string m.cy);have e5:=cg e4 10 (.bool m.cA);have e6:=cg e5 11 (.string m.eH);have e7:=cg e6 12 (.bool true);have e8:=cg e7 13 (.slice ad m.dom.length cd);have e9:=cg e8 14 (.int .i64 0);rw[hV,e9];simp
        have iV:=I0.o.fr Yd afo.o (fun i hi e=>HNF.o (by have e':i=n:=e;rw[<-e'];exact hi));have aV:=A0.o.fr Yd (fun e=>EU.o (show B=n from e).symm);have rV:=Yd.keep aj9.o (fun e=>HN1.o (show w.heap.size+1=n from e).symm);have hpV:dv base V (.slice ap2 g.paths.length cp2) g.paths:=HPB.o.fr Yd afo.o;have hmV:dv base V (.slice ad m.dom.length cd) m.dom:=HSW.o.fr Yd afo.o;have HIV:=O iV;have HAV:=O aV
        have HRV:=O rV;have Zj:=O hwV;have HBV:=O hbV
        have HPU:=O (show∀U,Fr aS V U->aB 57 #[.pointer (some ⟨v.b,0,none⟩),.agg #[.bool g.o.aE,.string g.o.host,.int .i64 g.o.port,.bool g.proxy,.string g.user,.string g.pass,.int .i64 g.a.scheme,.string m.aK,.string m.bq,.string m.cy,.bool m.cA,.string m.eH,.bool true,.slice ad m.dom.length cd,.int .i64 0,.slice ap2 g.paths.length cp2]] U (Iy base U v.b v.gv v.wv (vq p.bH {g with a:=m,count:=0}) p.waits)from fun U hU=>by
         have h:=P7 base U v.b v.gv v.wv p.bH p.waits ⟨g.o,g.proxy,g.user,g.pass,{m with dom:=.slice ad m.dom.length cd},0,.slice ap2 g.paths.length cp2⟩ {g with a:=m,count:=0} (HIV.o.dm hU).oz ⟨rfl,rfl,rfl,rfl,⟨rfl,rfl,rfl,rfl,rfl,rfl,rfl,hmV.dm hU⟩,rfl,hpV.dm hU⟩ ab;unfold aP.cells at h;rw[show m.scheme=g.a.scheme from Yh.o,show m.cN=true from mj.o]at h;exact h)
        have HC:=O (show∀U,Fr (dw v.b v.gv v.wv) V U->(U.cell? ⟨B,off,none⟩=some (.pointer (some ⟨v.b,0,none⟩))/\U.cell? ⟨n,0,none⟩=some (.bool g.o.aE)/\U.cell? ⟨n,1,none⟩=some (.string g.o.host)/\U.cell? ⟨n,2,none⟩=some (.int .i64 g.o.port)/\U.cell? ⟨n,3,none⟩=some (.bool g.proxy)/\U.cell? ⟨n,4,none⟩=some (.string g.user)/\U.cell? ⟨n,5,none⟩=some (.string g.pass)/\U.cell? ⟨n,6,none⟩=some (.int .i64 g.a.scheme)/\U.cell? ⟨n,7,none⟩=some (.string m.aK)/\U.cell? ⟨n,8,none⟩=some (.string m.bq)/\U.cell? ⟨n,9,none⟩=some (.string m.cy)/\U.cell? ⟨n,10,none⟩=some (.bool m.cA)/\U.cell? ⟨n,11,none⟩=some (.string m.eH)/\U.cell? ⟨n,12,none⟩=some (.bool true)/\U.cell? ⟨n,13,none⟩=some (.slice ad m.dom.length cd)/\U.cell? ⟨n,14,none⟩=some (.int .i64 0)/\U.cell? ⟨n,15,none⟩=some (.slice ap2 g.paths.length cp2))from fun U hU=>by
         have j1:=HAV.o.fr hU (fun hb=>CK.o (Or.inl hb));have j2:=hU.keep HBV.o (fun hb=>HNF.o (Or.inl hb));refine⟨j1.cell0,?_,?_,?_,?_,?_,?_,?_,?_,?_,?_,?_,?_,?_,?_,?_,?_⟩<;>simp[World.cell?,j2])
        clear hV Yd hwV hbV iV aV rV hpV hmV
        go_region_held3 (fun U=>Fr (dw v.b v.gv v.wv) V U/\(U.cell? ⟨B,off,none⟩=some (.pointer (some ⟨v.b,0,none⟩))/\U.cell? ⟨n,0,none⟩=some (.bool g.o.aE)/\U.cell? ⟨n,1,none⟩=some (.string g.o.host)/\U.cell? ⟨n,2,none⟩=some (.int .i64 g.o.port)/\U.cell? ⟨n,3,none⟩=some (.bool g.proxy)/\U.cell? ⟨n,4,none⟩=some (.string g.user)/\U.cell? ⟨n,5,none⟩=some (.string g.pass)/\U.cell? ⟨n,6,none⟩=some (.int .i64 g.a.scheme)/\U.cell? ⟨n,7,none⟩=some (.string m.aK)/\U.cell? ⟨n,8,none⟩=some (.string m.bq)/\U.cell? ⟨n,9,none⟩=some (.string m.cy)/\U.cell? ⟨n,10,none⟩=some (.bool m.cA)/\U.cell? ⟨n,11,none⟩=some (.string m.eH)/\U.cell? ⟨n,12,none⟩=some (.bool true)/\U.cell? ⟨n,13,none⟩=some (.slice ad m.dom.length cd)/\U.cell? ⟨n,14,none⟩=some (.int .i64 0)/\U.cell? ⟨n,15,none⟩=some (.slice ap2 g.paths.length cp2))) ((refine(fun hU=>⟨hU,HC.o _ hU⟩) ?_;first|exact aA (ae _ _)|assumption))
         ((first
          |(go_at_call 57;refine(HPU.o _ (aA (ae _ _))).mono ?_;rintro e u6 ⟨rfl,AZ⟩;have Fz:Fr (dw v.b v.gv v.wv) V u6:=(aA (ae _ _)).trans (by obtain⟨_,_,_,h,_⟩:=AZ;exact h))))
        have HP:=O (show dk base w B cs off v {p with bH:=vq p.bH {g with a:=m,count:=0}} u6 from dh Zj.o (dh (aA (ae aS V)) (eR (HIV.o.dm (aA (ae aS V))) (HAV.o.dm (aA (ae aS V))) CK.o AZ)));have r6:=O (eK (B:=B) HIV.o (Fz.mono (fun k _ hk=>Or.inr (Or.inl hk))) HRV.o dM ab);clear AZ Fz HC HPU
        go_wp2_with (first|((with_reducible refine cW 30 ?_);refine aF rfl 30 (.tmp 4) (.tmp 75) rfl (w.heap.size+1) #[.int .i64 1,.string ⟨#[]⟩,.int .i64 0] rfl rfl _ bT r6.o (bf _ rfl) rfl bW ?_)|fail)
        refine aU (bu bC _ _ (w.heap.size+1) 30 #[.int .i64 1,.string ⟨#[]⟩,.int .i64 0] (0,0) _ rfl (aY _ (w.heap.size+1) _ _ _ _ r6.o) underlying30 rfl (bf _ rfl)) rfl ?_;unfold eI;rw[HR.o];exact⟨rfl,dz HP.o ph.o o7.o (bV _) r6.o eN ag _⟩
      case' neg =>
       have HR:=O (TE.o (by rw[aL.2 L'];simp));rw[ir]at q6;clear ir TE;go_wp2_with fail
    all_goals
     go_region_held3 (fun U=>Fr (dw v.b v.gv v.wv) W U/\U.cell? ⟨B,off,none⟩=some (.pointer (some ⟨v.b,0,none⟩))/\U.cell? ⟨u2.heap.size+1,0,none⟩=some (.bool o.aJ.o.aE)/\U.cell? ⟨u2.heap.size+1,1,none⟩=some (.string o.aJ.o.host)/\U.cell? ⟨u2.heap.size+1,2,none⟩=some (.int .i64 o.aJ.o.port)/\U.cell? ⟨w.heap.size,14,none⟩=some (.bool o.proxy)/\U.cell? ⟨u2.heap.size,1,none⟩=some (.string m.aK)) ((refine(fun hU=>⟨hU,Uy.o _ hU⟩) ?_;first|exact aA (ae _ _)|assumption))
      ((first
       |(go_at_call 53;refine(Tt.o _ (aA (ae _ _))).mono ?_;rintro e u6 ⟨rfl,AZ⟩;have Fz:Fr (dw v.b v.gv v.wv) W u6:=(aA (ae _ _)).trans (by obtain⟨_,_,_,h,_⟩:=AZ;exact h))))
     have HS6:=O (HSW.o.fr Fz (fun k hk hl=>I0.o.off k (Or.inl hk) hl));obtain⟨v6,i6,f6,acC,akc⟩:=eR (I0.o.dm (aA (ae aS W))) (A0.o.dm (aA (ae aS W))) CK.o AZ;have aa6:=ix A0.o akc;have o6:=eK (I0.o.dm (aA (ae aS W))) f6 (show W.drew.heap[w.heap.size]?=_ from afm.o) jl ab;have r6:=eK (I0.o.dm (aA (ae aS W))) f6 (show W.drew.heap[w.heap.size+1]?=_ from aj9.o) dM ab
     have q6:=eK (I0.o.dm (aA (ae aS W))) f6 (show W.drew.heap[u2.heap.size]?=_ from WM.o) Bf hn7;have g6:=eK (I0.o.dm (aA (ae aS W))) f6 (show W.drew.heap[u2.heap.size+1]?=_ from afl.o) pQ hn9;have I6:=O i6;have F6:=O f6;have FT6:=O acC;have AA6:=O aa6;have O6:=O o6;have R6:=O r6;have Q6:=O q6;have G6:=O g6;clear AZ Fz i6 f6 acC aa6 o6 r6 q6 g6 akc Uy Tt
     have HC6:=O (show∀U,Fr (dw v6.b v6.gv v6.wv) u6 U->(U.cell? ⟨B,off,none⟩=some (.pointer (some ⟨v6.b,0,none⟩))/\U.cell? ⟨u2.heap.size+1,0,none⟩=some (.bool o.aJ.o.aE)/\U.cell? ⟨u2.heap.size+1,1,none⟩=some (.string o.aJ.o.host)/\U.cell? ⟨u2.heap.size+1,2,none⟩=some (.int .i64 o.aJ.o.port)/\U.cell? ⟨w.heap.size,8,none⟩=some (.string o.aJ.path)/\U.cell? ⟨w.heap.size,14,none⟩=some (.bool o.proxy)/\U.cell? ⟨u2.heap.size,0,none⟩=some (.int .i64 m.scheme)/\U.cell? ⟨u2.heap.size,1,none⟩=some (.string m.aK)/\U.cell? ⟨u2.heap.size,2,none⟩=some (.string m.bq)/\U.cell? ⟨u2.heap.size,3,none⟩=some (.string m.cy)/\U.cell? ⟨u2.heap.size,4,none⟩=some (.bool m.cA)/\U.cell? ⟨u2.heap.size,5,none⟩=some (.string m.eH)/\U.cell? ⟨u2.heap.size,6,none⟩=some (.bool m.cN)/\U.cell? ⟨u2.heap.size,7,none⟩=some (.slice ad m.dom.length cd))from fun U hU=>by
      have j1:=AA6.o.fr hU (fun hb=>I6.o.fi AA6.o.eL ag (Or.inl hb));have j2:=hU.keep G6.o (fun hb=>I6.o.fi G6.o pQ (Or.inl hb));have j3:=hU.keep Q6.o (fun hb=>I6.o.fi Q6.o Bf (Or.inl hb));have j4:=hU.keep O6.o (fun hb=>I6.o.fi O6.o jl (Or.inl hb));obtain⟨a0,a1,a2,a3,a4,a5,a6,a7,a8,a9,jI,jJ,a12,jG,jK,jo,jV,jW,jX,ka,a20,a21⟩:=ep j4 lD.o
      refine⟨j1.cell0,?_,?_,?_,a8,jK,?_,?_,?_,?_,?_,?_,?_,?_⟩<;>simp[World.cell?,j2,j3])
     have HAS:=O (show∀U,Fr aS u6 U->aB 58 #[.pointer (some ⟨v6.b,0,none⟩),.agg #[.bool o.aJ.o.aE,.string o.aJ.o.host,.int .i64 o.aJ.o.port,.bool o.proxy,.string o.aJ.path,.int .i64 m.scheme,.string m.aK,.string m.bq,.string m.cy,.bool m.cA,.string m.eH,.bool m.cN,.slice ad m.dom.length cd]] U (Gy base U v6.b v6.gv v6.wv (uW p.bH o.aJ.o o.proxy m.aK) (zL p.waits ⟨o.aJ.o,o.proxy,o.aJ.path,m⟩))from fun U hU=>by
      exact NX base U v6.b v6.gv v6.wv (uW p.bH o.aJ.o o.proxy m.aK) p.waits ⟨o.aJ.o,o.proxy,o.aJ.path,{m with dom:=.slice ad m.dom.length cd}⟩ ⟨o.aJ.o,o.proxy,o.aJ.path,m⟩ (I6.o.dm hU).oz ⟨rfl,rfl,rfl,rfl,rfl,rfl,rfl,rfl,rfl,rfl,HS6.o.dm hU⟩ ab)
     go_wp2_with fail
     go_region_held3 (fun U=>Fr (dw v6.b v6.gv v6.wv) u6 U/\U.cell? ⟨B,off,none⟩=some (.pointer (some ⟨v6.b,0,none⟩))/\U.cell? ⟨u2.heap.size+1,0,none⟩=some (.bool o.aJ.o.aE)/\U.cell? ⟨u2.heap.size+1,1,none⟩=some (.string o.aJ.o.host)/\U.cell? ⟨u2.heap.size+1,2,none⟩=some (.int .i64 o.aJ.o.port)/\U.cell? ⟨w.heap.size,8,none⟩=some (.string o.aJ.path)/\U.cell? ⟨w.heap.size,14,none⟩=some (.bool o.proxy)/\U.cell? ⟨u2.heap.size,0,none⟩=some (.int .i64 m.scheme)/\U.cell? ⟨u2.heap.size,1,none⟩=some (.string m.aK)/\U.cell? ⟨u2.heap.size,2,none⟩=some (.string m.bq)/\U.cell? ⟨u2.heap.size,3,none⟩=some (.string m.cy)/\U.cell? ⟨u2.heap.size,4,none⟩=some (.bool m.cA)/\U.cell? ⟨u2.heap.size,5,none⟩=some (.string m.eH)/\U.cell? ⟨u2.heap.size,6,none⟩=some (.bool m.cN)/\U.cell? ⟨u2.heap.size,7,none⟩=some (.slice ad m.dom.length cd)) ((refine(fun hU=>⟨hU,HC6.o _ hU⟩) ?_;first|exact aA (ae _ _)|assumption))
      ((first
       |(go_at_call 58;refine(HAS.o _ (aA (ae _ _))).mono ?_;rintro e u8 ⟨rfl,hb8⟩;have akd:Fr (dw v6.b v6.gv v6.wv) u6 u8:=(aA (ae _ _)).trans (by obtain⟨_,_,_,h,_⟩:=hb8;exact h))))
     have Wm:=eR (I6.o.dm (aA (ae aS u6))) (AA6.o.dm (aA (ae aS u6))) (I6.o.fi AA6.o.eL ag) hb8;have HP:=O (show dk base W B cs off v {p with bH:=uW p.bH o.aJ.o o.proxy m.aK,waits:=zL p.waits ⟨o.aJ.o,o.proxy,o.aJ.path,m⟩} u8 from dh (aA (ae aS W)) (gL F6.o FT6.o (dh (aA (ae aS u6)) Wm)));have r8:=O (eK (B:=B) I6.o (akd.mono (fun k _ hk=>Or.inr (Or.inl hk))) R6.o dM ab);clear Wm hb8 akd HC6 HAS
     go_wp2_with (first|((with_reducible refine cW 30 ?_);refine aF rfl 30 (.tmp 4) (.tmp 100) rfl (w.heap.size+1) #[.int .i64 3,.string ⟨#[]⟩,.int .i64 0] rfl rfl _ bT r8.o (bf _ rfl) rfl bW ?_)|fail)
     refine aU (bu bC _ _ (w.heap.size+1) 30 #[.int .i64 3,.string ⟨#[]⟩,.int .i64 0] (0,0) _ rfl (aY _ (w.heap.size+1) _ _ _ _ r8.o) underlying30 rfl (bf _ rfl)) rfl ?_;unfold eI;rw[HR.o];exact⟨rfl,dz (HP.o.after xh.o) ph.o o7.o (bV _) r8.o eN ag _⟩
  ·have HR:=O (show fM p (o.dR hs)=(p,rep 2)by
    unfold fM;rw[show(o.dR hs).text=o.text from rfl,HCH.o];simp only;rw[aq (by rw[<-HM.o];exact hsc)])
   have Bj:=O (iA.o.keep qO.o id);have HP:=O (mo HH.o HA.o (f_.o.trans iA.o));have hsd:decide (0<m.scheme)=false:=bD hsc;have awK:m.scheme<=0:=ab;have h3c:=TG.o;subst h3c;go_wp2_with (first|((with_reducible refine cW 30 ?_);refine aF rfl 30 (.tmp 4) (.tmp 27) rfl (w.heap.size+1) #[.int .i64 2,.string ⟨#[]⟩,.int .i64 0] rfl rfl _ bT Bj.o (bf _ rfl) rfl bW ?_)|fail)
   refine aU (bu bC _ _ (w.heap.size+1) 30 #[.int .i64 2,.string ⟨#[]⟩,.int .i64 0] (0,0) _ rfl (aY _ (w.heap.size+1) _ _ _ _ Bj.o) underlying30 rfl (bf _ rfl)) rfl ?_;unfold eI;rw[HR.o];exact⟨rfl,dz HP.o ph.o o7.o (bV _) Bj.o eN ag _⟩
