/- Lemmas for the law's walk. -/
import Derived.Test.YtjndhcngnghpiaaGreatDoorPp16
set_option maxRecDepth 100000
set_option maxHeartbeats 16000000
set_option linter.unusedSimpArgs false
namespace Go.Proofs.YtjndhcngnghpiaaGreatDoor
open Go.Proofs.Tryz
open Go.RowKit
variable {base:Nat} {X:bW}
theorem tA.one{w:World}{m:Option (aU bG)}{e:Ending}{w':World}(h:tA base w m e w') :
  Fr aX w w'/\∃X:bW,e=.returned (.tuple #[.agg X,.bool m.isSome])/\X.size=16/\X.all (·.oneCell')=true/\∀x,m=some x->∃r:aU Value,X=r.cells.toArray/\r.Reads (df base w') x:=by
 obtain⟨h1,h2⟩:=h;refine⟨h1,?_⟩;cases hu:m with
 |none=>rw[hu]at h2;exact⟨fc,h2,rfl,cZ,fun x hx=>by cases hx⟩
 |some g =>
  rw[hu]at h2;obtain⟨r,e1,e2,e3⟩:=h2;exact⟨r.cells.toArray,e1,rfl,cE e3,fun x hx=>by cases hx;exact⟨r,rfl,e2⟩⟩
theorem Fy(h:X.size=16):(prog.info? 133).map (·.size)=some X.size:=by rw[h];kernel_rfl
def GtJ(base:Nat)(x4:World)(gm:Option (aU bG))(n:Nat)(X:bW)(W:World):Prop :=
 Fr aX x4 W/\W.heap[n]?=some (.cells X 133 (0,0))/\x4.heap.size<=n/\X.size=16/\∀g,gm=some g->∃r:aU Value,X=r.cells.toArray/\r.Reads (df base W) g
theorem Kl{n:Nat}{u:World}{z:bW}{t:TypeId}(hn:u.heap[n]?=some (.cells z t (0,0)))(hs:t≠9)(hb:base<=n):∀vv ss,df base u vv ss->df base (u.setRow n X) vv ss:=fun vv ss h =>
 h.fr ((ae (one n) u).setRow (fun _=>rfl) _) (by
  rintro k rfl _;exact⟨hb,fun c f e=>by rw[hn]at e;cases e;exact hs rfl⟩)
theorem Km(base:Nat)(w:World)(B off:Nat)(cs:a_)(v:dn)(p:eD)(o:jI)(hs:List gT)(h:eQ base w v p)(ha:gJ w B cs off v)(oX:base<=B)(hf:gM w o hs)(hk:mT p) :
  aE 43 #[.pointer (some ⟨B,off,none⟩),.agg o.cells.toArray] w (eG base w B cs off v (jv p (o.dX hs))):=by
 have uo:B<w.heap.size:=bg ha.eK;have Fq:¬v.jS B:=h.fa ha.eK ag;obtain⟨ah,ch,gu⟩:=hf.h_;obtain⟨w2,eC⟩:∃w2,w2=(w.alloc (.cells o.cells.toArray 33)).alloc (.cells bP 46):=⟨_,rfl⟩;have dF:Fr aX w w2:=by rw[eC];exact((ae aX w).alloc _).alloc _
 have k1:w2.heap[w.heap.size]?=some (.cells o.cells.toArray 33 (0,0)):=by rw[eC];exact((ae aX _).alloc _).keep (aC _ _) id
 have k2:w2.heap[w.heap.size+1]?=some (.cells bP 46 (0,0)):=by
  have h:=aC (w.alloc (.cells o.cells.toArray 33)) (.cells bP 46);rw[bK]at h;rw[eC];exact h
 have wG:w2.heap.size=w.heap.size+2:=by rw[eC];simp
 have Up:=O (show∀U,Fr aX w2 U->U.heap[w.heap.size]?=some (.cells o.cells.toArray 33 (0,0))from fun U hU=>hU.keep k1 id);have BK:=O Fq;have HH:=O h;have HA:=O ha;have HF:=O hf;have lf:=O gu;have HK:=O hk;have fR:=O dF;have mD:=O k1;have qt:=O k2;have pS:=O (show base<=w.heap.size from ab);have wJ:=O oX;have oH:=O uo;have P8:=O eC
 obtain⟨a0,a1,a2,a3,a4,a5,a6,a7,a8,a9,jy,jz,a12,jw,jA,jb,jJ,jK,jL,jT,a20,a21⟩:=eo k1 gu;rw[eC]at a0 a1 a2 a3 a4 a5 a6 a7 a8 a9 jy jz a12 jw jA jb jJ jK jL jT a20 a21;rw[dN gu]at eC a0 a1 a2 a3 a4 a5 a6 a7 a8 a9 jy jz a12 jw jA jb jJ jK jL jT a20 a21 ⊢;unfold bP at eC a0 a1 a2 a3 a4 a5 a6 a7 a8 a9 jy jz a12 jw jA jb jJ jK jL jT a20 a21;have ow:=O eC;have Qx:=hf.text;have PA:=O (PU o.text w2 ab)
 clear Qx eC gu dF k1 k2 h ha hf Fq hk;go_enter func43,ntmps43;have Qj:=HK.o.re;have ac5:=O wG;have rN:=ow.o;go_wp2_with fail
 rw[<-rN];clear a0 a1 a2 a3 a4 a5 a6 a7 a8 a9 jy jz a12 jw jA jb jJ jK jL jT a20 a21 rN wG;refine PA.o.mono ?_;rintro e u1 Jr;obtain⟨uV,Jr⟩:=Jr;clear PA;have KY:=O uV;cases hch:ma o.text.data.toList with
 |error n =>
  rw[hch]at Jr;obtain⟨er,rfl,hen⟩:=Jr;obtain⟨et,ev,rfl⟩:=hen.aaj;have HR:=O (show jv p (o.dX hs)=(p,rep 7)by unfold jv;rw[show(o.dX hs).text=o.text from rfl,hch]);have Ag:=O (uV.keep qt.o id);have HP:=O (lT HH.o HA.o (fR.o.trans KY.o));clear hch hen uV
  go_wp2_with (first|((with_reducible refine cU 46 ?_);refine aI rfl 46 (.tmp 4) (.tmp 19) rfl (w.heap.size+1) #[.int .i64 7,.string ⟨#[]⟩,.int .i64 0] rfl rfl _ bP Ag.o (ba _ rfl) rfl bS ?_)|fail)
  refine aR (bj bB _ _ (w.heap.size+1) 46 #[.int .i64 7,.string ⟨#[]⟩,.int .i64 0] (0,0) _ rfl (aY _ (w.heap.size+1) _ _ _ _ Ag.o) underlying46 rfl (ba _ rfl)) rfl ?_;unfold eG;rw[HR.o];exact⟨rfl,dv HP.o pS.o oH.o (bT _) Ag.o eN ag _⟩
 |ok l =>
  rw[hch]at Jr;obtain⟨vl,rfl,zO⟩:=Jr;have B_:=PW hch;have hlen:l.length<=1000000:=by have:=(IP hch).2;omega
  have BE:=O (Uk vl l u1 zO.at hlen B_);obtain⟨al,cl,Q8⟩:=zO.form;subst Q8;have HCH:=O hch;clear hch zO B_ hlen uV;go_wp2_with fail
  refine BE.o.mono ?_;rintro e u2⟨nP,r,hr,rfl⟩;clear BE;obtain⟨m,hm⟩:∃m,m=iY l:=⟨_,rfl⟩;rw[<-hm]at hr ⊢;have HM:=O hm;obtain⟨e1,e2,e3,e4,e5,e6,e7,zY⟩:=hr;have Gf:df base u2 r.dom m.dom:=zY.in (by have h:=(Oe HCH.o).2.2.2;rw[<-hm]at h;omega);obtain⟨ad,cd,BF⟩:=Gf.rd.form
  have ui:r.cells=[.int .i64 m.scheme,.string m.aO,.string m.bC,.string m.cj,.bool m.cy,.string m.eZ,.bool m.dr,.slice ad m.dom.length cd]:=by unfold fX.cells;rw[e1,e2,e3,e4,e5,e6,e7,BF]
  rw[BF]at Gf;rw[ui];have uk:=O (KY.o.trans nP);have anm:=O Gf;obtain⟨x3,wX⟩:∃x3,x3=u2.alloc (.cells #[.int .i64 m.scheme,.string m.aO,.string m.bC,.string m.cj,.bool m.cy,.string m.eZ,.bool m.dr,.slice ad m.dom.length cd] 127):=⟨_,rfl⟩;have sJ:=aC u2 (.cells #[.int .i64 m.scheme,.string m.aO,.string m.bC,.string m.cj,.bool m.cy,.string m.eZ,.bool m.dr,.slice ad m.dom.length cd] 127)
  have iG:Fr aX w2 x3:=by rw[wX];exact uk.o.alloc _
  rw[<-wX]at sJ;have Rs:=O sJ;have il:=O iG;have MG:x3.heap.size=u2.heap.size+1:=by rw[wX];simp
  have HX3:=O wX;have ZZ:=O (show w.heap.size+2<=u2.heap.size from by have h1:=uk.o.size;have h2:=ac5.o;omega);clear zY Gf e1 e2 e3 e4 e5 e6 e7 BF ui nP hm sJ iG wX;by_cases hsc:0<m.scheme
  ·obtain⟨a0,a1,a2,a3,a4,a5,a6,a7,a8,a9,jy,jz,a12,jw,jA,jb,jJ,jK,jL,jT,a20,a21⟩:=eo (Up.o x3 il.o) lf.o;rw[HX3.o]at a0 a1 a2 a3 a4 a5 a6 a7 a8 a9 jy jz a12 jw jA jb jJ jK jL jT a20 a21;go_wp2_with fail
   obtain⟨x4,WN⟩:∃x4,x4=(u2.alloc (.cells #[.int .i64 m.scheme,.string m.aO,.string m.bC,.string m.cj,.bool m.cy,.string m.eZ,.bool m.dr,.slice ad m.dom.length cd] 127)).alloc (.cells #[.bool o.aF.o.aD,.string o.aF.o.host,.int .i64 o.aF.o.port] 24):=⟨_,rfl⟩;rw[<-WN];rw[<-HX3.o]at WN;have YC:Fr aX x3 x4:=by rw[WN];exact(ae _ _).alloc _
   have HB9:=O (show x4.heap[u2.heap.size+1]?=some (.cells #[.bool o.aF.o.aD,.string o.aF.o.host,.int .i64 o.aF.o.port] 24 (0,0))from by
    have h:=aC x3 (.cells #[.bool o.aF.o.aD,.string o.aF.o.host,.int .i64 o.aF.o.port] 24);rw[MG]at h;rw[WN];exact h)
   have HB7:=O (YC.keep Rs.o id);have jN:=O (il.o.trans YC);have ann:=O (show Fr aX x3 x4 from YC);have ano:=O (show Fr aX u2 x3 from by rw[HX3.o];exact(ae _ _).alloc _);clear WN YC a0 a1 a2 a3 a4 a5 a6 a7 a8 a9 jy jz a12 jw jA jb jJ jK jL jT a20 a21 MG
   have Fx:=O (show∀U,Fr aX x4 U->(U.cell? ⟨B,off,none⟩=some (.pointer (some ⟨v.b,0,none⟩))/\U.cell? ⟨u2.heap.size+1,0,none⟩=some (.bool o.aF.o.aD)/\U.cell? ⟨u2.heap.size+1,1,none⟩=some (.string o.aF.o.host)/\U.cell? ⟨u2.heap.size+1,2,none⟩=some (.int .i64 o.aF.o.port)/\U.cell? ⟨w.heap.size,14,none⟩=some (.bool o.proxy)/\U.cell? ⟨u2.heap.size,1,none⟩=some (.string m.aO))from fun U hU=>by
    have j1:=(HA.o.dx (fR.o.trans jN.o)).dx hU;have j2:=hU.keep HB9.o id;have j3:=hU.keep HB7.o id;obtain⟨a0,a1,a2,a3,a4,a5,a6,a7,a8,a9,jy,jz,a12,jw,jA,jb,jJ,jK,jL,jT,a20,a21⟩:=eo (Up.o U (jN.o.trans hU)) lf.o;refine⟨j1.cell0,?_,?_,?_,jA,?_⟩<;>simp[World.cell?,j2,j3])
   have HGT:=O (show∀U,Fr aX x4 U->aE 78 #[.pointer (some ⟨v.b,0,none⟩),.agg #[.bool o.aF.o.aD,.string o.aF.o.host,.int .i64 o.aF.o.port],.bool o.proxy,.string m.aO] U (tA base U (p.bZ.find? (mM o.aF.o o.proxy m.aO)))from fun U hU=>Uz base U v.b v.gv v.wv p.bZ p.waits o.aF.o o.proxy m.aO (((HH.o.dx (fR.o.trans jN.o)).dx hU).oT));obtain⟨gm,hgm⟩:∃gm,gm=p.bZ.find? (mM o.aF.o o.proxy m.aO):=⟨_,rfl⟩
   rw[<-hgm]at HGT;have HGM:=O hgm;obtain⟨ok,KW⟩:∃ok,ok=gm.isSome:=⟨_,rfl⟩;have LG:=O KW;have ac6:=O (show base<=x4.heap.size from aH pS.o (fR.o.trans jN.o).size);clear hgm KW;apply T_ (P:=GtJ base x4 gm)
   ·intro hJ;have HJ:=O hJ;clear hJ
    refine wp_region_held_drew (S:=(fun U=>U.cell? ⟨B,off,none⟩=some (.pointer (some ⟨v.b,0,none⟩))/\U.cell? ⟨u2.heap.size+1,0,none⟩=some (.bool o.aF.o.aD)/\U.cell? ⟨u2.heap.size+1,1,none⟩=some (.string o.aF.o.host)/\U.cell? ⟨u2.heap.size+1,2,none⟩=some (.int .i64 o.aF.o.port)/\U.cell? ⟨w.heap.size,14,none⟩=some (.bool o.proxy)/\U.cell? ⟨u2.heap.size,1,none⟩=some (.string m.aO))) af (Fx.o _ (aA (ae _ _))) ?_
    intro xg;refine aP 0 33 rfl ?_;refine aP 1 34 rfl ?_;refine aP 2 35 rfl ?_;refine aP 3 36 rfl ?_;refine aP 4 37 rfl ?_;refine aP 5 38 rfl ?_;refine aP 6 39 rfl ?_;refine aP 7 40 rfl ?_;refine aP 8 41 rfl ?_;refine Dl 9 13 rfl rfl (fun K hK=>?_) fun K hK=>?_
    ·go_simp;refine(HGT.o _ (aA (ae _ _))).mono ?_;rintro e u5 J7;obtain⟨lB,X,rfl,Fs,J8,Da⟩:=tA.one J7;rw[<-LG.o];have HX:=O (And.intro Fs (And.intro J8 Da));have wR:=O ((aA (ae aX x4)).trans lB);clear J7 Fs J8 Da lB;refine hK.out _ _ (Fx.o _ wR.o) ?_;intro wM;clear hK xg K
     try simp only[Act.put,sA,sB,sC]
     refine aP 10 32 rfl ?_;refine aP 11 43 rfl ?_;refine aP 12 44 rfl ?_;refine eE 13 rfl fun K hK=>?_;go_simp;obtain⟨n,hne⟩:∃n,n=u5.heap.size:=⟨_,rfl⟩;obtain⟨w6,yU⟩:∃w6,w6=u5.alloc (.cells fc 133):=⟨_,rfl⟩;have HZZ:=O (show w6.heap[n]?=some (.cells fc 133 (0,0))by rw[yU,hne];exact aC _ _);have ac8:Fr aX u5 w6:=by rw[yU];exact(ae _ _).alloc _
     have x_:=O (wR.o.trans ac8);have anq:=O ac8;have Br:=O (show x4.heap.size<=n by rw[hne];exact wR.o.size);rw[<-yU, <-hne];clear yU hne ac8;refine hK.out _ _ (Fx.o _ x_.o) ?_;intro yb;clear hK wM K
     try simp only[Act.put,sA,sB,sC]
     refine eE 14 rfl fun K hK=>?_;refine gP rfl 133 (.tmp 10) (.tmp 43) rfl n X rfl rfl 133 fc HZZ.o (Fy HX.o.1) HX.o.1.symm HX.o.2.1 ?_;obtain⟨W,hW⟩:∃W,W=w6.setRow n X:=⟨_,rfl⟩;have AV:Fr aX x4 W:=by rw[hW];exact jG x_.o Br.o _
     have X6:W.heap[n]?=some (.cells X 133 (0,0)):=by rw[hW];exact nS HZZ.o
     have hWS:∀vv ss,df base u5 vv ss->df base W vv ss:=fun vv ss h=>by rw[hW];exact Kl HZZ.o ag (aH ac6.o Br.o) vv ss (h.dx anq.o)
     rw[<-hW];refine hK.out _ _ (Fx.o _ AV) ?_;intro Ea;clear hK yb K
     try simp only[Act.put,sA,sB,sC]
     refine aP 15 8 rfl ?_;clear Ea;refine wpAnyH_done af ?_ _;exact HJ.o n X W ⟨AV,X6,Br.o,HX.o.1,fun g hg=>by
      obtain⟨r,e1,e2⟩:=HX.o.2.2 g hg;exact⟨r,e1,e2.mono (fun v l h=>hWS v l h)⟩⟩
    ·go_simp;obtain⟨n,hne⟩:∃n,n=x4.heap.size:=⟨_,rfl⟩;obtain⟨w6,yU⟩:∃w6,w6=(x4.alloc (.cells fc 133)).drew:=⟨_,rfl⟩;have hz6:w6.heap[n]?=some (.cells fc 133 (0,0)):=by rw[yU,hne];exact aC x4 _
     have x_:=O (show Fr aX x4 w6 by rw[yU];exact((ae _ _).alloc _).drew);have Br:=O (show x4.heap.size<=n from ab);have HZ6:=O hz6;rw[<-yU, <-hne];clear yU hne hz6;refine hK.out _ _ (Fx.o _ x_.o) ?_;intro wM;clear hK xg K
     try simp only[Act.put,sA,sB,sC]
     refine eE 9 rfl fun K hK=>?_;go_simp;refine(HGT.o _ x_.o).mono ?_;rintro e u5 J7;obtain⟨lB,X,rfl,Fs,J8,Da⟩:=tA.one J7;rw[<-LG.o];have HX:=O (And.intro Fs (And.intro J8 Da));have wR:=O (x_.o.trans lB);have HZZ:=O (lB.keep HZ6.o id);clear J7 Fs J8 Da lB;refine hK.out _ _ (Fx.o _ wR.o) ?_;intro yb;clear hK wM K
     try simp only[Act.put,sA,sB,sC]
     refine aP 10 32 rfl ?_;refine aP 11 43 rfl ?_;refine aP 12 44 rfl ?_;refine eE 14 rfl fun K hK=>?_;refine gP rfl 133 (.tmp 10) (.tmp 43) rfl n X rfl rfl 133 fc HZZ.o (Fy HX.o.1) HX.o.1.symm HX.o.2.1 ?_;obtain⟨W,hW⟩:∃W,W=u5.setRow n X:=⟨_,rfl⟩;have AV:Fr aX x4 W:=by rw[hW];exact jG wR.o Br.o _
     have X6:W.heap[n]?=some (.cells X 133 (0,0)):=by rw[hW];exact nS HZZ.o
     have hWS:∀vv ss,df base u5 vv ss->df base W vv ss:=fun vv ss h=>by rw[hW];exact Kl HZZ.o ag (aH ac6.o Br.o) vv ss (h)
     rw[<-hW];refine hK.out _ _ (Fx.o _ AV) ?_;intro Ea;clear hK yb K
     try simp only[Act.put,sA,sB,sC]
     refine aP 15 8 rfl ?_;clear Ea;refine wpAnyH_done af ?_ _;exact HJ.o n X W ⟨AV,X6,Br.o,HX.o.1,fun g hg=>by
      obtain⟨r,e1,e2⟩:=HX.o.2.2 g hg;exact⟨r,e1,e2.mono (fun v l h=>hWS v l h)⟩⟩
   ·intro n X W hj;obtain⟨AV,X6,T',Sz,J6⟩:=hj;have HW:=O (jN.o.trans AV);have wN:=O (fR.o.trans HW.o);have I0:=O (HH.o.dx wN.o);have A0:=O (HA.o.dx wN.o);have ac9:=O (AV.keep HB9.o id);have UM:=O (AV.keep HB7.o id);have ac_:=O (HW.o.keep mD.o id);have ahM:=O (HW.o.keep qt.o id);have HSW:=O (anm.o.dx (show Fr aX u2 W from ano.o.trans (ann.o.trans AV)));have ans:=O X6;have TW:=O J6
    have hn7:u2.heap.size≠B:=by have:=ZZ.o;omega
    have hn9:u2.heap.size+1≠B:=by have:=ZZ.o;omega
    clear AV X6 J6 Fx HGT
    have Sq:=O (show∀U,Fr (dk v.b v.gv v.wv) W U->(U.cell? ⟨B,off,none⟩=some (.pointer (some ⟨v.b,0,none⟩))/\U.cell? ⟨u2.heap.size+1,0,none⟩=some (.bool o.aF.o.aD)/\U.cell? ⟨u2.heap.size+1,1,none⟩=some (.string o.aF.o.host)/\U.cell? ⟨u2.heap.size+1,2,none⟩=some (.int .i64 o.aF.o.port)/\U.cell? ⟨w.heap.size,14,none⟩=some (.bool o.proxy)/\U.cell? ⟨u2.heap.size,1,none⟩=some (.string m.aO))from fun U hU=>by
     have j1:=A0.o.fr hU (fun hb=>BK.o (Or.inl hb));have j2:=hU.keep ac9.o (fun hb=>I0.o.fa ac9.o py (Or.inl hb));have j3:=hU.keep UM.o (fun hb=>I0.o.fa UM.o Ac (Or.inl hb));have j4:=hU.keep ac_.o (fun hb=>I0.o.fa ac_.o kX (Or.inl hb));obtain⟨a0,a1,a2,a3,a4,a5,a6,a7,a8,a9,jy,jz,a12,jw,jA,jb,jJ,jK,jL,jT,a20,a21⟩:=eo j4 lf.o;refine⟨j1.cell0,?_,?_,?_,jA,?_⟩<;>simp[World.cell?,j2,j3])
    have Rh:=O (show∀U,Fr aX W U->aE 75 #[.pointer (some ⟨v.b,0,none⟩),.agg #[.bool o.aF.o.aD,.string o.aF.o.host,.int .i64 o.aF.o.port],.bool o.proxy,.string m.aO] U (vK base U v.b v.gv v.wv p.bZ p.waits (mM o.aF.o o.proxy m.aO))from fun U hU=>yT base U v.b v.gv v.wv p.bZ p.waits o.aF.o o.proxy m.aO (I0.o.dx hU).oT);cases Kn:gm
    case' none =>
     have ru:ok=false:=by rw[LG.o,Kn];rfl
     have HR:=O (show jv p (o.dX hs)=({p with bZ:=uD p.bZ o.aF.o o.proxy m.aO,waits:=yZ p.waits ⟨o.aF.o,o.proxy,o.aF.path,m⟩},rep 3)by
      unfold jv;rw[show(o.dX hs).text=o.text from rfl,HCH.o];simp only;rw[<-HM.o,aB hsc];rw[show XN p.bZ (o.dX hs).o (o.dX hs).proxy m.aO=none from by rw[<-Kn];exact HGM.o.symm];rfl)
     rw[ru];clear Kn LG ru;go_wp2_with fail
    case' some g =>
     have ru:ok=true:=by rw[LG.o,Kn];rfl
     obtain⟨r2,V1,pN⟩:=TW.o g Kn;obtain⟨p1,p2,p3,p4,p5,p6,p7⟩:=pN;have HPA:=O p7;obtain⟨e1,e2,e3,e4,e5,e6,e7,xa⟩:=p5;obtain⟨ad2,cd2,ahN⟩:=xa.rd.form;obtain⟨ap2,cp2,ac'⟩:=p7.rd.form;have HPB:=O (show df base W (.slice ap2 g.paths.length cp2) g.paths from by rw[<-ac'];exact p7)
     have wU:X= #[.bool g.o.aD,.string g.o.host,.int .i64 g.o.port,.bool g.proxy,.string g.user,.string g.pass,.int .i64 g.a.scheme,.string g.a.aO,.string g.a.bC,.string g.a.cj,.bool g.a.cy,.string g.a.eZ,.bool g.a.dr,.slice ad2 g.a.dom.length cd2,.int .i64 g.count,.slice ap2 g.paths.length cp2]:=by
      rw[V1];unfold aU.cells;rw[p1,p2,p3,p4,p6,e1,e2,e3,e4,e5,e6,e7,ahN,ac']
     have Dj:=UM.o;have Qk:=ans.o;rw[wU]at Qk;have q0:W.cell? ⟨u2.heap.size,0,none⟩=some (.int .i64 m.scheme):=by simp[World.cell?,Dj]
     have q2:W.cell? ⟨u2.heap.size,2,none⟩=some (.string m.bC):=by simp[World.cell?,Dj]
     have q6:W.cell? ⟨u2.heap.size,6,none⟩=some (.bool m.dr):=by simp[World.cell?,Dj]
     have t6:W.cell? ⟨n,6,none⟩=some (.int .i64 g.a.scheme):=by simp[World.cell?,Qk]
     have t8:W.cell? ⟨n,8,none⟩=some (.string g.a.bC):=by simp[World.cell?,Qk]
     have qL:=O Qk;have Rq:=O (show(m.dr&&(m.scheme==g.a.scheme&&m.bC.toList !=g.a.bC.toList))=false->jv p (o.dX hs)=({p with bZ:=uD p.bZ o.aF.o o.proxy m.aO,waits:=yZ p.waits ⟨o.aF.o,o.proxy,o.aF.path,m⟩},rep 3)from fun iQ=>by
      unfold jv;rw[show(o.dX hs).text=o.text from rfl,HCH.o];simp only;rw[<-HM.o,aB hsc];rw[show XN p.bZ (o.dX hs).o (o.dX hs).proxy m.aO=some g from by rw[<-Kn];exact HGM.o.symm];unfold C6;simp only;rw[iQ];rfl)
     have HGL:=O (show XN p.bZ (o.dX hs).o (o.dX hs).proxy m.aO=some g from by rw[<-Kn];exact HGM.o.symm);rw[ru];clear Kn LG ru V1 p1 p2 p3 p4 p6 p7 e1 e2 e3 e4 e5 e6 e7 xa ahN ac' wU Dj Qk Sz;cases iQ:m.dr
     case' false =>
      have HR:=O (Rq.o (by rw[iQ];rfl));rw[iQ]at q6;clear iQ Rq;go_wp2_with fail
     case' true =>
      by_cases Ko:m.scheme=g.a.scheme
      case' pos =>
       by_cases JF:m.bC=g.a.bC
       case' pos =>
        have HR:=O (Rq.o (by rw[JF];simp));rw[iQ]at q6;rw[Ko]at q0;rw[JF]at q2;clear iQ Rq;have Zj:=O JF;have V7:=O Ko;clear JF Ko;go_wp2_with fail
       case neg =>
        have HR:=O (show jv p (o.dX hs)=({p with bZ:=uT p.bZ {g with a:=m,count:=0}},rep 1)by
         unfold jv;rw[show(o.dX hs).text=o.text from rfl,HCH.o];simp only;rw[<-HM.o,aB hsc];rw[HGL.o];unfold C6;simp only;rw[show(m.dr&&(m.scheme==g.a.scheme&&m.bC.toList !=g.a.bC.toList))=true from by rw[iQ,Ko];simp;exact fun e=>JF (toList_inj.1 e)];rfl)
        have Dj:=UM.o;rw[Ko]at Dj q0;rw[iQ]at Dj q6;have q1b:W.cell? ⟨u2.heap.size,1,none⟩=some (.string m.aO):=by simp[World.cell?,Dj]
        have q3b:W.cell? ⟨u2.heap.size,3,none⟩=some (.string m.cj):=by simp[World.cell?,Dj]
        have q4b:W.cell? ⟨u2.heap.size,4,none⟩=some (.bool m.cy):=by simp[World.cell?,Dj]
        have q5b:W.cell? ⟨u2.heap.size,5,none⟩=some (.string m.eZ):=by simp[World.cell?,Dj]
        have q7b:W.cell? ⟨u2.heap.size,7,none⟩=some (.slice ad m.dom.length cd):=by simp[World.cell?,Dj]
        have z6:W.cell? ⟨n,6,none⟩=some (.int .i64 g.a.scheme):=by simp[World.cell?,qL.o]
        have y6:W.frozen? ⟨n,6,none⟩=false:=by simp[World.frozen?,qL.o]
        have z7:W.cell? ⟨n,7,none⟩=some (.string g.a.aO):=by simp[World.cell?,qL.o]
        have y7:W.frozen? ⟨n,7,none⟩=false:=by simp[World.frozen?,qL.o]
        have z8:W.cell? ⟨n,8,none⟩=some (.string g.a.bC):=by simp[World.cell?,qL.o]
        have y8:W.frozen? ⟨n,8,none⟩=false:=by simp[World.frozen?,qL.o]
        have z9:W.cell? ⟨n,9,none⟩=some (.string g.a.cj):=by simp[World.cell?,qL.o]
        have y9:W.frozen? ⟨n,9,none⟩=false:=by simp[World.frozen?,qL.o]
        have z10:W.cell? ⟨n,10,none⟩=some (.bool g.a.cy):=by simp[World.cell?,qL.o]
        have y10:W.frozen? ⟨n,10,none⟩=false:=by simp[World.frozen?,qL.o]
        have z11:W.cell? ⟨n,11,none⟩=some (.string g.a.eZ):=by simp[World.cell?,qL.o]
        have y11:W.frozen? ⟨n,11,none⟩=false:=by simp[World.frozen?,qL.o]
        have z12:W.cell? ⟨n,12,none⟩=some (.bool g.a.dr):=by simp[World.cell?,qL.o]
        have y12:W.frozen? ⟨n,12,none⟩=false:=by simp[World.frozen?,qL.o]
        have z13:W.cell? ⟨n,13,none⟩=some (.slice ad2 g.a.dom.length cd2):=by simp[World.cell?,qL.o]
        have y13:W.frozen? ⟨n,13,none⟩=false:=by simp[World.frozen?,qL.o]
        have z14:W.cell? ⟨n,14,none⟩=some (.int .i64 g.count):=by simp[World.cell?,qL.o]
        have y14:W.frozen? ⟨n,14,none⟩=false:=by simp[World.frozen?,qL.o]
        have V7:=O Ko;have mC:=O iQ;have Hm:¬m.bC.toList=g.a.bC.toList:=fun e=>JF (by cases hx:m.bC;cases hy:g.a.bC;rw[hx,hy]at e;simpa[aN]using e);have BD:(m.bC.toList==g.a.bC.toList)=false:=aL.2 Hm;have Us:¬v.jS n:=fun hk=>by have:=(HH.o.dx (fR.o.trans jN.o)).je hk;omega
        have ati:=bg HB9.o;have aap:rJ base W (one n):=by
         rintro k rfl _;exact⟨aH ac6.o T',fun c f e=>by rw[qL.o]at e;cases e⟩
        have zz:n≠B:=by have h1:=oH.o;have h2:=(fR.o.trans jN.o).size;omega
        have NH:n≠w.heap.size:=by have h2:=(jN.o).size;have h3:=ac5.o;omega
        have ahO:n≠w.heap.size+1:=by have h2:=(jN.o).size;have h3:=ac5.o;omega
        have hln:w.heap.size<=n:=by have h2:=(fR.o.trans jN.o).size;omega
        have HNF:=O Us;have ada:=O aap;have N_:=O zz;have HN0:=O NH;have HN1:=O ahO;have Hq:=O hln;clear Dj iQ Ko Rq aap JF zz NH ahO Us hln
        obtain⟨V,hV⟩:∃V,V=(((((((((W.setCell ⟨n,6,none⟩ (.int .i64 g.a.scheme)).setCell ⟨n,7,none⟩ (.string m.aO)).setCell ⟨n,8,none⟩ (.string m.bC)).setCell ⟨n,9,none⟩ (.string m.cj)).setCell ⟨n,10,none⟩ (.bool m.cy)).setCell ⟨n,11,none⟩ (.string m.eZ)).setCell ⟨n,12,none⟩ (.bool true)).setCell ⟨n,13,none⟩ (.slice ad m.dom.length cd)).setCell ⟨n,14,none⟩ (.int .i64 0)):=⟨_,rfl⟩;go_wp2_with fail
        rw[<-hV]
        have V3:Fr (one n) W V:=by rw[hV];exact((((((((((ae (one n) W).setCell (p:=⟨n,6,none⟩) (fun _=>rfl) _).setCell (p:=⟨n,7,none⟩) (fun _=>rfl) _).setCell (p:=⟨n,8,none⟩) (fun _=>rfl) _).setCell (p:=⟨n,9,none⟩) (fun _=>rfl) _).setCell (p:=⟨n,10,none⟩) (fun _=>rfl) _).setCell (p:=⟨n,11,none⟩) (fun _=>rfl) _).setCell (p:=⟨n,12,none⟩) (fun _=>rfl) _).setCell (p:=⟨n,13,none⟩) (fun _=>rfl) _).setCell (p:=⟨n,14,none⟩) (fun _=>rfl) _)
        have hwV:Fr aX w V:=by rw[hV];exact(((((((((wN.o.gI (p:=⟨n,6,none⟩) Hq.o _).gI (p:=⟨n,7,none⟩) Hq.o _).gI (p:=⟨n,8,none⟩) Hq.o _).gI (p:=⟨n,9,none⟩) Hq.o _).gI (p:=⟨n,10,none⟩) Hq.o _).gI (p:=⟨n,11,none⟩) Hq.o _).gI (p:=⟨n,12,none⟩) Hq.o _).gI (p:=⟨n,13,none⟩) Hq.o _).gI (p:=⟨n,14,none⟩) Hq.o _)
        have hbV:V.heap[n]?=some (.cells #[.bool g.o.aD,.string g.o.host,.int .i64 g.o.port,.bool g.proxy,.string g.user,.string g.pass,.int .i64 g.a.scheme,.string m.aO,.string m.bC,.string m.cj,.bool m.cy,.string m.eZ,.bool true,.slice ad m.dom.length cd,.int .i64 0,.slice ap2 g.paths.length cp2] 133 (0,0)):=by
         have e1:=cg qL.o 6 (.int .i64 g.a.scheme);have e2:=cg e1 7 (.string m.aO);have e3:=cg e2 8 (.string m.bC);have e4:=cg e3 9 (.string m.cj);have e5:=cg e4 10 (.bool m.cy);have e6:=cg e5 11 (.string m.eZ);have e7:=cg e6 12 (.bool true);have e8:=cg e7 13 (.slice ad m.dom.length cd);have e9:=cg e8 14 (.int .i64 0);rw[hV,e9];simp
        have iV:=I0.o.fr V3 ada.o (fun i hi e=>HNF.o (by have e':i=n:=e;rw[<-e'];exact hi));have aV:=A0.o.fr V3 (fun e=>N_.o (show B=n from e).symm);have rV:=V3.keep ahM.o (fun e=>HN1.o (show w.heap.size+1=n from e).symm);have hpV:df base V (.slice ap2 g.paths.length cp2) g.paths:=HPB.o.fr V3 ada.o;have hmV:df base V (.slice ad m.dom.length cd) m.dom:=HSW.o.fr V3 ada.o;have HIV:=O iV;have HAV:=O aV
        have HRV:=O rV;have Xf:=O hwV;have HBV:=O hbV
        have HPU:=O (show∀U,Fr aX V U->aE 79 #[.pointer (some ⟨v.b,0,none⟩),.agg #[.bool g.o.aD,.string g.o.host,.int .i64 g.o.port,.bool g.proxy,.string g.user,.string g.pass,.int .i64 g.a.scheme,.string m.aO,.string m.bC,.string m.cj,.bool m.cy,.string m.eZ,.bool true,.slice ad m.dom.length cd,.int .i64 0,.slice ap2 g.paths.length cp2]] U (Gq base U v.b v.gv v.wv (uT p.bZ {g with a:=m,count:=0}) p.waits)from fun U hU=>by
         have h:=N6 base U v.b v.gv v.wv p.bZ p.waits ⟨g.o,g.proxy,g.user,g.pass,{m with dom:=.slice ad m.dom.length cd},0,.slice ap2 g.paths.length cp2⟩ {g with a:=m,count:=0} (HIV.o.dx hU).oT ⟨rfl,rfl,rfl,rfl,⟨rfl,rfl,rfl,rfl,rfl,rfl,rfl,hmV.dx hU⟩,rfl,hpV.dx hU⟩ ab;unfold aU.cells at h;rw[show m.scheme=g.a.scheme from V7.o,show m.dr=true from mC.o]at h;exact h)
        have HC:=O (show∀U,Fr (dk v.b v.gv v.wv) V U->(U.cell? ⟨B,off,none⟩=some (.pointer (some ⟨v.b,0,none⟩))/\U.cell? ⟨n,0,none⟩=some (.bool g.o.aD)/\U.cell? ⟨n,1,none⟩=some (.string g.o.host)/\U.cell? ⟨n,2,none⟩=some (.int .i64 g.o.port)/\U.cell? ⟨n,3,none⟩=some (.bool g.proxy)/\U.cell? ⟨n,4,none⟩=some (.string g.user)/\U.cell? ⟨n,5,none⟩=some (.string g.pass)/\U.cell? ⟨n,6,none⟩=some (.int .i64 g.a.scheme)/\U.cell? ⟨n,7,none⟩=some (.string m.aO)/\U.cell? ⟨n,8,none⟩=some (.string m.bC)/\U.cell? ⟨n,9,none⟩=some (.string m.cj)/\U.cell? ⟨n,10,none⟩=some (.bool m.cy)/\U.cell? ⟨n,11,none⟩=some (.string m.eZ)/\U.cell? ⟨n,12,none⟩=some (.bool true)/\U.cell? ⟨n,13,none⟩=some (.slice ad m.dom.length cd)/\U.cell? ⟨n,14,none⟩=some (.int .i64 0)/\U.cell? ⟨n,15,none⟩=some (.slice ap2 g.paths.length cp2))from fun U hU=>by
         have j1:=HAV.o.fr hU (fun hb=>BK.o (Or.inl hb));have j2:=hU.keep HBV.o (fun hb=>HNF.o (Or.inl hb));refine⟨j1.cell0,?_,?_,?_,?_,?_,?_,?_,?_,?_,?_,?_,?_,?_,?_,?_,?_⟩<;>simp[World.cell?,j2])
        clear hV V3 hwV hbV iV aV rV hpV hmV
        go_region_held3 (fun U=>Fr (dk v.b v.gv v.wv) V U/\(U.cell? ⟨B,off,none⟩=some (.pointer (some ⟨v.b,0,none⟩))/\U.cell? ⟨n,0,none⟩=some (.bool g.o.aD)/\U.cell? ⟨n,1,none⟩=some (.string g.o.host)/\U.cell? ⟨n,2,none⟩=some (.int .i64 g.o.port)/\U.cell? ⟨n,3,none⟩=some (.bool g.proxy)/\U.cell? ⟨n,4,none⟩=some (.string g.user)/\U.cell? ⟨n,5,none⟩=some (.string g.pass)/\U.cell? ⟨n,6,none⟩=some (.int .i64 g.a.scheme)/\U.cell? ⟨n,7,none⟩=some (.string m.aO)/\U.cell? ⟨n,8,none⟩=some (.string m.bC)/\U.cell? ⟨n,9,none⟩=some (.string m.cj)/\U.cell? ⟨n,10,none⟩=some (.bool m.cy)/\U.cell? ⟨n,11,none⟩=some (.string m.eZ)/\U.cell? ⟨n,12,none⟩=some (.bool true)/\U.cell? ⟨n,13,none⟩=some (.slice ad m.dom.length cd)/\U.cell? ⟨n,14,none⟩=some (.int .i64 0)/\U.cell? ⟨n,15,none⟩=some (.slice ap2 g.paths.length cp2))) ((refine(fun hU=>⟨hU,HC.o _ hU⟩) ?_;first|exact aA (ae _ _)|assumption))
         ((first
          |(go_at_call 79;refine(HPU.o _ (aA (ae _ _))).mono ?_;rintro e u6 ⟨rfl,Bj⟩;have Kp:Fr (dk v.b v.gv v.wv) V u6:=(aA (ae _ _)).trans (by obtain⟨_,_,_,h,_⟩:=Bj;exact h))))
        have HP:=O (show cW base w B cs off v {p with bZ:=uT p.bZ {g with a:=m,count:=0}} u6 from cV Xf.o (cV (aA (ae aX V)) (eR (HIV.o.dx (aA (ae aX V))) (HAV.o.dx (aA (ae aX V))) BK.o Bj)));have r6:=O (eI (B:=B) HIV.o (Kp.mono (fun k _ hk=>Or.inr (Or.inl hk))) HRV.o dS ab);clear Bj Kp HC HPU
        go_wp2_with (first|((with_reducible refine cU 46 ?_);refine aI rfl 46 (.tmp 4) (.tmp 75) rfl (w.heap.size+1) #[.int .i64 1,.string ⟨#[]⟩,.int .i64 0] rfl rfl _ bP r6.o (ba _ rfl) rfl bS ?_)|fail)
        refine aR (bj bB _ _ (w.heap.size+1) 46 #[.int .i64 1,.string ⟨#[]⟩,.int .i64 0] (0,0) _ rfl (aY _ (w.heap.size+1) _ _ _ _ r6.o) underlying46 rfl (ba _ rfl)) rfl ?_;unfold eG;rw[HR.o];exact⟨rfl,dv HP.o pS.o oH.o (bT _) r6.o eN ag _⟩
      case' neg =>
       have HR:=O (Rq.o (by rw[aL.2 Ko];simp));rw[iQ]at q6;clear iQ Rq;go_wp2_with fail
    all_goals
     go_region_held3 (fun U=>Fr (dk v.b v.gv v.wv) W U/\U.cell? ⟨B,off,none⟩=some (.pointer (some ⟨v.b,0,none⟩))/\U.cell? ⟨u2.heap.size+1,0,none⟩=some (.bool o.aF.o.aD)/\U.cell? ⟨u2.heap.size+1,1,none⟩=some (.string o.aF.o.host)/\U.cell? ⟨u2.heap.size+1,2,none⟩=some (.int .i64 o.aF.o.port)/\U.cell? ⟨w.heap.size,14,none⟩=some (.bool o.proxy)/\U.cell? ⟨u2.heap.size,1,none⟩=some (.string m.aO)) ((refine(fun hU=>⟨hU,Sq.o _ hU⟩) ?_;first|exact aA (ae _ _)|assumption))
      ((first
       |(go_at_call 75;refine(Rh.o _ (aA (ae _ _))).mono ?_;rintro e u6 ⟨rfl,Bj⟩;have Kp:Fr (dk v.b v.gv v.wv) W u6:=(aA (ae _ _)).trans (by obtain⟨_,_,_,h,_⟩:=Bj;exact h))))
     have HS6:=O (HSW.o.fr Kp (fun k hk hl=>I0.o.off k (Or.inl hk) hl));obtain⟨v6,i6,f6,aaq,ahQ⟩:=eR (I0.o.dx (aA (ae aX W))) (A0.o.dx (aA (ae aX W))) BK.o Bj;have aa6:=ia A0.o ahQ;have o6:=eI (I0.o.dx (aA (ae aX W))) f6 (show W.drew.heap[w.heap.size]?=_ from ac_.o) kX ab;have r6:=eI (I0.o.dx (aA (ae aX W))) f6 (show W.drew.heap[w.heap.size+1]?=_ from ahM.o) dS ab
     have q6:=eI (I0.o.dx (aA (ae aX W))) f6 (show W.drew.heap[u2.heap.size]?=_ from UM.o) Ac hn7;have g6:=eI (I0.o.dx (aA (ae aX W))) f6 (show W.drew.heap[u2.heap.size+1]?=_ from ac9.o) py hn9;have I6:=O i6;have F6:=O f6;have FT6:=O aaq;have AA6:=O aa6;have O6:=O o6;have R6:=O r6;have Q6:=O q6;have G6:=O g6;clear Bj Kp i6 f6 aaq aa6 o6 r6 q6 g6 ahQ Sq Rh
     have HC6:=O (show∀U,Fr (dk v6.b v6.gv v6.wv) u6 U->(U.cell? ⟨B,off,none⟩=some (.pointer (some ⟨v6.b,0,none⟩))/\U.cell? ⟨u2.heap.size+1,0,none⟩=some (.bool o.aF.o.aD)/\U.cell? ⟨u2.heap.size+1,1,none⟩=some (.string o.aF.o.host)/\U.cell? ⟨u2.heap.size+1,2,none⟩=some (.int .i64 o.aF.o.port)/\U.cell? ⟨w.heap.size,8,none⟩=some (.string o.aF.path)/\U.cell? ⟨w.heap.size,14,none⟩=some (.bool o.proxy)/\U.cell? ⟨u2.heap.size,0,none⟩=some (.int .i64 m.scheme)/\U.cell? ⟨u2.heap.size,1,none⟩=some (.string m.aO)/\U.cell? ⟨u2.heap.size,2,none⟩=some (.string m.bC)/\U.cell? ⟨u2.heap.size,3,none⟩=some (.string m.cj)/\U.cell? ⟨u2.heap.size,4,none⟩=some (.bool m.cy)/\U.cell? ⟨u2.heap.size,5,none⟩=some (.string m.eZ)/\U.cell? ⟨u2.heap.size,6,none⟩=some (.bool m.dr)/\U.cell? ⟨u2.heap.size,7,none⟩=some (.slice ad m.dom.length cd))from fun U hU=>by
      have j1:=AA6.o.fr hU (fun hb=>I6.o.fa AA6.o.eK ag (Or.inl hb));have j2:=hU.keep G6.o (fun hb=>I6.o.fa G6.o py (Or.inl hb));have j3:=hU.keep Q6.o (fun hb=>I6.o.fa Q6.o Ac (Or.inl hb));have j4:=hU.keep O6.o (fun hb=>I6.o.fa O6.o kX (Or.inl hb));obtain⟨a0,a1,a2,a3,a4,a5,a6,a7,a8,a9,jy,jz,a12,jw,jA,jb,jJ,jK,jL,jT,a20,a21⟩:=eo j4 lf.o
      refine⟨j1.cell0,?_,?_,?_,a8,jA,?_,?_,?_,?_,?_,?_,?_,?_⟩<;>simp[World.cell?,j2,j3])
     have HAS:=O (show∀U,Fr aX u6 U->aE 80 #[.pointer (some ⟨v6.b,0,none⟩),.agg #[.bool o.aF.o.aD,.string o.aF.o.host,.int .i64 o.aF.o.port,.bool o.proxy,.string o.aF.path,.int .i64 m.scheme,.string m.aO,.string m.bC,.string m.cj,.bool m.cy,.string m.eZ,.bool m.dr,.slice ad m.dom.length cd]] U (Fb base U v6.b v6.gv v6.wv (uD p.bZ o.aF.o o.proxy m.aO) (yZ p.waits ⟨o.aF.o,o.proxy,o.aF.path,m⟩))from fun U hU=>by
      exact Me base U v6.b v6.gv v6.wv (uD p.bZ o.aF.o o.proxy m.aO) p.waits ⟨o.aF.o,o.proxy,o.aF.path,{m with dom:=.slice ad m.dom.length cd}⟩ ⟨o.aF.o,o.proxy,o.aF.path,m⟩ (I6.o.dx hU).oT ⟨rfl,rfl,rfl,rfl,rfl,rfl,rfl,rfl,rfl,rfl,HS6.o.dx hU⟩ ab)
     go_wp2_with fail
     go_region_held3 (fun U=>Fr (dk v6.b v6.gv v6.wv) u6 U/\U.cell? ⟨B,off,none⟩=some (.pointer (some ⟨v6.b,0,none⟩))/\U.cell? ⟨u2.heap.size+1,0,none⟩=some (.bool o.aF.o.aD)/\U.cell? ⟨u2.heap.size+1,1,none⟩=some (.string o.aF.o.host)/\U.cell? ⟨u2.heap.size+1,2,none⟩=some (.int .i64 o.aF.o.port)/\U.cell? ⟨w.heap.size,8,none⟩=some (.string o.aF.path)/\U.cell? ⟨w.heap.size,14,none⟩=some (.bool o.proxy)/\U.cell? ⟨u2.heap.size,0,none⟩=some (.int .i64 m.scheme)/\U.cell? ⟨u2.heap.size,1,none⟩=some (.string m.aO)/\U.cell? ⟨u2.heap.size,2,none⟩=some (.string m.bC)/\U.cell? ⟨u2.heap.size,3,none⟩=some (.string m.cj)/\U.cell? ⟨u2.heap.size,4,none⟩=some (.bool m.cy)/\U.cell? ⟨u2.heap.size,5,none⟩=some (.string m.eZ)/\U.cell? ⟨u2.heap.size,6,none⟩=some (.bool m.dr)/\U.cell? ⟨u2.heap.size,7,none⟩=some (.slice ad m.dom.length cd)) ((refine(fun hU=>⟨hU,HC6.o _ hU⟩) ?_;first|exact aA (ae _ _)|assumption))
      ((first
       |(go_at_call 80;refine(HAS.o _ (aA (ae _ _))).mono ?_;rintro e u8 ⟨rfl,hb8⟩;have ahR:Fr (dk v6.b v6.gv v6.wv) u6 u8:=(aA (ae _ _)).trans (by obtain⟨_,_,_,h,_⟩:=hb8;exact h))))
     have Uv:=eR (I6.o.dx (aA (ae aX u6))) (AA6.o.dx (aA (ae aX u6))) (I6.o.fa AA6.o.eK ag) hb8;have HP:=O (show cW base W B cs off v {p with bZ:=uD p.bZ o.aF.o o.proxy m.aO,waits:=yZ p.waits ⟨o.aF.o,o.proxy,o.aF.path,m⟩} u8 from cV (aA (ae aX W)) (gB F6.o FT6.o (cV (aA (ae aX u6)) Uv)));have r8:=O (eI (B:=B) I6.o (ahR.mono (fun k _ hk=>Or.inr (Or.inl hk))) R6.o dS ab);clear Uv hb8 ahR HC6 HAS
     go_wp2_with (first|((with_reducible refine cU 46 ?_);refine aI rfl 46 (.tmp 4) (.tmp 100) rfl (w.heap.size+1) #[.int .i64 3,.string ⟨#[]⟩,.int .i64 0] rfl rfl _ bP r8.o (ba _ rfl) rfl bS ?_)|fail)
     refine aR (bj bB _ _ (w.heap.size+1) 46 #[.int .i64 3,.string ⟨#[]⟩,.int .i64 0] (0,0) _ rfl (aY _ (w.heap.size+1) _ _ _ _ r8.o) underlying46 rfl (ba _ rfl)) rfl ?_;unfold eG;rw[HR.o];exact⟨rfl,dv (HP.o.after wN.o) pS.o oH.o (bT _) r8.o eN ag _⟩
  ·have HR:=O (show jv p (o.dX hs)=(p,rep 2)by
    unfold jv;rw[show(o.dX hs).text=o.text from rfl,HCH.o];simp only;rw[ay (by rw[<-HM.o];exact hsc)])
   have Ag:=O (il.o.keep qt.o id);have HP:=O (lT HH.o HA.o (fR.o.trans il.o));have hsd:decide (0<m.scheme)=false:=bf hsc;have ato:m.scheme<=0:=ab;have h3c:=HX3.o;subst h3c;go_wp2_with (first|((with_reducible refine cU 46 ?_);refine aI rfl 46 (.tmp 4) (.tmp 27) rfl (w.heap.size+1) #[.int .i64 2,.string ⟨#[]⟩,.int .i64 0] rfl rfl _ bP Ag.o (ba _ rfl) rfl bS ?_)|fail)
   refine aR (bj bB _ _ (w.heap.size+1) 46 #[.int .i64 2,.string ⟨#[]⟩,.int .i64 0] (0,0) _ rfl (aY _ (w.heap.size+1) _ _ _ _ Ag.o) underlying46 rfl (ba _ rfl)) rfl ?_;unfold eG;rw[HR.o];exact⟨rfl,dv HP.o pS.o oH.o (bT _) Ag.o eN ag _⟩
