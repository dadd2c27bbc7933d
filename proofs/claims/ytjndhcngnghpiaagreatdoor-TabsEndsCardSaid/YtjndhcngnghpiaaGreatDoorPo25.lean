/- Lemmas for the law's walk. -/
import Derived.Test.YtjndhcngnghpiaaGreatDoorPo16
set_option maxRecDepth 100000
set_option maxHeartbeats 16000000
set_option linter.unusedSimpArgs false
namespace Go.Proofs.YtjndhcngnghpiaaGreatDoor
open Go.Proofs.Tryz
open Go.RowKit
variable {base:Nat} {X:bS}
theorem tE.one{w:World}{m:Option (aU bE)}{e:Ending}{w':World}(h:tE base w m e w') :
  Fr aW w w'/\∃X:bS,e=.returned (.tuple #[.agg X,.bool m.isSome])/\X.size=16/\X.all (·.oneCell')=true/\∀x,m=some x->∃r:aU Value,X=r.cells.toArray/\r.Reads (cZ base w') x:=by
 obtain⟨h1,h2⟩:=h;refine⟨h1,?_⟩;cases hu:m with
 |none=>rw[hu]at h2;exact⟨fc,h2,rfl,dp,fun x hx=>by cases hx⟩
 |some g =>
  rw[hu]at h2;obtain⟨r,e1,e2,e3⟩:=h2;exact⟨r.cells.toArray,e1,rfl,bU e3,fun x hx=>by cases hx;exact⟨r,rfl,e2⟩⟩
theorem F2(h:X.size=16):(prog.info? 133).map (·.size)=some X.size:=by rw[h];kernel_rfl
def GtJ(base:Nat)(x4:World)(gm:Option (aU bE))(n:Nat)(X:bS)(W:World):Prop :=
 Fr aW x4 W/\W.heap[n]?=some (.cells X 133 (0,0))/\x4.heap.size<=n/\X.size=16/\∀g,gm=some g->∃r:aU Value,X=r.cells.toArray/\r.Reads (cZ base W) g
theorem KJ{n:Nat}{u:World}{z:bS}{t:TypeId}(hn:u.heap[n]?=some (.cells z t (0,0)))(hs:t≠9)(hb:base<=n):∀vv ss,cZ base u vv ss->cZ base (u.setRow n X) vv ss:=fun vv ss h =>
 h.fr ((ae (one n) u).setRow (fun _=>rfl) _) (by
  rintro k rfl _;exact⟨hb,fun c f e=>by rw[hn]at e;cases e;exact hs rfl⟩)
theorem KK(base:Nat)(w:World)(B off:Nat)(cs:aX)(v:dm)(p:eB)(o:jB)(hs:List gU)(h:eO base w v p)(ha:gJ w B cs off v)(o8:base<=B)(hf:gL w o hs)(hk:mY p) :
  aC 43 #[.pointer (some ⟨B,off,none⟩),.agg o.cells.toArray] w (eD base w B cs off v (jo p (o.dP hs))):=by
 have uo:B<w.heap.size:=bg ha.eG;have FP:¬v.jM B:=h.fa ha.eG ag;obtain⟨ah,ch,gq⟩:=hf.gO;obtain⟨w2,ez⟩:∃w2,w2=(w.alloc (.cells o.cells.toArray 33)).alloc (.cells bQ 46):=⟨_,rfl⟩;have dD:Fr aW w w2:=by rw[ez];exact((ae aW w).alloc _).alloc _
 have k1:w2.heap[w.heap.size]?=some (.cells o.cells.toArray 33 (0,0)):=by rw[ez];exact((ae aW _).alloc _).keep (aB _ _) id
 have k2:w2.heap[w.heap.size+1]?=some (.cells bQ 46 (0,0)):=by
  have h:=aB (w.alloc (.cells o.cells.toArray 33)) (.cells bQ 46);rw[bM]at h;rw[ez];exact h
 have wO:w2.heap.size=w.heap.size+2:=by rw[ez];simp
 have US:=O (show∀U,Fr aW w2 U->U.heap[w.heap.size]?=some (.cells o.cells.toArray 33 (0,0))from fun U hU=>hU.keep k1 id);have B_:=O FP;have HH:=O h;have HA:=O ha;have HF:=O hf;have lg:=O gq;have HK:=O hk;have fS:=O dD;have mE:=O k1;have qx:=O k2;have pU:=O (show base<=w.heap.size from ab);have wR:=O o8;have oM:=O uo;have QE:=O ez
 obtain⟨a0,a1,a2,a3,a4,a5,a6,a7,a8,a9,jr,js,a12,jq,jt,i_,jD,jE,jF,jN,a20,a21⟩:=ed k1 gq;rw[ez]at a0 a1 a2 a3 a4 a5 a6 a7 a8 a9 jr js a12 jq jt i_ jD jE jF jN a20 a21;rw[dV gq]at ez a0 a1 a2 a3 a4 a5 a6 a7 a8 a9 jr js a12 jq jt i_ jD jE jF jN a20 a21 ⊢;unfold bQ at ez a0 a1 a2 a3 a4 a5 a6 a7 a8 a9 jr js a12 jq jt i_ jD jE jF jN a20 a21;have oz:=O ez;have Q4:=hf.text;have PA:=O (Qr o.text w2 ab)
 clear Q4 ez gq dD k1 k2 h ha hf FP hk;go_enter func43,ntmps43;have QR:=HK.o.rf;have adn:=O wO;have rP:=oz.o;go_wp2_with fail
 rw[<-rP];clear a0 a1 a2 a3 a4 a5 a6 a7 a8 a9 jr js a12 jq jt i_ jD jE jF jN a20 a21 rP wO;refine PA.o.mono ?_;rintro e u1 JS;obtain⟨uY,JS⟩:=JS;clear PA;have Lx:=O uY;cases hch:mg o.text.data.toList with
 |error n =>
  rw[hch]at JS;obtain⟨er,rfl,hen⟩:=JS;obtain⟨et,ev,rfl⟩:=hen.aaD;have HR:=O (show jo p (o.dP hs)=(p,rep 7)by unfold jo;rw[show(o.dP hs).text=o.text from rfl,hch]);have Ay:=O (uY.keep qx.o id);have HP:=O (lX HH.o HA.o (fS.o.trans Lx.o));clear hch hen uY
  go_wp2_with (first|((with_reducible refine cP 46 ?_);refine aF rfl 46 (.tmp 4) (.tmp 19) rfl (w.heap.size+1) #[.int .i64 7,.string ⟨#[]⟩,.int .i64 0] rfl rfl _ bQ Ay.o (bd _ rfl) rfl bX ?_)|fail)
  refine aR (bh bw _ _ (w.heap.size+1) 46 #[.int .i64 7,.string ⟨#[]⟩,.int .i64 0] (0,0) _ rfl (aY _ (w.heap.size+1) _ _ _ _ Ay.o) underlying46 rfl (bd _ rfl)) rfl ?_;unfold eD;rw[HR.o];exact⟨rfl,dw HP.o pU.o oM.o (bT _) Ay.o eJ ag _⟩
 |ok l =>
  rw[hch]at JS;obtain⟨vl,rfl,Ac⟩:=JS;have nI:=Qt hch;have hlen:l.length<=1000000:=by have:=(Jm hch).2;omega
  have BE:=O (UN vl l u1 Ac.at hlen nI);obtain⟨al,cl,RA⟩:=Ac.form;subst RA;have HCH:=O hch;clear hch Ac nI hlen uY;go_wp2_with fail
  refine BE.o.mono ?_;rintro e u2⟨lD,r,hr,rfl⟩;clear BE;obtain⟨m,hm⟩:∃m,m=iW l:=⟨_,rfl⟩;rw[<-hm]at hr ⊢;have HM:=O hm;obtain⟨e1,e2,e3,e4,e5,e6,e7,Am⟩:=hr;have GK:cZ base u2 r.dom m.dom:=Am.in (by have h:=(OU HCH.o).2.2.2;rw[<-hm]at h;omega);obtain⟨ad,cd,B6⟩:=GK.rd.form
  have uj:r.cells=[.int .i64 m.scheme,.string m.aP,.string m.bz,.string m.cC,.bool m.cD,.string m.eY,.bool m.du,.slice ad m.dom.length cd]:=by unfold fY.cells;rw[e1,e2,e3,e4,e5,e6,e7,B6]
  rw[B6]at GK;rw[uj];have p_:=O (Lx.o.trans lD);have anJ:=O GK;obtain⟨x3,xf⟩:∃x3,x3=u2.alloc (.cells #[.int .i64 m.scheme,.string m.aP,.string m.bz,.string m.cC,.bool m.cD,.string m.eY,.bool m.du,.slice ad m.dom.length cd] 127):=⟨_,rfl⟩;have sN:=aB u2 (.cells #[.int .i64 m.scheme,.string m.aP,.string m.bz,.string m.cC,.bool m.cD,.string m.eY,.bool m.du,.slice ad m.dom.length cd] 127)
  have ik:Fr aW w2 x3:=by rw[xf];exact p_.o.alloc _
  rw[<-xf]at sN;have Na:=O sN;have ij:=O ik;have M_:x3.heap.size=u2.heap.size+1:=by rw[xf];simp
  have HX3:=O xf;have T3:=O (show w.heap.size+2<=u2.heap.size from by have h1:=p_.o.size;have h2:=adn.o;omega);clear Am GK e1 e2 e3 e4 e5 e6 e7 B6 uj lD hm sN ik xf;by_cases hsc:0<m.scheme
  ·obtain⟨a0,a1,a2,a3,a4,a5,a6,a7,a8,a9,jr,js,a12,jq,jt,i_,jD,jE,jF,jN,a20,a21⟩:=ed (US.o x3 ij.o) lg.o;rw[HX3.o]at a0 a1 a2 a3 a4 a5 a6 a7 a8 a9 jr js a12 jq jt i_ jD jE jF jN a20 a21;go_wp2_with fail
   obtain⟨x4,Xn⟩:∃x4,x4=(u2.alloc (.cells #[.int .i64 m.scheme,.string m.aP,.string m.bz,.string m.cC,.bool m.cD,.string m.eY,.bool m.du,.slice ad m.dom.length cd] 127)).alloc (.cells #[.bool o.aI.o.aG,.string o.aI.o.host,.int .i64 o.aI.o.port] 24):=⟨_,rfl⟩;rw[<-Xn];rw[<-HX3.o]at Xn;have Y1:Fr aW x3 x4:=by rw[Xn];exact(ae _ _).alloc _
   have HB9:=O (show x4.heap[u2.heap.size+1]?=some (.cells #[.bool o.aI.o.aG,.string o.aI.o.host,.int .i64 o.aI.o.port] 24 (0,0))from by
    have h:=aB x3 (.cells #[.bool o.aI.o.aG,.string o.aI.o.host,.int .i64 o.aI.o.port] 24);rw[M_]at h;rw[Xn];exact h)
   have HB7:=O (Y1.keep Na.o id);have jH:=O (ij.o.trans Y1);have anK:=O (show Fr aW x3 x4 from Y1);have anL:=O (show Fr aW u2 x3 from by rw[HX3.o];exact(ae _ _).alloc _);clear Xn Y1 a0 a1 a2 a3 a4 a5 a6 a7 a8 a9 jr js a12 jq jt i_ jD jE jF jN a20 a21 M_
   have F0:=O (show∀U,Fr aW x4 U->(U.cell? ⟨B,off,none⟩=some (.pointer (some ⟨v.b,0,none⟩))/\U.cell? ⟨u2.heap.size+1,0,none⟩=some (.bool o.aI.o.aG)/\U.cell? ⟨u2.heap.size+1,1,none⟩=some (.string o.aI.o.host)/\U.cell? ⟨u2.heap.size+1,2,none⟩=some (.int .i64 o.aI.o.port)/\U.cell? ⟨w.heap.size,14,none⟩=some (.bool o.proxy)/\U.cell? ⟨u2.heap.size,1,none⟩=some (.string m.aP))from fun U hU=>by
    have j1:=(HA.o.dt (fS.o.trans jH.o)).dt hU;have j2:=hU.keep HB9.o id;have j3:=hU.keep HB7.o id;obtain⟨a0,a1,a2,a3,a4,a5,a6,a7,a8,a9,jr,js,a12,jq,jt,i_,jD,jE,jF,jN,a20,a21⟩:=ed (US.o U (jH.o.trans hU)) lg.o;refine⟨j1.cell0,?_,?_,?_,jt,?_⟩<;>simp[World.cell?,j2,j3])
   have HGT:=O (show∀U,Fr aW x4 U->aC 78 #[.pointer (some ⟨v.b,0,none⟩),.agg #[.bool o.aI.o.aG,.string o.aI.o.host,.int .i64 o.aI.o.port],.bool o.proxy,.string m.aP] U (tE base U (p.bW.find? (mP o.aI.o o.proxy m.aP)))from fun U hU=>U3 base U v.b v.gv v.wv p.bW p.waits o.aI.o o.proxy m.aP (((HH.o.dt (fS.o.trans jH.o)).dt hU).oW));obtain⟨gm,hgm⟩:∃gm,gm=p.bW.find? (mP o.aI.o o.proxy m.aP):=⟨_,rfl⟩
   rw[<-hgm]at HGT;have HGM:=O hgm;obtain⟨ok,Lt⟩:∃ok,ok=gm.isSome:=⟨_,rfl⟩;have Mh:=O Lt;have ado:=O (show base<=x4.heap.size from aE pU.o (fS.o.trans jH.o).size);clear hgm Lt;apply UA (P:=GtJ base x4 gm)
   ·intro hJ;have HJ:=O hJ;clear hJ
    refine wp_region_held_drew (S:=(fun U=>U.cell? ⟨B,off,none⟩=some (.pointer (some ⟨v.b,0,none⟩))/\U.cell? ⟨u2.heap.size+1,0,none⟩=some (.bool o.aI.o.aG)/\U.cell? ⟨u2.heap.size+1,1,none⟩=some (.string o.aI.o.host)/\U.cell? ⟨u2.heap.size+1,2,none⟩=some (.int .i64 o.aI.o.port)/\U.cell? ⟨w.heap.size,14,none⟩=some (.bool o.proxy)/\U.cell? ⟨u2.heap.size,1,none⟩=some (.string m.aP))) af (F0.o _ (az (ae _ _))) ?_
    intro yl;refine aO 0 33 rfl ?_;refine aO 1 34 rfl ?_;refine aO 2 35 rfl ?_;refine aO 3 36 rfl ?_;refine aO 4 37 rfl ?_;refine aO 5 38 rfl ?_;refine aO 6 39 rfl ?_;refine aO 7 40 rfl ?_;refine aO 8 41 rfl ?_;refine DI 9 13 rfl rfl (fun K hK=>?_) fun K hK=>?_
    ·go_simp;refine(HGT.o _ (az (ae _ _))).mono ?_;rintro e u5 Ku;obtain⟨lC,X,rfl,FQ,Kv,Dx⟩:=tE.one Ku;rw[<-Mh.o];have HX:=O (And.intro FQ (And.intro Kv Dx));have w_:=O ((az (ae aW x4)).trans lC);clear Ku FQ Kv Dx lC;refine hK.out _ _ (F0.o _ w_.o) ?_;intro wU;clear hK yl K
     try simp only[Act.put,sA,sB,sC]
     refine aO 10 32 rfl ?_;refine aO 11 43 rfl ?_;refine aO 12 44 rfl ?_;refine eK 13 rfl fun K hK=>?_;go_simp;obtain⟨n,hne⟩:∃n,n=u5.heap.size:=⟨_,rfl⟩;obtain⟨w6,zd⟩:∃w6,w6=u5.alloc (.cells fc 133):=⟨_,rfl⟩;have HZZ:=O (show w6.heap[n]?=some (.cells fc 133 (0,0))by rw[zd,hne];exact aB _ _);have adq:Fr aW u5 w6:=by rw[zd];exact(ae _ _).alloc _
     have yj:=O (w_.o.trans adq);have anN:=O adq;have BP:=O (show x4.heap.size<=n by rw[hne];exact w_.o.size);rw[<-zd, <-hne];clear zd hne adq;refine hK.out _ _ (F0.o _ yj.o) ?_;intro Bj;clear hK wU K
     try simp only[Act.put,sA,sB,sC]
     refine eK 14 rfl fun K hK=>?_;refine jC rfl 133 (.tmp 10) (.tmp 43) rfl n X rfl rfl 133 fc HZZ.o (F2 HX.o.1) HX.o.1.symm HX.o.2.1 ?_;obtain⟨W,hW⟩:∃W,W=w6.setRow n X:=⟨_,rfl⟩;have Bk:Fr aW x4 W:=by rw[hW];exact iZ yj.o BP.o _
     have Yu:W.heap[n]?=some (.cells X 133 (0,0)):=by rw[hW];exact lK HZZ.o
     have hWS:∀vv ss,cZ base u5 vv ss->cZ base W vv ss:=fun vv ss h=>by rw[hW];exact KJ HZZ.o ag (aE ado.o BP.o) vv ss (h.dt anN.o)
     rw[<-hW];refine hK.out _ _ (F0.o _ Bk) ?_;intro EA;clear hK Bj K
     try simp only[Act.put,sA,sB,sC]
     refine aO 15 8 rfl ?_;clear EA;refine wpAnyH_done af ?_ _;exact HJ.o n X W ⟨Bk,Yu,BP.o,HX.o.1,fun g hg=>by
      obtain⟨r,e1,e2⟩:=HX.o.2.2 g hg;exact⟨r,e1,e2.mono (fun v l h=>hWS v l h)⟩⟩
    ·go_simp;obtain⟨n,hne⟩:∃n,n=x4.heap.size:=⟨_,rfl⟩;obtain⟨w6,zd⟩:∃w6,w6=(x4.alloc (.cells fc 133)).drew:=⟨_,rfl⟩;have hz6:w6.heap[n]?=some (.cells fc 133 (0,0)):=by rw[zd,hne];exact aB x4 _
     have yj:=O (show Fr aW x4 w6 by rw[zd];exact((ae _ _).alloc _).drew);have BP:=O (show x4.heap.size<=n from ab);have HZ6:=O hz6;rw[<-zd, <-hne];clear zd hne hz6;refine hK.out _ _ (F0.o _ yj.o) ?_;intro wU;clear hK yl K
     try simp only[Act.put,sA,sB,sC]
     refine eK 9 rfl fun K hK=>?_;go_simp;refine(HGT.o _ yj.o).mono ?_;rintro e u5 Ku;obtain⟨lC,X,rfl,FQ,Kv,Dx⟩:=tE.one Ku;rw[<-Mh.o];have HX:=O (And.intro FQ (And.intro Kv Dx));have w_:=O (yj.o.trans lC);have HZZ:=O (lC.keep HZ6.o id);clear Ku FQ Kv Dx lC;refine hK.out _ _ (F0.o _ w_.o) ?_;intro Bj;clear hK wU K
     try simp only[Act.put,sA,sB,sC]
     refine aO 10 32 rfl ?_;refine aO 11 43 rfl ?_;refine aO 12 44 rfl ?_;refine eK 14 rfl fun K hK=>?_;refine jC rfl 133 (.tmp 10) (.tmp 43) rfl n X rfl rfl 133 fc HZZ.o (F2 HX.o.1) HX.o.1.symm HX.o.2.1 ?_;obtain⟨W,hW⟩:∃W,W=u5.setRow n X:=⟨_,rfl⟩;have Bk:Fr aW x4 W:=by rw[hW];exact iZ w_.o BP.o _
     have Yu:W.heap[n]?=some (.cells X 133 (0,0)):=by rw[hW];exact lK HZZ.o
     have hWS:∀vv ss,cZ base u5 vv ss->cZ base W vv ss:=fun vv ss h=>by rw[hW];exact KJ HZZ.o ag (aE ado.o BP.o) vv ss (h)
     rw[<-hW];refine hK.out _ _ (F0.o _ Bk) ?_;intro EA;clear hK Bj K
     try simp only[Act.put,sA,sB,sC]
     refine aO 15 8 rfl ?_;clear EA;refine wpAnyH_done af ?_ _;exact HJ.o n X W ⟨Bk,Yu,BP.o,HX.o.1,fun g hg=>by
      obtain⟨r,e1,e2⟩:=HX.o.2.2 g hg;exact⟨r,e1,e2.mono (fun v l h=>hWS v l h)⟩⟩
   ·intro n X W hj;obtain⟨Bk,Yu,UB,Tc,Kt⟩:=hj;have HW:=O (jH.o.trans Bk);have wV:=O (fS.o.trans HW.o);have I0:=O (HH.o.dt wV.o);have A0:=O (HA.o.dt wV.o);have adr:=O (Bk.keep HB9.o id);have Ve:=O (Bk.keep HB7.o id);have ads:=O (HW.o.keep mE.o id);have ah_:=O (HW.o.keep qx.o id);have HSW:=O (anJ.o.dt (show Fr aW u2 W from anL.o.trans (anK.o.trans Bk)));have anP:=O Yu;have Uq:=O Kt
    have hn7:u2.heap.size≠B:=by have:=T3.o;omega
    have hn9:u2.heap.size+1≠B:=by have:=T3.o;omega
    clear Bk Yu Kt F0 HGT
    have SW:=O (show∀U,Fr (dh v.b v.gv v.wv) W U->(U.cell? ⟨B,off,none⟩=some (.pointer (some ⟨v.b,0,none⟩))/\U.cell? ⟨u2.heap.size+1,0,none⟩=some (.bool o.aI.o.aG)/\U.cell? ⟨u2.heap.size+1,1,none⟩=some (.string o.aI.o.host)/\U.cell? ⟨u2.heap.size+1,2,none⟩=some (.int .i64 o.aI.o.port)/\U.cell? ⟨w.heap.size,14,none⟩=some (.bool o.proxy)/\U.cell? ⟨u2.heap.size,1,none⟩=some (.string m.aP))from fun U hU=>by
     have j1:=A0.o.fr hU (fun hb=>B_.o (Or.inl hb));have j2:=hU.keep adr.o (fun hb=>I0.o.fa adr.o pB (Or.inl hb));have j3:=hU.keep Ve.o (fun hb=>I0.o.fa Ve.o Au (Or.inl hb));have j4:=hU.keep ads.o (fun hb=>I0.o.fa ads.o kZ (Or.inl hb));obtain⟨a0,a1,a2,a3,a4,a5,a6,a7,a8,a9,jr,js,a12,jq,jt,i_,jD,jE,jF,jN,a20,a21⟩:=ed j4 lg.o;refine⟨j1.cell0,?_,?_,?_,jt,?_⟩<;>simp[World.cell?,j2,j3])
    have RL:=O (show∀U,Fr aW W U->aC 75 #[.pointer (some ⟨v.b,0,none⟩),.agg #[.bool o.aI.o.aG,.string o.aI.o.host,.int .i64 o.aI.o.port],.bool o.proxy,.string m.aP] U (vQ base U v.b v.gv v.wv p.bW p.waits (mP o.aI.o o.proxy m.aP))from fun U hU=>zc base U v.b v.gv v.wv p.bW p.waits o.aI.o o.proxy m.aP (I0.o.dt hU).oW);cases KL:gm
    case' none =>
     have rA:ok=false:=by rw[Mh.o,KL];rfl
     have HR:=O (show jo p (o.dP hs)=({p with bW:=uI p.bW o.aI.o o.proxy m.aP,waits:=zj p.waits ⟨o.aI.o,o.proxy,o.aI.path,m⟩},rep 3)by
      unfold jo;rw[show(o.dP hs).text=o.text from rfl,HCH.o];simp only;rw[<-HM.o,aA hsc];rw[show Yb p.bW (o.dP hs).o (o.dP hs).proxy m.aP=none from by rw[<-KL];exact HGM.o.symm];rfl)
     rw[rA];clear KL Mh rA;go_wp2_with fail
    case' some g =>
     have rA:ok=true:=by rw[Mh.o,KL];rfl
     obtain⟨r2,Wm,oP⟩:=Uq.o g KL;obtain⟨p1,p2,p3,p4,p5,p6,p7⟩:=oP;have HPA:=O p7;obtain⟨e1,e2,e3,e4,e5,e6,e7,xj⟩:=p5;obtain⟨ad2,cd2,aia⟩:=xj.rd.form;obtain⟨ap2,cp2,adt⟩:=p7.rd.form;have HPB:=O (show cZ base W (.slice ap2 g.paths.length cp2) g.paths from by rw[<-adt];exact p7)
     have xc:X= #[.bool g.o.aG,.string g.o.host,.int .i64 g.o.port,.bool g.proxy,.string g.user,.string g.pass,.int .i64 g.a.scheme,.string g.a.aP,.string g.a.bz,.string g.a.cC,.bool g.a.cD,.string g.a.eY,.bool g.a.du,.slice ad2 g.a.dom.length cd2,.int .i64 g.count,.slice ap2 g.paths.length cp2]:=by
      rw[Wm];unfold aU.cells;rw[p1,p2,p3,p4,p6,e1,e2,e3,e4,e5,e6,e7,aia,adt]
     have DG:=Ve.o;have QS:=anP.o;rw[xc]at QS;have q0:W.cell? ⟨u2.heap.size,0,none⟩=some (.int .i64 m.scheme):=by simp[World.cell?,DG]
     have q2:W.cell? ⟨u2.heap.size,2,none⟩=some (.string m.bz):=by simp[World.cell?,DG]
     have q6:W.cell? ⟨u2.heap.size,6,none⟩=some (.bool m.du):=by simp[World.cell?,DG]
     have t6:W.cell? ⟨n,6,none⟩=some (.int .i64 g.a.scheme):=by simp[World.cell?,QS]
     have t8:W.cell? ⟨n,8,none⟩=some (.string g.a.bz):=by simp[World.cell?,QS]
     have qM:=O QS;have RU:=O (show(m.du&&(m.scheme==g.a.scheme&&m.bz.toList !=g.a.bz.toList))=false->jo p (o.dP hs)=({p with bW:=uI p.bW o.aI.o o.proxy m.aP,waits:=zj p.waits ⟨o.aI.o,o.proxy,o.aI.path,m⟩},rep 3)from fun iM=>by
      unfold jo;rw[show(o.dP hs).text=o.text from rfl,HCH.o];simp only;rw[<-HM.o,aA hsc];rw[show Yb p.bW (o.dP hs).o (o.dP hs).proxy m.aP=some g from by rw[<-KL];exact HGM.o.symm];unfold Dr;simp only;rw[iM];rfl)
     have HGL:=O (show Yb p.bW (o.dP hs).o (o.dP hs).proxy m.aP=some g from by rw[<-KL];exact HGM.o.symm);rw[rA];clear KL Mh rA Wm p1 p2 p3 p4 p6 p7 e1 e2 e3 e4 e5 e6 e7 xj aia adt xc DG QS Tc;cases iM:m.du
     case' false =>
      have HR:=O (RU.o (by rw[iM];rfl));rw[iM]at q6;clear iM RU;go_wp2_with fail
     case' true =>
      by_cases KM:m.scheme=g.a.scheme
      case' pos =>
       by_cases J4:m.bz=g.a.bz
       case' pos =>
        have HR:=O (RU.o (by rw[J4];simp));rw[iM]at q6;rw[KM]at q0;rw[J4]at q2;clear iM RU;have ZD:=O J4;have Ws:=O KM;clear J4 KM;go_wp2_with fail
       case neg =>
        have HR:=O (show jo p (o.dP hs)=({p with bW:=uW p.bW {g with a:=m,count:=0}},rep 1)by
         unfold jo;rw[show(o.dP hs).text=o.text from rfl,HCH.o];simp only;rw[<-HM.o,aA hsc];rw[HGL.o];unfold Dr;simp only;rw[show(m.du&&(m.scheme==g.a.scheme&&m.bz.toList !=g.a.bz.toList))=true from by rw[iM,KM];simp;exact fun e=>J4 (toList_inj.1 e)];rfl)
        have DG:=Ve.o;rw[KM]at DG q0;rw[iM]at DG q6;have q1b:W.cell? ⟨u2.heap.size,1,none⟩=some (.string m.aP):=by simp[World.cell?,DG]
        have q3b:W.cell? ⟨u2.heap.size,3,none⟩=some (.string m.cC):=by simp[World.cell?,DG]
        have q4b:W.cell? ⟨u2.heap.size,4,none⟩=some (.bool m.cD):=by simp[World.cell?,DG]
        have q5b:W.cell? ⟨u2.heap.size,5,none⟩=some (.string m.eY):=by simp[World.cell?,DG]
        have q7b:W.cell? ⟨u2.heap.size,7,none⟩=some (.slice ad m.dom.length cd):=by simp[World.cell?,DG]
        have z6:W.cell? ⟨n,6,none⟩=some (.int .i64 g.a.scheme):=by simp[World.cell?,qM.o]
        have y6:W.frozen? ⟨n,6,none⟩=false:=by simp[World.frozen?,qM.o]
        have z7:W.cell? ⟨n,7,none⟩=some (.string g.a.aP):=by simp[World.cell?,qM.o]
        have y7:W.frozen? ⟨n,7,none⟩=false:=by simp[World.frozen?,qM.o]
        have z8:W.cell? ⟨n,8,none⟩=some (.string g.a.bz):=by simp[World.cell?,qM.o]
        have y8:W.frozen? ⟨n,8,none⟩=false:=by simp[World.frozen?,qM.o]
        have z9:W.cell? ⟨n,9,none⟩=some (.string g.a.cC):=by simp[World.cell?,qM.o]
        have y9:W.frozen? ⟨n,9,none⟩=false:=by simp[World.frozen?,qM.o]
        have z10:W.cell? ⟨n,10,none⟩=some (.bool g.a.cD):=by simp[World.cell?,qM.o]
        have y10:W.frozen? ⟨n,10,none⟩=false:=by simp[World.frozen?,qM.o]
        have z11:W.cell? ⟨n,11,none⟩=some (.string g.a.eY):=by simp[World.cell?,qM.o]
        have y11:W.frozen? ⟨n,11,none⟩=false:=by simp[World.frozen?,qM.o]
        have z12:W.cell? ⟨n,12,none⟩=some (.bool g.a.du):=by simp[World.cell?,qM.o]
        have y12:W.frozen? ⟨n,12,none⟩=false:=by simp[World.frozen?,qM.o]
        have z13:W.cell? ⟨n,13,none⟩=some (.slice ad2 g.a.dom.length cd2):=by simp[World.cell?,qM.o]
        have y13:W.frozen? ⟨n,13,none⟩=false:=by simp[World.frozen?,qM.o]
        have z14:W.cell? ⟨n,14,none⟩=some (.int .i64 g.count):=by simp[World.cell?,qM.o]
        have y14:W.frozen? ⟨n,14,none⟩=false:=by simp[World.frozen?,qM.o]
        have Ws:=O KM;have lT:=O iM;have Ij:¬m.bz.toList=g.a.bz.toList:=fun e=>J4 (by cases hx:m.bz;cases hy:g.a.bz;rw[hx,hy]at e;simpa[aN]using e);have zU:(m.bz.toList==g.a.bz.toList)=false:=aK.2 Ij;have UW:¬v.jM n:=fun hk=>by have:=(HH.o.dt (fS.o.trans jH.o)).ja hk;omega
        have atF:=bg HB9.o;have aaJ:rL base W (one n):=by
         rintro k rfl _;exact⟨aE ado.o UB,fun c f e=>by rw[qM.o]at e;cases e⟩
        have zO:n≠B:=by have h1:=oM.o;have h2:=(fS.o.trans jH.o).size;omega
        have Og:n≠w.heap.size:=by have h2:=(jH.o).size;have h3:=adn.o;omega
        have aib:n≠w.heap.size+1:=by have h2:=(jH.o).size;have h3:=adn.o;omega
        have hln:w.heap.size<=n:=by have h2:=(fS.o.trans jH.o).size;omega
        have HNF:=O UW;have adu:=O aaJ;have Il:=O zO;have HN0:=O Og;have HN1:=O aib;have Iq:=O hln;clear DG iM KM RU aaJ J4 zO Og aib UW hln
        obtain⟨V,hV⟩:∃V,V=(((((((((W.setCell ⟨n,6,none⟩ (.int .i64 g.a.scheme)).setCell ⟨n,7,none⟩ (.string m.aP)).setCell ⟨n,8,none⟩ (.string m.bz)).setCell ⟨n,9,none⟩ (.string m.cC)).setCell ⟨n,10,none⟩ (.bool m.cD)).setCell ⟨n,11,none⟩ (.string m.eY)).setCell ⟨n,12,none⟩ (.bool true)).setCell ⟨n,13,none⟩ (.slice ad m.dom.length cd)).setCell ⟨n,14,none⟩ (.int .i64 0)):=⟨_,rfl⟩;go_wp2_with fail
        rw[<-hV]
        have Wo:Fr (one n) W V:=by rw[hV];exact((((((((((ae (one n) W).setCell (p:=⟨n,6,none⟩) (fun _=>rfl) _).setCell (p:=⟨n,7,none⟩) (fun _=>rfl) _).setCell (p:=⟨n,8,none⟩) (fun _=>rfl) _).setCell (p:=⟨n,9,none⟩) (fun _=>rfl) _).setCell (p:=⟨n,10,none⟩) (fun _=>rfl) _).setCell (p:=⟨n,11,none⟩) (fun _=>rfl) _).setCell (p:=⟨n,12,none⟩) (fun _=>rfl) _).setCell (p:=⟨n,13,none⟩) (fun _=>rfl) _).setCell (p:=⟨n,14,none⟩) (fun _=>rfl) _)
        have hwV:Fr aW w V:=by rw[hV];exact(((((((((wV.o.gI (p:=⟨n,6,none⟩) Iq.o _).gI (p:=⟨n,7,none⟩) Iq.o _).gI (p:=⟨n,8,none⟩) Iq.o _).gI (p:=⟨n,9,none⟩) Iq.o _).gI (p:=⟨n,10,none⟩) Iq.o _).gI (p:=⟨n,11,none⟩) Iq.o _).gI (p:=⟨n,12,none⟩) Iq.o _).gI (p:=⟨n,13,none⟩) Iq.o _).gI (p:=⟨n,14,none⟩) Iq.o _)
        have hbV:V.heap[n]?=some (.cells #[.bool g.o.aG,.string g.o.host,.int .i64 g.o.port,.bool g.proxy,.string g.user,.string g.pass,.int .i64 g.a.scheme,.string m.aP,.string m.bz,.string m.cC,.bool m.cD,.string m.eY,.bool true,.slice ad m.dom.length cd,.int .i64 0,.slice ap2 g.paths.length cp2] 133 (0,0)):=by
         have e1:=b_ qM.o 6 (.int .i64 g.a.scheme);have e2:=b_ e1 7 (.string m.aP);have e3:=b_ e2 8 (.string m.bz);have e4:=b_ e3 9 (.string m.cC);have e5:=b_ e4 10 (.bool m.cD);have e6:=b_ e5 11 (.string m.eY);have e7:=b_ e6 12 (.bool true);have e8:=b_ e7 13 (.slice ad m.dom.length cd);have e9:=b_ e8 14 (.int .i64 0);rw[hV,e9];simp
        have iV:=I0.o.fr Wo adu.o (fun i hi e=>HNF.o (by have e':i=n:=e;rw[<-e'];exact hi));have aV:=A0.o.fr Wo (fun e=>Il.o (show B=n from e).symm);have rV:=Wo.keep ah_.o (fun e=>HN1.o (show w.heap.size+1=n from e).symm);have hpV:cZ base V (.slice ap2 g.paths.length cp2) g.paths:=HPB.o.fr Wo adu.o;have hmV:cZ base V (.slice ad m.dom.length cd) m.dom:=HSW.o.fr Wo adu.o;have HIV:=O iV;have HAV:=O aV
        have HRV:=O rV;have XF:=O hwV;have HBV:=O hbV
        have HPU:=O (show∀U,Fr aW V U->aC 79 #[.pointer (some ⟨v.b,0,none⟩),.agg #[.bool g.o.aG,.string g.o.host,.int .i64 g.o.port,.bool g.proxy,.string g.user,.string g.pass,.int .i64 g.a.scheme,.string m.aP,.string m.bz,.string m.cC,.bool m.cD,.string m.eY,.bool true,.slice ad m.dom.length cd,.int .i64 0,.slice ap2 g.paths.length cp2]] U (GX base U v.b v.gv v.wv (uW p.bW {g with a:=m,count:=0}) p.waits)from fun U hU=>by
         have h:=OK base U v.b v.gv v.wv p.bW p.waits ⟨g.o,g.proxy,g.user,g.pass,{m with dom:=.slice ad m.dom.length cd},0,.slice ap2 g.paths.length cp2⟩ {g with a:=m,count:=0} (HIV.o.dt hU).oW ⟨rfl,rfl,rfl,rfl,⟨rfl,rfl,rfl,rfl,rfl,rfl,rfl,hmV.dt hU⟩,rfl,hpV.dt hU⟩ ab;unfold aU.cells at h;rw[show m.scheme=g.a.scheme from Ws.o,show m.du=true from lT.o]at h;exact h)
        have HC:=O (show∀U,Fr (dh v.b v.gv v.wv) V U->(U.cell? ⟨B,off,none⟩=some (.pointer (some ⟨v.b,0,none⟩))/\U.cell? ⟨n,0,none⟩=some (.bool g.o.aG)/\U.cell? ⟨n,1,none⟩=some (.string g.o.host)/\U.cell? ⟨n,2,none⟩=some (.int .i64 g.o.port)/\U.cell? ⟨n,3,none⟩=some (.bool g.proxy)/\U.cell? ⟨n,4,none⟩=some (.string g.user)/\U.cell? ⟨n,5,none⟩=some (.string g.pass)/\U.cell? ⟨n,6,none⟩=some (.int .i64 g.a.scheme)/\U.cell? ⟨n,7,none⟩=some (.string m.aP)/\U.cell? ⟨n,8,none⟩=some (.string m.bz)/\U.cell? ⟨n,9,none⟩=some (.string m.cC)/\U.cell? ⟨n,10,none⟩=some (.bool m.cD)/\U.cell? ⟨n,11,none⟩=some (.string m.eY)/\U.cell? ⟨n,12,none⟩=some (.bool true)/\U.cell? ⟨n,13,none⟩=some (.slice ad m.dom.length cd)/\U.cell? ⟨n,14,none⟩=some (.int .i64 0)/\U.cell? ⟨n,15,none⟩=some (.slice ap2 g.paths.length cp2))from fun U hU=>by
         have j1:=HAV.o.fr hU (fun hb=>B_.o (Or.inl hb));have j2:=hU.keep HBV.o (fun hb=>HNF.o (Or.inl hb));refine⟨j1.cell0,?_,?_,?_,?_,?_,?_,?_,?_,?_,?_,?_,?_,?_,?_,?_,?_⟩<;>simp[World.cell?,j2])
        clear hV Wo hwV hbV iV aV rV hpV hmV
        go_region_held3 (fun U=>Fr (dh v.b v.gv v.wv) V U/\(U.cell? ⟨B,off,none⟩=some (.pointer (some ⟨v.b,0,none⟩))/\U.cell? ⟨n,0,none⟩=some (.bool g.o.aG)/\U.cell? ⟨n,1,none⟩=some (.string g.o.host)/\U.cell? ⟨n,2,none⟩=some (.int .i64 g.o.port)/\U.cell? ⟨n,3,none⟩=some (.bool g.proxy)/\U.cell? ⟨n,4,none⟩=some (.string g.user)/\U.cell? ⟨n,5,none⟩=some (.string g.pass)/\U.cell? ⟨n,6,none⟩=some (.int .i64 g.a.scheme)/\U.cell? ⟨n,7,none⟩=some (.string m.aP)/\U.cell? ⟨n,8,none⟩=some (.string m.bz)/\U.cell? ⟨n,9,none⟩=some (.string m.cC)/\U.cell? ⟨n,10,none⟩=some (.bool m.cD)/\U.cell? ⟨n,11,none⟩=some (.string m.eY)/\U.cell? ⟨n,12,none⟩=some (.bool true)/\U.cell? ⟨n,13,none⟩=some (.slice ad m.dom.length cd)/\U.cell? ⟨n,14,none⟩=some (.int .i64 0)/\U.cell? ⟨n,15,none⟩=some (.slice ap2 g.paths.length cp2))) ((refine(fun hU=>⟨hU,HC.o _ hU⟩) ?_;first|exact az (ae _ _)|assumption))
         ((first
          |(go_at_call 79;refine(HPU.o _ (az (ae _ _))).mono ?_;rintro e u6 ⟨rfl,BD⟩;have KP:Fr (dh v.b v.gv v.wv) V u6:=(az (ae _ _)).trans (by obtain⟨_,_,_,h,_⟩:=BD;exact h))))
        have HP:=O (show cX base w B cs off v {p with bW:=uW p.bW {g with a:=m,count:=0}} u6 from cW XF.o (cW (az (ae aW V)) (eP (HIV.o.dt (az (ae aW V))) (HAV.o.dt (az (ae aW V))) B_.o BD)));have r6:=O (eF (B:=B) HIV.o (KP.mono (fun k _ hk=>Or.inr (Or.inl hk))) HRV.o dR ab);clear BD KP HC HPU
        go_wp2_with (first|((with_reducible refine cP 46 ?_);refine aF rfl 46 (.tmp 4) (.tmp 75) rfl (w.heap.size+1) #[.int .i64 1,.string ⟨#[]⟩,.int .i64 0] rfl rfl _ bQ r6.o (bd _ rfl) rfl bX ?_)|fail)
        refine aR (bh bw _ _ (w.heap.size+1) 46 #[.int .i64 1,.string ⟨#[]⟩,.int .i64 0] (0,0) _ rfl (aY _ (w.heap.size+1) _ _ _ _ r6.o) underlying46 rfl (bd _ rfl)) rfl ?_;unfold eD;rw[HR.o];exact⟨rfl,dw HP.o pU.o oM.o (bT _) r6.o eJ ag _⟩
      case' neg =>
       have HR:=O (RU.o (by rw[aK.2 KM];simp));rw[iM]at q6;clear iM RU;go_wp2_with fail
    all_goals
     go_region_held3 (fun U=>Fr (dh v.b v.gv v.wv) W U/\U.cell? ⟨B,off,none⟩=some (.pointer (some ⟨v.b,0,none⟩))/\U.cell? ⟨u2.heap.size+1,0,none⟩=some (.bool o.aI.o.aG)/\U.cell? ⟨u2.heap.size+1,1,none⟩=some (.string o.aI.o.host)/\U.cell? ⟨u2.heap.size+1,2,none⟩=some (.int .i64 o.aI.o.port)/\U.cell? ⟨w.heap.size,14,none⟩=some (.bool o.proxy)/\U.cell? ⟨u2.heap.size,1,none⟩=some (.string m.aP)) ((refine(fun hU=>⟨hU,SW.o _ hU⟩) ?_;first|exact az (ae _ _)|assumption))
      ((first
       |(go_at_call 75;refine(RL.o _ (az (ae _ _))).mono ?_;rintro e u6 ⟨rfl,BD⟩;have KP:Fr (dh v.b v.gv v.wv) W u6:=(az (ae _ _)).trans (by obtain⟨_,_,_,h,_⟩:=BD;exact h))))
     have HS6:=O (HSW.o.fr KP (fun k hk hl=>I0.o.off k (Or.inl hk) hl));obtain⟨v6,i6,f6,aaK,aid⟩:=eP (I0.o.dt (az (ae aW W))) (A0.o.dt (az (ae aW W))) B_.o BD;have aa6:=ia A0.o aid;have o6:=eF (I0.o.dt (az (ae aW W))) f6 (show W.drew.heap[w.heap.size]?=_ from ads.o) kZ ab;have r6:=eF (I0.o.dt (az (ae aW W))) f6 (show W.drew.heap[w.heap.size+1]?=_ from ah_.o) dR ab
     have q6:=eF (I0.o.dt (az (ae aW W))) f6 (show W.drew.heap[u2.heap.size]?=_ from Ve.o) Au hn7;have g6:=eF (I0.o.dt (az (ae aW W))) f6 (show W.drew.heap[u2.heap.size+1]?=_ from adr.o) pB hn9;have I6:=O i6;have F6:=O f6;have FT6:=O aaK;have AA6:=O aa6;have O6:=O o6;have R6:=O r6;have Q6:=O q6;have G6:=O g6;clear BD KP i6 f6 aaK aa6 o6 r6 q6 g6 aid SW RL
     have HC6:=O (show∀U,Fr (dh v6.b v6.gv v6.wv) u6 U->(U.cell? ⟨B,off,none⟩=some (.pointer (some ⟨v6.b,0,none⟩))/\U.cell? ⟨u2.heap.size+1,0,none⟩=some (.bool o.aI.o.aG)/\U.cell? ⟨u2.heap.size+1,1,none⟩=some (.string o.aI.o.host)/\U.cell? ⟨u2.heap.size+1,2,none⟩=some (.int .i64 o.aI.o.port)/\U.cell? ⟨w.heap.size,8,none⟩=some (.string o.aI.path)/\U.cell? ⟨w.heap.size,14,none⟩=some (.bool o.proxy)/\U.cell? ⟨u2.heap.size,0,none⟩=some (.int .i64 m.scheme)/\U.cell? ⟨u2.heap.size,1,none⟩=some (.string m.aP)/\U.cell? ⟨u2.heap.size,2,none⟩=some (.string m.bz)/\U.cell? ⟨u2.heap.size,3,none⟩=some (.string m.cC)/\U.cell? ⟨u2.heap.size,4,none⟩=some (.bool m.cD)/\U.cell? ⟨u2.heap.size,5,none⟩=some (.string m.eY)/\U.cell? ⟨u2.heap.size,6,none⟩=some (.bool m.du)/\U.cell? ⟨u2.heap.size,7,none⟩=some (.slice ad m.dom.length cd))from fun U hU=>by
      have j1:=AA6.o.fr hU (fun hb=>I6.o.fa AA6.o.eG ag (Or.inl hb));have j2:=hU.keep G6.o (fun hb=>I6.o.fa G6.o pB (Or.inl hb));have j3:=hU.keep Q6.o (fun hb=>I6.o.fa Q6.o Au (Or.inl hb));have j4:=hU.keep O6.o (fun hb=>I6.o.fa O6.o kZ (Or.inl hb));obtain⟨a0,a1,a2,a3,a4,a5,a6,a7,a8,a9,jr,js,a12,jq,jt,i_,jD,jE,jF,jN,a20,a21⟩:=ed j4 lg.o
      refine⟨j1.cell0,?_,?_,?_,a8,jt,?_,?_,?_,?_,?_,?_,?_,?_⟩<;>simp[World.cell?,j2,j3])
     have HAS:=O (show∀U,Fr aW u6 U->aC 80 #[.pointer (some ⟨v6.b,0,none⟩),.agg #[.bool o.aI.o.aG,.string o.aI.o.host,.int .i64 o.aI.o.port,.bool o.proxy,.string o.aI.path,.int .i64 m.scheme,.string m.aP,.string m.bz,.string m.cC,.bool m.cD,.string m.eY,.bool m.du,.slice ad m.dom.length cd]] U (FB base U v6.b v6.gv v6.wv (uI p.bW o.aI.o o.proxy m.aP) (zj p.waits ⟨o.aI.o,o.proxy,o.aI.path,m⟩))from fun U hU=>by
      exact MI base U v6.b v6.gv v6.wv (uI p.bW o.aI.o o.proxy m.aP) p.waits ⟨o.aI.o,o.proxy,o.aI.path,{m with dom:=.slice ad m.dom.length cd}⟩ ⟨o.aI.o,o.proxy,o.aI.path,m⟩ (I6.o.dt hU).oW ⟨rfl,rfl,rfl,rfl,rfl,rfl,rfl,rfl,rfl,rfl,HS6.o.dt hU⟩ ab)
     go_wp2_with fail
     go_region_held3 (fun U=>Fr (dh v6.b v6.gv v6.wv) u6 U/\U.cell? ⟨B,off,none⟩=some (.pointer (some ⟨v6.b,0,none⟩))/\U.cell? ⟨u2.heap.size+1,0,none⟩=some (.bool o.aI.o.aG)/\U.cell? ⟨u2.heap.size+1,1,none⟩=some (.string o.aI.o.host)/\U.cell? ⟨u2.heap.size+1,2,none⟩=some (.int .i64 o.aI.o.port)/\U.cell? ⟨w.heap.size,8,none⟩=some (.string o.aI.path)/\U.cell? ⟨w.heap.size,14,none⟩=some (.bool o.proxy)/\U.cell? ⟨u2.heap.size,0,none⟩=some (.int .i64 m.scheme)/\U.cell? ⟨u2.heap.size,1,none⟩=some (.string m.aP)/\U.cell? ⟨u2.heap.size,2,none⟩=some (.string m.bz)/\U.cell? ⟨u2.heap.size,3,none⟩=some (.string m.cC)/\U.cell? ⟨u2.heap.size,4,none⟩=some (.bool m.cD)/\U.cell? ⟨u2.heap.size,5,none⟩=some (.string m.eY)/\U.cell? ⟨u2.heap.size,6,none⟩=some (.bool m.du)/\U.cell? ⟨u2.heap.size,7,none⟩=some (.slice ad m.dom.length cd)) ((refine(fun hU=>⟨hU,HC6.o _ hU⟩) ?_;first|exact az (ae _ _)|assumption))
      ((first
       |(go_at_call 80;refine(HAS.o _ (az (ae _ _))).mono ?_;rintro e u8 ⟨rfl,hb8⟩;have aie:Fr (dh v6.b v6.gv v6.wv) u6 u8:=(az (ae _ _)).trans (by obtain⟨_,_,_,h,_⟩:=hb8;exact h))))
     have UZ:=eP (I6.o.dt (az (ae aW u6))) (AA6.o.dt (az (ae aW u6))) (I6.o.fa AA6.o.eG ag) hb8;have HP:=O (show cX base W B cs off v {p with bW:=uI p.bW o.aI.o o.proxy m.aP,waits:=zj p.waits ⟨o.aI.o,o.proxy,o.aI.path,m⟩} u8 from cW (az (ae aW W)) (gz F6.o FT6.o (cW (az (ae aW u6)) UZ)));have r8:=O (eF (B:=B) I6.o (aie.mono (fun k _ hk=>Or.inr (Or.inl hk))) R6.o dR ab);clear UZ hb8 aie HC6 HAS
     go_wp2_with (first|((with_reducible refine cP 46 ?_);refine aF rfl 46 (.tmp 4) (.tmp 100) rfl (w.heap.size+1) #[.int .i64 3,.string ⟨#[]⟩,.int .i64 0] rfl rfl _ bQ r8.o (bd _ rfl) rfl bX ?_)|fail)
     refine aR (bh bw _ _ (w.heap.size+1) 46 #[.int .i64 3,.string ⟨#[]⟩,.int .i64 0] (0,0) _ rfl (aY _ (w.heap.size+1) _ _ _ _ r8.o) underlying46 rfl (bd _ rfl)) rfl ?_;unfold eD;rw[HR.o];exact⟨rfl,dw (HP.o.after wV.o) pU.o oM.o (bT _) r8.o eJ ag _⟩
  ·have HR:=O (show jo p (o.dP hs)=(p,rep 2)by
    unfold jo;rw[show(o.dP hs).text=o.text from rfl,HCH.o];simp only;rw[ar (by rw[<-HM.o];exact hsc)])
   have Ay:=O (ij.o.keep qx.o id);have HP:=O (lX HH.o HA.o (fS.o.trans ij.o));have hsd:decide (0<m.scheme)=false:=bB hsc;have atL:m.scheme<=0:=ab;have h3c:=HX3.o;subst h3c;go_wp2_with (first|((with_reducible refine cP 46 ?_);refine aF rfl 46 (.tmp 4) (.tmp 27) rfl (w.heap.size+1) #[.int .i64 2,.string ⟨#[]⟩,.int .i64 0] rfl rfl _ bQ Ay.o (bd _ rfl) rfl bX ?_)|fail)
   refine aR (bh bw _ _ (w.heap.size+1) 46 #[.int .i64 2,.string ⟨#[]⟩,.int .i64 0] (0,0) _ rfl (aY _ (w.heap.size+1) _ _ _ _ Ay.o) underlying46 rfl (bd _ rfl)) rfl ?_;unfold eD;rw[HR.o];exact⟨rfl,dw HP.o pU.o oM.o (bT _) Ay.o eJ ag _⟩
