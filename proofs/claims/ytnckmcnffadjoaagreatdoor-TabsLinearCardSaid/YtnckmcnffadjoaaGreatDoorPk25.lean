/- Lemmas for the law's walk. -/
import Derived.Test.YtnckmcnffadjoaaGreatDoorPk16
set_option maxRecDepth 100000
set_option maxHeartbeats 16000000
set_option linter.unusedSimpArgs false
namespace Go.Proofs.YtnckmcnffadjoaaGreatDoor
open Go.Proofs.Tryz
open Go.RowKit
variable {base:Nat} {X:bT}
theorem uq.one{w:World}{m:Option (aQ bE)}{e:Ending}{w':World}(h:uq base w m e w') :
  Fr aS w w'/\∃X:bT,e=.returned (.tuple #[.agg X,.bool m.isSome])/\X.size=16/\X.all (·.oneCell')=true/\∀x,m=some x->∃r:aQ Value,X=r.cells.toArray/\r.Reads (dx base w') x:=by
 obtain⟨h1,h2⟩:=h;refine⟨h1,?_⟩;cases hu:m with
 |none=>rw[hu]at h2;exact⟨eY,h2,rfl,dw,fun x hx=>by cases hx⟩
 |some g =>
  rw[hu]at h2;obtain⟨r,e1,e2,e3⟩:=h2;exact⟨r.cells.toArray,e1,rfl,b_ e3,fun x hx=>by cases hx;exact⟨r,rfl,e2⟩⟩
theorem Hx(h:X.size=16):(prog.info? 114).map (·.size)=some X.size:=by rw[h];kernel_rfl
def GtJ(base:Nat)(x4:World)(gm:Option (aQ bE))(n:Nat)(X:bT)(W:World):Prop :=
 Fr aS x4 W/\W.heap[n]?=some (.cells X 114 (0,0))/\x4.heap.size<=n/\X.size=16/\∀g,gm=some g->∃r:aQ Value,X=r.cells.toArray/\r.Reads (dx base W) g
theorem Mz{n:Nat}{u:World}{z:bT}{t:TypeId}(hn:u.heap[n]?=some (.cells z t (0,0)))(hs:t≠9)(hb:base<=n):∀vv ss,dx base u vv ss->dx base (u.setRow n X) vv ss:=fun vv ss h =>
 h.fr ((ae (one n) u).setRow (fun _=>rfl) _) (by
  rintro k rfl _;exact⟨hb,fun c f e=>by rw[hn]at e;cases e;exact hs rfl⟩)
theorem MB(base:Nat)(w:World)(B off:Nat)(cs:aZ)(v:cY)(p:dR)(o:jO)(hs:List ig)(h:eV base w v p)(ha:gY w B cs off v)(oM:base<=B)(hf:gM w o hs)(hk:ny p) :
  aB 31 #[.pointer (some ⟨B,off,none⟩),.agg o.cells.toArray] w (eK base w B cs off v (fP p (o.dW hs))):=by
 have vd:B<w.heap.size:=bq ha.eN;have Ho:¬v.kn B:=h.fq ha.eN ag;obtain⟨ah,ch,g_⟩:=hf.h_;obtain⟨w2,eG⟩:∃w2,w2=(w.alloc (.cells o.cells.toArray 41)).alloc (.cells bU 30):=⟨_,rfl⟩;have dE:Fr aS w w2:=by rw[eG];exact((ae aS w).alloc _).alloc _
 have k1:w2.heap[w.heap.size]?=some (.cells o.cells.toArray 41 (0,0)):=by rw[eG];exact((ae aS _).alloc _).keep (aC _ _) id
 have k2:w2.heap[w.heap.size+1]?=some (.cells bU 30 (0,0)):=by
  have h:=aC (w.alloc (.cells o.cells.toArray 41)) (.cells bU 30);rw[bP]at h;rw[eG];exact h
 have xI:w2.heap.size=w.heap.size+2:=by rw[eG];simp
 have WC:=O (show∀U,Fr aS w2 U->U.heap[w.heap.size]?=some (.cells o.cells.toArray 41 (0,0))from fun U hU=>hU.keep k1 id);have Da:=O Ho;have HH:=O h;have HA:=O ha;have HF:=O hf;have l_:=O g_;have HK:=O hk;have fU:=O dE;have mV:=O k1;have ra:=O k2;have py:=O (show base<=w.heap.size from ab);have xL:=O oM;have pn:=O vd;have Sv:=O eG
 obtain⟨a0,a1,a2,a3,a4,a5,a6,a7,a8,a9,jP,jQ,a12,jN,jR,jy,j_,ka,ke,ko,a20,a21⟩:=eA k1 g_;rw[eG]at a0 a1 a2 a3 a4 a5 a6 a7 a8 a9 jP jQ a12 jN jR jy j_ ka ke ko a20 a21;rw[eF g_]at eG a0 a1 a2 a3 a4 a5 a6 a7 a8 a9 jP jQ a12 jN jR jy j_ ka ke ko a20 a21 ⊢;unfold bU at eG a0 a1 a2 a3 a4 a5 a6 a7 a8 a9 jP jQ a12 jN jR jy j_ ka ke ko a20 a21;have nP:=O eG;have S':=hf.text;have PA:=O (Sf o.text w2 ab)
 clear S' eG g_ dE k1 k2 h ha hf Ho hk;go_enter func31,ntmps31;have SK:=HK.o.sZ;have afF:=O xI;have sN:=nP.o;go_wp2_with fail
 rw[<-sN];clear a0 a1 a2 a3 a4 a5 a6 a7 a8 a9 jP jQ a12 jN jR jy j_ ka ke ko a20 a21 sN xI;refine PA.o.mono ?_;rintro e u1 GQ;obtain⟨uF,GQ⟩:=GQ;clear PA;have Ji:=O uF;cases hch:mJ o.text.data.toList with
 |error n =>
  rw[hch]at GQ;obtain⟨er,rfl,hen⟩:=GQ;obtain⟨et,ev,rfl⟩:=hen.acT;have HR:=O (show fP p (o.dW hs)=(p,rep 7)by unfold fP;rw[show(o.dW hs).text=o.text from rfl,hch]);have BF:=O (uF.keep ra.o id);have HP:=O (mC HH.o HA.o (fU.o.trans Ji.o));clear hch hen uF
  go_wp2_with (first|((with_reducible refine cZ 30 ?_);refine aF rfl 30 (.tmp 4) (.tmp 19) rfl (w.heap.size+1) #[.int .i64 7,.string ⟨#[]⟩,.int .i64 0] rfl rfl _ bU BF.o (bf _ rfl) rfl cC ?_)|fail)
  refine aW (bw bD _ _ (w.heap.size+1) 30 #[.int .i64 7,.string ⟨#[]⟩,.int .i64 0] (0,0) _ rfl (a_ _ (w.heap.size+1) _ _ _ _ BF.o) underlying30 rfl (bf _ rfl)) rfl ?_;unfold eK;rw[HR.o];exact⟨rfl,dC HP.o py.o pn.o (bX _) BF.o eQ ag _⟩
 |ok l =>
  rw[hch]at GQ;obtain⟨vl,rfl,Bi⟩:=GQ;have qL:=Si hch;have hlen:l.length<=1000000:=by have:=(KW hch).2;omega
  have BE:=O (Wx vl l u1 Bi.at hlen qL);obtain⟨al,cl,TJ⟩:=Bi.form;subst TJ;have HCH:=O hch;clear hch Bi qL hlen uF;go_wp2_with fail
  refine BE.o.mono ?_;rintro e u2⟨nC,r,hr,rfl⟩;clear BE;obtain⟨m,hm⟩:∃m,m=ju l:=⟨_,rfl⟩;rw[<-hm]at hr ⊢;have HM:=O hm;obtain⟨e1,e2,e3,e4,e5,e6,e7,Bu⟩:=hr;have IU:dx base u2 r.dom m.dom:=Bu.in (by have h:=(QJ HCH.o).2.2.2;rw[<-hm]at h;omega);obtain⟨ad,cd,yc⟩:=IU.rd.form
  have uX:r.cells=[.int .i64 m.scheme,.string m.aM,.string m.bu,.string m.cz,.bool m.cD,.string m.eJ,.bool m.cR,.slice ad m.dom.length cd]:=by unfold fQ.cells;rw[e1,e2,e3,e4,e5,e6,e7,yc]
  rw[yc]at IU;rw[uX];have t_:=O (Ji.o.trans nC);have aqd:=O IU;obtain⟨x3,ya⟩:∃x3,x3=u2.alloc (.cells #[.int .i64 m.scheme,.string m.aM,.string m.bu,.string m.cz,.bool m.cD,.string m.eJ,.bool m.cR,.slice ad m.dom.length cd] 112):=⟨_,rfl⟩;have tO:=aC u2 (.cells #[.int .i64 m.scheme,.string m.aM,.string m.bu,.string m.cz,.bool m.cD,.string m.eJ,.bool m.cR,.slice ad m.dom.length cd] 112)
  have iz:Fr aS w2 x3:=by rw[ya];exact t_.o.alloc _
  rw[<-ya]at tO;have OU:=O tO;have il:=O iz;have OT:x3.heap.size=u2.heap.size+1:=by rw[ya];simp
  have T_:=O ya;have VM:=O (show w.heap.size+2<=u2.heap.size from by have h1:=t_.o.size;have h2:=afF.o;omega);clear Bu IU e1 e2 e3 e4 e5 e6 e7 yc uX nC hm tO iz ya;by_cases hsc:0<m.scheme
  ·obtain⟨a0,a1,a2,a3,a4,a5,a6,a7,a8,a9,jP,jQ,a12,jN,jR,jy,j_,ka,ke,ko,a20,a21⟩:=eA (WC.o x3 il.o) l_.o;rw[T_.o]at a0 a1 a2 a3 a4 a5 a6 a7 a8 a9 jP jQ a12 jN jR jy j_ ka ke ko a20 a21;go_wp2_with fail
   obtain⟨x4,Zr⟩:∃x4,x4=(u2.alloc (.cells #[.int .i64 m.scheme,.string m.aM,.string m.bu,.string m.cz,.bool m.cD,.string m.eJ,.bool m.cR,.slice ad m.dom.length cd] 112)).alloc (.cells #[.bool o.aN.o.aG,.string o.aN.o.host,.int .i64 o.aN.o.port] 32):=⟨_,rfl⟩;rw[<-Zr];rw[<-T_.o]at Zr;have aa9:Fr aS x3 x4:=by rw[Zr];exact(ae _ _).alloc _
   have HB9:=O (show x4.heap[u2.heap.size+1]?=some (.cells #[.bool o.aN.o.aG,.string o.aN.o.host,.int .i64 o.aN.o.port] 32 (0,0))from by
    have h:=aC x3 (.cells #[.bool o.aN.o.aG,.string o.aN.o.host,.int .i64 o.aN.o.port] 32);rw[OT]at h;rw[Zr];exact h)
   have HB7:=O (aa9.keep OU.o id);have j6:=O (il.o.trans aa9);have aqe:=O (show Fr aS x3 x4 from aa9);have aqf:=O (show Fr aS u2 x3 from by rw[T_.o];exact(ae _ _).alloc _);clear Zr aa9 a0 a1 a2 a3 a4 a5 a6 a7 a8 a9 jP jQ a12 jN jR jy j_ ka ke ko a20 a21 OT
   have Hw:=O (show∀U,Fr aS x4 U->(U.cell? ⟨B,off,none⟩=some (.pointer (some ⟨v.b,0,none⟩))/\U.cell? ⟨u2.heap.size+1,0,none⟩=some (.bool o.aN.o.aG)/\U.cell? ⟨u2.heap.size+1,1,none⟩=some (.string o.aN.o.host)/\U.cell? ⟨u2.heap.size+1,2,none⟩=some (.int .i64 o.aN.o.port)/\U.cell? ⟨w.heap.size,14,none⟩=some (.bool o.proxy)/\U.cell? ⟨u2.heap.size,1,none⟩=some (.string m.aM))from fun U hU=>by
    have j1:=(HA.o.dm (fU.o.trans j6.o)).dm hU;have j2:=hU.keep HB9.o id;have j3:=hU.keep HB7.o id;obtain⟨a0,a1,a2,a3,a4,a5,a6,a7,a8,a9,jP,jQ,a12,jN,jR,jy,j_,ka,ke,ko,a20,a21⟩:=eA (WC.o U (j6.o.trans hU)) l_.o;refine⟨j1.cell0,?_,?_,?_,jR,?_⟩<;>simp[World.cell?,j2,j3])
   have HGT:=O (show∀U,Fr aS x4 U->aB 56 #[.pointer (some ⟨v.b,0,none⟩),.agg #[.bool o.aN.o.aG,.string o.aN.o.host,.int .i64 o.aN.o.port],.bool o.proxy,.string m.aM] U (uq base U (p.bG.find? (np o.aN.o o.proxy m.aM)))from fun U hU=>WN base U v.b v.gv v.wv p.bG p.waits o.aN.o o.proxy m.aM (((HH.o.dm (fU.o.trans j6.o)).dm hU).oK));obtain⟨gm,hgm⟩:∃gm,gm=p.bG.find? (np o.aN.o o.proxy m.aM):=⟨_,rfl⟩
   rw[<-hgm]at HGT;have HGM:=O hgm;obtain⟨ok,Bm⟩:∃ok,ok=gm.isSome:=⟨_,rfl⟩;have NZ:=O Bm;have afG:=O (show base<=x4.heap.size from aE py.o (fU.o.trans j6.o).size);clear hgm Bm;apply Wk (P:=GtJ base x4 gm)
   ·intro hJ;have HJ:=O hJ;clear hJ
    refine wp_region_held_drew (S:=(fun U=>U.cell? ⟨B,off,none⟩=some (.pointer (some ⟨v.b,0,none⟩))/\U.cell? ⟨u2.heap.size+1,0,none⟩=some (.bool o.aN.o.aG)/\U.cell? ⟨u2.heap.size+1,1,none⟩=some (.string o.aN.o.host)/\U.cell? ⟨u2.heap.size+1,2,none⟩=some (.int .i64 o.aN.o.port)/\U.cell? ⟨w.heap.size,14,none⟩=some (.bool o.proxy)/\U.cell? ⟨u2.heap.size,1,none⟩=some (.string m.aM))) af (Hw.o _ (aA (ae _ _))) ?_
    intro zl;refine aU 0 33 rfl ?_;refine aU 1 34 rfl ?_;refine aU 2 35 rfl ?_;refine aU 3 36 rfl ?_;refine aU 4 37 rfl ?_;refine aU 5 38 rfl ?_;refine aU 6 39 rfl ?_;refine aU 7 40 rfl ?_;refine aU 8 41 rfl ?_;refine EM 9 13 rfl rfl (fun K hK=>?_) fun K hK=>?_
    ·go_simp;refine(HGT.o _ (aA (ae _ _))).mono ?_;rintro e u5 Mk;obtain⟨lN,X,rfl,Hp,Ml,EC⟩:=uq.one Mk;rw[<-NZ.o];have HX:=O (And.intro Hp (And.intro Ml EC));have v_:=O ((aA (ae aS x4)).trans lN);clear Mk Hp Ml EC lN;refine hK.out _ _ (Hw.o _ v_.o) ?_;intro xF;clear hK zl K
     try simp only[Act.put,sA,sB,sC]
     refine aU 10 32 rfl ?_;refine aU 11 43 rfl ?_;refine aU 12 44 rfl ?_;refine eR 13 rfl fun K hK=>?_;go_simp;obtain⟨n,hne⟩:∃n,n=u5.heap.size:=⟨_,rfl⟩;obtain⟨w6,Ae⟩:∃w6,w6=u5.alloc (.cells eY 114):=⟨_,rfl⟩;have HZZ:=O (show w6.heap[n]?=some (.cells eY 114 (0,0))by rw[Ae,hne];exact aC _ _);have afI:Fr aS u5 w6:=by rw[Ae];exact(ae _ _).alloc _
     have xo:=O (v_.o.trans afI);have aqh:=O afI;have CU:=O (show x4.heap.size<=n by rw[hne];exact v_.o.size);rw[<-Ae, <-hne];clear Ae hne afI;refine hK.out _ _ (Hw.o _ xo.o) ?_;intro Aw;clear hK xF K
     try simp only[Act.put,sA,sB,sC]
     refine eR 14 rfl fun K hK=>?_;refine j9 rfl 114 (.tmp 10) (.tmp 43) rfl n X rfl rfl 114 eY HZZ.o (Hx HX.o.1) HX.o.1.symm HX.o.2.1 ?_;obtain⟨W,hW⟩:∃W,W=w6.setRow n X:=⟨_,rfl⟩;have Cp:Fr aS x4 W:=by rw[hW];exact je xo.o CU.o _
     have hWX:W.heap[n]?=some (.cells X 114 (0,0)):=by rw[hW];exact k_ HZZ.o
     have hWS:∀vv ss,dx base u5 vv ss->dx base W vv ss:=fun vv ss h=>by rw[hW];exact Mz HZZ.o ag (aE afG.o CU.o) vv ss (h.dm aqh.o)
     rw[<-hW];refine hK.out _ _ (Hw.o _ Cp) ?_;intro F0;clear hK Aw K
     try simp only[Act.put,sA,sB,sC]
     refine aU 15 8 rfl ?_;clear F0;refine wpAnyH_done af ?_ _;exact HJ.o n X W ⟨Cp,hWX,CU.o,HX.o.1,fun g hg=>by
      obtain⟨r,e1,e2⟩:=HX.o.2.2 g hg;exact⟨r,e1,e2.mono (fun v l h=>hWS v l h)⟩⟩
    ·go_simp;obtain⟨n,hne⟩:∃n,n=x4.heap.size:=⟨_,rfl⟩;obtain⟨w6,Ae⟩:∃w6,w6=(x4.alloc (.cells eY 114)).drew:=⟨_,rfl⟩;have hz6:w6.heap[n]?=some (.cells eY 114 (0,0)):=by rw[Ae,hne];exact aC x4 _
     have xo:=O (show Fr aS x4 w6 by rw[Ae];exact((ae _ _).alloc _).drew);have CU:=O (show x4.heap.size<=n from ab);have HZ6:=O hz6;rw[<-Ae, <-hne];clear Ae hne hz6;refine hK.out _ _ (Hw.o _ xo.o) ?_;intro xF;clear hK zl K
     try simp only[Act.put,sA,sB,sC]
     refine eR 9 rfl fun K hK=>?_;go_simp;refine(HGT.o _ xo.o).mono ?_;rintro e u5 Mk;obtain⟨lN,X,rfl,Hp,Ml,EC⟩:=uq.one Mk;rw[<-NZ.o];have HX:=O (And.intro Hp (And.intro Ml EC));have v_:=O (xo.o.trans lN);have HZZ:=O (lN.keep HZ6.o id);clear Mk Hp Ml EC lN;refine hK.out _ _ (Hw.o _ v_.o) ?_;intro Aw;clear hK xF K
     try simp only[Act.put,sA,sB,sC]
     refine aU 10 32 rfl ?_;refine aU 11 43 rfl ?_;refine aU 12 44 rfl ?_;refine eR 14 rfl fun K hK=>?_;refine j9 rfl 114 (.tmp 10) (.tmp 43) rfl n X rfl rfl 114 eY HZZ.o (Hx HX.o.1) HX.o.1.symm HX.o.2.1 ?_;obtain⟨W,hW⟩:∃W,W=u5.setRow n X:=⟨_,rfl⟩;have Cp:Fr aS x4 W:=by rw[hW];exact je v_.o CU.o _
     have hWX:W.heap[n]?=some (.cells X 114 (0,0)):=by rw[hW];exact k_ HZZ.o
     have hWS:∀vv ss,dx base u5 vv ss->dx base W vv ss:=fun vv ss h=>by rw[hW];exact Mz HZZ.o ag (aE afG.o CU.o) vv ss (h)
     rw[<-hW];refine hK.out _ _ (Hw.o _ Cp) ?_;intro F0;clear hK Aw K
     try simp only[Act.put,sA,sB,sC]
     refine aU 15 8 rfl ?_;clear F0;refine wpAnyH_done af ?_ _;exact HJ.o n X W ⟨Cp,hWX,CU.o,HX.o.1,fun g hg=>by
      obtain⟨r,e1,e2⟩:=HX.o.2.2 g hg;exact⟨r,e1,e2.mono (fun v l h=>hWS v l h)⟩⟩
   ·intro n X W hj;obtain⟨Cp,hWX,Wl,U5,Hn⟩:=hj;have HW:=O (j6.o.trans Cp);have xP:=O (fU.o.trans HW.o);have I0:=O (HH.o.dm xP.o);have A0:=O (HA.o.dm xP.o);have afJ:=O (Cp.keep HB9.o id);have Xf:=O (Cp.keep HB7.o id);have afK:=O (HW.o.keep mV.o id);have akC:=O (HW.o.keep ra.o id);have HSW:=O (aqd.o.dm (show Fr aS u2 W from aqf.o.trans (aqe.o.trans Cp)));have aqj:=O hWX;have Wb:=O Hn
    have hn7:u2.heap.size≠B:=by have:=VM.o;omega
    have hn9:u2.heap.size+1≠B:=by have:=VM.o;omega
    clear Cp hWX Hn Hw HGT
    have UX:=O (show∀U,Fr (dy v.b v.gv v.wv) W U->(U.cell? ⟨B,off,none⟩=some (.pointer (some ⟨v.b,0,none⟩))/\U.cell? ⟨u2.heap.size+1,0,none⟩=some (.bool o.aN.o.aG)/\U.cell? ⟨u2.heap.size+1,1,none⟩=some (.string o.aN.o.host)/\U.cell? ⟨u2.heap.size+1,2,none⟩=some (.int .i64 o.aN.o.port)/\U.cell? ⟨w.heap.size,14,none⟩=some (.bool o.proxy)/\U.cell? ⟨u2.heap.size,1,none⟩=some (.string m.aM))from fun U hU=>by
     have j1:=A0.o.fr hU (fun hb=>Da.o (Or.inl hb));have j2:=hU.keep afJ.o (fun hb=>I0.o.fq afJ.o p9 (Or.inl hb));have j3:=hU.keep Xf.o (fun hb=>I0.o.fq Xf.o BA (Or.inl hb));have j4:=hU.keep afK.o (fun hb=>I0.o.fq afK.o jw (Or.inl hb));obtain⟨a0,a1,a2,a3,a4,a5,a6,a7,a8,a9,jP,jQ,a12,jN,jR,jy,j_,ka,ke,ko,a20,a21⟩:=eA j4 l_.o;refine⟨j1.cell0,?_,?_,?_,jR,?_⟩<;>simp[World.cell?,j2,j3])
    have TU:=O (show∀U,Fr aS W U->aB 53 #[.pointer (some ⟨v.b,0,none⟩),.agg #[.bool o.aN.o.aG,.string o.aN.o.host,.int .i64 o.aN.o.port],.bool o.proxy,.string m.aM] U (wX base U v.b v.gv v.wv p.bG p.waits (np o.aN.o o.proxy m.aM))from fun U hU=>Ad base U v.b v.gv v.wv p.bG p.waits o.aN.o o.proxy m.aM (I0.o.dm hU).oK);cases MD:gm
    case' none =>
     have rZ:ok=false:=by rw[NZ.o,MD];rfl
     have HR:=O (show fP p (o.dW hs)=({p with bG:=vC p.bG o.aN.o o.proxy m.aM,waits:=Aj p.waits ⟨o.aN.o,o.proxy,o.aN.path,m⟩},rep 3)by
      unfold fP;rw[show(o.dW hs).text=o.text from rfl,HCH.o];simp only;rw[<-HM.o,az hsc];rw[show aaf p.bG (o.dW hs).o (o.dW hs).proxy m.aM=none from by rw[<-MD];exact HGM.o.symm];rfl)
     rw[rZ];clear MD NZ rZ;go_wp2_with fail
    case' some g =>
     have rZ:ok=true:=by rw[NZ.o,MD];rfl
     obtain⟨r2,Yz,oF⟩:=Wb.o g MD;obtain⟨p1,p2,p3,p4,p5,p6,p7⟩:=oF;have HPA:=O p7;obtain⟨e1,e2,e3,e4,e5,e6,e7,yf⟩:=p5;obtain⟨ad2,cd2,akD⟩:=yf.rd.form;obtain⟨ap2,cp2,afL⟩:=p7.rd.form;have HPB:=O (show dx base W (.slice ap2 g.paths.length cp2) g.paths from by rw[<-afL];exact p7)
     have xY:X= #[.bool g.o.aG,.string g.o.host,.int .i64 g.o.port,.bool g.proxy,.string g.user,.string g.pass,.int .i64 g.a.scheme,.string g.a.aM,.string g.a.bu,.string g.a.cz,.bool g.a.cD,.string g.a.eJ,.bool g.a.cR,.slice ad2 g.a.dom.length cd2,.int .i64 g.count,.slice ap2 g.paths.length cp2]:=by
      rw[Yz];unfold aQ.cells;rw[p1,p2,p3,p4,p6,e1,e2,e3,e4,e5,e6,e7,akD,afL]
     have EK:=Xf.o;have SL:=aqj.o;rw[xY]at SL;have q0:W.cell? ⟨u2.heap.size,0,none⟩=some (.int .i64 m.scheme):=by simp[World.cell?,EK]
     have q2:W.cell? ⟨u2.heap.size,2,none⟩=some (.string m.bu):=by simp[World.cell?,EK]
     have q6:W.cell? ⟨u2.heap.size,6,none⟩=some (.bool m.cR):=by simp[World.cell?,EK]
     have t6:W.cell? ⟨n,6,none⟩=some (.int .i64 g.a.scheme):=by simp[World.cell?,SL]
     have t8:W.cell? ⟨n,8,none⟩=some (.string g.a.bu):=by simp[World.cell?,SL]
     have rB:=O SL;have T8:=O (show(m.cR&&(m.scheme==g.a.scheme&&m.bu.toList !=g.a.bu.toList))=false->fP p (o.dW hs)=({p with bG:=vC p.bG o.aN.o o.proxy m.aM,waits:=Aj p.waits ⟨o.aN.o,o.proxy,o.aN.path,m⟩},rep 3)from fun jx=>by
      unfold fP;rw[show(o.dW hs).text=o.text from rfl,HCH.o];simp only;rw[<-HM.o,az hsc];rw[show aaf p.bG (o.dW hs).o (o.dW hs).proxy m.aM=some g from by rw[<-MD];exact HGM.o.symm];unfold Ez;simp only;rw[jx];rfl)
     have HGL:=O (show aaf p.bG (o.dW hs).o (o.dW hs).proxy m.aM=some g from by rw[<-MD];exact HGM.o.symm);rw[rZ];clear MD NZ rZ Yz p1 p2 p3 p4 p6 p7 e1 e2 e3 e4 e5 e6 e7 yf akD afL xY EK SL U5;cases jx:m.cR
     case' false =>
      have HR:=O (T8.o (by rw[jx];rfl));rw[jx]at q6;clear jx T8;go_wp2_with fail
     case' true =>
      by_cases ME:m.scheme=g.a.scheme
      case' pos =>
       by_cases LO:m.bu=g.a.bu
       case' pos =>
        have HR:=O (T8.o (by rw[LO];simp));rw[jx]at q6;rw[ME]at q0;rw[LO]at q2;clear jx T8;have HNO:=O LO;have YH:=O ME;clear LO ME;go_wp2_with fail
       case neg =>
        have HR:=O (show fP p (o.dW hs)=({p with bG:=vU p.bG {g with a:=m,count:=0}},rep 1)by
         unfold fP;rw[show(o.dW hs).text=o.text from rfl,HCH.o];simp only;rw[<-HM.o,az hsc];rw[HGL.o];unfold Ez;simp only;rw[show(m.cR&&(m.scheme==g.a.scheme&&m.bu.toList !=g.a.bu.toList))=true from by rw[jx,ME];simp;exact fun e=>LO (toList_inj.1 e)];rfl)
        have EK:=Xf.o;rw[ME]at EK q0;rw[jx]at EK q6;have q1b:W.cell? ⟨u2.heap.size,1,none⟩=some (.string m.aM):=by simp[World.cell?,EK]
        have q3b:W.cell? ⟨u2.heap.size,3,none⟩=some (.string m.cz):=by simp[World.cell?,EK]
        have q4b:W.cell? ⟨u2.heap.size,4,none⟩=some (.bool m.cD):=by simp[World.cell?,EK]
        have q5b:W.cell? ⟨u2.heap.size,5,none⟩=some (.string m.eJ):=by simp[World.cell?,EK]
        have q7b:W.cell? ⟨u2.heap.size,7,none⟩=some (.slice ad m.dom.length cd):=by simp[World.cell?,EK]
        have z6:W.cell? ⟨n,6,none⟩=some (.int .i64 g.a.scheme):=by simp[World.cell?,rB.o]
        have y6:W.frozen? ⟨n,6,none⟩=false:=by simp[World.frozen?,rB.o]
        have z7:W.cell? ⟨n,7,none⟩=some (.string g.a.aM):=by simp[World.cell?,rB.o]
        have y7:W.frozen? ⟨n,7,none⟩=false:=by simp[World.frozen?,rB.o]
        have z8:W.cell? ⟨n,8,none⟩=some (.string g.a.bu):=by simp[World.cell?,rB.o]
        have y8:W.frozen? ⟨n,8,none⟩=false:=by simp[World.frozen?,rB.o]
        have z9:W.cell? ⟨n,9,none⟩=some (.string g.a.cz):=by simp[World.cell?,rB.o]
        have y9:W.frozen? ⟨n,9,none⟩=false:=by simp[World.frozen?,rB.o]
        have z10:W.cell? ⟨n,10,none⟩=some (.bool g.a.cD):=by simp[World.cell?,rB.o]
        have y10:W.frozen? ⟨n,10,none⟩=false:=by simp[World.frozen?,rB.o]
        have z11:W.cell? ⟨n,11,none⟩=some (.string g.a.eJ):=by simp[World.cell?,rB.o]
        have y11:W.frozen? ⟨n,11,none⟩=false:=by simp[World.frozen?,rB.o]
        have z12:W.cell? ⟨n,12,none⟩=some (.bool g.a.cR):=by simp[World.cell?,rB.o]
        have y12:W.frozen? ⟨n,12,none⟩=false:=by simp[World.frozen?,rB.o]
        have z13:W.cell? ⟨n,13,none⟩=some (.slice ad2 g.a.dom.length cd2):=by simp[World.cell?,rB.o]
        have y13:W.frozen? ⟨n,13,none⟩=false:=by simp[World.frozen?,rB.o]
        have z14:W.cell? ⟨n,14,none⟩=some (.int .i64 g.count):=by simp[World.cell?,rB.o]
        have y14:W.frozen? ⟨n,14,none⟩=false:=by simp[World.frozen?,rB.o]
        have YH:=O ME;have lO:=O jx;have J5:¬m.bu.toList=g.a.bu.toList:=fun e=>LO (by cases hx:m.bu;cases hy:g.a.bu;rw[hx,hy]at e;simpa[aP]using e);have C7:(m.bu.toList==g.a.bu.toList)=false:=aO.2 J5;have WG:¬v.kn n:=fun hk=>by have:=(HH.o.dm (fU.o.trans j6.o)).jq hk;omega
        have aw0:=bq HB9.o;have acZ:sG base W (one n):=by
         rintro k rfl _;exact⟨aE afG.o Wl,fun c f e=>by rw[rB.o]at e;cases e⟩
        have AY:n≠B:=by have h1:=pn.o;have h2:=(fU.o.trans j6.o).size;omega
        have Qc:n≠w.heap.size:=by have h2:=(j6.o).size;have h3:=afF.o;omega
        have akE:n≠w.heap.size+1:=by have h2:=(j6.o).size;have h3:=afF.o;omega
        have hln:w.heap.size<=n:=by have h2:=(fU.o.trans j6.o).size;omega
        have HNF:=O WG;have afM:=O acZ;have Ey:=O AY;have HN0:=O Qc;have HN1:=O akE;have FA:=O hln;clear EK jx ME T8 acZ LO AY Qc akE WG hln
        obtain⟨V,hV⟩:∃V,V=(((((((((W.setCell ⟨n,6,none⟩ (.int .i64 g.a.scheme)).setCell ⟨n,7,none⟩ (.string m.aM)).setCell ⟨n,8,none⟩ (.string m.bu)).setCell ⟨n,9,none⟩ (.string m.cz)).setCell ⟨n,10,none⟩ (.bool m.cD)).setCell ⟨n,11,none⟩ (.string m.eJ)).setCell ⟨n,12,none⟩ (.bool true)).setCell ⟨n,13,none⟩ (.slice ad m.dom.length cd)).setCell ⟨n,14,none⟩ (.int .i64 0)):=⟨_,rfl⟩;go_wp2_with fail
        rw[<-hV]
        have YD:Fr (one n) W V:=by rw[hV];exact((((((((((ae (one n) W).setCell (p:=⟨n,6,none⟩) (fun _=>rfl) _).setCell (p:=⟨n,7,none⟩) (fun _=>rfl) _).setCell (p:=⟨n,8,none⟩) (fun _=>rfl) _).setCell (p:=⟨n,9,none⟩) (fun _=>rfl) _).setCell (p:=⟨n,10,none⟩) (fun _=>rfl) _).setCell (p:=⟨n,11,none⟩) (fun _=>rfl) _).setCell (p:=⟨n,12,none⟩) (fun _=>rfl) _).setCell (p:=⟨n,13,none⟩) (fun _=>rfl) _).setCell (p:=⟨n,14,none⟩) (fun _=>rfl) _)
        have hwV:Fr aS w V:=by rw[hV];exact(((((((((xP.o.gN (p:=⟨n,6,none⟩) FA.o _).gN (p:=⟨n,7,none⟩) FA.o _).gN (p:=⟨n,8,none⟩) FA.o _).gN (p:=⟨n,9,none⟩) FA.o _).gN (p:=⟨n,10,none⟩) FA.o _).gN (p:=⟨n,11,none⟩) FA.o _).gN (p:=⟨n,12,none⟩) FA.o _).gN (p:=⟨n,13,none⟩) FA.o _).gN (p:=⟨n,14,none⟩) FA.o _)
        have hbV:V.heap[n]?=some (.cells #[.bool g.o.aG,.string g.o.host,.int .i64 g.o.port,.bool g.proxy,.string g.user,.string g.pass,.int .i64 g.a.scheme,.string m.aM,.string m.bu,.string m.cz,.bool m.cD,.string m.eJ,.bool true,.slice ad m.dom.length cd,.int .i64 0,.slice ap2 g.paths.length cp2] 114 (0,0)):=by
         have e1:=cq rB.o 6 (.int .i64 g.a.scheme);have e2:=cq e1 7 (.string m.aM);have e3:=cq e2 8 (.string m.bu);have e4:=cq e3 9 (.string m.cz);have e5:=cq e4 10 (.bool m.cD);have e6:=cq e5 11 (.string m.eJ);have e7:=cq e6 12 (.bool true);have e8:=cq e7 13 (.slice ad m.dom.length cd);have e9:=cq e8 14 (.int .i64 0);rw[hV,e9];simp
        have iV:=I0.o.fr YD afM.o (fun i hi e=>HNF.o (by have e':i=n:=e;rw[<-e'];exact hi));have aV:=A0.o.fr YD (fun e=>Ey.o (show B=n from e).symm);have rV:=YD.keep akC.o (fun e=>HN1.o (show w.heap.size+1=n from e).symm);have hpV:dx base V (.slice ap2 g.paths.length cp2) g.paths:=HPB.o.fr YD afM.o;have hmV:dx base V (.slice ad m.dom.length cd) m.dom:=HSW.o.fr YD afM.o;have HIV:=O iV;have HAV:=O aV
        have HRV:=O rV;have ZJ:=O hwV;have HBV:=O hbV
        have HPU:=O (show∀U,Fr aS V U->aB 57 #[.pointer (some ⟨v.b,0,none⟩),.agg #[.bool g.o.aG,.string g.o.host,.int .i64 g.o.port,.bool g.proxy,.string g.user,.string g.pass,.int .i64 g.a.scheme,.string m.aM,.string m.bu,.string m.cz,.bool m.cD,.string m.eJ,.bool true,.slice ad m.dom.length cd,.int .i64 0,.slice ap2 g.paths.length cp2]] U (Jb base U v.b v.gv v.wv (vU p.bG {g with a:=m,count:=0}) p.waits)from fun U hU=>by
         have h:=QB base U v.b v.gv v.wv p.bG p.waits ⟨g.o,g.proxy,g.user,g.pass,{m with dom:=.slice ad m.dom.length cd},0,.slice ap2 g.paths.length cp2⟩ {g with a:=m,count:=0} (HIV.o.dm hU).oK ⟨rfl,rfl,rfl,rfl,⟨rfl,rfl,rfl,rfl,rfl,rfl,rfl,hmV.dm hU⟩,rfl,hpV.dm hU⟩ ab;unfold aQ.cells at h;rw[show m.scheme=g.a.scheme from YH.o,show m.cR=true from lO.o]at h;exact h)
        have HC:=O (show∀U,Fr (dy v.b v.gv v.wv) V U->(U.cell? ⟨B,off,none⟩=some (.pointer (some ⟨v.b,0,none⟩))/\U.cell? ⟨n,0,none⟩=some (.bool g.o.aG)/\U.cell? ⟨n,1,none⟩=some (.string g.o.host)/\U.cell? ⟨n,2,none⟩=some (.int .i64 g.o.port)/\U.cell? ⟨n,3,none⟩=some (.bool g.proxy)/\U.cell? ⟨n,4,none⟩=some (.string g.user)/\U.cell? ⟨n,5,none⟩=some (.string g.pass)/\U.cell? ⟨n,6,none⟩=some (.int .i64 g.a.scheme)/\U.cell? ⟨n,7,none⟩=some (.string m.aM)/\U.cell? ⟨n,8,none⟩=some (.string m.bu)/\U.cell? ⟨n,9,none⟩=some (.string m.cz)/\U.cell? ⟨n,10,none⟩=some (.bool m.cD)/\U.cell? ⟨n,11,none⟩=some (.string m.eJ)/\U.cell? ⟨n,12,none⟩=some (.bool true)/\U.cell? ⟨n,13,none⟩=some (.slice ad m.dom.length cd)/\U.cell? ⟨n,14,none⟩=some (.int .i64 0)/\U.cell? ⟨n,15,none⟩=some (.slice ap2 g.paths.length cp2))from fun U hU=>by
         have j1:=HAV.o.fr hU (fun hb=>Da.o (Or.inl hb));have j2:=hU.keep HBV.o (fun hb=>HNF.o (Or.inl hb));refine⟨j1.cell0,?_,?_,?_,?_,?_,?_,?_,?_,?_,?_,?_,?_,?_,?_,?_,?_⟩<;>simp[World.cell?,j2])
        clear hV YD hwV hbV iV aV rV hpV hmV
        go_region_held3 (fun U=>Fr (dy v.b v.gv v.wv) V U/\(U.cell? ⟨B,off,none⟩=some (.pointer (some ⟨v.b,0,none⟩))/\U.cell? ⟨n,0,none⟩=some (.bool g.o.aG)/\U.cell? ⟨n,1,none⟩=some (.string g.o.host)/\U.cell? ⟨n,2,none⟩=some (.int .i64 g.o.port)/\U.cell? ⟨n,3,none⟩=some (.bool g.proxy)/\U.cell? ⟨n,4,none⟩=some (.string g.user)/\U.cell? ⟨n,5,none⟩=some (.string g.pass)/\U.cell? ⟨n,6,none⟩=some (.int .i64 g.a.scheme)/\U.cell? ⟨n,7,none⟩=some (.string m.aM)/\U.cell? ⟨n,8,none⟩=some (.string m.bu)/\U.cell? ⟨n,9,none⟩=some (.string m.cz)/\U.cell? ⟨n,10,none⟩=some (.bool m.cD)/\U.cell? ⟨n,11,none⟩=some (.string m.eJ)/\U.cell? ⟨n,12,none⟩=some (.bool true)/\U.cell? ⟨n,13,none⟩=some (.slice ad m.dom.length cd)/\U.cell? ⟨n,14,none⟩=some (.int .i64 0)/\U.cell? ⟨n,15,none⟩=some (.slice ap2 g.paths.length cp2))) ((refine(fun hU=>⟨hU,HC.o _ hU⟩) ?_;first|exact aA (ae _ _)|assumption))
         ((first
          |(go_at_call 57;refine(HPU.o _ (aA (ae _ _))).mono ?_;rintro e u6 ⟨rfl,Bq⟩;have F9:Fr (dy v.b v.gv v.wv) V u6:=(aA (ae _ _)).trans (by obtain⟨_,_,_,h,_⟩:=Bq;exact h))))
        have HP:=O (show dn base w B cs off v {p with bG:=vU p.bG {g with a:=m,count:=0}} u6 from di ZJ.o (di (aA (ae aS V)) (eW (HIV.o.dm (aA (ae aS V))) (HAV.o.dm (aA (ae aS V))) Da.o Bq)));have r6:=O (eM (B:=B) HIV.o (F9.mono (fun k _ hk=>Or.inr (Or.inl hk))) HRV.o dM ab);clear Bq F9 HC HPU
        go_wp2_with (first|((with_reducible refine cZ 30 ?_);refine aF rfl 30 (.tmp 4) (.tmp 75) rfl (w.heap.size+1) #[.int .i64 1,.string ⟨#[]⟩,.int .i64 0] rfl rfl _ bU r6.o (bf _ rfl) rfl cC ?_)|fail)
        refine aW (bw bD _ _ (w.heap.size+1) 30 #[.int .i64 1,.string ⟨#[]⟩,.int .i64 0] (0,0) _ rfl (a_ _ (w.heap.size+1) _ _ _ _ r6.o) underlying30 rfl (bf _ rfl)) rfl ?_;unfold eK;rw[HR.o];exact⟨rfl,dC HP.o py.o pn.o (bX _) r6.o eQ ag _⟩
      case' neg =>
       have HR:=O (T8.o (by rw[aO.2 ME];simp));rw[jx]at q6;clear jx T8;go_wp2_with fail
    all_goals
     go_region_held3 (fun U=>Fr (dy v.b v.gv v.wv) W U/\U.cell? ⟨B,off,none⟩=some (.pointer (some ⟨v.b,0,none⟩))/\U.cell? ⟨u2.heap.size+1,0,none⟩=some (.bool o.aN.o.aG)/\U.cell? ⟨u2.heap.size+1,1,none⟩=some (.string o.aN.o.host)/\U.cell? ⟨u2.heap.size+1,2,none⟩=some (.int .i64 o.aN.o.port)/\U.cell? ⟨w.heap.size,14,none⟩=some (.bool o.proxy)/\U.cell? ⟨u2.heap.size,1,none⟩=some (.string m.aM)) ((refine(fun hU=>⟨hU,UX.o _ hU⟩) ?_;first|exact aA (ae _ _)|assumption))
      ((first
       |(go_at_call 53;refine(TU.o _ (aA (ae _ _))).mono ?_;rintro e u6 ⟨rfl,Bq⟩;have F9:Fr (dy v.b v.gv v.wv) W u6:=(aA (ae _ _)).trans (by obtain⟨_,_,_,h,_⟩:=Bq;exact h))))
     have HS6:=O (HSW.o.fr F9 (fun k hk hl=>I0.o.off k (Or.inl hk) hl));obtain⟨v6,i6,f6,ac0,akG⟩:=eW (I0.o.dm (aA (ae aS W))) (A0.o.dm (aA (ae aS W))) Da.o Bq;have aa6:=iy A0.o akG;have o6:=eM (I0.o.dm (aA (ae aS W))) f6 (show W.drew.heap[w.heap.size]?=_ from afK.o) jw ab;have r6:=eM (I0.o.dm (aA (ae aS W))) f6 (show W.drew.heap[w.heap.size+1]?=_ from akC.o) dM ab
     have q6:=eM (I0.o.dm (aA (ae aS W))) f6 (show W.drew.heap[u2.heap.size]?=_ from Xf.o) BA hn7;have g6:=eM (I0.o.dm (aA (ae aS W))) f6 (show W.drew.heap[u2.heap.size+1]?=_ from afJ.o) p9 hn9;have I6:=O i6;have F6:=O f6;have FT6:=O ac0;have AA6:=O aa6;have O6:=O o6;have R6:=O r6;have Q6:=O q6;have G6:=O g6;clear Bq F9 i6 f6 ac0 aa6 o6 r6 q6 g6 akG UX TU
     have HC6:=O (show∀U,Fr (dy v6.b v6.gv v6.wv) u6 U->(U.cell? ⟨B,off,none⟩=some (.pointer (some ⟨v6.b,0,none⟩))/\U.cell? ⟨u2.heap.size+1,0,none⟩=some (.bool o.aN.o.aG)/\U.cell? ⟨u2.heap.size+1,1,none⟩=some (.string o.aN.o.host)/\U.cell? ⟨u2.heap.size+1,2,none⟩=some (.int .i64 o.aN.o.port)/\U.cell? ⟨w.heap.size,8,none⟩=some (.string o.aN.path)/\U.cell? ⟨w.heap.size,14,none⟩=some (.bool o.proxy)/\U.cell? ⟨u2.heap.size,0,none⟩=some (.int .i64 m.scheme)/\U.cell? ⟨u2.heap.size,1,none⟩=some (.string m.aM)/\U.cell? ⟨u2.heap.size,2,none⟩=some (.string m.bu)/\U.cell? ⟨u2.heap.size,3,none⟩=some (.string m.cz)/\U.cell? ⟨u2.heap.size,4,none⟩=some (.bool m.cD)/\U.cell? ⟨u2.heap.size,5,none⟩=some (.string m.eJ)/\U.cell? ⟨u2.heap.size,6,none⟩=some (.bool m.cR)/\U.cell? ⟨u2.heap.size,7,none⟩=some (.slice ad m.dom.length cd))from fun U hU=>by
      have j1:=AA6.o.fr hU (fun hb=>I6.o.fq AA6.o.eN ag (Or.inl hb));have j2:=hU.keep G6.o (fun hb=>I6.o.fq G6.o p9 (Or.inl hb));have j3:=hU.keep Q6.o (fun hb=>I6.o.fq Q6.o BA (Or.inl hb));have j4:=hU.keep O6.o (fun hb=>I6.o.fq O6.o jw (Or.inl hb));obtain⟨a0,a1,a2,a3,a4,a5,a6,a7,a8,a9,jP,jQ,a12,jN,jR,jy,j_,ka,ke,ko,a20,a21⟩:=eA j4 l_.o
      refine⟨j1.cell0,?_,?_,?_,a8,jR,?_,?_,?_,?_,?_,?_,?_,?_⟩<;>simp[World.cell?,j2,j3])
     have HAS:=O (show∀U,Fr aS u6 U->aB 58 #[.pointer (some ⟨v6.b,0,none⟩),.agg #[.bool o.aN.o.aG,.string o.aN.o.host,.int .i64 o.aN.o.port,.bool o.proxy,.string o.aN.path,.int .i64 m.scheme,.string m.aM,.string m.bu,.string m.cz,.bool m.cD,.string m.eJ,.bool m.cR,.slice ad m.dom.length cd]] U (G9 base U v6.b v6.gv v6.wv (vC p.bG o.aN.o o.proxy m.aM) (Aj p.waits ⟨o.aN.o,o.proxy,o.aN.path,m⟩))from fun U hU=>by
      exact Oo base U v6.b v6.gv v6.wv (vC p.bG o.aN.o o.proxy m.aM) p.waits ⟨o.aN.o,o.proxy,o.aN.path,{m with dom:=.slice ad m.dom.length cd}⟩ ⟨o.aN.o,o.proxy,o.aN.path,m⟩ (I6.o.dm hU).oK ⟨rfl,rfl,rfl,rfl,rfl,rfl,rfl,rfl,rfl,rfl,HS6.o.dm hU⟩ ab)
     go_wp2_with fail
     go_region_held3 (fun U=>Fr (dy v6.b v6.gv v6.wv) u6 U/\U.cell? ⟨B,off,none⟩=some (.pointer (some ⟨v6.b,0,none⟩))/\U.cell? ⟨u2.heap.size+1,0,none⟩=some (.bool o.aN.o.aG)/\U.cell? ⟨u2.heap.size+1,1,none⟩=some (.string o.aN.o.host)/\U.cell? ⟨u2.heap.size+1,2,none⟩=some (.int .i64 o.aN.o.port)/\U.cell? ⟨w.heap.size,8,none⟩=some (.string o.aN.path)/\U.cell? ⟨w.heap.size,14,none⟩=some (.bool o.proxy)/\U.cell? ⟨u2.heap.size,0,none⟩=some (.int .i64 m.scheme)/\U.cell? ⟨u2.heap.size,1,none⟩=some (.string m.aM)/\U.cell? ⟨u2.heap.size,2,none⟩=some (.string m.bu)/\U.cell? ⟨u2.heap.size,3,none⟩=some (.string m.cz)/\U.cell? ⟨u2.heap.size,4,none⟩=some (.bool m.cD)/\U.cell? ⟨u2.heap.size,5,none⟩=some (.string m.eJ)/\U.cell? ⟨u2.heap.size,6,none⟩=some (.bool m.cR)/\U.cell? ⟨u2.heap.size,7,none⟩=some (.slice ad m.dom.length cd)) ((refine(fun hU=>⟨hU,HC6.o _ hU⟩) ?_;first|exact aA (ae _ _)|assumption))
      ((first
       |(go_at_call 58;refine(HAS.o _ (aA (ae _ _))).mono ?_;rintro e u8 ⟨rfl,hb8⟩;have akH:Fr (dy v6.b v6.gv v6.wv) u6 u8:=(aA (ae _ _)).trans (by obtain⟨_,_,_,h,_⟩:=hb8;exact h))))
     have WJ:=eW (I6.o.dm (aA (ae aS u6))) (AA6.o.dm (aA (ae aS u6))) (I6.o.fq AA6.o.eN ag) hb8;have HP:=O (show dn base W B cs off v {p with bG:=vC p.bG o.aN.o o.proxy m.aM,waits:=Aj p.waits ⟨o.aN.o,o.proxy,o.aN.path,m⟩} u8 from di (aA (ae aS W)) (gP F6.o FT6.o (di (aA (ae aS u6)) WJ)));have r8:=O (eM (B:=B) I6.o (akH.mono (fun k _ hk=>Or.inr (Or.inl hk))) R6.o dM ab);clear WJ hb8 akH HC6 HAS
     go_wp2_with (first|((with_reducible refine cZ 30 ?_);refine aF rfl 30 (.tmp 4) (.tmp 100) rfl (w.heap.size+1) #[.int .i64 3,.string ⟨#[]⟩,.int .i64 0] rfl rfl _ bU r8.o (bf _ rfl) rfl cC ?_)|fail)
     refine aW (bw bD _ _ (w.heap.size+1) 30 #[.int .i64 3,.string ⟨#[]⟩,.int .i64 0] (0,0) _ rfl (a_ _ (w.heap.size+1) _ _ _ _ r8.o) underlying30 rfl (bf _ rfl)) rfl ?_;unfold eK;rw[HR.o];exact⟨rfl,dC (HP.o.after xP.o) py.o pn.o (bX _) r8.o eQ ag _⟩
  ·have HR:=O (show fP p (o.dW hs)=(p,rep 2)by
    unfold fP;rw[show(o.dW hs).text=o.text from rfl,HCH.o];simp only;rw[aq (by rw[<-HM.o];exact hsc)])
   have BF:=O (il.o.keep ra.o id);have HP:=O (mC HH.o HA.o (fU.o.trans il.o));have hsd:decide (0<m.scheme)=false:=bj hsc;have aw5:m.scheme<=0:=ab;have h3c:=T_.o;subst h3c;go_wp2_with (first|((with_reducible refine cZ 30 ?_);refine aF rfl 30 (.tmp 4) (.tmp 27) rfl (w.heap.size+1) #[.int .i64 2,.string ⟨#[]⟩,.int .i64 0] rfl rfl _ bU BF.o (bf _ rfl) rfl cC ?_)|fail)
   refine aW (bw bD _ _ (w.heap.size+1) 30 #[.int .i64 2,.string ⟨#[]⟩,.int .i64 0] (0,0) _ rfl (a_ _ (w.heap.size+1) _ _ _ _ BF.o) underlying30 rfl (bf _ rfl)) rfl ?_;unfold eK;rw[HR.o];exact⟨rfl,dC HP.o py.o pn.o (bX _) BF.o eQ ag _⟩
