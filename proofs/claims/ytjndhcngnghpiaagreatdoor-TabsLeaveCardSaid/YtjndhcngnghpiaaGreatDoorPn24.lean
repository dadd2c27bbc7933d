/- Lemmas for the law's walk. -/
import Derived.Test.YtjndhcngnghpiaaGreatDoorPn16
set_option maxRecDepth 100000
set_option maxHeartbeats 16000000
set_option linter.unusedSimpArgs false
namespace Go.Proofs.YtjndhcngnghpiaaGreatDoor
open Go.Proofs.Tryz
open Go.RowKit
variable {base:Nat} {X:bS}
theorem tM.one{w:World}{m:Option (aP bE)}{e:Ending}{w':World}(h:tM base w m e w') :
  Fr aS w w'/\∃X:bS,e=.returned (.tuple #[.agg X,.bool m.isSome])/\X.size=16/\X.all (·.oneCell')=true/\∀x,m=some x->∃r:aP Value,X=r.cells.toArray/\r.Reads (du base w') x:=by
 obtain⟨h1,h2⟩:=h;refine⟨h1,?_⟩;cases hu:m with
 |none=>rw[hu]at h2;exact⟨eS,h2,rfl,dt,fun x hx=>by cases hx⟩
 |some g =>
  rw[hu]at h2;obtain⟨r,e1,e2,e3⟩:=h2;exact⟨r.cells.toArray,e1,rfl,bW e3,fun x hx=>by cases hx;exact⟨r,rfl,e2⟩⟩
theorem GC(h:X.size=16):(prog.info? 133).map (·.size)=some X.size:=by rw[h];kernel_rfl
def GtJ(base:Nat)(x4:World)(gm:Option (aP bE))(n:Nat)(X:bS)(W:World):Prop :=
 Fr aS x4 W/\W.heap[n]?=some (.cells X 133 (0,0))/\x4.heap.size<=n/\X.size=16/\∀g,gm=some g->∃r:aP Value,X=r.cells.toArray/\r.Reads (du base W) g
theorem LD{n:Nat}{u:World}{z:bS}{t:TypeId}(hn:u.heap[n]?=some (.cells z t (0,0)))(hs:t≠9)(hb:base<=n):∀vv ss,du base u vv ss->du base (u.setRow n X) vv ss:=fun vv ss h =>
 h.fr ((ae (one n) u).setRow (fun _=>rfl) _) (by
  rintro k rfl _;exact⟨hb,fun c f e=>by rw[hn]at e;cases e;exact hs rfl⟩)
theorem LF(base:Nat)(w:World)(B off:Nat)(cs:aX)(v:cU)(p:eD)(o:jz)(hs:List gY)(h:eP base w v p)(ha:gP w B cs off v)(ou:base<=B)(hf:gB w o hs)(hk:nd p) :
  aB 43 #[.pointer (some ⟨B,off,none⟩),.agg o.cells.toArray] w (eG base w B cs off v (jw p (o.dS hs))):=by
 have uA:B<w.heap.size:=bj ha.eJ;have Gr:¬v.jT B:=h.fg ha.eJ ag;obtain⟨ah,ch,gD⟩:=hf.gT;obtain⟨w2,eA⟩:∃w2,w2=(w.alloc (.cells o.cells.toArray 33)).alloc (.cells bR 46):=⟨_,rfl⟩;have dz:Fr aS w w2:=by rw[eA];exact((ae aS w).alloc _).alloc _
 have k1:w2.heap[w.heap.size]?=some (.cells o.cells.toArray 33 (0,0)):=by rw[eA];exact((ae aS _).alloc _).keep (aC _ _) id
 have k2:w2.heap[w.heap.size+1]?=some (.cells bR 46 (0,0)):=by
  have h:=aC (w.alloc (.cells o.cells.toArray 33)) (.cells bR 46);rw[bN]at h;rw[eA];exact h
 have wT:w2.heap.size=w.heap.size+2:=by rw[eA];simp
 have VU:=O (show∀U,Fr aS w2 U->U.heap[w.heap.size]?=some (.cells o.cells.toArray 33 (0,0))from fun U hU=>hU.keep k1 id);have Cs:=O Gr;have HH:=O h;have HA:=O ha;have HF:=O hf;have lu:=O gD;have HK:=O hk;have fY:=O dz;have mJ:=O k1;have qG:=O k2;have oY:=O (show base<=w.heap.size from ab);have wW:=O ou;have oT:=O uA;have RD:=O eA
 obtain⟨a0,a1,a2,a3,a4,a5,a6,a7,a8,a9,jA,jB,a12,jx,jC,jd,jK,jL,jM,jU,a20,a21⟩:=eh k1 gD;rw[eA]at a0 a1 a2 a3 a4 a5 a6 a7 a8 a9 jA jB a12 jx jC jd jK jL jM jU a20 a21;rw[dZ gD]at eA a0 a1 a2 a3 a4 a5 a6 a7 a8 a9 jA jB a12 jx jC jd jK jL jM jU a20 a21 ⊢;unfold bR at eA a0 a1 a2 a3 a4 a5 a6 a7 a8 a9 jA jB a12 jx jC jd jK jL jM jU a20 a21;have nD:=O eA;have R_:=hf.text;have PA:=O (Rq o.text w2 ab)
 clear R_ eA gD dz k1 k2 h ha hf Gr hk;go_enter func43,ntmps43;have RR:=HK.o.qZ;have aeI:=O wT;have rY:=nD.o;go_wp2_with fail
 rw[<-rY];clear a0 a1 a2 a3 a4 a5 a6 a7 a8 a9 jA jB a12 jx jC jd jK jL jM jU a20 a21 rY wT;refine PA.o.mono ?_;rintro e u1 FU;obtain⟨tY,FU⟩:=FU;clear PA;have Ii:=O tY;cases hch:mq o.text.data.toList with
 |error n =>
  rw[hch]at FU;obtain⟨er,rfl,hen⟩:=FU;obtain⟨et,ev,rfl⟩:=hen.abZ;have HR:=O (show jw p (o.dS hs)=(p,rep 7)by unfold jw;rw[show(o.dS hs).text=o.text from rfl,hch]);have AZ:=O (tY.keep qG.o id);have HP:=O (mf HH.o HA.o (fY.o.trans Ii.o));clear hch hen tY
  go_wp2_with (first|((with_reducible refine cV 46 ?_);refine aG rfl 46 (.tmp 4) (.tmp 19) rfl (w.heap.size+1) #[.int .i64 7,.string ⟨#[]⟩,.int .i64 0] rfl rfl _ bR AZ.o (bf _ rfl) rfl ct ?_)|fail)
  refine aU (bu bC _ _ (w.heap.size+1) 46 #[.int .i64 7,.string ⟨#[]⟩,.int .i64 0] (0,0) _ rfl (aY _ (w.heap.size+1) _ _ _ _ AZ.o) underlying46 rfl (bf _ rfl)) rfl ?_;unfold eG;rw[HR.o];exact⟨rfl,dy HP.o oY.o oT.o (bV _) AZ.o eL ag _⟩
 |ok l =>
  rw[hch]at FU;obtain⟨vl,rfl,Az⟩:=FU;have sR:=Rs hch;have hlen:l.length<=1000000:=by have:=(J7 hch).2;omega
  have BE:=O (VP vl l u1 Az.at hlen sR);obtain⟨al,cl,SN⟩:=Az.form;subst SN;have HCH:=O hch;clear hch Az sR hlen tY;go_wp2_with fail
  refine BE.o.mono ?_;rintro e u2⟨nj,r,hr,rfl⟩;clear BE;obtain⟨m,hm⟩:∃m,m=i_ l:=⟨_,rfl⟩;rw[<-hm]at hr ⊢;have HM:=O hm;obtain⟨e1,e2,e3,e4,e5,e6,e7,AM⟩:=hr;have Hn:du base u2 r.dom m.dom:=AM.in (by have h:=(PW HCH.o).2.2.2;rw[<-hm]at h;omega);obtain⟨ad,cd,xl⟩:=Hn.rd.form
  have ux:r.cells=[.int .i64 m.scheme,.string m.aK,.string m.bq,.string m.cy,.bool m.cA,.string m.eF,.bool m.cN,.slice ad m.dom.length cd]:=by unfold fI.cells;rw[e1,e2,e3,e4,e5,e6,e7,xl]
  rw[xl]at Hn;rw[ux];have tu:=O (Ii.o.trans nj);have apn:=O Hn;obtain⟨x3,xk⟩:∃x3,x3=u2.alloc (.cells #[.int .i64 m.scheme,.string m.aK,.string m.bq,.string m.cy,.bool m.cA,.string m.eF,.bool m.cN,.slice ad m.dom.length cd] 127):=⟨_,rfl⟩;have sV:=aC u2 (.cells #[.int .i64 m.scheme,.string m.aK,.string m.bq,.string m.cy,.bool m.cA,.string m.eF,.bool m.cN,.slice ad m.dom.length cd] 127)
  have il:Fr aS w2 x3:=by rw[xk];exact tu.o.alloc _
  rw[<-xk]at sV;have Jl:=O sV;have iq:=O il;have N3:x3.heap.size=u2.heap.size+1:=by rw[xk];simp
  have Tl:=O xk;have U4:=O (show w.heap.size+2<=u2.heap.size from by have h1:=tu.o.size;have h2:=aeI.o;omega);clear AM Hn e1 e2 e3 e4 e5 e6 e7 xl ux nj hm sV il xk;by_cases hsc:0<m.scheme
  ·obtain⟨a0,a1,a2,a3,a4,a5,a6,a7,a8,a9,jA,jB,a12,jx,jC,jd,jK,jL,jM,jU,a20,a21⟩:=eh (VU.o x3 iq.o) lu.o;rw[Tl.o]at a0 a1 a2 a3 a4 a5 a6 a7 a8 a9 jA jB a12 jx jC jd jK jL jM jU a20 a21;go_wp2_with fail
   obtain⟨x4,Yx⟩:∃x4,x4=(u2.alloc (.cells #[.int .i64 m.scheme,.string m.aK,.string m.bq,.string m.cy,.bool m.cA,.string m.eF,.bool m.cN,.slice ad m.dom.length cd] 127)).alloc (.cells #[.bool o.aJ.o.aE,.string o.aJ.o.host,.int .i64 o.aJ.o.port] 24):=⟨_,rfl⟩;rw[<-Yx];rw[<-Tl.o]at Yx;have aaa:Fr aS x3 x4:=by rw[Yx];exact(ae _ _).alloc _
   have HB9:=O (show x4.heap[u2.heap.size+1]?=some (.cells #[.bool o.aJ.o.aE,.string o.aJ.o.host,.int .i64 o.aJ.o.port] 24 (0,0))from by
    have h:=aC x3 (.cells #[.bool o.aJ.o.aE,.string o.aJ.o.host,.int .i64 o.aJ.o.port] 24);rw[N3]at h;rw[Yx];exact h)
   have HB7:=O (aaa.keep Jl.o id);have jO:=O (iq.o.trans aaa);have apo:=O (show Fr aS x3 x4 from aaa);have apq:=O (show Fr aS u2 x3 from by rw[Tl.o];exact(ae _ _).alloc _);clear Yx aaa a0 a1 a2 a3 a4 a5 a6 a7 a8 a9 jA jB a12 jx jC jd jK jL jM jU a20 a21 N3
   have GB:=O (show∀U,Fr aS x4 U->(U.cell? ⟨B,off,none⟩=some (.pointer (some ⟨v.b,0,none⟩))/\U.cell? ⟨u2.heap.size+1,0,none⟩=some (.bool o.aJ.o.aE)/\U.cell? ⟨u2.heap.size+1,1,none⟩=some (.string o.aJ.o.host)/\U.cell? ⟨u2.heap.size+1,2,none⟩=some (.int .i64 o.aJ.o.port)/\U.cell? ⟨w.heap.size,14,none⟩=some (.bool o.proxy)/\U.cell? ⟨u2.heap.size,1,none⟩=some (.string m.aK))from fun U hU=>by
    have j1:=(HA.o.di (fY.o.trans jO.o)).di hU;have j2:=hU.keep HB9.o id;have j3:=hU.keep HB7.o id;obtain⟨a0,a1,a2,a3,a4,a5,a6,a7,a8,a9,jA,jB,a12,jx,jC,jd,jK,jL,jM,jU,a20,a21⟩:=eh (VU.o U (jO.o.trans hU)) lu.o;refine⟨j1.cell0,?_,?_,?_,jC,?_⟩<;>simp[World.cell?,j2,j3])
   have HGT:=O (show∀U,Fr aS x4 U->aB 78 #[.pointer (some ⟨v.b,0,none⟩),.agg #[.bool o.aJ.o.aE,.string o.aJ.o.host,.int .i64 o.aJ.o.port],.bool o.proxy,.string m.aK] U (tM base U (p.bU.find? (mS o.aJ.o o.proxy m.aK)))from fun U hU=>V4 base U v.b v.gv v.wv p.bU p.waits o.aJ.o o.proxy m.aK (((HH.o.di (fY.o.trans jO.o)).di hU).ot));obtain⟨gm,hgm⟩:∃gm,gm=p.bU.find? (mS o.aJ.o o.proxy m.aK):=⟨_,rfl⟩
   rw[<-hgm]at HGT;have HGM:=O hgm;obtain⟨ok,Cn⟩:∃ok,ok=gm.isSome:=⟨_,rfl⟩;have M_:=O Cn;have aeJ:=O (show base<=x4.heap.size from aF oY.o (fY.o.trans jO.o).size);clear hgm Cn;apply VB (P:=GtJ base x4 gm)
   ·intro hJ;have HJ:=O hJ;clear hJ
    refine wp_region_held_drew (S:=(fun U=>U.cell? ⟨B,off,none⟩=some (.pointer (some ⟨v.b,0,none⟩))/\U.cell? ⟨u2.heap.size+1,0,none⟩=some (.bool o.aJ.o.aE)/\U.cell? ⟨u2.heap.size+1,1,none⟩=some (.string o.aJ.o.host)/\U.cell? ⟨u2.heap.size+1,2,none⟩=some (.int .i64 o.aJ.o.port)/\U.cell? ⟨w.heap.size,14,none⟩=some (.bool o.proxy)/\U.cell? ⟨u2.heap.size,1,none⟩=some (.string m.aK))) af (GB.o _ (az (ae _ _))) ?_
    intro Aj;refine aW 0 33 rfl ?_;refine aW 1 34 rfl ?_;refine aW 2 35 rfl ?_;refine aW 3 36 rfl ?_;refine aW 4 37 rfl ?_;refine aW 5 38 rfl ?_;refine aW 6 39 rfl ?_;refine aW 7 40 rfl ?_;refine aW 8 41 rfl ?_;refine D7 9 13 rfl rfl (fun K hK=>?_) fun K hK=>?_
    ·go_simp;refine(HGT.o _ (az (ae _ _))).mono ?_;rintro e u5 Lq;obtain⟨lL,X,rfl,Gs,Lr,DX⟩:=tM.one Lq;rw[<-M_.o];have HX:=O (And.intro Gs (And.intro Lr DX));have xe:=O ((az (ae aS x4)).trans lL);clear Lq Gs Lr DX lL;refine hK.out _ _ (GB.o _ xe.o) ?_;intro yl;clear hK Aj K
     try simp only[Act.put,sA,sB,sC]
     refine aW 10 32 rfl ?_;refine aW 11 43 rfl ?_;refine aW 12 44 rfl ?_;refine eT 13 rfl fun K hK=>?_;go_simp;obtain⟨n,hne⟩:∃n,n=u5.heap.size:=⟨_,rfl⟩;obtain⟨w6,zx⟩:∃w6,w6=u5.alloc (.cells eS 133):=⟨_,rfl⟩;have HZZ:=O (show w6.heap[n]?=some (.cells eS 133 (0,0))by rw[zx,hne];exact aC _ _);have aeL:Fr aS u5 w6:=by rw[zx];exact(ae _ _).alloc _
     have yy:=O (xe.o.trans aeL);have aps:=O aeL;have Ce:=O (show x4.heap.size<=n by rw[hne];exact xe.o.size);rw[<-zx, <-hne];clear zx hne aeL;refine hK.out _ _ (GB.o _ yy.o) ?_;intro BJ;clear hK yl K
     try simp only[Act.put,sA,sB,sC]
     refine eT 14 rfl fun K hK=>?_;refine jJ rfl 133 (.tmp 10) (.tmp 43) rfl n X rfl rfl 133 eS HZZ.o (GC HX.o.1) HX.o.1.symm HX.o.2.1 ?_;obtain⟨W,hW⟩:∃W,W=w6.setRow n X:=⟨_,rfl⟩;have BK:Fr aS x4 W:=by rw[hW];exact jc yy.o Ce.o _
     have ZE:W.heap[n]?=some (.cells X 133 (0,0)):=by rw[hW];exact lS HZZ.o
     have hWS:∀vv ss,du base u5 vv ss->du base W vv ss:=fun vv ss h=>by rw[hW];exact LD HZZ.o ag (aF aeJ.o Ce.o) vv ss (h.di aps.o)
     rw[<-hW];refine hK.out _ _ (GB.o _ BK) ?_;intro E_;clear hK BJ K
     try simp only[Act.put,sA,sB,sC]
     refine aW 15 8 rfl ?_;clear E_;refine wpAnyH_done af ?_ _;exact HJ.o n X W ⟨BK,ZE,Ce.o,HX.o.1,fun g hg=>by
      obtain⟨r,e1,e2⟩:=HX.o.2.2 g hg;exact⟨r,e1,e2.mono (fun v l h=>hWS v l h)⟩⟩
    ·go_simp;obtain⟨n,hne⟩:∃n,n=x4.heap.size:=⟨_,rfl⟩;obtain⟨w6,zx⟩:∃w6,w6=(x4.alloc (.cells eS 133)).drew:=⟨_,rfl⟩;have hz6:w6.heap[n]?=some (.cells eS 133 (0,0)):=by rw[zx,hne];exact aC x4 _
     have yy:=O (show Fr aS x4 w6 by rw[zx];exact((ae _ _).alloc _).drew);have Ce:=O (show x4.heap.size<=n from ab);have HZ6:=O hz6;rw[<-zx, <-hne];clear zx hne hz6;refine hK.out _ _ (GB.o _ yy.o) ?_;intro yl;clear hK Aj K
     try simp only[Act.put,sA,sB,sC]
     refine eT 9 rfl fun K hK=>?_;go_simp;refine(HGT.o _ yy.o).mono ?_;rintro e u5 Lq;obtain⟨lL,X,rfl,Gs,Lr,DX⟩:=tM.one Lq;rw[<-M_.o];have HX:=O (And.intro Gs (And.intro Lr DX));have xe:=O (yy.o.trans lL);have HZZ:=O (lL.keep HZ6.o id);clear Lq Gs Lr DX lL;refine hK.out _ _ (GB.o _ xe.o) ?_;intro BJ;clear hK yl K
     try simp only[Act.put,sA,sB,sC]
     refine aW 10 32 rfl ?_;refine aW 11 43 rfl ?_;refine aW 12 44 rfl ?_;refine eT 14 rfl fun K hK=>?_;refine jJ rfl 133 (.tmp 10) (.tmp 43) rfl n X rfl rfl 133 eS HZZ.o (GC HX.o.1) HX.o.1.symm HX.o.2.1 ?_;obtain⟨W,hW⟩:∃W,W=u5.setRow n X:=⟨_,rfl⟩;have BK:Fr aS x4 W:=by rw[hW];exact jc xe.o Ce.o _
     have ZE:W.heap[n]?=some (.cells X 133 (0,0)):=by rw[hW];exact lS HZZ.o
     have hWS:∀vv ss,du base u5 vv ss->du base W vv ss:=fun vv ss h=>by rw[hW];exact LD HZZ.o ag (aF aeJ.o Ce.o) vv ss (h)
     rw[<-hW];refine hK.out _ _ (GB.o _ BK) ?_;intro E_;clear hK BJ K
     try simp only[Act.put,sA,sB,sC]
     refine aW 15 8 rfl ?_;clear E_;refine wpAnyH_done af ?_ _;exact HJ.o n X W ⟨BK,ZE,Ce.o,HX.o.1,fun g hg=>by
      obtain⟨r,e1,e2⟩:=HX.o.2.2 g hg;exact⟨r,e1,e2.mono (fun v l h=>hWS v l h)⟩⟩
   ·intro n X W hj;obtain⟨BK,ZE,VC,Uk,Gq⟩:=hj;have HW:=O (jO.o.trans BK);have wZ:=O (fY.o.trans HW.o);have I0:=O (HH.o.di wZ.o);have A0:=O (HA.o.di wZ.o);have aeM:=O (BK.keep HB9.o id);have We:=O (BK.keep HB7.o id);have aeN:=O (HW.o.keep mJ.o id);have ajx:=O (HW.o.keep qG.o id);have HSW:=O (apn.o.di (show Fr aS u2 W from apq.o.trans (apo.o.trans BK)));have apu:=O ZE;have Vs:=O Gq
    have hn7:u2.heap.size≠B:=by have:=U4.o;omega
    have hn9:u2.heap.size+1≠B:=by have:=U4.o;omega
    clear BK ZE Gq GB HGT
    have Uc:=O (show∀U,Fr (dv v.b v.gv v.wv) W U->(U.cell? ⟨B,off,none⟩=some (.pointer (some ⟨v.b,0,none⟩))/\U.cell? ⟨u2.heap.size+1,0,none⟩=some (.bool o.aJ.o.aE)/\U.cell? ⟨u2.heap.size+1,1,none⟩=some (.string o.aJ.o.host)/\U.cell? ⟨u2.heap.size+1,2,none⟩=some (.int .i64 o.aJ.o.port)/\U.cell? ⟨w.heap.size,14,none⟩=some (.bool o.proxy)/\U.cell? ⟨u2.heap.size,1,none⟩=some (.string m.aK))from fun U hU=>by
     have j1:=A0.o.fr hU (fun hb=>Cs.o (Or.inl hb));have j2:=hU.keep aeM.o (fun hb=>I0.o.fg aeM.o pI (Or.inl hb));have j3:=hU.keep We.o (fun hb=>I0.o.fg We.o AV (Or.inl hb));have j4:=hU.keep aeN.o (fun hb=>I0.o.fg aeN.o jb (Or.inl hb));obtain⟨a0,a1,a2,a3,a4,a5,a6,a7,a8,a9,jA,jB,a12,jx,jC,jd,jK,jL,jM,jU,a20,a21⟩:=eh j4 lu.o;refine⟨j1.cell0,?_,?_,?_,jC,?_⟩<;>simp[World.cell?,j2,j3])
    have S_:=O (show∀U,Fr aS W U->aB 75 #[.pointer (some ⟨v.b,0,none⟩),.agg #[.bool o.aJ.o.aE,.string o.aJ.o.host,.int .i64 o.aJ.o.port],.bool o.proxy,.string m.aK] U (vQ base U v.b v.gv v.wv p.bU p.waits (mS o.aJ.o o.proxy m.aK))from fun U hU=>zw base U v.b v.gv v.wv p.bU p.waits o.aJ.o o.proxy m.aK (I0.o.di hU).ot);cases LG:gm
    case' none =>
     have rG:ok=false:=by rw[M_.o,LG];rfl
     have HR:=O (show jw p (o.dS hs)=({p with bU:=uM p.bU o.aJ.o o.proxy m.aK,waits:=zC p.waits ⟨o.aJ.o,o.proxy,o.aJ.path,m⟩},rep 3)by
      unfold jw;rw[show(o.dS hs).text=o.text from rfl,HCH.o];simp only;rw[<-HM.o,aA hsc];rw[show Zk p.bU (o.dS hs).o (o.dS hs).proxy m.aK=none from by rw[<-LG];exact HGM.o.symm];rfl)
     rw[rG];clear LG M_ rG;go_wp2_with fail
    case' some g =>
     have rG:ok=true:=by rw[M_.o,LG];rfl
     obtain⟨r2,XE,ob⟩:=Vs.o g LG;obtain⟨p1,p2,p3,p4,p5,p6,p7⟩:=ob;have HPA:=O p7;obtain⟨e1,e2,e3,e4,e5,e6,e7,xp⟩:=p5;obtain⟨ad2,cd2,ajy⟩:=xp.rd.form;obtain⟨ap2,cp2,aeO⟩:=p7.rd.form;have HPB:=O (show du base W (.slice ap2 g.paths.length cp2) g.paths from by rw[<-aeO];exact p7)
     have xh:X= #[.bool g.o.aE,.string g.o.host,.int .i64 g.o.port,.bool g.proxy,.string g.user,.string g.pass,.int .i64 g.a.scheme,.string g.a.aK,.string g.a.bq,.string g.a.cy,.bool g.a.cA,.string g.a.eF,.bool g.a.cN,.slice ad2 g.a.dom.length cd2,.int .i64 g.count,.slice ap2 g.paths.length cp2]:=by
      rw[XE];unfold aP.cells;rw[p1,p2,p3,p4,p6,e1,e2,e3,e4,e5,e6,e7,ajy,aeO]
     have D5:=We.o;have RT:=apu.o;rw[xh]at RT;have q0:W.cell? ⟨u2.heap.size,0,none⟩=some (.int .i64 m.scheme):=by simp[World.cell?,D5]
     have q2:W.cell? ⟨u2.heap.size,2,none⟩=some (.string m.bq):=by simp[World.cell?,D5]
     have q6:W.cell? ⟨u2.heap.size,6,none⟩=some (.bool m.cN):=by simp[World.cell?,D5]
     have t6:W.cell? ⟨n,6,none⟩=some (.int .i64 g.a.scheme):=by simp[World.cell?,RT]
     have t8:W.cell? ⟨n,8,none⟩=some (.string g.a.bq):=by simp[World.cell?,RT]
     have qW:=O RT;have Tj:=O (show(m.cN&&(m.scheme==g.a.scheme&&m.bq.toList !=g.a.bq.toList))=false->jw p (o.dS hs)=({p with bU:=uM p.bU o.aJ.o o.proxy m.aK,waits:=zC p.waits ⟨o.aJ.o,o.proxy,o.aJ.path,m⟩},rep 3)from fun jq=>by
      unfold jw;rw[show(o.dS hs).text=o.text from rfl,HCH.o];simp only;rw[<-HM.o,aA hsc];rw[show Zk p.bU (o.dS hs).o (o.dS hs).proxy m.aK=some g from by rw[<-LG];exact HGM.o.symm];unfold DS;simp only;rw[jq];rfl)
     have HGL:=O (show Zk p.bU (o.dS hs).o (o.dS hs).proxy m.aK=some g from by rw[<-LG];exact HGM.o.symm);rw[rG];clear LG M_ rG XE p1 p2 p3 p4 p6 p7 e1 e2 e3 e4 e5 e6 e7 xp ajy aeO xh D5 RT Uk;cases jq:m.cN
     case' false =>
      have HR:=O (Tj.o (by rw[jq];rfl));rw[jq]at q6;clear jq Tj;go_wp2_with fail
     case' true =>
      by_cases LH:m.scheme=g.a.scheme
      case' pos =>
       by_cases KM:m.bq=g.a.bq
       case' pos =>
        have HR:=O (Tj.o (by rw[KM];simp));rw[jq]at q6;rw[LH]at q0;rw[KM]at q2;clear jq Tj;have HNO:=O KM;have XM:=O LH;clear KM LH;go_wp2_with fail
       case neg =>
        have HR:=O (show jw p (o.dS hs)=({p with bU:=uZ p.bU {g with a:=m,count:=0}},rep 1)by
         unfold jw;rw[show(o.dS hs).text=o.text from rfl,HCH.o];simp only;rw[<-HM.o,aA hsc];rw[HGL.o];unfold DS;simp only;rw[show(m.cN&&(m.scheme==g.a.scheme&&m.bq.toList !=g.a.bq.toList))=true from by rw[jq,LH];simp;exact fun e=>KM (toList_inj.1 e)];rfl)
        have D5:=We.o;rw[LH]at D5 q0;rw[jq]at D5 q6;have q1b:W.cell? ⟨u2.heap.size,1,none⟩=some (.string m.aK):=by simp[World.cell?,D5]
        have q3b:W.cell? ⟨u2.heap.size,3,none⟩=some (.string m.cy):=by simp[World.cell?,D5]
        have q4b:W.cell? ⟨u2.heap.size,4,none⟩=some (.bool m.cA):=by simp[World.cell?,D5]
        have q5b:W.cell? ⟨u2.heap.size,5,none⟩=some (.string m.eF):=by simp[World.cell?,D5]
        have q7b:W.cell? ⟨u2.heap.size,7,none⟩=some (.slice ad m.dom.length cd):=by simp[World.cell?,D5]
        have z6:W.cell? ⟨n,6,none⟩=some (.int .i64 g.a.scheme):=by simp[World.cell?,qW.o]
        have y6:W.frozen? ⟨n,6,none⟩=false:=by simp[World.frozen?,qW.o]
        have z7:W.cell? ⟨n,7,none⟩=some (.string g.a.aK):=by simp[World.cell?,qW.o]
        have y7:W.frozen? ⟨n,7,none⟩=false:=by simp[World.frozen?,qW.o]
        have z8:W.cell? ⟨n,8,none⟩=some (.string g.a.bq):=by simp[World.cell?,qW.o]
        have y8:W.frozen? ⟨n,8,none⟩=false:=by simp[World.frozen?,qW.o]
        have z9:W.cell? ⟨n,9,none⟩=some (.string g.a.cy):=by simp[World.cell?,qW.o]
        have y9:W.frozen? ⟨n,9,none⟩=false:=by simp[World.frozen?,qW.o]
        have z10:W.cell? ⟨n,10,none⟩=some (.bool g.a.cA):=by simp[World.cell?,qW.o]
        have y10:W.frozen? ⟨n,10,none⟩=false:=by simp[World.frozen?,qW.o]
        have z11:W.cell? ⟨n,11,none⟩=some (.string g.a.eF):=by simp[World.cell?,qW.o]
        have y11:W.frozen? ⟨n,11,none⟩=false:=by simp[World.frozen?,qW.o]
        have z12:W.cell? ⟨n,12,none⟩=some (.bool g.a.cN):=by simp[World.cell?,qW.o]
        have y12:W.frozen? ⟨n,12,none⟩=false:=by simp[World.frozen?,qW.o]
        have z13:W.cell? ⟨n,13,none⟩=some (.slice ad2 g.a.dom.length cd2):=by simp[World.cell?,qW.o]
        have y13:W.frozen? ⟨n,13,none⟩=false:=by simp[World.frozen?,qW.o]
        have z14:W.cell? ⟨n,14,none⟩=some (.int .i64 g.count):=by simp[World.cell?,qW.o]
        have y14:W.frozen? ⟨n,14,none⟩=false:=by simp[World.frozen?,qW.o]
        have XM:=O LH;have l_:=O jq;have Jg:¬m.bq.toList=g.a.bq.toList:=fun e=>KM (by cases hx:m.bq;cases hy:g.a.bq;rw[hx,hy]at e;simpa[aO]using e);have AE:(m.bq.toList==g.a.bq.toList)=false:=aL.2 Jg;have VX:¬v.jT n:=fun hk=>by have:=(HH.o.di (fY.o.trans jO.o)).jf hk;omega
        have av0:=bj HB9.o;have ab5:rR base W (one n):=by
         rintro k rfl _;exact⟨aF aeJ.o VC,fun c f e=>by rw[qW.o]at e;cases e⟩
        have Ai:n≠B:=by have h1:=oT.o;have h2:=(fY.o.trans jO.o).size;omega
        have Pm:n≠w.heap.size:=by have h2:=(jO.o).size;have h3:=aeI.o;omega
        have ajz:n≠w.heap.size+1:=by have h2:=(jO.o).size;have h3:=aeI.o;omega
        have hln:w.heap.size<=n:=by have h2:=(fY.o.trans jO.o).size;omega
        have HNF:=O VX;have aeP:=O ab5;have Ji:=O Ai;have HN0:=O Pm;have HN1:=O ajz;have Jn:=O hln;clear D5 jq LH Tj ab5 KM Ai Pm ajz VX hln
        obtain⟨V,hV⟩:∃V,V=(((((((((W.setCell ⟨n,6,none⟩ (.int .i64 g.a.scheme)).setCell ⟨n,7,none⟩ (.string m.aK)).setCell ⟨n,8,none⟩ (.string m.bq)).setCell ⟨n,9,none⟩ (.string m.cy)).setCell ⟨n,10,none⟩ (.bool m.cA)).setCell ⟨n,11,none⟩ (.string m.eF)).setCell ⟨n,12,none⟩ (.bool true)).setCell ⟨n,13,none⟩ (.slice ad m.dom.length cd)).setCell ⟨n,14,none⟩ (.int .i64 0)):=⟨_,rfl⟩;go_wp2_with fail
        rw[<-hV]
        have XI:Fr (one n) W V:=by rw[hV];exact((((((((((ae (one n) W).setCell (p:=⟨n,6,none⟩) (fun _=>rfl) _).setCell (p:=⟨n,7,none⟩) (fun _=>rfl) _).setCell (p:=⟨n,8,none⟩) (fun _=>rfl) _).setCell (p:=⟨n,9,none⟩) (fun _=>rfl) _).setCell (p:=⟨n,10,none⟩) (fun _=>rfl) _).setCell (p:=⟨n,11,none⟩) (fun _=>rfl) _).setCell (p:=⟨n,12,none⟩) (fun _=>rfl) _).setCell (p:=⟨n,13,none⟩) (fun _=>rfl) _).setCell (p:=⟨n,14,none⟩) (fun _=>rfl) _)
        have hwV:Fr aS w V:=by rw[hV];exact(((((((((wZ.o.gF (p:=⟨n,6,none⟩) Jn.o _).gF (p:=⟨n,7,none⟩) Jn.o _).gF (p:=⟨n,8,none⟩) Jn.o _).gF (p:=⟨n,9,none⟩) Jn.o _).gF (p:=⟨n,10,none⟩) Jn.o _).gF (p:=⟨n,11,none⟩) Jn.o _).gF (p:=⟨n,12,none⟩) Jn.o _).gF (p:=⟨n,13,none⟩) Jn.o _).gF (p:=⟨n,14,none⟩) Jn.o _)
        have hbV:V.heap[n]?=some (.cells #[.bool g.o.aE,.string g.o.host,.int .i64 g.o.port,.bool g.proxy,.string g.user,.string g.pass,.int .i64 g.a.scheme,.string m.aK,.string m.bq,.string m.cy,.bool m.cA,.string m.eF,.bool true,.slice ad m.dom.length cd,.int .i64 0,.slice ap2 g.paths.length cp2] 133 (0,0)):=by
         have e1:=b_ qW.o 6 (.int .i64 g.a.scheme);have e2:=b_ e1 7 (.string m.aK);have e3:=b_ e2 8 (.string m.bq);have e4:=b_ e3 9 (.string m.cy);have e5:=b_ e4 10 (.bool m.cA);have e6:=b_ e5 11 (.string m.eF);have e7:=b_ e6 12 (.bool true);have e8:=b_ e7 13 (.slice ad m.dom.length cd);have e9:=b_ e8 14 (.int .i64 0);rw[hV,e9];simp
        have iV:=I0.o.fr XI aeP.o (fun i hi e=>HNF.o (by have e':i=n:=e;rw[<-e'];exact hi));have aV:=A0.o.fr XI (fun e=>Ji.o (show B=n from e).symm);have rV:=XI.keep ajx.o (fun e=>HN1.o (show w.heap.size+1=n from e).symm);have hpV:du base V (.slice ap2 g.paths.length cp2) g.paths:=HPB.o.fr XI aeP.o;have hmV:du base V (.slice ad m.dom.length cd) m.dom:=HSW.o.fr XI aeP.o;have HIV:=O iV;have HAV:=O aV
        have HRV:=O rV;have YQ:=O hwV;have HBV:=O hbV
        have HPU:=O (show∀U,Fr aS V U->aB 79 #[.pointer (some ⟨v.b,0,none⟩),.agg #[.bool g.o.aE,.string g.o.host,.int .i64 g.o.port,.bool g.proxy,.string g.user,.string g.pass,.int .i64 g.a.scheme,.string m.aK,.string m.bq,.string m.cy,.bool m.cA,.string m.eF,.bool true,.slice ad m.dom.length cd,.int .i64 0,.slice ap2 g.paths.length cp2]] U (Hz base U v.b v.gv v.wv (uZ p.bU {g with a:=m,count:=0}) p.waits)from fun U hU=>by
         have h:=PM base U v.b v.gv v.wv p.bU p.waits ⟨g.o,g.proxy,g.user,g.pass,{m with dom:=.slice ad m.dom.length cd},0,.slice ap2 g.paths.length cp2⟩ {g with a:=m,count:=0} (HIV.o.di hU).ot ⟨rfl,rfl,rfl,rfl,⟨rfl,rfl,rfl,rfl,rfl,rfl,rfl,hmV.di hU⟩,rfl,hpV.di hU⟩ ab;unfold aP.cells at h;rw[show m.scheme=g.a.scheme from XM.o,show m.cN=true from l_.o]at h;exact h)
        have HC:=O (show∀U,Fr (dv v.b v.gv v.wv) V U->(U.cell? ⟨B,off,none⟩=some (.pointer (some ⟨v.b,0,none⟩))/\U.cell? ⟨n,0,none⟩=some (.bool g.o.aE)/\U.cell? ⟨n,1,none⟩=some (.string g.o.host)/\U.cell? ⟨n,2,none⟩=some (.int .i64 g.o.port)/\U.cell? ⟨n,3,none⟩=some (.bool g.proxy)/\U.cell? ⟨n,4,none⟩=some (.string g.user)/\U.cell? ⟨n,5,none⟩=some (.string g.pass)/\U.cell? ⟨n,6,none⟩=some (.int .i64 g.a.scheme)/\U.cell? ⟨n,7,none⟩=some (.string m.aK)/\U.cell? ⟨n,8,none⟩=some (.string m.bq)/\U.cell? ⟨n,9,none⟩=some (.string m.cy)/\U.cell? ⟨n,10,none⟩=some (.bool m.cA)/\U.cell? ⟨n,11,none⟩=some (.string m.eF)/\U.cell? ⟨n,12,none⟩=some (.bool true)/\U.cell? ⟨n,13,none⟩=some (.slice ad m.dom.length cd)/\U.cell? ⟨n,14,none⟩=some (.int .i64 0)/\U.cell? ⟨n,15,none⟩=some (.slice ap2 g.paths.length cp2))from fun U hU=>by
         have j1:=HAV.o.fr hU (fun hb=>Cs.o (Or.inl hb));have j2:=hU.keep HBV.o (fun hb=>HNF.o (Or.inl hb));refine⟨j1.cell0,?_,?_,?_,?_,?_,?_,?_,?_,?_,?_,?_,?_,?_,?_,?_,?_⟩<;>simp[World.cell?,j2])
        clear hV XI hwV hbV iV aV rV hpV hmV
        go_region_held3 (fun U=>Fr (dv v.b v.gv v.wv) V U/\(U.cell? ⟨B,off,none⟩=some (.pointer (some ⟨v.b,0,none⟩))/\U.cell? ⟨n,0,none⟩=some (.bool g.o.aE)/\U.cell? ⟨n,1,none⟩=some (.string g.o.host)/\U.cell? ⟨n,2,none⟩=some (.int .i64 g.o.port)/\U.cell? ⟨n,3,none⟩=some (.bool g.proxy)/\U.cell? ⟨n,4,none⟩=some (.string g.user)/\U.cell? ⟨n,5,none⟩=some (.string g.pass)/\U.cell? ⟨n,6,none⟩=some (.int .i64 g.a.scheme)/\U.cell? ⟨n,7,none⟩=some (.string m.aK)/\U.cell? ⟨n,8,none⟩=some (.string m.bq)/\U.cell? ⟨n,9,none⟩=some (.string m.cy)/\U.cell? ⟨n,10,none⟩=some (.bool m.cA)/\U.cell? ⟨n,11,none⟩=some (.string m.eF)/\U.cell? ⟨n,12,none⟩=some (.bool true)/\U.cell? ⟨n,13,none⟩=some (.slice ad m.dom.length cd)/\U.cell? ⟨n,14,none⟩=some (.int .i64 0)/\U.cell? ⟨n,15,none⟩=some (.slice ap2 g.paths.length cp2))) ((refine(fun hU=>⟨hU,HC.o _ hU⟩) ?_;first|exact az (ae _ _)|assumption))
         ((first
          |(go_at_call 79;refine(HPU.o _ (az (ae _ _))).mono ?_;rintro e u6 ⟨rfl,AJ⟩;have Fa:Fr (dv v.b v.gv v.wv) V u6:=(az (ae _ _)).trans (by obtain⟨_,_,_,h,_⟩:=AJ;exact h))))
        have HP:=O (show dm base w B cs off v {p with bU:=uZ p.bU {g with a:=m,count:=0}} u6 from dh YQ.o (dh (az (ae aS V)) (eR (HIV.o.di (az (ae aS V))) (HAV.o.di (az (ae aS V))) Cs.o AJ)));have r6:=O (eI (B:=B) HIV.o (Fa.mono (fun k _ hk=>Or.inr (Or.inl hk))) HRV.o dJ ab);clear AJ Fa HC HPU
        go_wp2_with (first|((with_reducible refine cV 46 ?_);refine aG rfl 46 (.tmp 4) (.tmp 75) rfl (w.heap.size+1) #[.int .i64 1,.string ⟨#[]⟩,.int .i64 0] rfl rfl _ bR r6.o (bf _ rfl) rfl ct ?_)|fail)
        refine aU (bu bC _ _ (w.heap.size+1) 46 #[.int .i64 1,.string ⟨#[]⟩,.int .i64 0] (0,0) _ rfl (aY _ (w.heap.size+1) _ _ _ _ r6.o) underlying46 rfl (bf _ rfl)) rfl ?_;unfold eG;rw[HR.o];exact⟨rfl,dy HP.o oY.o oT.o (bV _) r6.o eL ag _⟩
      case' neg =>
       have HR:=O (Tj.o (by rw[aL.2 LH];simp));rw[jq]at q6;clear jq Tj;go_wp2_with fail
    all_goals
     go_region_held3 (fun U=>Fr (dv v.b v.gv v.wv) W U/\U.cell? ⟨B,off,none⟩=some (.pointer (some ⟨v.b,0,none⟩))/\U.cell? ⟨u2.heap.size+1,0,none⟩=some (.bool o.aJ.o.aE)/\U.cell? ⟨u2.heap.size+1,1,none⟩=some (.string o.aJ.o.host)/\U.cell? ⟨u2.heap.size+1,2,none⟩=some (.int .i64 o.aJ.o.port)/\U.cell? ⟨w.heap.size,14,none⟩=some (.bool o.proxy)/\U.cell? ⟨u2.heap.size,1,none⟩=some (.string m.aK)) ((refine(fun hU=>⟨hU,Uc.o _ hU⟩) ?_;first|exact az (ae _ _)|assumption))
      ((first
       |(go_at_call 75;refine(S_.o _ (az (ae _ _))).mono ?_;rintro e u6 ⟨rfl,AJ⟩;have Fa:Fr (dv v.b v.gv v.wv) W u6:=(az (ae _ _)).trans (by obtain⟨_,_,_,h,_⟩:=AJ;exact h))))
     have HS6:=O (HSW.o.fr Fa (fun k hk hl=>I0.o.off k (Or.inl hk) hl));obtain⟨v6,i6,f6,ab6,ajB⟩:=eR (I0.o.di (az (ae aS W))) (A0.o.di (az (ae aS W))) Cs.o AJ;have aa6:=ik A0.o ajB;have o6:=eI (I0.o.di (az (ae aS W))) f6 (show W.drew.heap[w.heap.size]?=_ from aeN.o) jb ab;have r6:=eI (I0.o.di (az (ae aS W))) f6 (show W.drew.heap[w.heap.size+1]?=_ from ajx.o) dJ ab
     have q6:=eI (I0.o.di (az (ae aS W))) f6 (show W.drew.heap[u2.heap.size]?=_ from We.o) AV hn7;have g6:=eI (I0.o.di (az (ae aS W))) f6 (show W.drew.heap[u2.heap.size+1]?=_ from aeM.o) pI hn9;have I6:=O i6;have F6:=O f6;have FT6:=O ab6;have AA6:=O aa6;have O6:=O o6;have R6:=O r6;have Q6:=O q6;have G6:=O g6;clear AJ Fa i6 f6 ab6 aa6 o6 r6 q6 g6 ajB Uc S_
     have HC6:=O (show∀U,Fr (dv v6.b v6.gv v6.wv) u6 U->(U.cell? ⟨B,off,none⟩=some (.pointer (some ⟨v6.b,0,none⟩))/\U.cell? ⟨u2.heap.size+1,0,none⟩=some (.bool o.aJ.o.aE)/\U.cell? ⟨u2.heap.size+1,1,none⟩=some (.string o.aJ.o.host)/\U.cell? ⟨u2.heap.size+1,2,none⟩=some (.int .i64 o.aJ.o.port)/\U.cell? ⟨w.heap.size,8,none⟩=some (.string o.aJ.path)/\U.cell? ⟨w.heap.size,14,none⟩=some (.bool o.proxy)/\U.cell? ⟨u2.heap.size,0,none⟩=some (.int .i64 m.scheme)/\U.cell? ⟨u2.heap.size,1,none⟩=some (.string m.aK)/\U.cell? ⟨u2.heap.size,2,none⟩=some (.string m.bq)/\U.cell? ⟨u2.heap.size,3,none⟩=some (.string m.cy)/\U.cell? ⟨u2.heap.size,4,none⟩=some (.bool m.cA)/\U.cell? ⟨u2.heap.size,5,none⟩=some (.string m.eF)/\U.cell? ⟨u2.heap.size,6,none⟩=some (.bool m.cN)/\U.cell? ⟨u2.heap.size,7,none⟩=some (.slice ad m.dom.length cd))from fun U hU=>by
      have j1:=AA6.o.fr hU (fun hb=>I6.o.fg AA6.o.eJ ag (Or.inl hb));have j2:=hU.keep G6.o (fun hb=>I6.o.fg G6.o pI (Or.inl hb));have j3:=hU.keep Q6.o (fun hb=>I6.o.fg Q6.o AV (Or.inl hb));have j4:=hU.keep O6.o (fun hb=>I6.o.fg O6.o jb (Or.inl hb));obtain⟨a0,a1,a2,a3,a4,a5,a6,a7,a8,a9,jA,jB,a12,jx,jC,jd,jK,jL,jM,jU,a20,a21⟩:=eh j4 lu.o
      refine⟨j1.cell0,?_,?_,?_,a8,jC,?_,?_,?_,?_,?_,?_,?_,?_⟩<;>simp[World.cell?,j2,j3])
     have HAS:=O (show∀U,Fr aS u6 U->aB 80 #[.pointer (some ⟨v6.b,0,none⟩),.agg #[.bool o.aJ.o.aE,.string o.aJ.o.host,.int .i64 o.aJ.o.port,.bool o.proxy,.string o.aJ.path,.int .i64 m.scheme,.string m.aK,.string m.bq,.string m.cy,.bool m.cA,.string m.eF,.bool m.cN,.slice ad m.dom.length cd]] U (Gb base U v6.b v6.gv v6.wv (uM p.bU o.aJ.o o.proxy m.aK) (zC p.waits ⟨o.aJ.o,o.proxy,o.aJ.path,m⟩))from fun U hU=>by
      exact NB base U v6.b v6.gv v6.wv (uM p.bU o.aJ.o o.proxy m.aK) p.waits ⟨o.aJ.o,o.proxy,o.aJ.path,{m with dom:=.slice ad m.dom.length cd}⟩ ⟨o.aJ.o,o.proxy,o.aJ.path,m⟩ (I6.o.di hU).ot ⟨rfl,rfl,rfl,rfl,rfl,rfl,rfl,rfl,rfl,rfl,HS6.o.di hU⟩ ab)
     go_wp2_with fail
     go_region_held3 (fun U=>Fr (dv v6.b v6.gv v6.wv) u6 U/\U.cell? ⟨B,off,none⟩=some (.pointer (some ⟨v6.b,0,none⟩))/\U.cell? ⟨u2.heap.size+1,0,none⟩=some (.bool o.aJ.o.aE)/\U.cell? ⟨u2.heap.size+1,1,none⟩=some (.string o.aJ.o.host)/\U.cell? ⟨u2.heap.size+1,2,none⟩=some (.int .i64 o.aJ.o.port)/\U.cell? ⟨w.heap.size,8,none⟩=some (.string o.aJ.path)/\U.cell? ⟨w.heap.size,14,none⟩=some (.bool o.proxy)/\U.cell? ⟨u2.heap.size,0,none⟩=some (.int .i64 m.scheme)/\U.cell? ⟨u2.heap.size,1,none⟩=some (.string m.aK)/\U.cell? ⟨u2.heap.size,2,none⟩=some (.string m.bq)/\U.cell? ⟨u2.heap.size,3,none⟩=some (.string m.cy)/\U.cell? ⟨u2.heap.size,4,none⟩=some (.bool m.cA)/\U.cell? ⟨u2.heap.size,5,none⟩=some (.string m.eF)/\U.cell? ⟨u2.heap.size,6,none⟩=some (.bool m.cN)/\U.cell? ⟨u2.heap.size,7,none⟩=some (.slice ad m.dom.length cd)) ((refine(fun hU=>⟨hU,HC6.o _ hU⟩) ?_;first|exact az (ae _ _)|assumption))
      ((first
       |(go_at_call 80;refine(HAS.o _ (az (ae _ _))).mono ?_;rintro e u8 ⟨rfl,hb8⟩;have ajC:Fr (dv v6.b v6.gv v6.wv) u6 u8:=(az (ae _ _)).trans (by obtain⟨_,_,_,h,_⟩:=hb8;exact h))))
     have V0:=eR (I6.o.di (az (ae aS u6))) (AA6.o.di (az (ae aS u6))) (I6.o.fg AA6.o.eJ ag) hb8;have HP:=O (show dm base W B cs off v {p with bU:=uM p.bU o.aJ.o o.proxy m.aK,waits:=zC p.waits ⟨o.aJ.o,o.proxy,o.aJ.path,m⟩} u8 from dh (az (ae aS W)) (gH F6.o FT6.o (dh (az (ae aS u6)) V0)));have r8:=O (eI (B:=B) I6.o (ajC.mono (fun k _ hk=>Or.inr (Or.inl hk))) R6.o dJ ab);clear V0 hb8 ajC HC6 HAS
     go_wp2_with (first|((with_reducible refine cV 46 ?_);refine aG rfl 46 (.tmp 4) (.tmp 100) rfl (w.heap.size+1) #[.int .i64 3,.string ⟨#[]⟩,.int .i64 0] rfl rfl _ bR r8.o (bf _ rfl) rfl ct ?_)|fail)
     refine aU (bu bC _ _ (w.heap.size+1) 46 #[.int .i64 3,.string ⟨#[]⟩,.int .i64 0] (0,0) _ rfl (aY _ (w.heap.size+1) _ _ _ _ r8.o) underlying46 rfl (bf _ rfl)) rfl ?_;unfold eG;rw[HR.o];exact⟨rfl,dy (HP.o.after wZ.o) oY.o oT.o (bV _) r8.o eL ag _⟩
  ·have HR:=O (show jw p (o.dS hs)=(p,rep 2)by
    unfold jw;rw[show(o.dS hs).text=o.text from rfl,HCH.o];simp only;rw[ar (by rw[<-HM.o];exact hsc)])
   have AZ:=O (iq.o.keep qG.o id);have HP:=O (mf HH.o HA.o (fY.o.trans iq.o));have hsd:decide (0<m.scheme)=false:=bD hsc;have av8:m.scheme<=0:=ab;have h3c:=Tl.o;subst h3c;go_wp2_with (first|((with_reducible refine cV 46 ?_);refine aG rfl 46 (.tmp 4) (.tmp 27) rfl (w.heap.size+1) #[.int .i64 2,.string ⟨#[]⟩,.int .i64 0] rfl rfl _ bR AZ.o (bf _ rfl) rfl ct ?_)|fail)
   refine aU (bu bC _ _ (w.heap.size+1) 46 #[.int .i64 2,.string ⟨#[]⟩,.int .i64 0] (0,0) _ rfl (aY _ (w.heap.size+1) _ _ _ _ AZ.o) underlying46 rfl (bf _ rfl)) rfl ?_;unfold eG;rw[HR.o];exact⟨rfl,dy HP.o oY.o oT.o (bV _) AZ.o eL ag _⟩
