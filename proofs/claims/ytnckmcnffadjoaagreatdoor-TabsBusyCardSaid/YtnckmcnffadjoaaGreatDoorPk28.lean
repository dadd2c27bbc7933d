/- Lemmas for the law's walk. -/
import Derived.Test.YtnckmcnffadjoaaGreatDoorPk25
set_option maxRecDepth 100000
set_option maxHeartbeats 16000000
set_option linter.unusedSimpArgs false
namespace Go.Proofs.YtnckmcnffadjoaaGreatDoor
open Go.Proofs.Tryz
open Go.RowKit
variable {base:Nat} {X:Array Value}
theorem ui.one{w:World}{m:Option (aP bD)}{e:Ending}{w':World}(h:ui base w m e w') :
  Fr aR w w'/\∃X:Array Value,e=.returned (.tuple #[.agg X,.bool m.isSome])/\X.size=16/\X.all (·.oneCell')=true/\∀x,m=some x->∃r:aP Value,X=r.cells.toArray/\r.Reads (dr base w') x:=by
 obtain⟨h1,h2⟩:=h;refine⟨h1,?_⟩;cases hu:m with
 |none=>rw[hu]at h2;exact⟨eS,h2,rfl,dp,fun x hx=>by cases hx⟩
 |some g =>
  rw[hu]at h2;obtain⟨r,e1,e2,e3⟩:=h2;exact⟨r.cells.toArray,e1,rfl,bW e3,fun x hx=>by cases hx;exact⟨r,rfl,e2⟩⟩
theorem Ho(h:X.size=16):(prog.info? 114).map (·.size)=some X.size:=by rw[h];kernel_rfl
def GtJ(base:Nat)(x4:World)(gm:Option (aP bD))(n:Nat)(X:Array Value)(W:World):Prop :=
 Fr aR x4 W/\W.heap[n]?=some (.cells X 114 (0,0))/\x4.heap.size<=n/\X.size=16/\∀g,gm=some g->∃r:aP Value,X=r.cells.toArray/\r.Reads (dr base W) g
theorem Ml{n:Nat}{u:World}{z:Array Value}{t:TypeId}(hn:u.heap[n]?=some (.cells z t (0,0)))(hs:t≠9)(hb:base<=n):∀vv ss,dr base u vv ss->dr base (u.setRow n X) vv ss:=fun vv ss h =>
 h.fr ((ae (one n) u).setRow (fun _=>rfl) _) (by
  rintro k rfl _;exact⟨hb,fun c f e=>by rw[hn]at e;cases e;exact hs rfl⟩)
theorem Mm(base:Nat)(w:World)(B off:Nat)(cs:List Value)(v:cU)(p:dM)(o:jG)(hs:List gZ)(h:eP base w v p)(ha:gT w B cs off v)(oF:base<=B)(hf:gH w o hs)(hk:nr p) :
  Calls prog 31 #[.pointer (some ⟨B,off,none⟩),.agg o.cells.toArray] w (eF base w B cs off v (fJ p (o.dS hs))):=by
 have uW:B<w.heap.size:=bj ha.eI;have Hf:¬v.ke B:=h.fg ha.eI ag;obtain⟨ah,ch,gV⟩:=hf.gX;obtain⟨w2,eB⟩:∃w2,w2=(w.alloc (.cells o.cells.toArray 41)).alloc (.cells bR 30):=⟨_,rfl⟩;have dy:Fr aR w w2:=by rw[eB];exact((ae aR w).alloc _).alloc _
 have k1:w2.heap[w.heap.size]?=some (.cells o.cells.toArray 41 (0,0)):=by rw[eB];exact((ae aR _).alloc _).keep (aB _ _) id
 have k2:w2.heap[w.heap.size+1]?=some (.cells bR 30 (0,0)):=by
  have h:=aB (w.alloc (.cells o.cells.toArray 41)) (.cells bR 30);rw[bM]at h;rw[eB];exact h
 have xD:w2.heap.size=w.heap.size+2:=by rw[eB];simp
 have Wp:=O (show∀U,Fr aR w2 U->U.heap[w.heap.size]?=some (.cells o.cells.toArray 41 (0,0))from fun U hU=>hU.keep k1 id);have C5:=O Hf;have HH:=O h;have HA:=O ha;have HF:=O hf;have lS:=O gV;have HK:=O hk;have fO:=O dy;have mP:=O k1;have qR:=O k2;have pj:=O (show base<=w.heap.size from ab);have xG:=O oF;have o9:=O uW;have Se:=O eB
 obtain⟨a0,a1,a2,a3,a4,a5,a6,a7,a8,a9,jI,jJ,a12,jH,jK,jr,jY,jZ,j5,kf,a20,a21⟩:=eh k1 gV;rw[eB]at a0 a1 a2 a3 a4 a5 a6 a7 a8 a9 jI jJ a12 jH jK jr jY jZ j5 kf a20 a21;rw[eA gV]at eB a0 a1 a2 a3 a4 a5 a6 a7 a8 a9 jI jJ a12 jH jK jr jY jZ j5 kf a20 a21 ⊢;unfold bR at eB a0 a1 a2 a3 a4 a5 a6 a7 a8 a9 jI jJ a12 jH jK jr jY jZ j5 kf a20 a21;have nJ:=O eB;have SL:=hf.text;have PA:=O (RX o.text w2 ab)
 clear SL eB gV dy k1 k2 h ha hf Hf hk;go_enter func31,ntmps31;have Su:=HK.o.tG;have afo:=O xD;have sJ:=nJ.o;go_wp2_with fail
 rw[<-sJ];clear a0 a1 a2 a3 a4 a5 a6 a7 a8 a9 jI jJ a12 jH jK jr jY jZ j5 kf a20 a21 sJ xD;refine PA.o.mono ?_;rintro e u1 GH;obtain⟨uA,GH⟩:=GH;clear PA;have I9:=O uA;cases hch:mC o.text.data.toList with
 |error n =>
  rw[hch]at GH;obtain⟨er,rfl,hen⟩:=GH;obtain⟨et,ev,rfl⟩:=hen.acE;have HR:=O (show fJ p (o.dS hs)=(p,rep 7)by unfold fJ;rw[show(o.dS hs).text=o.text from rfl,hch]);have Bx:=O (uA.keep qR.o id);have HP:=O (ml HH.o HA.o (fO.o.trans I9.o));clear hch hen uA
  go_wp2_with (first|((with_reducible refine cV 30 ?_);refine aE rfl 30 (.tmp 4) (.tmp 19) rfl (w.heap.size+1) #[.int .i64 7,.string ⟨#[]⟩,.int .i64 0] rfl rfl _ bR Bx.o (bd _ rfl) rfl ct ?_)|fail)
  refine aS (bu bC _ _ (w.heap.size+1) 30 #[.int .i64 7,.string ⟨#[]⟩,.int .i64 0] (0,0) _ rfl (aX _ (w.heap.size+1) _ _ _ _ Bx.o) underlying30 rfl (bd _ rfl)) rfl ?_;unfold eF;rw[HR.o];exact⟨rfl,dw HP.o pj.o o9.o (bU _) Bx.o eK ag _⟩
 |ok l =>
  rw[hch]at GH;obtain⟨vl,rfl,Bb⟩:=GH;have qB:=RZ hch;have hlen:l.length<=1000000:=by have:=(KF hch).2;omega
  have BE:=O (Wk vl l u1 Bb.at hlen qB);obtain⟨al,cl,Tx⟩:=Bb.form;subst Tx;have HCH:=O hch;clear hch Bb qB hlen uA;go_wp2_with fail
  refine BE.o.mono ?_;rintro e u2⟨nv,r,hr,rfl⟩;clear BE;obtain⟨m,hm⟩:∃m,m=jm l:=⟨_,rfl⟩;rw[<-hm]at hr ⊢;have HM:=O hm;obtain⟨e1,e2,e3,e4,e5,e6,e7,Bn⟩:=hr;have IE:dr base u2 r.dom m.dom:=Bn.in (by have h:=(Qu HCH.o).2.2.2;rw[<-hm]at h;omega);obtain⟨ad,cd,xV⟩:=IE.rd.form
  have uS:r.cells=[.int .i64 m.scheme,.string m.aK,.string m.bq,.string m.cj,.bool m.cy,.string m.eE,.bool m.cM,.slice ad m.dom.length cd]:=by unfold fK.cells;rw[e1,e2,e3,e4,e5,e6,e7,xV]
  rw[xV]at IE;rw[uS];have tW:=O (I9.o.trans nv);have apV:=O IE;obtain⟨x3,xU⟩:∃x3,x3=u2.alloc (.cells #[.int .i64 m.scheme,.string m.aK,.string m.bq,.string m.cj,.bool m.cy,.string m.eE,.bool m.cM,.slice ad m.dom.length cd] 112):=⟨_,rfl⟩;have tK:=aB u2 (.cells #[.int .i64 m.scheme,.string m.aK,.string m.bq,.string m.cj,.bool m.cy,.string m.eE,.bool m.cM,.slice ad m.dom.length cd] 112)
  have iv:Fr aR w2 x3:=by rw[xU];exact tW.o.alloc _
  rw[<-xU]at tK;have OE:=O tK;have ic:=O iv;have OD:x3.heap.size=u2.heap.size+1:=by rw[xU];simp
  have TV:=O xU;have Vz:=O (show w.heap.size+2<=u2.heap.size from by have h1:=tW.o.size;have h2:=afo.o;omega);clear Bn IE e1 e2 e3 e4 e5 e6 e7 xV uS nv hm tK iv xU;by_cases hsc:0<m.scheme
  ·obtain⟨a0,a1,a2,a3,a4,a5,a6,a7,a8,a9,jI,jJ,a12,jH,jK,jr,jY,jZ,j5,kf,a20,a21⟩:=eh (Wp.o x3 ic.o) lS.o;rw[TV.o]at a0 a1 a2 a3 a4 a5 a6 a7 a8 a9 jI jJ a12 jH jK jr jY jZ j5 kf a20 a21;go_wp2_with fail
   obtain⟨x4,Ze⟩:∃x4,x4=(u2.alloc (.cells #[.int .i64 m.scheme,.string m.aK,.string m.bq,.string m.cj,.bool m.cy,.string m.eE,.bool m.cM,.slice ad m.dom.length cd] 112)).alloc (.cells #[.bool o.aL.o.aF,.string o.aL.o.host,.int .i64 o.aL.o.port] 32):=⟨_,rfl⟩;rw[<-Ze];rw[<-TV.o]at Ze;have aaT:Fr aR x3 x4:=by rw[Ze];exact(ae _ _).alloc _
   have HB9:=O (show x4.heap[u2.heap.size+1]?=some (.cells #[.bool o.aL.o.aF,.string o.aL.o.host,.int .i64 o.aL.o.port] 32 (0,0))from by
    have h:=aB x3 (.cells #[.bool o.aL.o.aF,.string o.aL.o.host,.int .i64 o.aL.o.port] 32);rw[OD]at h;rw[Ze];exact h)
   have HB7:=O (aaT.keep OE.o id);have jV:=O (ic.o.trans aaT);have apW:=O (show Fr aR x3 x4 from aaT);have apX:=O (show Fr aR u2 x3 from by rw[TV.o];exact(ae _ _).alloc _);clear Ze aaT a0 a1 a2 a3 a4 a5 a6 a7 a8 a9 jI jJ a12 jH jK jr jY jZ j5 kf a20 a21 OD
   have Hn:=O (show∀U,Fr aR x4 U->(U.cell? ⟨B,off,none⟩=some (.pointer (some ⟨v.b,0,none⟩))/\U.cell? ⟨u2.heap.size+1,0,none⟩=some (.bool o.aL.o.aF)/\U.cell? ⟨u2.heap.size+1,1,none⟩=some (.string o.aL.o.host)/\U.cell? ⟨u2.heap.size+1,2,none⟩=some (.int .i64 o.aL.o.port)/\U.cell? ⟨w.heap.size,14,none⟩=some (.bool o.proxy)/\U.cell? ⟨u2.heap.size,1,none⟩=some (.string m.aK))from fun U hU=>by
    have j1:=(HA.o.dh (fO.o.trans jV.o)).dh hU;have j2:=hU.keep HB9.o id;have j3:=hU.keep HB7.o id;obtain⟨a0,a1,a2,a3,a4,a5,a6,a7,a8,a9,jI,jJ,a12,jH,jK,jr,jY,jZ,j5,kf,a20,a21⟩:=eh (Wp.o U (jV.o.trans hU)) lS.o;refine⟨j1.cell0,?_,?_,?_,jK,?_⟩<;>simp[World.cell?,j2,j3])
   have HGT:=O (show∀U,Fr aR x4 U->Calls prog 56 #[.pointer (some ⟨v.b,0,none⟩),.agg #[.bool o.aL.o.aF,.string o.aL.o.host,.int .i64 o.aL.o.port],.bool o.proxy,.string m.aK] U (ui base U (p.bF.find? (mZ o.aL.o o.proxy m.aK)))from fun U hU=>Wz base U v.b v.gv v.wv p.bF p.waits o.aL.o o.proxy m.aK (((HH.o.dh (fO.o.trans jV.o)).dh hU).oC))
   obtain⟨gm,hgm⟩:∃gm,gm=p.bF.find? (mZ o.aL.o o.proxy m.aK):=⟨_,rfl⟩;rw[<-hgm]at HGT;have HGM:=O hgm;obtain⟨ok,Bf⟩:∃ok,ok=gm.isSome:=⟨_,rfl⟩;have NL:=O Bf;have afp:=O (show base<=x4.heap.size from aD pj.o (fO.o.trans jV.o).size);clear hgm Bf;apply V8 (P:=GtJ base x4 gm)
   ·intro hJ;have HJ:=O hJ;clear hJ
    refine wp_region_held_drew (S:=(fun U=>U.cell? ⟨B,off,none⟩=some (.pointer (some ⟨v.b,0,none⟩))/\U.cell? ⟨u2.heap.size+1,0,none⟩=some (.bool o.aL.o.aF)/\U.cell? ⟨u2.heap.size+1,1,none⟩=some (.string o.aL.o.host)/\U.cell? ⟨u2.heap.size+1,2,none⟩=some (.int .i64 o.aL.o.port)/\U.cell? ⟨w.heap.size,14,none⟩=some (.bool o.proxy)/\U.cell? ⟨u2.heap.size,1,none⟩=some (.string m.aK))) af (Hn.o _ (aA (ae _ _))) ?_
    intro zc;refine tkN 0 33 rfl ?_
    refine tkN 1 34 rfl ?_
    refine tkN 2 35 rfl ?_
    refine tkN 3 36 rfl ?_
    refine tkN 4 37 rfl ?_
    refine tkN 5 38 rfl ?_
    refine tkN 6 39 rfl ?_
    refine tkN 7 40 rfl ?_
    refine tkN 8 41 rfl ?_
    refine EF 9 13 rfl rfl (fun K hK=>?_) fun K hK=>?_
    ·go_simp;refine(HGT.o _ (aA (ae _ _))).mono ?_;rintro e u5 L0;obtain⟨lG,X,rfl,Hg,L5,Ev⟩:=ui.one L0;rw[<-NL.o];have HX:=O (And.intro Hg (And.intro L5 Ev));have tU:=O ((aA (ae aR x4)).trans lG);clear L0 Hg L5 Ev lG;refine hK.out _ _ (Hn.o _ tU.o) ?_;intro xz;clear hK zc K
     try simp only[Act.put,sA,sB,sC]
     refine tkN 10 32 rfl ?_
     refine tkN 11 43 rfl ?_
     refine tkN 12 44 rfl ?_
     refine eL 13 rfl fun K hK=>?_;go_simp;obtain⟨n,hne⟩:∃n,n=u5.heap.size:=⟨_,rfl⟩;obtain⟨w6,zY⟩:∃w6,w6=u5.alloc (.cells eS 114):=⟨_,rfl⟩;have HZZ:=O (show w6.heap[n]?=some (.cells eS 114 (0,0))by rw[zY,hne];exact aB _ _);have afr:Fr aR u5 w6:=by rw[zY];exact(ae _ _).alloc _
     have yX:=O (tU.o.trans afr);have apZ:=O afr;have CN:=O (show x4.heap.size<=n by rw[hne];exact tU.o.size);rw[<-zY, <-hne];clear zY hne afr;refine hK.out _ _ (Hn.o _ yX.o) ?_;intro Am;clear hK xz K
     try simp only[Act.put,sA,sB,sC]
     refine eL 14 rfl fun K hK=>?_;refine jX rfl 114 (.tmp 10) (.tmp 43) rfl n X rfl rfl 114 eS HZZ.o (Ho HX.o.1) HX.o.1.symm HX.o.2.1 ?_;obtain⟨W,hW⟩:∃W,W=w6.setRow n X:=⟨_,rfl⟩;have Ci:Fr aR x4 W:=by rw[hW];exact iY yX.o CN.o _
     have hWX:W.heap[n]?=some (.cells X 114 (0,0)):=by rw[hW];exact kS HZZ.o
     have hWS:∀vv ss,dr base u5 vv ss->dr base W vv ss:=fun vv ss h=>by rw[hW];exact Ml HZZ.o ag (aD afp.o CN.o) vv ss (h.dh apZ.o)
     rw[<-hW];refine hK.out _ _ (Hn.o _ Ci) ?_;intro FP;clear hK Am K
     try simp only[Act.put,sA,sB,sC]
     refine tkN 15 8 rfl ?_
     clear FP;refine wpAnyH_done af ?_ _;exact HJ.o n X W ⟨Ci,hWX,CN.o,HX.o.1,fun g hg=>by
      obtain⟨r,e1,e2⟩:=HX.o.2.2 g hg;exact⟨r,e1,e2.mono (fun v l h=>hWS v l h)⟩⟩
    ·go_simp;obtain⟨n,hne⟩:∃n,n=x4.heap.size:=⟨_,rfl⟩;obtain⟨w6,zY⟩:∃w6,w6=(x4.alloc (.cells eS 114)).drew:=⟨_,rfl⟩;have hz6:w6.heap[n]?=some (.cells eS 114 (0,0)):=by rw[zY,hne];exact aB x4 _
     have yX:=O (show Fr aR x4 w6 by rw[zY];exact((ae _ _).alloc _).drew);have CN:=O (show x4.heap.size<=n from ab);have HZ6:=O hz6;rw[<-zY, <-hne];clear zY hne hz6;refine hK.out _ _ (Hn.o _ yX.o) ?_;intro xz;clear hK zc K
     try simp only[Act.put,sA,sB,sC]
     refine eL 9 rfl fun K hK=>?_;go_simp;refine(HGT.o _ yX.o).mono ?_;rintro e u5 L0;obtain⟨lG,X,rfl,Hg,L5,Ev⟩:=ui.one L0;rw[<-NL.o];have HX:=O (And.intro Hg (And.intro L5 Ev));have tU:=O (yX.o.trans lG);have HZZ:=O (lG.keep HZ6.o id);clear L0 Hg L5 Ev lG;refine hK.out _ _ (Hn.o _ tU.o) ?_;intro Am;clear hK xz K
     try simp only[Act.put,sA,sB,sC]
     refine tkN 10 32 rfl ?_
     refine tkN 11 43 rfl ?_
     refine tkN 12 44 rfl ?_
     refine eL 14 rfl fun K hK=>?_;refine jX rfl 114 (.tmp 10) (.tmp 43) rfl n X rfl rfl 114 eS HZZ.o (Ho HX.o.1) HX.o.1.symm HX.o.2.1 ?_;obtain⟨W,hW⟩:∃W,W=u5.setRow n X:=⟨_,rfl⟩;have Ci:Fr aR x4 W:=by rw[hW];exact iY tU.o CN.o _
     have hWX:W.heap[n]?=some (.cells X 114 (0,0)):=by rw[hW];exact kS HZZ.o
     have hWS:∀vv ss,dr base u5 vv ss->dr base W vv ss:=fun vv ss h=>by rw[hW];exact Ml HZZ.o ag (aD afp.o CN.o) vv ss (h)
     rw[<-hW];refine hK.out _ _ (Hn.o _ Ci) ?_;intro FP;clear hK Am K
     try simp only[Act.put,sA,sB,sC]
     refine tkN 15 8 rfl ?_
     clear FP;refine wpAnyH_done af ?_ _;exact HJ.o n X W ⟨Ci,hWX,CN.o,HX.o.1,fun g hg=>by
      obtain⟨r,e1,e2⟩:=HX.o.2.2 g hg;exact⟨r,e1,e2.mono (fun v l h=>hWS v l h)⟩⟩
   ·intro n X W hj;obtain⟨Ci,hWX,V9,UR,He⟩:=hj;have HW:=O (jV.o.trans Ci);have xJ:=O (fO.o.trans HW.o);have I0:=O (HH.o.dh xJ.o);have A0:=O (HA.o.dh xJ.o);have afs:=O (Ci.keep HB9.o id);have WU:=O (Ci.keep HB7.o id);have aft:=O (HW.o.keep mP.o id);have aki:=O (HW.o.keep qR.o id);have HSW:=O (apV.o.dh (show Fr aR u2 W from apX.o.trans (apW.o.trans Ci)));have ap1:=O hWX
    have VZ:=O He;have hn7:u2.heap.size≠B:=by have:=Vz.o;omega
    have hn9:u2.heap.size+1≠B:=by have:=Vz.o;omega
    clear Ci hWX He Hn HGT
    have UJ:=O (show∀U,Fr (dt v.b v.gv v.wv) W U->(U.cell? ⟨B,off,none⟩=some (.pointer (some ⟨v.b,0,none⟩))/\U.cell? ⟨u2.heap.size+1,0,none⟩=some (.bool o.aL.o.aF)/\U.cell? ⟨u2.heap.size+1,1,none⟩=some (.string o.aL.o.host)/\U.cell? ⟨u2.heap.size+1,2,none⟩=some (.int .i64 o.aL.o.port)/\U.cell? ⟨w.heap.size,14,none⟩=some (.bool o.proxy)/\U.cell? ⟨u2.heap.size,1,none⟩=some (.string m.aK))from fun U hU=>by
     have j1:=A0.o.fr hU (fun hb=>C5.o (Or.inl hb));have j2:=hU.keep afs.o (fun hb=>I0.o.fg afs.o pT (Or.inl hb));have j3:=hU.keep WU.o (fun hb=>I0.o.fg WU.o Bt (Or.inl hb));have j4:=hU.keep aft.o (fun hb=>I0.o.fg aft.o jo (Or.inl hb));obtain⟨a0,a1,a2,a3,a4,a5,a6,a7,a8,a9,jI,jJ,a12,jH,jK,jr,jY,jZ,j5,kf,a20,a21⟩:=eh j4 lS.o;refine⟨j1.cell0,?_,?_,?_,jK,?_⟩<;>simp[World.cell?,j2,j3])
    have TG:=O (show∀U,Fr aR W U->Calls prog 53 #[.pointer (some ⟨v.b,0,none⟩),.agg #[.bool o.aL.o.aF,.string o.aL.o.host,.int .i64 o.aL.o.port],.bool o.proxy,.string m.aK] U (wR base U v.b v.gv v.wv p.bF p.waits (mZ o.aL.o o.proxy m.aK))from fun U hU=>zX base U v.b v.gv v.wv p.bF p.waits o.aL.o o.proxy m.aK (I0.o.dh hU).oC);cases Mn:gm
    case' none =>
     have rS:ok=false:=by rw[NL.o,Mn];rfl
     have HR:=O (show fJ p (o.dS hs)=({p with bF:=vw p.bF o.aL.o o.proxy m.aK,waits:=Ac p.waits ⟨o.aL.o,o.proxy,o.aL.path,m⟩},rep 3)by
      unfold fJ;rw[show(o.dS hs).text=o.text from rfl,HCH.o];simp only;rw[<-HM.o,az hsc];rw[show Z4 p.bF (o.dS hs).o (o.dS hs).proxy m.aK=none from by rw[<-Mn];exact HGM.o.symm];rfl)
     rw[rS];clear Mn NL rS;go_wp2_with fail
    case' some g =>
     have rS:ok=true:=by rw[NL.o,Mn];rfl
     obtain⟨r2,Ym,ox⟩:=VZ.o g Mn;obtain⟨p1,p2,p3,p4,p5,p6,p7⟩:=ox;have HPA:=O p7;obtain⟨e1,e2,e3,e4,e5,e6,e7,xY⟩:=p5;obtain⟨ad2,cd2,akj⟩:=xY.rd.form;obtain⟨ap2,cp2,afu⟩:=p7.rd.form;have HPB:=O (show dr base W (.slice ap2 g.paths.length cp2) g.paths from by rw[<-afu];exact p7)
     have vt:X= #[.bool g.o.aF,.string g.o.host,.int .i64 g.o.port,.bool g.proxy,.string g.user,.string g.pass,.int .i64 g.a.scheme,.string g.a.aK,.string g.a.bq,.string g.a.cj,.bool g.a.cy,.string g.a.eE,.bool g.a.cM,.slice ad2 g.a.dom.length cd2,.int .i64 g.count,.slice ap2 g.paths.length cp2]:=by
      rw[Ym];unfold aP.cells;rw[p1,p2,p3,p4,p6,e1,e2,e3,e4,e5,e6,e7,akj,afu]
     have ED:=WU.o;have Sv:=ap1.o;rw[vt]at Sv;have q0:W.cell? ⟨u2.heap.size,0,none⟩=some (.int .i64 m.scheme):=by simp[World.cell?,ED]
     have q2:W.cell? ⟨u2.heap.size,2,none⟩=some (.string m.bq):=by simp[World.cell?,ED]
     have q6:W.cell? ⟨u2.heap.size,6,none⟩=some (.bool m.cM):=by simp[World.cell?,ED]
     have t6:W.cell? ⟨n,6,none⟩=some (.int .i64 g.a.scheme):=by simp[World.cell?,Sv]
     have t8:W.cell? ⟨n,8,none⟩=some (.string g.a.bq):=by simp[World.cell?,Sv]
     have rm:=O Sv;have TT:=O (show(m.cM&&(m.scheme==g.a.scheme&&m.bq.toList !=g.a.bq.toList))=false->fJ p (o.dS hs)=({p with bF:=vw p.bF o.aL.o o.proxy m.aK,waits:=Ac p.waits ⟨o.aL.o,o.proxy,o.aL.path,m⟩},rep 3)from fun jq=>by
      unfold fJ;rw[show(o.dS hs).text=o.text from rfl,HCH.o];simp only;rw[<-HM.o,az hsc];rw[show Z4 p.bF (o.dS hs).o (o.dS hs).proxy m.aK=some g from by rw[<-Mn];exact HGM.o.symm];unfold Es;simp only;rw[jq];rfl)
     have HGL:=O (show Z4 p.bF (o.dS hs).o (o.dS hs).proxy m.aK=some g from by rw[<-Mn];exact HGM.o.symm);rw[rS];clear Mn NL rS Ym p1 p2 p3 p4 p6 p7 e1 e2 e3 e4 e5 e6 e7 xY akj afu vt ED Sv UR;cases jq:m.cM
     case' false =>
      have HR:=O (TT.o (by rw[jq];rfl));rw[jq]at q6;clear jq TT;go_wp2_with fail
     case' true =>
      by_cases Mo:m.scheme=g.a.scheme
      case' pos =>
       by_cases Ly:m.bq=g.a.bq
       case' pos =>
        have HR:=O (TT.o (by rw[Ly];simp));rw[jq]at q6;rw[Mo]at q0;rw[Ly]at q2;clear jq TT;have HNO:=O Ly;have Yu:=O Mo;clear Ly Mo;go_wp2_with fail
       case neg =>
        have HR:=O (show fJ p (o.dS hs)=({p with bF:=vP p.bF {g with a:=m,count:=0}},rep 1)by
         unfold fJ;rw[show(o.dS hs).text=o.text from rfl,HCH.o];simp only;rw[<-HM.o,az hsc];rw[HGL.o];unfold Es;simp only;rw[show(m.cM&&(m.scheme==g.a.scheme&&m.bq.toList !=g.a.bq.toList))=true from by rw[jq,Mo];simp;exact fun e=>Ly (toList_inj.1 e)];rfl)
        have ED:=WU.o;rw[Mo]at ED q0;rw[jq]at ED q6;have q1b:W.cell? ⟨u2.heap.size,1,none⟩=some (.string m.aK):=by simp[World.cell?,ED]
        have q3b:W.cell? ⟨u2.heap.size,3,none⟩=some (.string m.cj):=by simp[World.cell?,ED]
        have q4b:W.cell? ⟨u2.heap.size,4,none⟩=some (.bool m.cy):=by simp[World.cell?,ED]
        have q5b:W.cell? ⟨u2.heap.size,5,none⟩=some (.string m.eE):=by simp[World.cell?,ED]
        have q7b:W.cell? ⟨u2.heap.size,7,none⟩=some (.slice ad m.dom.length cd):=by simp[World.cell?,ED]
        have z6:W.cell? ⟨n,6,none⟩=some (.int .i64 g.a.scheme):=by simp[World.cell?,rm.o]
        have y6:W.frozen? ⟨n,6,none⟩=false:=by simp[World.frozen?,rm.o]
        have z7:W.cell? ⟨n,7,none⟩=some (.string g.a.aK):=by simp[World.cell?,rm.o]
        have y7:W.frozen? ⟨n,7,none⟩=false:=by simp[World.frozen?,rm.o]
        have z8:W.cell? ⟨n,8,none⟩=some (.string g.a.bq):=by simp[World.cell?,rm.o]
        have y8:W.frozen? ⟨n,8,none⟩=false:=by simp[World.frozen?,rm.o]
        have z9:W.cell? ⟨n,9,none⟩=some (.string g.a.cj):=by simp[World.cell?,rm.o]
        have y9:W.frozen? ⟨n,9,none⟩=false:=by simp[World.frozen?,rm.o]
        have z10:W.cell? ⟨n,10,none⟩=some (.bool g.a.cy):=by simp[World.cell?,rm.o]
        have y10:W.frozen? ⟨n,10,none⟩=false:=by simp[World.frozen?,rm.o]
        have z11:W.cell? ⟨n,11,none⟩=some (.string g.a.eE):=by simp[World.cell?,rm.o]
        have y11:W.frozen? ⟨n,11,none⟩=false:=by simp[World.frozen?,rm.o]
        have z12:W.cell? ⟨n,12,none⟩=some (.bool g.a.cM):=by simp[World.cell?,rm.o]
        have y12:W.frozen? ⟨n,12,none⟩=false:=by simp[World.frozen?,rm.o]
        have z13:W.cell? ⟨n,13,none⟩=some (.slice ad2 g.a.dom.length cd2):=by simp[World.cell?,rm.o]
        have y13:W.frozen? ⟨n,13,none⟩=false:=by simp[World.frozen?,rm.o]
        have z14:W.cell? ⟨n,14,none⟩=some (.int .i64 g.count):=by simp[World.cell?,rm.o]
        have y14:W.frozen? ⟨n,14,none⟩=false:=by simp[World.frozen?,rm.o]
        have Yu:=O Mo;have lH:=O jq;have JS:¬m.bq.toList=g.a.bq.toList:=fun e=>Ly (by cases hx:m.bq;cases hy:g.a.bq;rw[hx,hy]at e;simpa[aO]using e);have CX:(m.bq.toList==g.a.bq.toList)=false:=aN.2 JS;have Ws:¬v.ke n:=fun hk=>by have:=(HH.o.dh (fO.o.trans jV.o)).jh hk;omega
        have awL:=bj HB9.o;have acK:sr base W (one n):=by
         rintro k rfl _;exact⟨aD afp.o V9,fun c f e=>by rw[rm.o]at e;cases e⟩
        have AO:n≠B:=by have h1:=o9.o;have h2:=(fO.o.trans jV.o).size;omega
        have PY:n≠w.heap.size:=by have h2:=(jV.o).size;have h3:=afo.o;omega
        have akk:n≠w.heap.size+1:=by have h2:=(jV.o).size;have h3:=afo.o;omega
        have hln:w.heap.size<=n:=by have h2:=(fO.o.trans jV.o).size;omega
        have HNF:=O Ws;have afv:=O acK;have Er:=O AO;have HN0:=O PY;have HN1:=O akk;have Fq:=O hln;clear ED jq Mo TT acK Ly AO PY akk Ws hln
        obtain⟨V,hV⟩:∃V,V=(((((((((W.setCell ⟨n,6,none⟩ (.int .i64 g.a.scheme)).setCell ⟨n,7,none⟩ (.string m.aK)).setCell ⟨n,8,none⟩ (.string m.bq)).setCell ⟨n,9,none⟩ (.string m.cj)).setCell ⟨n,10,none⟩ (.bool m.cy)).setCell ⟨n,11,none⟩ (.string m.eE)).setCell ⟨n,12,none⟩ (.bool true)).setCell ⟨n,13,none⟩ (.slice ad m.dom.length cd)).setCell ⟨n,14,none⟩ (.int .i64 0)):=⟨_,rfl⟩;go_wp2_with fail
        rw[<-hV]
        have Yq:Fr (one n) W V:=by rw[hV];exact((((((((((ae (one n) W).setCell (p:=⟨n,6,none⟩) (fun _=>rfl) _).setCell (p:=⟨n,7,none⟩) (fun _=>rfl) _).setCell (p:=⟨n,8,none⟩) (fun _=>rfl) _).setCell (p:=⟨n,9,none⟩) (fun _=>rfl) _).setCell (p:=⟨n,10,none⟩) (fun _=>rfl) _).setCell (p:=⟨n,11,none⟩) (fun _=>rfl) _).setCell (p:=⟨n,12,none⟩) (fun _=>rfl) _).setCell (p:=⟨n,13,none⟩) (fun _=>rfl) _).setCell (p:=⟨n,14,none⟩) (fun _=>rfl) _)
        have hwV:Fr aR w V:=by rw[hV];exact(((((((((xJ.o.gI (p:=⟨n,6,none⟩) Fq.o _).gI (p:=⟨n,7,none⟩) Fq.o _).gI (p:=⟨n,8,none⟩) Fq.o _).gI (p:=⟨n,9,none⟩) Fq.o _).gI (p:=⟨n,10,none⟩) Fq.o _).gI (p:=⟨n,11,none⟩) Fq.o _).gI (p:=⟨n,12,none⟩) Fq.o _).gI (p:=⟨n,13,none⟩) Fq.o _).gI (p:=⟨n,14,none⟩) Fq.o _)
        have hbV:V.heap[n]?=some (.cells #[.bool g.o.aF,.string g.o.host,.int .i64 g.o.port,.bool g.proxy,.string g.user,.string g.pass,.int .i64 g.a.scheme,.string m.aK,.string m.bq,.string m.cj,.bool m.cy,.string m.eE,.bool true,.slice ad m.dom.length cd,.int .i64 0,.slice ap2 g.paths.length cp2] 114 (0,0)):=by
         have e1:=b_ rm.o 6 (.int .i64 g.a.scheme);have e2:=b_ e1 7 (.string m.aK);have e3:=b_ e2 8 (.string m.bq);have e4:=b_ e3 9 (.string m.cj);have e5:=b_ e4 10 (.bool m.cy);have e6:=b_ e5 11 (.string m.eE);have e7:=b_ e6 12 (.bool true);have e8:=b_ e7 13 (.slice ad m.dom.length cd);have e9:=b_ e8 14 (.int .i64 0);rw[hV,e9];simp
        have iV:=I0.o.fr Yq afv.o (fun i hi e=>HNF.o (by have e':i=n:=e;rw[<-e'];exact hi));have aV:=A0.o.fr Yq (fun e=>Er.o (show B=n from e).symm);have rV:=Yq.keep aki.o (fun e=>HN1.o (show w.heap.size+1=n from e).symm);have hpV:dr base V (.slice ap2 g.paths.length cp2) g.paths:=HPB.o.fr Yq afv.o;have hmV:dr base V (.slice ad m.dom.length cd) m.dom:=HSW.o.fr Yq afv.o;have HIV:=O iV;have HAV:=O aV
        have HRV:=O rV;have Zw:=O hwV;have HBV:=O hbV
        have HPU:=O (show∀U,Fr aR V U->Calls prog 57 #[.pointer (some ⟨v.b,0,none⟩),.agg #[.bool g.o.aF,.string g.o.host,.int .i64 g.o.port,.bool g.proxy,.string g.user,.string g.pass,.int .i64 g.a.scheme,.string m.aK,.string m.bq,.string m.cj,.bool m.cy,.string m.eE,.bool true,.slice ad m.dom.length cd,.int .i64 0,.slice ap2 g.paths.length cp2]] U (IW base U v.b v.gv v.wv (vP p.bF {g with a:=m,count:=0}) p.waits)from fun U hU=>by
         have h:=Qm base U v.b v.gv v.wv p.bF p.waits ⟨g.o,g.proxy,g.user,g.pass,{m with dom:=.slice ad m.dom.length cd},0,.slice ap2 g.paths.length cp2⟩ {g with a:=m,count:=0} (HIV.o.dh hU).oC ⟨rfl,rfl,rfl,rfl,⟨rfl,rfl,rfl,rfl,rfl,rfl,rfl,hmV.dh hU⟩,rfl,hpV.dh hU⟩ ab;unfold aP.cells at h;rw[show m.scheme=g.a.scheme from Yu.o,show m.cM=true from lH.o]at h;exact h)
        have HC:=O (show∀U,Fr (dt v.b v.gv v.wv) V U->(U.cell? ⟨B,off,none⟩=some (.pointer (some ⟨v.b,0,none⟩))/\U.cell? ⟨n,0,none⟩=some (.bool g.o.aF)/\U.cell? ⟨n,1,none⟩=some (.string g.o.host)/\U.cell? ⟨n,2,none⟩=some (.int .i64 g.o.port)/\U.cell? ⟨n,3,none⟩=some (.bool g.proxy)/\U.cell? ⟨n,4,none⟩=some (.string g.user)/\U.cell? ⟨n,5,none⟩=some (.string g.pass)/\U.cell? ⟨n,6,none⟩=some (.int .i64 g.a.scheme)/\U.cell? ⟨n,7,none⟩=some (.string m.aK)/\U.cell? ⟨n,8,none⟩=some (.string m.bq)/\U.cell? ⟨n,9,none⟩=some (.string m.cj)/\U.cell? ⟨n,10,none⟩=some (.bool m.cy)/\U.cell? ⟨n,11,none⟩=some (.string m.eE)/\U.cell? ⟨n,12,none⟩=some (.bool true)/\U.cell? ⟨n,13,none⟩=some (.slice ad m.dom.length cd)/\U.cell? ⟨n,14,none⟩=some (.int .i64 0)/\U.cell? ⟨n,15,none⟩=some (.slice ap2 g.paths.length cp2))from fun U hU=>by
         have j1:=HAV.o.fr hU (fun hb=>C5.o (Or.inl hb));have j2:=hU.keep HBV.o (fun hb=>HNF.o (Or.inl hb));refine⟨j1.cell0,?_,?_,?_,?_,?_,?_,?_,?_,?_,?_,?_,?_,?_,?_,?_,?_⟩<;>simp[World.cell?,j2])
        clear hV Yq hwV hbV iV aV rV hpV hmV
        go_region_held3 (fun U=>Fr (dt v.b v.gv v.wv) V U/\(U.cell? ⟨B,off,none⟩=some (.pointer (some ⟨v.b,0,none⟩))/\U.cell? ⟨n,0,none⟩=some (.bool g.o.aF)/\U.cell? ⟨n,1,none⟩=some (.string g.o.host)/\U.cell? ⟨n,2,none⟩=some (.int .i64 g.o.port)/\U.cell? ⟨n,3,none⟩=some (.bool g.proxy)/\U.cell? ⟨n,4,none⟩=some (.string g.user)/\U.cell? ⟨n,5,none⟩=some (.string g.pass)/\U.cell? ⟨n,6,none⟩=some (.int .i64 g.a.scheme)/\U.cell? ⟨n,7,none⟩=some (.string m.aK)/\U.cell? ⟨n,8,none⟩=some (.string m.bq)/\U.cell? ⟨n,9,none⟩=some (.string m.cj)/\U.cell? ⟨n,10,none⟩=some (.bool m.cy)/\U.cell? ⟨n,11,none⟩=some (.string m.eE)/\U.cell? ⟨n,12,none⟩=some (.bool true)/\U.cell? ⟨n,13,none⟩=some (.slice ad m.dom.length cd)/\U.cell? ⟨n,14,none⟩=some (.int .i64 0)/\U.cell? ⟨n,15,none⟩=some (.slice ap2 g.paths.length cp2))) ((refine(fun hU=>⟨hU,HC.o _ hU⟩) ?_;first|exact aA (ae _ _)|assumption))
         ((first
          |(go_at_call 57;refine(HPU.o _ (aA (ae _ _))).mono ?_;rintro e u6 ⟨rfl,Bk⟩;have FV:Fr (dt v.b v.gv v.wv) V u6:=(aA (ae _ _)).trans (by obtain⟨_,_,_,h,_⟩:=Bk;exact h))))
        have HP:=O (show di base w B cs off v {p with bF:=vP p.bF {g with a:=m,count:=0}} u6 from cZ Zw.o (cZ (aA (ae aR V)) (eQ (HIV.o.dh (aA (ae aR V))) (HAV.o.dh (aA (ae aR V))) C5.o Bk)));have r6:=O (eH (B:=B) HIV.o (FV.mono (fun k _ hk=>Or.inr (Or.inl hk))) HRV.o dH ab);clear Bk FV HC HPU
        go_wp2_with (first|((with_reducible refine cV 30 ?_);refine aE rfl 30 (.tmp 4) (.tmp 75) rfl (w.heap.size+1) #[.int .i64 1,.string ⟨#[]⟩,.int .i64 0] rfl rfl _ bR r6.o (bd _ rfl) rfl ct ?_)|fail)
        refine aS (bu bC _ _ (w.heap.size+1) 30 #[.int .i64 1,.string ⟨#[]⟩,.int .i64 0] (0,0) _ rfl (aX _ (w.heap.size+1) _ _ _ _ r6.o) underlying30 rfl (bd _ rfl)) rfl ?_;unfold eF;rw[HR.o];exact⟨rfl,dw HP.o pj.o o9.o (bU _) r6.o eK ag _⟩
      case' neg =>
       have HR:=O (TT.o (by rw[aN.2 Mo];simp));rw[jq]at q6;clear jq TT;go_wp2_with fail
    all_goals
     go_region_held3 (fun U=>Fr (dt v.b v.gv v.wv) W U/\U.cell? ⟨B,off,none⟩=some (.pointer (some ⟨v.b,0,none⟩))/\U.cell? ⟨u2.heap.size+1,0,none⟩=some (.bool o.aL.o.aF)/\U.cell? ⟨u2.heap.size+1,1,none⟩=some (.string o.aL.o.host)/\U.cell? ⟨u2.heap.size+1,2,none⟩=some (.int .i64 o.aL.o.port)/\U.cell? ⟨w.heap.size,14,none⟩=some (.bool o.proxy)/\U.cell? ⟨u2.heap.size,1,none⟩=some (.string m.aK)) ((refine(fun hU=>⟨hU,UJ.o _ hU⟩) ?_;first|exact aA (ae _ _)|assumption))
      ((first
       |(go_at_call 53;refine(TG.o _ (aA (ae _ _))).mono ?_;rintro e u6 ⟨rfl,Bk⟩;have FV:Fr (dt v.b v.gv v.wv) W u6:=(aA (ae _ _)).trans (by obtain⟨_,_,_,h,_⟩:=Bk;exact h))))
     have HS6:=O (HSW.o.fr FV (fun k hk hl=>I0.o.off k (Or.inl hk) hl));obtain⟨v6,i6,f6,acL,akm⟩:=eQ (I0.o.dh (aA (ae aR W))) (A0.o.dh (aA (ae aR W))) C5.o Bk;have aa6:=iu A0.o akm;have o6:=eH (I0.o.dh (aA (ae aR W))) f6 (show W.drew.heap[w.heap.size]?=_ from aft.o) jo ab;have r6:=eH (I0.o.dh (aA (ae aR W))) f6 (show W.drew.heap[w.heap.size+1]?=_ from aki.o) dH ab
     have q6:=eH (I0.o.dh (aA (ae aR W))) f6 (show W.drew.heap[u2.heap.size]?=_ from WU.o) Bt hn7;have g6:=eH (I0.o.dh (aA (ae aR W))) f6 (show W.drew.heap[u2.heap.size+1]?=_ from afs.o) pT hn9;have I6:=O i6;have F6:=O f6;have FT6:=O acL;have AA6:=O aa6;have O6:=O o6;have R6:=O r6;have Q6:=O q6;have G6:=O g6;clear Bk FV i6 f6 acL aa6 o6 r6 q6 g6 akm UJ TG
     have HC6:=O (show∀U,Fr (dt v6.b v6.gv v6.wv) u6 U->(U.cell? ⟨B,off,none⟩=some (.pointer (some ⟨v6.b,0,none⟩))/\U.cell? ⟨u2.heap.size+1,0,none⟩=some (.bool o.aL.o.aF)/\U.cell? ⟨u2.heap.size+1,1,none⟩=some (.string o.aL.o.host)/\U.cell? ⟨u2.heap.size+1,2,none⟩=some (.int .i64 o.aL.o.port)/\U.cell? ⟨w.heap.size,8,none⟩=some (.string o.aL.path)/\U.cell? ⟨w.heap.size,14,none⟩=some (.bool o.proxy)/\U.cell? ⟨u2.heap.size,0,none⟩=some (.int .i64 m.scheme)/\U.cell? ⟨u2.heap.size,1,none⟩=some (.string m.aK)/\U.cell? ⟨u2.heap.size,2,none⟩=some (.string m.bq)/\U.cell? ⟨u2.heap.size,3,none⟩=some (.string m.cj)/\U.cell? ⟨u2.heap.size,4,none⟩=some (.bool m.cy)/\U.cell? ⟨u2.heap.size,5,none⟩=some (.string m.eE)/\U.cell? ⟨u2.heap.size,6,none⟩=some (.bool m.cM)/\U.cell? ⟨u2.heap.size,7,none⟩=some (.slice ad m.dom.length cd))from fun U hU=>by
      have j1:=AA6.o.fr hU (fun hb=>I6.o.fg AA6.o.eI ag (Or.inl hb));have j2:=hU.keep G6.o (fun hb=>I6.o.fg G6.o pT (Or.inl hb));have j3:=hU.keep Q6.o (fun hb=>I6.o.fg Q6.o Bt (Or.inl hb));have j4:=hU.keep O6.o (fun hb=>I6.o.fg O6.o jo (Or.inl hb));obtain⟨a0,a1,a2,a3,a4,a5,a6,a7,a8,a9,jI,jJ,a12,jH,jK,jr,jY,jZ,j5,kf,a20,a21⟩:=eh j4 lS.o
      refine⟨j1.cell0,?_,?_,?_,a8,jK,?_,?_,?_,?_,?_,?_,?_,?_⟩<;>simp[World.cell?,j2,j3])
     have HAS:=O (show∀U,Fr aR u6 U->Calls prog 58 #[.pointer (some ⟨v6.b,0,none⟩),.agg #[.bool o.aL.o.aF,.string o.aL.o.host,.int .i64 o.aL.o.port,.bool o.proxy,.string o.aL.path,.int .i64 m.scheme,.string m.aK,.string m.bq,.string m.cj,.bool m.cy,.string m.eE,.bool m.cM,.slice ad m.dom.length cd]] U (GZ base U v6.b v6.gv v6.wv (vw p.bF o.aL.o o.proxy m.aK) (Ac p.waits ⟨o.aL.o,o.proxy,o.aL.path,m⟩))from fun U hU=>by
      exact Oa base U v6.b v6.gv v6.wv (vw p.bF o.aL.o o.proxy m.aK) p.waits ⟨o.aL.o,o.proxy,o.aL.path,{m with dom:=.slice ad m.dom.length cd}⟩ ⟨o.aL.o,o.proxy,o.aL.path,m⟩ (I6.o.dh hU).oC ⟨rfl,rfl,rfl,rfl,rfl,rfl,rfl,rfl,rfl,rfl,HS6.o.dh hU⟩ ab)
     go_wp2_with fail
     go_region_held3 (fun U=>Fr (dt v6.b v6.gv v6.wv) u6 U/\U.cell? ⟨B,off,none⟩=some (.pointer (some ⟨v6.b,0,none⟩))/\U.cell? ⟨u2.heap.size+1,0,none⟩=some (.bool o.aL.o.aF)/\U.cell? ⟨u2.heap.size+1,1,none⟩=some (.string o.aL.o.host)/\U.cell? ⟨u2.heap.size+1,2,none⟩=some (.int .i64 o.aL.o.port)/\U.cell? ⟨w.heap.size,8,none⟩=some (.string o.aL.path)/\U.cell? ⟨w.heap.size,14,none⟩=some (.bool o.proxy)/\U.cell? ⟨u2.heap.size,0,none⟩=some (.int .i64 m.scheme)/\U.cell? ⟨u2.heap.size,1,none⟩=some (.string m.aK)/\U.cell? ⟨u2.heap.size,2,none⟩=some (.string m.bq)/\U.cell? ⟨u2.heap.size,3,none⟩=some (.string m.cj)/\U.cell? ⟨u2.heap.size,4,none⟩=some (.bool m.cy)/\U.cell? ⟨u2.heap.size,5,none⟩=some (.string m.eE)/\U.cell? ⟨u2.heap.size,6,none⟩=some (.bool m.cM)/\U.cell? ⟨u2.heap.size,7,none⟩=some (.slice ad m.dom.length cd)) ((refine(fun hU=>⟨hU,HC6.o _ hU⟩) ?_;first|exact aA (ae _ _)|assumption))
      ((first
       |(go_at_call 58;refine(HAS.o _ (aA (ae _ _))).mono ?_;rintro e u8 ⟨rfl,hb8⟩;have akn:Fr (dt v6.b v6.gv v6.wv) u6 u8:=(aA (ae _ _)).trans (by obtain⟨_,_,_,h,_⟩:=hb8;exact h))))
     have Wv:=eQ (I6.o.dh (aA (ae aR u6))) (AA6.o.dh (aA (ae aR u6))) (I6.o.fg AA6.o.eI ag) hb8;have HP:=O (show di base W B cs off v {p with bF:=vw p.bF o.aL.o o.proxy m.aK,waits:=Ac p.waits ⟨o.aL.o,o.proxy,o.aL.path,m⟩} u8 from cZ (aA (ae aR W)) (gK F6.o FT6.o (cZ (aA (ae aR u6)) Wv)));have r8:=O (eH (B:=B) I6.o (akn.mono (fun k _ hk=>Or.inr (Or.inl hk))) R6.o dH ab);clear Wv hb8 akn HC6 HAS
     go_wp2_with (first|((with_reducible refine cV 30 ?_);refine aE rfl 30 (.tmp 4) (.tmp 100) rfl (w.heap.size+1) #[.int .i64 3,.string ⟨#[]⟩,.int .i64 0] rfl rfl _ bR r8.o (bd _ rfl) rfl ct ?_)|fail)
     refine aS (bu bC _ _ (w.heap.size+1) 30 #[.int .i64 3,.string ⟨#[]⟩,.int .i64 0] (0,0) _ rfl (aX _ (w.heap.size+1) _ _ _ _ r8.o) underlying30 rfl (bd _ rfl)) rfl ?_;unfold eF;rw[HR.o];exact⟨rfl,dw (HP.o.after xJ.o) pj.o o9.o (bU _) r8.o eK ag _⟩
  ·have HR:=O (show fJ p (o.dS hs)=(p,rep 2)by
    unfold fJ;rw[show(o.dS hs).text=o.text from rfl,HCH.o];simp only;rw[aq (by rw[<-HM.o];exact hsc)])
   have Bx:=O (ic.o.keep qR.o id);have HP:=O (ml HH.o HA.o (fO.o.trans ic.o));have hsd:decide (0<m.scheme)=false:=bh hsc;have awQ:m.scheme<=0:=ab;have h3c:=TV.o;subst h3c;go_wp2_with (first|((with_reducible refine cV 30 ?_);refine aE rfl 30 (.tmp 4) (.tmp 27) rfl (w.heap.size+1) #[.int .i64 2,.string ⟨#[]⟩,.int .i64 0] rfl rfl _ bR Bx.o (bd _ rfl) rfl ct ?_)|fail)
   refine aS (bu bC _ _ (w.heap.size+1) 30 #[.int .i64 2,.string ⟨#[]⟩,.int .i64 0] (0,0) _ rfl (aX _ (w.heap.size+1) _ _ _ _ Bx.o) underlying30 rfl (bd _ rfl)) rfl ?_;unfold eF;rw[HR.o];exact⟨rfl,dw HP.o pj.o o9.o (bU _) Bx.o eK ag _⟩
