/- Refused. -/
import Derived.Test.YtjdmjbdkdmbaiaaGreatDoorPk40
import Derived.Test.YtjdmjbdkdmbaiaaGreatDoorPk35
set_option maxRecDepth 100000
set_option maxHeartbeats 16000000
set_option linter.unusedSimpArgs false
namespace Go.Proofs.YtjdmjbdkdmbaiaaGreatDoor
open Go.RowKit
theorem nJ.one{base:Nat}{w:World}{m:Option (ai aF)}{e:Ending}{w':World}(h:nJ base w m e w') :
  Fr ay w w'/\∃X:Array Value,e=.returned (.tuple #[.agg X,.bool m.isSome])/\X.size=16/\X.all (·.oneCell')=true/\∀x,m=some x->∃r:ai Value,X=r.cells.toArray/\r.Reads (aS base w') x:=by
 obtain⟨h1,h2⟩:=h;refine⟨h1,?_⟩;cases hu:m with
 |none=>rw[hu]at h2;exact⟨bZ,h2,rfl,by decide +kernel,fun x hx=>by cases hx⟩
 |some g =>
  rw[hu]at h2;obtain⟨r,e1,e2,e3⟩:=h2;exact⟨r.cells.toArray,e1,rfl,all_oneCell_toArray e3,fun x hx=>by cases hx;exact⟨r,rfl,e2⟩⟩
theorem Bh{X:Array Value}(h:X.size=16):(Tryz.prog.info? 49).map (·.size)=some X.size:=by rw[h];kernel_rfl
def GtJ(base:Nat)(x4:World)(gm:Option (ai aF))(n:Nat)(X:Array Value)(W:World):Prop :=
 Fr ay x4 W/\W.heap[n]?=some (.cells X 49 (0,0))/\x4.heap.size<=n/\X.size=16/\∀g,gm=some g->∃r:ai Value,X=r.cells.toArray/\r.Reads (aS base W) g
theorem Fh{base n:Nat}{u:World}{z X:Array Value}{t:TypeId}(hn:u.heap[n]?=some (.cells z t (0,0)))(hs:t≠9)(hb:base<=n):∀vv ss,aS base u vv ss->aS base (u.setRow n X) vv ss:=fun vv ss h =>
 h.fr ((Fr.refl (one n) u).setRow (fun _=>rfl) _) (by
  rintro k rfl _;exact⟨hb,fun c f e=>by rw[hn]at e;cases e;exact hs rfl⟩)
theorem Fi(base:Nat)(w:World)(B off:Nat)(cs:List Value)(v:bB)(p:bH)(o:ei)(hs:List dW)(h:cC base w v p)(ha:cD w B cs off v)(ku:base<=B)(hf:bg w o hs)(hk:jh p) :
  Calls Tryz.prog 55 #[.pointer (some ⟨B,off,none⟩),.agg o.cells.toArray] w (bL base w B cs off v (ee p (o.bF hs))):=by
 have qR:B<w.heap.size:=aj ha.cR;have Bd:¬v.gL B:=h.bX ha.cR (by decide);obtain⟨ah,ch,df⟩:=hf.eJ;obtain⟨w2,bK⟩:∃w2,w2=(w.alloc (.cells o.cells.toArray 33)).alloc (.cells aM 39):=⟨_,rfl⟩;have bq:Fr ay w w2:=by rw[bK];exact((Fr.refl ay w).alloc _).alloc _
 have k1:w2.heap[w.heap.size]?=some (.cells o.cells.toArray 33 (0,0)):=by rw[bK];exact((Fr.refl ay _).alloc _).keep (af _ _) (fun h=>h)
 have k2:w2.heap[w.heap.size+1]?=some (.cells aM 39 (0,0)):=by
  have h:=af (w.alloc (.cells o.cells.toArray 33)) (.cells aM 39);rw[World.size_alloc]at h;rw[bK];exact h
 have qV:w2.heap.size=w.heap.size+2:=by rw[bK];simp
 have PY:=O (show∀U,Fr ay w2 U->U.heap[w.heap.size]?=some (.cells o.cells.toArray 33 (0,0))from fun U hU=>hU.keep k1 (fun h=>h));have xk:=O Bd;have HH:=O h;have HA:=O ha;have HF:=O hf;have fX:=O df;have HK:=O hk;have dk:=O bq;have iw:=O k1;have mX:=O k2;have j6:=O (show base<=w.heap.size by omega);have q_:=O ku;have j8:=O qR;have LQ:=O bK
 obtain⟨a0,a1,a2,a3,a4,a5,a6,a7,a8,a9,eK,eL,a12,eH,eM,eC,eW,eX,eY,fc,a20,a21⟩:=bJ k1 df;rw[bK]at a0 a1 a2 a3 a4 a5 a6 a7 a8 a9 eK eL a12 eH eM eC eW eX eY fc a20 a21;rw[aZ df]at bK a0 a1 a2 a3 a4 a5 a6 a7 a8 a9 eK eL a12 eH eM eC eW eX eY fc a20 a21 ⊢;unfold aM at bK a0 a1 a2 a3 a4 a5 a6 a7 a8 a9 eK eL a12 eH eM eC eW eX eY fc a20 a21;have ka:=O bK;have Ml:=hf.text
 have PA:=O (LC o.text w2 (by omega));clear Ml bK df bq k1 k2 h ha hf Bd hk;go_enter Tryz.func55,Tryz.ntmps55;have Ma:=HK.out.xc;have aaS:=O qV;have mE:=ka.out;go_wp2_with fail
 rw[<-mE];clear a0 a1 a2 a3 a4 a5 a6 a7 a8 a9 eK eL a12 eH eM eC eW eX eY fc a20 a21 mE qV;refine PA.out.mono ?_;rintro e u1 Ee;obtain⟨rF,Ee⟩:=Ee;clear PA;have S':=O rF;cases XI:g_ o.text.data.toList with
 |error n =>
  rw[XI]at Ee;obtain⟨er,rfl,hen⟩:=Ee;obtain⟨et,ev,rfl⟩:=hen.XH;have HR:=O (show ee p (o.bF hs)=(p,rep 7)by unfold ee;rw[show(o.bF hs).text=o.text from rfl,XI]);have vr:=O (rF.keep mX.out (fun h=>h));have HP:=O (aA.same HH.out HA.out (dk.out.trans S'.out));clear XI hen rF
  go_wp2_with (first|((with_reducible refine ag ⟨none,.store 39 _ _,_,_,_,_⟩ ?_);go_must(refine wpList_store_row rfl 39 (.tmp 4) (.tmp 19) rfl (w.heap.size+1) #[.int .i64 7,.string ⟨#[]⟩,.int .i64 0] rfl rfl _ aM vr.out (az _ rfl) rfl (by simp[Value.oneCell']) ?_))|fail)
  refine bodyPost_ret (results_cell_row (by rfl) _ _ (w.heap.size+1) 39 #[.int .i64 7,.string ⟨#[]⟩,.int .i64 0] (0,0) _ rfl (setRow_heap _ (w.heap.size+1) _ _ _ _ vr.out) Tryz.underlying39 rfl (az _ rfl)) rfl ?_;unfold bL;rw[HR.out];exact⟨rfl,aA.row HP.out j6.out j8.out (Nat.le_succ _) vr.out bN (by decide) _⟩
 |ok l =>
  rw[XI]at Ee;obtain⟨vl,rfl,uT⟩:=Ee;have Gb:=LF XI;have hlen:l.length<=1000000:=by have:=(DJ XI).2;omega
  have BE:=O (PT vl l u1 uT.at hlen Gb);obtain⟨al,cl,TJ⟩:=uT.form;subst TJ;have HCH:=O XI;clear XI uT Gb hlen rF;go_wp2_with fail
  refine BE.out.mono ?_;rintro e u2⟨jZ,r,hr,rfl⟩;clear BE;obtain⟨m,hm⟩:∃m,m=d_ l:=⟨_,rfl⟩;rw[<-hm]at hr ⊢;have HM:=O hm;obtain⟨e1,e2,e3,e4,e5,e6,e7,u_⟩:=hr;have BW:aS base u2 r.dom m.dom:=u_.in (by have h:=(JR HCH.out).2.2.2;rw[<-hm]at h;omega);obtain⟨ad,cd,Aw⟩:=BW.rd.form
  have nw:r.cells=[.int .i64 m.scheme,.string m.ar,.string m.aE,.string m.aK,.bool m.aL,.string m.bU,.bool m.aX,.slice ad m.dom.length cd]:=by unfold cQ.cells;rw[e1,e2,e3,e4,e5,e6,e7,Aw]
  rw[Aw]at BW;rw[nw];have ql:=O (S'.out.trans jZ);have apU:=O BW;obtain⟨x3,CU⟩:∃x3,x3=u2.alloc (.cells #[.int .i64 m.scheme,.string m.ar,.string m.aE,.string m.aK,.bool m.aL,.string m.bU,.bool m.aX,.slice ad m.dom.length cd] 47):=⟨_,rfl⟩;have jQ:=af u2 (.cells #[.int .i64 m.scheme,.string m.ar,.string m.aE,.string m.aK,.bool m.aL,.string m.bU,.bool m.aX,.slice ad m.dom.length cd] 47)
  have dv:Fr ay w2 x3:=by rw[CU];exact ql.out.alloc _
  rw[<-CU]at jQ;have zK:=O jQ;have dV:=O dv;have Hk:x3.heap.size=u2.heap.size+1:=by rw[CU];simp
  have Vt:=O CU;have HSZ:=O (show w.heap.size+2<=u2.heap.size from by have h1:=ql.out.size;have h2:=aaS.out;omega);clear u_ BW e1 e2 e3 e4 e5 e6 e7 Aw nw jZ hm jQ dv CU;by_cases hsc:0<m.scheme
  ·obtain⟨a0,a1,a2,a3,a4,a5,a6,a7,a8,a9,eK,eL,a12,eH,eM,eC,eW,eX,eY,fc,a20,a21⟩:=bJ (PY.out x3 dV.out) fX.out;rw[Vt.out]at a0 a1 a2 a3 a4 a5 a6 a7 a8 a9 eK eL a12 eH eM eC eW eX eY fc a20 a21;go_wp2_with fail
   obtain⟨x4,T4⟩:∃x4,x4=(u2.alloc (.cells #[.int .i64 m.scheme,.string m.ar,.string m.aE,.string m.aK,.bool m.aL,.string m.bU,.bool m.aX,.slice ad m.dom.length cd] 47)).alloc (.cells #[.bool o.ab.o.ae,.string o.ab.o.host,.int .i64 o.ab.o.port] 24):=⟨_,rfl⟩;rw[<-T4];rw[<-Vt.out]at T4;have VD:Fr ay x3 x4:=by rw[T4];exact(Fr.refl _ _).alloc _
   have HB9:=O (show x4.heap[u2.heap.size+1]?=some (.cells #[.bool o.ab.o.ae,.string o.ab.o.host,.int .i64 o.ab.o.port] 24 (0,0))from by
    have h:=af x3 (.cells #[.bool o.ab.o.ae,.string o.ab.o.host,.int .i64 o.ab.o.port] 24);rw[Hk]at h;rw[T4];exact h)
   have HB7:=O (VD.keep zK.out (fun h=>h));have fu:=O (dV.out.trans VD);have apW:=O (show Fr ay x3 x4 from VD);have apX:=O (show Fr ay u2 x3 from by rw[Vt.out];exact(Fr.refl _ _).alloc _);clear T4 VD a0 a1 a2 a3 a4 a5 a6 a7 a8 a9 eK eL a12 eH eM eC eW eX eY fc a20 a21 Hk
   have Bg:=O (show∀U,Fr ay x4 U->(U.cell? ⟨B,off,none⟩=some (.pointer (some ⟨v.b,0,none⟩))/\U.cell? ⟨u2.heap.size+1,0,none⟩=some (.bool o.ab.o.ae)/\U.cell? ⟨u2.heap.size+1,1,none⟩=some (.string o.ab.o.host)/\U.cell? ⟨u2.heap.size+1,2,none⟩=some (.int .i64 o.ab.o.port)/\U.cell? ⟨w.heap.size,14,none⟩=some (.bool o.proxy)/\U.cell? ⟨u2.heap.size,1,none⟩=some (.string m.ar))from fun U hU=>by
    have j1:=(HA.out.bd (dk.out.trans fu.out)).bd hU;have j2:=hU.keep HB9.out (fun h=>h);have j3:=hU.keep HB7.out (fun h=>h);obtain⟨a0,a1,a2,a3,a4,a5,a6,a7,a8,a9,eK,eL,a12,eH,eM,eC,eW,eX,eY,fc,a20,a21⟩:=bJ (PY.out U (fu.out.trans hU)) fX.out;refine⟨j1.cell0,?_,?_,?_,eM,?_⟩<;>simp[World.cell?,j2,j3])
   have HGT:=O (show∀U,Fr ay x4 U->Calls Tryz.prog 112 #[.pointer (some ⟨v.b,0,none⟩),.agg #[.bool o.ab.o.ae,.string o.ab.o.host,.int .i64 o.ab.o.port],.bool o.proxy,.string m.ar] U (nJ base U (p.aH.find? (iv o.ab.o o.proxy m.ar)))from fun U hU=>P8 base U v.b v.gv v.wv p.aH p.waits o.ab.o o.proxy m.ar (((HH.out.bd (dk.out.trans fu.out)).bd hU).gK))
   obtain⟨gm,hgm⟩:∃gm,gm=p.aH.find? (iv o.ab.o o.proxy m.ar):=⟨_,rfl⟩;rw[<-hgm]at HGT;have HGM:=O hgm;obtain⟨ok,FQ⟩:∃ok,ok=gm.isSome:=⟨_,rfl⟩;have Gu:=O FQ;have aaT:=O (show base<=x4.heap.size from Nat.le_trans j6.out (dk.out.trans fu.out).size);clear hgm FQ;apply PE (P:=GtJ base x4 gm)
   ·intro hJ;have HJ:=O hJ;clear hJ
    refine wp_region_held_drew (S:=(fun U=>U.cell? ⟨B,off,none⟩=some (.pointer (some ⟨v.b,0,none⟩))/\U.cell? ⟨u2.heap.size+1,0,none⟩=some (.bool o.ab.o.ae)/\U.cell? ⟨u2.heap.size+1,1,none⟩=some (.string o.ab.o.host)/\U.cell? ⟨u2.heap.size+1,2,none⟩=some (.int .i64 o.ab.o.port)/\U.cell? ⟨w.heap.size,14,none⟩=some (.bool o.proxy)/\U.cell? ⟨u2.heap.size,1,none⟩=some (.string m.ar))) (by kernel_rfl) (Bg.out _ (Fr.drew (Fr.refl _ _))) ?_
    intro cW;refine tk 0 ⟨some 33,_,_,_,_,_⟩ (v:=?_) rfl (by rfl) ?hy ?_
    case hy=>(intro w hSw;(try dsimp only at hSw);go_simp<;>with_reducible rfl)
    try simp only[Act.put,sA,sB,sC]
    refine tk 1 ⟨some 34,_,_,_,_,_⟩ (v:=?_) rfl (by rfl) ?hy ?_
    case hy=>(intro w hSw;(try dsimp only at hSw);go_simp<;>with_reducible rfl)
    try simp only[Act.put,sA,sB,sC]
    refine tk 2 ⟨some 35,_,_,_,_,_⟩ (v:=?_) rfl (by rfl) ?hy ?_
    case hy=>(intro w hSw;(try dsimp only at hSw);go_simp<;>with_reducible rfl)
    try simp only[Act.put,sA,sB,sC]
    refine tk 3 ⟨some 36,_,_,_,_,_⟩ (v:=?_) rfl (by rfl) ?hy ?_
    case hy=>(intro w hSw;(try dsimp only at hSw);go_simp<;>with_reducible rfl)
    try simp only[Act.put,sA,sB,sC]
    refine tk 4 ⟨some 37,_,_,_,_,_⟩ (v:=?_) rfl (by rfl) ?hy ?_
    case hy=>(intro w hSw;(try dsimp only at hSw);go_simp<;>with_reducible rfl)
    try simp only[Act.put,sA,sB,sC]
    refine tk 5 ⟨some 38,_,_,_,_,_⟩ (v:=?_) rfl (by rfl) ?hy ?_
    case hy=>(intro w hSw;(try dsimp only at hSw);go_simp<;>with_reducible rfl)
    try simp only[Act.put,sA,sB,sC]
    refine tk 6 ⟨some 39,_,_,_,_,_⟩ (v:=?_) rfl (by rfl) ?hy ?_
    case hy=>(intro w hSw;(try dsimp only at hSw);go_simp<;>with_reducible rfl)
    try simp only[Act.put,sA,sB,sC]
    refine tk 7 ⟨some 40,_,_,_,_,_⟩ (v:=?_) rfl (by rfl) ?hy ?_
    case hy=>(intro w hSw;(try dsimp only at hSw);go_simp<;>with_reducible rfl)
    try simp only[Act.put,sA,sB,sC]
    refine tk 8 ⟨some 41,_,_,_,_,_⟩ (v:=?_) rfl (by rfl) ?hy ?_
    case hy=>(intro w hSw;(try dsimp only at hSw);go_simp<;>with_reducible rfl)
    try simp only[Act.put,sA,sB,sC]
    refine wpAnyH_ready (rs:=[9,13]) (by kernel_rfl) (by simp) ?_;refine AllReadyH.cons rfl (fun K hK=>?_) (AllReadyH.cons rfl (fun K hK=>?_) AllReadyH.nil)
    ·go_simp;refine(HGT.out _ (Fr.drew (Fr.refl _ _))).mono ?_;rintro e u5 EX;obtain⟨gH,X,rfl,EY,EZ,yH⟩:=nJ.one EX;rw[<-Gu.out];have HX:=O (And.intro EY (And.intro EZ yH));have rj:=O ((Fr.drew (Fr.refl ay x4)).trans gH);clear EX EY EZ yH gH;refine hK.out _ _ (Bg.out _ rj.out) ?_;intro CY;clear hK cW K
     try simp only[Act.put,sA,sB,sC]
     refine tk 10 ⟨some 32,_,_,_,_,_⟩ (v:=?_) rfl (by rfl) ?hy ?_
     case hy=>(intro w hSw;(try dsimp only at hSw);go_simp<;>with_reducible rfl)
     try simp only[Act.put,sA,sB,sC]
     refine tk 11 ⟨some 43,_,_,_,_,_⟩ (v:=?_) rfl (by rfl) ?hy ?_
     case hy=>(intro w hSw;(try dsimp only at hSw);go_simp<;>with_reducible rfl)
     try simp only[Act.put,sA,sB,sC]
     refine tk 12 ⟨some 44,_,_,_,_,_⟩ (v:=?_) rfl (by rfl) ?hy ?_
     case hy=>(intro w hSw;(try dsimp only at hSw);go_simp<;>with_reducible rfl)
     try simp only[Act.put,sA,sB,sC]
     refine wpAnyH_ready (rs:=[13]) (by kernel_rfl) (by simp) ?_;refine AllReadyH.cons rfl (fun K hK=>?_) AllReadyH.nil;go_simp;obtain⟨n,hne⟩:∃n,n=u5.heap.size:=⟨_,rfl⟩;obtain⟨w6,tY⟩:∃w6,w6=u5.alloc (.cells bZ 49):=⟨_,rfl⟩;have HZZ:=O (show w6.heap[n]?=some (.cells bZ 49 (0,0))by rw[tY,hne];exact af _ _);have aaV:Fr ay u5 w6:=by rw[tY];exact(Fr.refl _ _).alloc _
     have uE:=O (rj.out.trans aaV);have apZ:=O aaV;have wY:=O (show x4.heap.size<=n by rw[hne];exact rj.out.size);rw[<-tY, <-hne];clear tY hne aaV;refine hK.out _ _ (Bg.out _ uE.out) ?_;intro G_;clear hK CY K
     try simp only[Act.put,sA,sB,sC]
     refine wpAnyH_ready (rs:=[14]) (by kernel_rfl) (by simp) ?_;refine AllReadyH.cons rfl (fun K hK=>?_) AllReadyH.nil;refine aJ rfl 49 (.tmp 10) (.tmp 43) rfl n X rfl rfl 49 bZ HZZ.out (Bh HX.out.1) HX.out.1.symm HX.out.2.1 ?_;obtain⟨W,hW⟩:∃W,W=w6.setRow n X:=⟨_,rfl⟩;have wB:Fr ay x4 W:=by rw[hW];exact jv uE.out wY.out _
     have Vb:W.heap[n]?=some (.cells X 49 (0,0)):=by rw[hW];exact nP HZZ.out
     have hWS:∀vv ss,aS base u5 vv ss->aS base W vv ss:=fun vv ss h=>by rw[hW];exact Fh HZZ.out (by decide) (Nat.le_trans aaT.out wY.out) vv ss (h.bd apZ.out)
     rw[<-hW];refine hK.out _ _ (Bg.out _ wB) ?_;intro PZ;clear hK G_ K
     try simp only[Act.put,sA,sB,sC]
     refine tk 15 ⟨some 8,_,_,_,_,_⟩ (v:=?_) rfl (by rfl) ?hy ?_
     case hy=>(intro w hSw;(try dsimp only at hSw);go_simp<;>with_reducible rfl)
     try simp only[Act.put,sA,sB,sC]
     clear PZ;refine wpAnyH_done (by kernel_rfl) ?_ _;exact HJ.out n X W ⟨wB,Vb,wY.out,HX.out.1,fun g hg=>by
      obtain⟨r,e1,e2⟩:=HX.out.2.2 g hg;exact⟨r,e1,e2.mono (fun v l h=>hWS v l h)⟩⟩
    ·go_simp;obtain⟨n,hne⟩:∃n,n=x4.heap.size:=⟨_,rfl⟩;obtain⟨w6,tY⟩:∃w6,w6=(x4.alloc (.cells bZ 49)).drew:=⟨_,rfl⟩;have hz6:w6.heap[n]?=some (.cells bZ 49 (0,0)):=by rw[tY,hne];exact af x4 _
     have uE:=O (show Fr ay x4 w6 by rw[tY];exact((Fr.refl _ _).alloc _).drew);have wY:=O (show x4.heap.size<=n by omega);have HZ6:=O hz6;rw[<-tY, <-hne];clear tY hne hz6;refine hK.out _ _ (Bg.out _ uE.out) ?_;intro CY;clear hK cW K
     try simp only[Act.put,sA,sB,sC]
     refine wpAnyH_ready (rs:=[9]) (by kernel_rfl) (by simp) ?_;refine AllReadyH.cons rfl (fun K hK=>?_) AllReadyH.nil;go_simp;refine(HGT.out _ uE.out).mono ?_;rintro e u5 EX;obtain⟨gH,X,rfl,EY,EZ,yH⟩:=nJ.one EX;rw[<-Gu.out];have HX:=O (And.intro EY (And.intro EZ yH));have rj:=O (uE.out.trans gH);have HZZ:=O (gH.keep HZ6.out (fun h=>h));clear EX EY EZ yH gH;refine hK.out _ _ (Bg.out _ rj.out) ?_
     intro G_;clear hK CY K
     try simp only[Act.put,sA,sB,sC]
     refine tk 10 ⟨some 32,_,_,_,_,_⟩ (v:=?_) rfl (by rfl) ?hy ?_
     case hy=>(intro w hSw;(try dsimp only at hSw);go_simp<;>with_reducible rfl)
     try simp only[Act.put,sA,sB,sC]
     refine tk 11 ⟨some 43,_,_,_,_,_⟩ (v:=?_) rfl (by rfl) ?hy ?_
     case hy=>(intro w hSw;(try dsimp only at hSw);go_simp<;>with_reducible rfl)
     try simp only[Act.put,sA,sB,sC]
     refine tk 12 ⟨some 44,_,_,_,_,_⟩ (v:=?_) rfl (by rfl) ?hy ?_
     case hy=>(intro w hSw;(try dsimp only at hSw);go_simp<;>with_reducible rfl)
     try simp only[Act.put,sA,sB,sC]
     refine wpAnyH_ready (rs:=[14]) (by kernel_rfl) (by simp) ?_;refine AllReadyH.cons rfl (fun K hK=>?_) AllReadyH.nil;refine aJ rfl 49 (.tmp 10) (.tmp 43) rfl n X rfl rfl 49 bZ HZZ.out (Bh HX.out.1) HX.out.1.symm HX.out.2.1 ?_;obtain⟨W,hW⟩:∃W,W=u5.setRow n X:=⟨_,rfl⟩;have wB:Fr ay x4 W:=by rw[hW];exact jv rj.out wY.out _
     have Vb:W.heap[n]?=some (.cells X 49 (0,0)):=by rw[hW];exact nP HZZ.out
     have hWS:∀vv ss,aS base u5 vv ss->aS base W vv ss:=fun vv ss h=>by rw[hW];exact Fh HZZ.out (by decide) (Nat.le_trans aaT.out wY.out) vv ss (h)
     rw[<-hW];refine hK.out _ _ (Bg.out _ wB) ?_;intro PZ;clear hK G_ K
     try simp only[Act.put,sA,sB,sC]
     refine tk 15 ⟨some 8,_,_,_,_,_⟩ (v:=?_) rfl (by rfl) ?hy ?_
     case hy=>(intro w hSw;(try dsimp only at hSw);go_simp<;>with_reducible rfl)
     try simp only[Act.put,sA,sB,sC]
     clear PZ;refine wpAnyH_done (by kernel_rfl) ?_ _;exact HJ.out n X W ⟨wB,Vb,wY.out,HX.out.1,fun g hg=>by
      obtain⟨r,e1,e2⟩:=HX.out.2.2 g hg;exact⟨r,e1,e2.mono (fun v l h=>hWS v l h)⟩⟩
   ·intro n X W hj;obtain⟨wB,Vb,PF,Zk,EW⟩:=hj;have HW:=O (fu.out.trans wB);have rf:=O (dk.out.trans HW.out);have I0:=O (HH.out.bd rf.out);have A0:=O (HA.out.bd rf.out);have aaW:=O (wB.keep HB9.out (fun h=>h));have Qd:=O (wB.keep HB7.out (fun h=>h));have aaX:=O (HW.out.keep iw.out (fun h=>h));have aiC:=O (HW.out.keep mX.out (fun h=>h))
    have XJ:=O (apU.out.bd (show Fr ay u2 W from apX.out.trans (apW.out.trans wB)));have ap1:=O Vb;have U6:=O EW;have hn7:u2.heap.size≠B:=by have:=HSZ.out;omega
    have hn9:u2.heap.size+1≠B:=by have:=HSZ.out;omega
    clear wB Vb EW Bg HGT
    have N0:=O (show∀U,Fr (aY v.b v.gv v.wv) W U->(U.cell? ⟨B,off,none⟩=some (.pointer (some ⟨v.b,0,none⟩))/\U.cell? ⟨u2.heap.size+1,0,none⟩=some (.bool o.ab.o.ae)/\U.cell? ⟨u2.heap.size+1,1,none⟩=some (.string o.ab.o.host)/\U.cell? ⟨u2.heap.size+1,2,none⟩=some (.int .i64 o.ab.o.port)/\U.cell? ⟨w.heap.size,14,none⟩=some (.bool o.proxy)/\U.cell? ⟨u2.heap.size,1,none⟩=some (.string m.ar))from fun U hU=>by
     have j1:=A0.out.fr hU (fun hb=>xk.out (Or.inl hb));have j2:=hU.keep aaW.out (fun hb=>I0.out.bX aaW.out kx (Or.inl hb));have j3:=hU.keep Qd.out (fun hb=>I0.out.bX Qd.out vo (Or.inl hb));have j4:=hU.keep aaX.out (fun hb=>I0.out.bX aaX.out aO (Or.inl hb));obtain⟨a0,a1,a2,a3,a4,a5,a6,a7,a8,a9,eK,eL,a12,eH,eM,eC,eW,eX,eY,fc,a20,a21⟩:=bJ j4 fX.out
     refine⟨j1.cell0,?_,?_,?_,eM,?_⟩<;>simp[World.cell?,j2,j3])
    have MZ:=O (show∀U,Fr ay W U->Calls Tryz.prog 111 #[.pointer (some ⟨v.b,0,none⟩),.agg #[.bool o.ab.o.ae,.string o.ab.o.host,.int .i64 o.ab.o.port],.bool o.proxy,.string m.ar] U (qe base U v.b v.gv v.wv p.aH p.waits (iv o.ab.o o.proxy m.ar))from fun U hU=>tX base U v.b v.gv v.wv p.aH p.waits o.ab.o o.proxy m.ar (I0.out.bd hU).gK);cases Fj:gm
    case' none =>
     have lZ:ok=false:=by rw[Gu.out,Fj];rfl
     have HR:=O (show ee p (o.bF hs)=({p with aH:=oX p.aH o.ab.o o.proxy m.ar,waits:=re p.waits ⟨o.ab.o,o.proxy,o.ab.path,m⟩},rep 3)by
      unfold ee;rw[show(o.bF hs).text=o.text from rfl,HCH.out];simp only;rw[<-HM.out,if_pos hsc];rw[show UQ p.aH (o.bF hs).o (o.bF hs).proxy m.ar=none from by rw[<-Fj];exact HGM.out.symm];rfl)
     rw[lZ];clear Fj Gu lZ;go_wp2_with fail
    case' some g =>
     have lZ:ok=true:=by rw[Gu.out,Fj];rfl
     obtain⟨r2,S_,kR⟩:=U6.out g Fj;obtain⟨p1,p2,p3,p4,p5,p6,p7⟩:=kR;have HPA:=O p7;obtain⟨e1,e2,e3,e4,e5,e6,e7,AP⟩:=p5;obtain⟨ad2,cd2,aiD⟩:=AP.rd.form;obtain⟨XK,XL,aaY⟩:=p7.rd.form;have HPB:=O (show aS base W (.slice XK g.paths.length XL) g.paths from by rw[<-aaY];exact p7)
     have uF:X= #[.bool g.o.ae,.string g.o.host,.int .i64 g.o.port,.bool g.proxy,.string g.user,.string g.pass,.int .i64 g.a.scheme,.string g.a.ar,.string g.a.aE,.string g.a.aK,.bool g.a.aL,.string g.a.bU,.bool g.a.aX,.slice ad2 g.a.dom.length cd2,.int .i64 g.count,.slice XK g.paths.length XL]:=by
      rw[S_];unfold ai.cells;rw[p1,p2,p3,p4,p6,e1,e2,e3,e4,e5,e6,e7,aiD,aaY]
     have yR:=Qd.out;have Mb:=ap1.out;rw[uF]at Mb;have q0:W.cell? ⟨u2.heap.size,0,none⟩=some (.int .i64 m.scheme):=by simp[World.cell?,yR]
     have q2:W.cell? ⟨u2.heap.size,2,none⟩=some (.string m.aE):=by simp[World.cell?,yR]
     have q6:W.cell? ⟨u2.heap.size,6,none⟩=some (.bool m.aX):=by simp[World.cell?,yR]
     have t6:W.cell? ⟨n,6,none⟩=some (.int .i64 g.a.scheme):=by simp[World.cell?,Mb]
     have t8:W.cell? ⟨n,8,none⟩=some (.string g.a.aE):=by simp[World.cell?,Mb]
     have lH:=O Mb;have M_:=O (show(m.aX&&(m.scheme==g.a.scheme&&m.aE.toList !=g.a.aE.toList))=false->ee p (o.bF hs)=({p with aH:=oX p.aH o.ab.o o.proxy m.ar,waits:=re p.waits ⟨o.ab.o,o.proxy,o.ab.path,m⟩},rep 3)from fun fR=>by
      unfold ee;rw[show(o.bF hs).text=o.text from rfl,HCH.out];simp only;rw[<-HM.out,if_pos hsc];rw[show UQ p.aH (o.bF hs).o (o.bF hs).proxy m.ar=some g from by rw[<-Fj];exact HGM.out.symm];unfold yE;simp only;rw[fR];rfl)
     have HGL:=O (show UQ p.aH (o.bF hs).o (o.bF hs).proxy m.ar=some g from by rw[<-Fj];exact HGM.out.symm);rw[lZ];clear Fj Gu lZ S_ p1 p2 p3 p4 p6 p7 e1 e2 e3 e4 e5 e6 e7 AP aiD aaY uF yR Mb Zk;cases fR:m.aX
     case' false =>
      have HR:=O (M_.out (by rw[fR];rfl));rw[fR]at q6;clear fR M_;go_wp2_with fail
     case' true =>
      by_cases Fk:m.scheme=g.a.scheme
      case' pos =>
       by_cases Cc:m.aE=g.a.aE
       case' pos =>
        have HR:=O (M_.out (by rw[Cc];simp));rw[fR]at q6;rw[Fk]at q0;rw[Cc]at q2;clear fR M_;have Wy:=O Cc;have Tf:=O Fk;clear Cc Fk;go_wp2_with fail
       case neg =>
        have HR:=O (show ee p (o.bF hs)=({p with aH:=oy p.aH {g with a:=m,count:=0}},rep 1)by
         unfold ee;rw[show(o.bF hs).text=o.text from rfl,HCH.out];simp only;rw[<-HM.out,if_pos hsc];rw[HGL.out];unfold yE;simp only;rw[show(m.aX&&(m.scheme==g.a.scheme&&m.aE.toList !=g.a.aE.toList))=true from by rw[fR,Fk];simp;exact fun e=>Cc (toList_inj.1 e)];rfl)
        have yR:=Qd.out;rw[Fk]at yR q0;rw[fR]at yR q6;have q1b:W.cell? ⟨u2.heap.size,1,none⟩=some (.string m.ar):=by simp[World.cell?,yR]
        have q3b:W.cell? ⟨u2.heap.size,3,none⟩=some (.string m.aK):=by simp[World.cell?,yR]
        have q4b:W.cell? ⟨u2.heap.size,4,none⟩=some (.bool m.aL):=by simp[World.cell?,yR]
        have q5b:W.cell? ⟨u2.heap.size,5,none⟩=some (.string m.bU):=by simp[World.cell?,yR]
        have q7b:W.cell? ⟨u2.heap.size,7,none⟩=some (.slice ad m.dom.length cd):=by simp[World.cell?,yR]
        have z6:W.cell? ⟨n,6,none⟩=some (.int .i64 g.a.scheme):=by simp[World.cell?,lH.out]
        have y6:W.frozen? ⟨n,6,none⟩=false:=by simp[World.frozen?,lH.out]
        have z7:W.cell? ⟨n,7,none⟩=some (.string g.a.ar):=by simp[World.cell?,lH.out]
        have y7:W.frozen? ⟨n,7,none⟩=false:=by simp[World.frozen?,lH.out]
        have z8:W.cell? ⟨n,8,none⟩=some (.string g.a.aE):=by simp[World.cell?,lH.out]
        have y8:W.frozen? ⟨n,8,none⟩=false:=by simp[World.frozen?,lH.out]
        have z9:W.cell? ⟨n,9,none⟩=some (.string g.a.aK):=by simp[World.cell?,lH.out]
        have y9:W.frozen? ⟨n,9,none⟩=false:=by simp[World.frozen?,lH.out]
        have z10:W.cell? ⟨n,10,none⟩=some (.bool g.a.aL):=by simp[World.cell?,lH.out]
        have y10:W.frozen? ⟨n,10,none⟩=false:=by simp[World.frozen?,lH.out]
        have z11:W.cell? ⟨n,11,none⟩=some (.string g.a.bU):=by simp[World.cell?,lH.out]
        have y11:W.frozen? ⟨n,11,none⟩=false:=by simp[World.frozen?,lH.out]
        have z12:W.cell? ⟨n,12,none⟩=some (.bool g.a.aX):=by simp[World.cell?,lH.out]
        have y12:W.frozen? ⟨n,12,none⟩=false:=by simp[World.frozen?,lH.out]
        have z13:W.cell? ⟨n,13,none⟩=some (.slice ad2 g.a.dom.length cd2):=by simp[World.cell?,lH.out]
        have Mm:W.frozen? ⟨n,13,none⟩=false:=by simp[World.frozen?,lH.out]
        have z14:W.cell? ⟨n,14,none⟩=some (.int .i64 g.count):=by simp[World.cell?,lH.out]
        have y14:W.frozen? ⟨n,14,none⟩=false:=by simp[World.frozen?,lH.out]
        have Tf:=O Fk;have jn:=O fR;have UA:¬m.aE.toList=g.a.aE.toList:=fun e=>Cc (by cases hx:m.aE;cases hy:g.a.aE;rw[hx,hy]at e;simpa[ByteArray.toList_eq]using e);have Jp:(m.aE.toList==g.a.aE.toList)=false:=beq_eq_false_iff_ne.2 UA;have Xw:¬v.gL n:=fun hk=>by have:=(HH.out.bd (dk.out.trans fu.out)).fO hk;omega
        have axI:=aj HB9.out;have XM:lT base W (one n):=by
         rintro k rfl _;exact⟨Nat.le_trans aaT.out PF,fun c f e=>by rw[lH.out]at e;cases e⟩
        have wJ:n≠B:=by have h1:=j8.out;have h2:=(dk.out.trans fu.out).size;omega
        have Jd:n≠w.heap.size:=by have h2:=(fu.out).size;have h3:=aaS.out;omega
        have aiE:n≠w.heap.size+1:=by have h2:=(fu.out).size;have h3:=aaS.out;omega
        have hln:w.heap.size<=n:=by have h2:=(dk.out.trans fu.out).size;omega
        have HNF:=O Xw;have aaZ:=O XM;have HNB:=O wJ;have HN0:=O Jd;have HN1:=O aiE;have FU:=O hln;clear yR fR Fk M_ XM Cc wJ Jd aiE Xw hln
        obtain⟨V,hV⟩:∃V,V=(((((((((W.setCell ⟨n,6,none⟩ (.int .i64 g.a.scheme)).setCell ⟨n,7,none⟩ (.string m.ar)).setCell ⟨n,8,none⟩ (.string m.aE)).setCell ⟨n,9,none⟩ (.string m.aK)).setCell ⟨n,10,none⟩ (.bool m.aL)).setCell ⟨n,11,none⟩ (.string m.bU)).setCell ⟨n,12,none⟩ (.bool true)).setCell ⟨n,13,none⟩ (.slice ad m.dom.length cd)).setCell ⟨n,14,none⟩ (.int .i64 0)):=⟨_,rfl⟩;go_wp2_with fail
        rw[<-hV]
        have Tb:Fr (one n) W V:=by rw[hV];exact((((((((((Fr.refl (one n) W).setCell (p:=⟨n,6,none⟩) (fun _=>rfl) _).setCell (p:=⟨n,7,none⟩) (fun _=>rfl) _).setCell (p:=⟨n,8,none⟩) (fun _=>rfl) _).setCell (p:=⟨n,9,none⟩) (fun _=>rfl) _).setCell (p:=⟨n,10,none⟩) (fun _=>rfl) _).setCell (p:=⟨n,11,none⟩) (fun _=>rfl) _).setCell (p:=⟨n,12,none⟩) (fun _=>rfl) _).setCell (p:=⟨n,13,none⟩) (fun _=>rfl) _).setCell (p:=⟨n,14,none⟩) (fun _=>rfl) _)
        have hwV:Fr ay w V:=by rw[hV];exact(((((((((rf.out.dI (p:=⟨n,6,none⟩) FU.out _).dI (p:=⟨n,7,none⟩) FU.out _).dI (p:=⟨n,8,none⟩) FU.out _).dI (p:=⟨n,9,none⟩) FU.out _).dI (p:=⟨n,10,none⟩) FU.out _).dI (p:=⟨n,11,none⟩) FU.out _).dI (p:=⟨n,12,none⟩) FU.out _).dI (p:=⟨n,13,none⟩) FU.out _).dI (p:=⟨n,14,none⟩) FU.out _)
        have Z6:V.heap[n]?=some (.cells #[.bool g.o.ae,.string g.o.host,.int .i64 g.o.port,.bool g.proxy,.string g.user,.string g.pass,.int .i64 g.a.scheme,.string m.ar,.string m.aE,.string m.aK,.bool m.aL,.string m.bU,.bool true,.slice ad m.dom.length cd,.int .i64 0,.slice XK g.paths.length XL] 49 (0,0)):=by
         have e1:=aP lH.out 6 (.int .i64 g.a.scheme);have e2:=aP e1 7 (.string m.ar);have e3:=aP e2 8 (.string m.aE);have e4:=aP e3 9 (.string m.aK);have e5:=aP e4 10 (.bool m.aL);have e6:=aP e5 11 (.string m.bU);have e7:=aP e6 12 (.bool true);have e8:=aP e7 13 (.slice ad m.dom.length cd);have e9:=aP e8 14 (.int .i64 0);rw[hV,e9];simp
        have iV:=I0.out.fr Tb aaZ.out (fun i hi e=>HNF.out (by have e':i=n:=e;rw[<-e'];exact hi));have aV:=A0.out.fr Tb (fun e=>HNB.out (show B=n from e).symm);have rV:=Tb.keep aiC.out (fun e=>HN1.out (show w.heap.size+1=n from e).symm);have hpV:aS base V (.slice XK g.paths.length XL) g.paths:=HPB.out.fr Tb aaZ.out;have hmV:aS base V (.slice ad m.dom.length cd) m.dom:=XJ.out.fr Tb aaZ.out;have HIV:=O iV
        have HAV:=O aV;have HRV:=O rV;have Ui:=O hwV;have HBV:=O Z6
        have HPU:=O (show∀U,Fr ay V U->Calls Tryz.prog 113 #[.pointer (some ⟨v.b,0,none⟩),.agg #[.bool g.o.ae,.string g.o.host,.int .i64 g.o.port,.bool g.proxy,.string g.user,.string g.pass,.int .i64 g.a.scheme,.string m.ar,.string m.aE,.string m.aK,.bool m.aL,.string m.bU,.bool true,.slice ad m.dom.length cd,.int .i64 0,.slice XK g.paths.length XL]] U (B_ base U v.b v.gv v.wv (oy p.aH {g with a:=m,count:=0}) p.waits)from fun U hU=>by
         have h:=JI base U v.b v.gv v.wv p.aH p.waits ⟨g.o,g.proxy,g.user,g.pass,{m with dom:=.slice ad m.dom.length cd},0,.slice XK g.paths.length XL⟩ {g with a:=m,count:=0} (HIV.out.bd hU).gK ⟨rfl,rfl,rfl,rfl,⟨rfl,rfl,rfl,rfl,rfl,rfl,rfl,hmV.bd hU⟩,rfl,hpV.bd hU⟩ (by omega);unfold ai.cells at h;rw[show m.scheme=g.a.scheme from Tf.out,show m.aX=true from jn.out]at h;exact h)
        have HC:=O (show∀U,Fr (aY v.b v.gv v.wv) V U->(U.cell? ⟨B,off,none⟩=some (.pointer (some ⟨v.b,0,none⟩))/\U.cell? ⟨n,0,none⟩=some (.bool g.o.ae)/\U.cell? ⟨n,1,none⟩=some (.string g.o.host)/\U.cell? ⟨n,2,none⟩=some (.int .i64 g.o.port)/\U.cell? ⟨n,3,none⟩=some (.bool g.proxy)/\U.cell? ⟨n,4,none⟩=some (.string g.user)/\U.cell? ⟨n,5,none⟩=some (.string g.pass)/\U.cell? ⟨n,6,none⟩=some (.int .i64 g.a.scheme)/\U.cell? ⟨n,7,none⟩=some (.string m.ar)/\U.cell? ⟨n,8,none⟩=some (.string m.aE)/\U.cell? ⟨n,9,none⟩=some (.string m.aK)/\U.cell? ⟨n,10,none⟩=some (.bool m.aL)/\U.cell? ⟨n,11,none⟩=some (.string m.bU)/\U.cell? ⟨n,12,none⟩=some (.bool true)/\U.cell? ⟨n,13,none⟩=some (.slice ad m.dom.length cd)/\U.cell? ⟨n,14,none⟩=some (.int .i64 0)/\U.cell? ⟨n,15,none⟩=some (.slice XK g.paths.length XL))from fun U hU=>by
         have j1:=HAV.out.fr hU (fun hb=>xk.out (Or.inl hb));have j2:=hU.keep HBV.out (fun hb=>HNF.out (Or.inl hb));refine⟨j1.cell0,?_,?_,?_,?_,?_,?_,?_,?_,?_,?_,?_,?_,?_,?_,?_,?_⟩<;>simp[World.cell?,j2])
        clear hV Tb hwV Z6 iV aV rV hpV hmV
        go_region_held3 (fun U=>Fr (aY v.b v.gv v.wv) V U/\(U.cell? ⟨B,off,none⟩=some (.pointer (some ⟨v.b,0,none⟩))/\U.cell? ⟨n,0,none⟩=some (.bool g.o.ae)/\U.cell? ⟨n,1,none⟩=some (.string g.o.host)/\U.cell? ⟨n,2,none⟩=some (.int .i64 g.o.port)/\U.cell? ⟨n,3,none⟩=some (.bool g.proxy)/\U.cell? ⟨n,4,none⟩=some (.string g.user)/\U.cell? ⟨n,5,none⟩=some (.string g.pass)/\U.cell? ⟨n,6,none⟩=some (.int .i64 g.a.scheme)/\U.cell? ⟨n,7,none⟩=some (.string m.ar)/\U.cell? ⟨n,8,none⟩=some (.string m.aE)/\U.cell? ⟨n,9,none⟩=some (.string m.aK)/\U.cell? ⟨n,10,none⟩=some (.bool m.aL)/\U.cell? ⟨n,11,none⟩=some (.string m.bU)/\U.cell? ⟨n,12,none⟩=some (.bool true)/\U.cell? ⟨n,13,none⟩=some (.slice ad m.dom.length cd)/\U.cell? ⟨n,14,none⟩=some (.int .i64 0)/\U.cell? ⟨n,15,none⟩=some (.slice XK g.paths.length XL))) ((refine(fun hU=>⟨hU,HC.out _ hU⟩) ?_;first|exact Fr.drew (Fr.refl _ _)|assumption))
         ((first
          |(go_at_call 113;refine(HPU.out _ (Fr.drew (Fr.refl _ _))).mono ?_;rintro e u6 ⟨rfl,wP⟩;have Fl:Fr (aY v.b v.gv v.wv) V u6:=(Fr.drew (Fr.refl _ _)).trans (by obtain⟨_,_,_,h,_⟩:=wP;exact h))))
        have HP:=O (show aA base w B cs off v {p with aH:=oy p.aH {g with a:=m,count:=0}} u6 from aA.after Ui.out (aA.after (Fr.drew (Fr.refl ay V)) (aA.gK (HIV.out.bd (Fr.drew (Fr.refl ay V))) (HAV.out.bd (Fr.drew (Fr.refl ay V))) xk.out wP)));have r6:=O (bM (B:=B) HIV.out (Fl.mono (fun k _ hk=>Or.inr (Or.inl hk))) HRV.out aD (by omega));clear wP Fl HC HPU
        go_wp2_with (first|((with_reducible refine ag ⟨none,.store 39 _ _,_,_,_,_⟩ ?_);go_must(refine wpList_store_row rfl 39 (.tmp 4) (.tmp 75) rfl (w.heap.size+1) #[.int .i64 1,.string ⟨#[]⟩,.int .i64 0] rfl rfl _ aM r6.out (az _ rfl) rfl (by simp[Value.oneCell']) ?_))|fail)
        refine bodyPost_ret (results_cell_row (by rfl) _ _ (w.heap.size+1) 39 #[.int .i64 1,.string ⟨#[]⟩,.int .i64 0] (0,0) _ rfl (setRow_heap _ (w.heap.size+1) _ _ _ _ r6.out) Tryz.underlying39 rfl (az _ rfl)) rfl ?_;unfold bL;rw[HR.out];exact⟨rfl,aA.row HP.out j6.out j8.out (Nat.le_succ _) r6.out bN (by decide) _⟩
      case' neg =>
       have HR:=O (M_.out (by rw[beq_eq_false_iff_ne.2 Fk];simp));rw[fR]at q6;clear fR M_;go_wp2_with fail
    all_goals
     go_region_held3 (fun U=>Fr (aY v.b v.gv v.wv) W U/\U.cell? ⟨B,off,none⟩=some (.pointer (some ⟨v.b,0,none⟩))/\U.cell? ⟨u2.heap.size+1,0,none⟩=some (.bool o.ab.o.ae)/\U.cell? ⟨u2.heap.size+1,1,none⟩=some (.string o.ab.o.host)/\U.cell? ⟨u2.heap.size+1,2,none⟩=some (.int .i64 o.ab.o.port)/\U.cell? ⟨w.heap.size,14,none⟩=some (.bool o.proxy)/\U.cell? ⟨u2.heap.size,1,none⟩=some (.string m.ar)) ((refine(fun hU=>⟨hU,N0.out _ hU⟩) ?_;first|exact Fr.drew (Fr.refl _ _)|assumption))
      ((first
       |(go_at_call 111;refine(MZ.out _ (Fr.drew (Fr.refl _ _))).mono ?_;rintro e u6 ⟨rfl,wP⟩;have Fl:Fr (aY v.b v.gv v.wv) W u6:=(Fr.drew (Fr.refl _ _)).trans (by obtain⟨_,_,_,h,_⟩:=wP;exact h))))
     have HS6:=O (XJ.out.fr Fl (fun k hk hl=>I0.out.off k (Or.inl hk) hl));obtain⟨v6,i6,f6,XN,aiG⟩:=aA.gK (I0.out.bd (Fr.drew (Fr.refl ay W))) (A0.out.bd (Fr.drew (Fr.refl ay W))) xk.out wP;have aa6:=cD.after A0.out aiG;have o6:=bM (I0.out.bd (Fr.drew (Fr.refl ay W))) f6 (show W.drew.heap[w.heap.size]?=_ from aaX.out) aO (by omega)
     have r6:=bM (I0.out.bd (Fr.drew (Fr.refl ay W))) f6 (show W.drew.heap[w.heap.size+1]?=_ from aiC.out) aD (by omega);have q6:=bM (I0.out.bd (Fr.drew (Fr.refl ay W))) f6 (show W.drew.heap[u2.heap.size]?=_ from Qd.out) vo hn7;have g6:=bM (I0.out.bd (Fr.drew (Fr.refl ay W))) f6 (show W.drew.heap[u2.heap.size+1]?=_ from aaW.out) kx hn9;have I6:=O i6;have F6:=O f6;have FT6:=O XN;have AA6:=O aa6
     have O6:=O o6;have R6:=O r6;have Q6:=O q6;have G6:=O g6;clear wP Fl i6 f6 XN aa6 o6 r6 q6 g6 aiG N0 MZ
     have HC6:=O (show∀U,Fr (aY v6.b v6.gv v6.wv) u6 U->(U.cell? ⟨B,off,none⟩=some (.pointer (some ⟨v6.b,0,none⟩))/\U.cell? ⟨u2.heap.size+1,0,none⟩=some (.bool o.ab.o.ae)/\U.cell? ⟨u2.heap.size+1,1,none⟩=some (.string o.ab.o.host)/\U.cell? ⟨u2.heap.size+1,2,none⟩=some (.int .i64 o.ab.o.port)/\U.cell? ⟨w.heap.size,8,none⟩=some (.string o.ab.path)/\U.cell? ⟨w.heap.size,14,none⟩=some (.bool o.proxy)/\U.cell? ⟨u2.heap.size,0,none⟩=some (.int .i64 m.scheme)/\U.cell? ⟨u2.heap.size,1,none⟩=some (.string m.ar)/\U.cell? ⟨u2.heap.size,2,none⟩=some (.string m.aE)/\U.cell? ⟨u2.heap.size,3,none⟩=some (.string m.aK)/\U.cell? ⟨u2.heap.size,4,none⟩=some (.bool m.aL)/\U.cell? ⟨u2.heap.size,5,none⟩=some (.string m.bU)/\U.cell? ⟨u2.heap.size,6,none⟩=some (.bool m.aX)/\U.cell? ⟨u2.heap.size,7,none⟩=some (.slice ad m.dom.length cd))from fun U hU=>by
      have j1:=AA6.out.fr hU (fun hb=>I6.out.bX AA6.out.cR (by decide) (Or.inl hb));have j2:=hU.keep G6.out (fun hb=>I6.out.bX G6.out kx (Or.inl hb));have j3:=hU.keep Q6.out (fun hb=>I6.out.bX Q6.out vo (Or.inl hb));have j4:=hU.keep O6.out (fun hb=>I6.out.bX O6.out aO (Or.inl hb));obtain⟨a0,a1,a2,a3,a4,a5,a6,a7,a8,a9,eK,eL,a12,eH,eM,eC,eW,eX,eY,fc,a20,a21⟩:=bJ j4 fX.out
      refine⟨j1.cell0,?_,?_,?_,a8,eM,?_,?_,?_,?_,?_,?_,?_,?_⟩<;>simp[World.cell?,j2,j3])
     have HAS:=O (show∀U,Fr ay u6 U->Calls Tryz.prog 114 #[.pointer (some ⟨v6.b,0,none⟩),.agg #[.bool o.ab.o.ae,.string o.ab.o.host,.int .i64 o.ab.o.port,.bool o.proxy,.string o.ab.path,.int .i64 m.scheme,.string m.ar,.string m.aE,.string m.aK,.bool m.aL,.string m.bU,.bool m.aX,.slice ad m.dom.length cd]] U (AO base U v6.b v6.gv v6.wv (oX p.aH o.ab.o o.proxy m.ar) (re p.waits ⟨o.ab.o,o.proxy,o.ab.path,m⟩))from fun U hU=>by
      exact GV base U v6.b v6.gv v6.wv (oX p.aH o.ab.o o.proxy m.ar) p.waits ⟨o.ab.o,o.proxy,o.ab.path,{m with dom:=.slice ad m.dom.length cd}⟩ ⟨o.ab.o,o.proxy,o.ab.path,m⟩ (I6.out.bd hU).gK ⟨rfl,rfl,rfl,rfl,rfl,rfl,rfl,rfl,rfl,rfl,HS6.out.bd hU⟩ (by omega))
     go_wp2_with fail
     go_region_held3 (fun U=>Fr (aY v6.b v6.gv v6.wv) u6 U/\U.cell? ⟨B,off,none⟩=some (.pointer (some ⟨v6.b,0,none⟩))/\U.cell? ⟨u2.heap.size+1,0,none⟩=some (.bool o.ab.o.ae)/\U.cell? ⟨u2.heap.size+1,1,none⟩=some (.string o.ab.o.host)/\U.cell? ⟨u2.heap.size+1,2,none⟩=some (.int .i64 o.ab.o.port)/\U.cell? ⟨w.heap.size,8,none⟩=some (.string o.ab.path)/\U.cell? ⟨w.heap.size,14,none⟩=some (.bool o.proxy)/\U.cell? ⟨u2.heap.size,0,none⟩=some (.int .i64 m.scheme)/\U.cell? ⟨u2.heap.size,1,none⟩=some (.string m.ar)/\U.cell? ⟨u2.heap.size,2,none⟩=some (.string m.aE)/\U.cell? ⟨u2.heap.size,3,none⟩=some (.string m.aK)/\U.cell? ⟨u2.heap.size,4,none⟩=some (.bool m.aL)/\U.cell? ⟨u2.heap.size,5,none⟩=some (.string m.bU)/\U.cell? ⟨u2.heap.size,6,none⟩=some (.bool m.aX)/\U.cell? ⟨u2.heap.size,7,none⟩=some (.slice ad m.dom.length cd)) ((refine(fun hU=>⟨hU,HC6.out _ hU⟩) ?_;first|exact Fr.drew (Fr.refl _ _)|assumption))
      ((first
       |(go_at_call 114;refine(HAS.out _ (Fr.drew (Fr.refl _ _))).mono ?_;rintro e u8 ⟨rfl,hb8⟩;have aiH:Fr (aY v6.b v6.gv v6.wv) u6 u8:=(Fr.drew (Fr.refl _ _)).trans (by obtain⟨_,_,_,h,_⟩:=hb8;exact h))))
     have P4:=aA.gK (I6.out.bd (Fr.drew (Fr.refl ay u6))) (AA6.out.bd (Fr.drew (Fr.refl ay u6))) (I6.out.bX AA6.out.cR (by decide)) hb8;have HP:=O (show aA base W B cs off v {p with aH:=oX p.aH o.ab.o o.proxy m.ar,waits:=re p.waits ⟨o.ab.o,o.proxy,o.ab.path,m⟩} u8 from aA.after (Fr.drew (Fr.refl ay W)) (aA.seq F6.out FT6.out (aA.after (Fr.drew (Fr.refl ay u6)) P4)))
     have r8:=O (bM (B:=B) I6.out (aiH.mono (fun k _ hk=>Or.inr (Or.inl hk))) R6.out aD (by omega));clear P4 hb8 aiH HC6 HAS;go_wp2_with (first|((with_reducible refine ag ⟨none,.store 39 _ _,_,_,_,_⟩ ?_);go_must(refine wpList_store_row rfl 39 (.tmp 4) (.tmp 100) rfl (w.heap.size+1) #[.int .i64 3,.string ⟨#[]⟩,.int .i64 0] rfl rfl _ aM r8.out (az _ rfl) rfl (by simp[Value.oneCell']) ?_))|fail)
     refine bodyPost_ret (results_cell_row (by rfl) _ _ (w.heap.size+1) 39 #[.int .i64 3,.string ⟨#[]⟩,.int .i64 0] (0,0) _ rfl (setRow_heap _ (w.heap.size+1) _ _ _ _ r8.out) Tryz.underlying39 rfl (az _ rfl)) rfl ?_;unfold bL;rw[HR.out];exact⟨rfl,aA.row (HP.out.after rf.out) j6.out j8.out (Nat.le_succ _) r8.out bN (by decide) _⟩
  ·have HR:=O (show ee p (o.bF hs)=(p,rep 2)by
    unfold ee;rw[show(o.bF hs).text=o.text from rfl,HCH.out];simp only;rw[if_neg (by rw[<-HM.out];exact hsc)])
   have vr:=O (dV.out.keep mX.out (fun h=>h));have HP:=O (aA.same HH.out HA.out (dk.out.trans dV.out));have hsd:decide (0<m.scheme)=false:=decide_eq_false hsc;have axO:m.scheme<=0:=by omega
   have h3c:=Vt.out;subst h3c;go_wp2_with (first|((with_reducible refine ag ⟨none,.store 39 _ _,_,_,_,_⟩ ?_);go_must(refine wpList_store_row rfl 39 (.tmp 4) (.tmp 27) rfl (w.heap.size+1) #[.int .i64 2,.string ⟨#[]⟩,.int .i64 0] rfl rfl _ aM vr.out (az _ rfl) rfl (by simp[Value.oneCell']) ?_))|fail)
   refine bodyPost_ret (results_cell_row (by rfl) _ _ (w.heap.size+1) 39 #[.int .i64 2,.string ⟨#[]⟩,.int .i64 0] (0,0) _ rfl (setRow_heap _ (w.heap.size+1) _ _ _ _ vr.out) Tryz.underlying39 rfl (az _ rfl)) rfl ?_;unfold bL;rw[HR.out];exact⟨rfl,aA.row HP.out j6.out j8.out (Nat.le_succ _) vr.out bN (by decide) _⟩
end Go.Proofs.YtjdmjbdkdmbaiaaGreatDoor
