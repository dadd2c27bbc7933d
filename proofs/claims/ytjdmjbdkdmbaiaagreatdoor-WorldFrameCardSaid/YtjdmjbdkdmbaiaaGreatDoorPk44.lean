/- Answered, DoP, DoOdd, Doattach. -/
import Derived.Test.YtjdmjbdkdmbaiaaGreatDoorPk42
set_option maxRecDepth 100000
set_option maxHeartbeats 16000000
set_option linter.unusedSimpArgs false
namespace Go.Proofs.YtjdmjbdkdmbaiaaGreatDoor
open Go.RowKit
theorem iT.one{base:Nat}{w:World}{b:Nat}{gv wv:Value}{gs:List (ai aF)}{u:List (aG aF)×Option (aG aF)}{e:Ending}{w':World}(h:iT base w b gv wv gs u e w') :
  fj base w b gv wv gs u.1 w'/\∃X:Array Value,e=.returned (.tuple #[.agg X,.bool u.2.isSome])/\X.size=13/\X.all (·.oneCell')=true/\∀x,u.2=some x->∃r:aG Value,X=r.cells.toArray/\r.Reads (aS base w') x:=by
 obtain⟨h1,h2⟩:=h;refine⟨h1,?_⟩;cases hu:u.2 with
 |none=>rw[hu]at h2;exact⟨rB,h2,rfl,JK,fun x hx=>by cases hx⟩
 |some g =>
  rw[hu]at h2;obtain⟨r,e1,e2,e3⟩:=h2;exact⟨r.cells.toArray,e1,rfl,all_oneCell_toArray e3,fun x hx=>by cases hx;exact⟨r,rfl,e2⟩⟩
theorem Fm{X:Array Value}(h:X.size=13):(Tryz.prog.info? 144).map (·.size)=some X.size:=by rw[h];kernel_rfl
def AnJ(base:Nat)(w2:World)(B off:Nat)(cs:List Value)(v:bB)(p:bH)(x:Option (aG aF))(n:Nat)(X:Array Value)(W:World):Prop :=
 mW base w2 B off cs v p n X 144 W/\∀g,x=some g->∃r:aG Value,X=r.cells.toArray/\r.Reads (aS base W) g
theorem Cv(base:Nat)(w:World)(B off:Nat)(cs:List Value)(v:bB)(p:bH)(o:ei)(hs:List dW)(h:cC base w v p)(ha:cD w B cs off v)(ku:base<=B)(hf:bg w o hs)(hk:jh p)(Zb:∀x∈p.waits,x.path.size<=5000) :
  Calls Tryz.prog 56 #[.pointer (some ⟨B,off,none⟩),.agg o.cells.toArray] w (bL base w B cs off v (ef p (o.bF hs))):=by
 have qR:B<w.heap.size:=aj ha.cR;have Bd:¬v.gL B:=h.bX ha.cR (by decide);obtain⟨ah,ch,df⟩:=hf.eJ;obtain⟨w2,bK⟩:∃w2,w2=(w.alloc (.cells o.cells.toArray 33)).alloc (.cells aM 39):=⟨_,rfl⟩;have bq:Fr ay w w2:=by rw[bK];exact((Fr.refl ay w).alloc _).alloc _
 have k1:w2.heap[w.heap.size]?=some (.cells o.cells.toArray 33 (0,0)):=by rw[bK];exact((Fr.refl ay _).alloc _).keep (af _ _) (fun h=>h)
 have k2:w2.heap[w.heap.size+1]?=some (.cells aM 39 (0,0)):=by
  have h:=af (w.alloc (.cells o.cells.toArray 33)) (.cells aM 39);rw[World.size_alloc]at h;rw[bK];exact h
 have qV:w2.heap.size=w.heap.size+2:=by rw[bK];simp
 have PY:=O (show∀U,Fr ay w2 U->U.heap[w.heap.size]?=some (.cells o.cells.toArray 33 (0,0))from fun U hU=>hU.keep k1 (fun h=>h));have xk:=O Bd;have HH:=O h;have HA:=O ha;have HF:=O hf;have fX:=O df;have HK:=O hk;have dk:=O bq;have iw:=O k1;have mX:=O k2;have j6:=O (show base<=w.heap.size by omega);have q_:=O ku;have j8:=O qR;have LQ:=O bK
 obtain⟨a0,a1,a2,a3,a4,a5,a6,a7,a8,a9,eK,eL,a12,eH,eM,eC,eW,eX,eY,fc,a20,a21⟩:=bJ k1 df;rw[bK]at a0 a1 a2 a3 a4 a5 a6 a7 a8 a9 eK eL a12 eH eM eC eW eX eY fc a20 a21;rw[aZ df]at bK a0 a1 a2 a3 a4 a5 a6 a7 a8 a9 eK eL a12 eH eM eC eW eX eY fc a20 a21 ⊢;unfold aM at bK a0 a1 a2 a3 a4 a5 a6 a7 a8 a9 eK eL a12 eH eM eC eW eX eY fc a20 a21;have ka:=O bK;clear bK df bq k1 k2 h ha hf Bd hk
 go_enter Tryz.func56,Tryz.ntmps56;have Ma:=HK.out.xc;have HC:=O (show∀U,Fr (aY v.b v.gv v.wv) w2 U->(U.cell? ⟨B,off,none⟩=some (.pointer (some ⟨v.b,0,none⟩))/\U.cell? ⟨w.heap.size,5,none⟩=some (.bool o.ab.o.ae)/\U.cell? ⟨w.heap.size,6,none⟩=some (.string o.ab.o.host)/\U.cell? ⟨w.heap.size,7,none⟩=some (.int .i64 o.ab.o.port)/\U.cell? ⟨w.heap.size,14,none⟩=some (.bool o.proxy))from fun U hU=>by
  have j1:=(HA.out.bd dk.out).fr hU (fun hb=>xk.out (Or.inl hb));have j2:=hU.keep iw.out (fun hb=>(HH.out.bd dk.out).bX iw.out aO (Or.inl hb));obtain⟨a0,a1,a2,a3,a4,a5,a6,a7,a8,a9,eK,eL,a12,eH,eM,eC,eW,eX,eY,fc,a20,a21⟩:=bJ j2 fX.out;exact⟨j1.cell0,a5,a6,a7,eM⟩)
 have TI:=O (show∀U,Fr ay w2 U->Calls Tryz.prog 115 #[.pointer (some ⟨v.b,0,none⟩),.agg #[.bool o.ab.o.ae,.string o.ab.o.host,.int .i64 o.ab.o.port],.bool o.proxy] U (iT base U v.b v.gv v.wv p.aH (fk o.ab.o o.proxy p.waits))from fun U hU=>Ep base U v.b v.gv v.wv p.aH p.waits o.ab.o o.proxy ((HH.out.bd dk.out).bd hU).gK (by omega));have mE:=ka.out;go_wp2_with fail
 rw[<-mE];clear a0 a1 a2 a3 a4 a5 a6 a7 a8 a9 eK eL a12 eH eM eC eW eX eY fc a20 a21 mE qV;have aiI:=O (show base<=w2.heap.size from Nat.le_trans j6.out dk.out.size);have aiJ:=O (show B<w2.heap.size from Nat.lt_of_lt_of_le j8.out dk.out.size);obtain⟨tkn,htk⟩:∃tkn,tkn=fk o.ab.o o.proxy p.waits:=⟨_,rfl⟩;rw[<-htk]at TI;have HTE:=O htk;clear htk;obtain⟨ok,FQ⟩:∃ok,ok=tkn.2.isSome:=⟨_,rfl⟩;have Gu:=O FQ
 clear FQ;apply PE (P:=AnJ base w2 B off cs v {p with waits:=tkn.1} tkn.2)
 ·intro hJ;have HJ:=O hJ;clear hJ
  refine wp_region_held_drew (S:=(fun U=>U.cell? ⟨B,off,none⟩=some (.pointer (some ⟨v.b,0,none⟩))/\U.cell? ⟨w.heap.size,5,none⟩=some (.bool o.ab.o.ae)/\U.cell? ⟨w.heap.size,6,none⟩=some (.string o.ab.o.host)/\U.cell? ⟨w.heap.size,7,none⟩=some (.int .i64 o.ab.o.port)/\U.cell? ⟨w.heap.size,14,none⟩=some (.bool o.proxy))) (by kernel_rfl) (HC.out _ (Fr.drew (Fr.refl _ _))) ?_;intro cW
  refine tk 0 ⟨some 8,_,_,_,_,_⟩ (v:=?_) rfl (by rfl) ?hy ?_
  case hy=>(intro w hSw;(try dsimp only at hSw);go_simp<;>with_reducible rfl)
  try simp only[Act.put,sA,sB,sC]
  refine tk 1 ⟨some 9,_,_,_,_,_⟩ (v:=?_) rfl (by rfl) ?hy ?_
  case hy=>(intro w hSw;(try dsimp only at hSw);go_simp<;>with_reducible rfl)
  try simp only[Act.put,sA,sB,sC]
  refine tk 2 ⟨some 10,_,_,_,_,_⟩ (v:=?_) rfl (by rfl) ?hy ?_
  case hy=>(intro w hSw;(try dsimp only at hSw);go_simp<;>with_reducible rfl)
  try simp only[Act.put,sA,sB,sC]
  refine tk 3 ⟨some 11,_,_,_,_,_⟩ (v:=?_) rfl (by rfl) ?hy ?_
  case hy=>(intro w hSw;(try dsimp only at hSw);go_simp<;>with_reducible rfl)
  try simp only[Act.put,sA,sB,sC]
  refine tk 4 ⟨some 12,_,_,_,_,_⟩ (v:=?_) rfl (by rfl) ?hy ?_
  case hy=>(intro w hSw;(try dsimp only at hSw);go_simp<;>with_reducible rfl)
  try simp only[Act.put,sA,sB,sC]
  refine tk 5 ⟨some 13,_,_,_,_,_⟩ (v:=?_) rfl (by rfl) ?hy ?_
  case hy=>(intro w hSw;(try dsimp only at hSw);go_simp<;>with_reducible rfl)
  try simp only[Act.put,sA,sB,sC]
  refine tk 6 ⟨some 14,_,_,_,_,_⟩ (v:=?_) rfl (by rfl) ?hy ?_
  case hy=>(intro w hSw;(try dsimp only at hSw);go_simp<;>with_reducible rfl)
  try simp only[Act.put,sA,sB,sC]
  refine tk 7 ⟨some 15,_,_,_,_,_⟩ (v:=?_) rfl (by rfl) ?hy ?_
  case hy=>(intro w hSw;(try dsimp only at hSw);go_simp<;>with_reducible rfl)
  try simp only[Act.put,sA,sB,sC]
  refine tk 8 ⟨some 16,_,_,_,_,_⟩ (v:=?_) rfl (by rfl) ?hy ?_
  case hy=>(intro w hSw;(try dsimp only at hSw);go_simp<;>with_reducible rfl)
  try simp only[Act.put,sA,sB,sC]
  refine tk 9 ⟨some 17,_,_,_,_,_⟩ (v:=?_) rfl (by rfl) ?hy ?_
  case hy=>(intro w hSw;(try dsimp only at hSw);go_simp<;>with_reducible rfl)
  try simp only[Act.put,sA,sB,sC]
  refine wpAnyH_ready (rs:=[10,14]) (by kernel_rfl) (by simp) ?_;refine AllReadyH.cons rfl (fun K hK=>?_) (AllReadyH.cons rfl (fun K hK=>?_) AllReadyH.nil)
  ·go_simp;refine(TI.out _ (Fr.drew (Fr.refl _ _))).mono ?_;rintro e u3 EX;obtain⟨jQ,X,rfl,EY,EZ,yH⟩:=iT.one EX;rw[<-Gu.out];have zK:=O jQ;have HX:=O (And.intro EY (And.intro EZ yH));have qp:Fr (aY v.b v.gv v.wv) w2 u3:=(Fr.drew (Fr.refl _ _)).trans (by obtain⟨_,_,_,h,_⟩:=jQ;exact h);have vt:=O qp;clear EX jQ EY EZ yH qp;refine hK.out _ _ (HC.out _ vt.out) ?_;intro CY;clear hK cW K
   try simp only[Act.put,sA,sB,sC]
   refine tk 11 ⟨some 7,_,_,_,_,_⟩ (v:=?_) rfl (by rfl) ?hy ?_
   case hy=>(intro w hSw;(try dsimp only at hSw);go_simp<;>with_reducible rfl)
   try simp only[Act.put,sA,sB,sC]
   refine tk 12 ⟨some 19,_,_,_,_,_⟩ (v:=?_) rfl (by rfl) ?hy ?_
   case hy=>(intro w hSw;(try dsimp only at hSw);go_simp<;>with_reducible rfl)
   try simp only[Act.put,sA,sB,sC]
   refine tk 13 ⟨some 20,_,_,_,_,_⟩ (v:=?_) rfl (by rfl) ?hy ?_
   case hy=>(intro w hSw;(try dsimp only at hSw);go_simp<;>with_reducible rfl)
   try simp only[Act.put,sA,sB,sC]
   refine wpAnyH_ready (rs:=[14]) (by kernel_rfl) (by simp) ?_;refine AllReadyH.cons rfl (fun K hK=>?_) AllReadyH.nil;go_simp;obtain⟨n,hne⟩:∃n,n=u3.heap.size:=⟨_,rfl⟩;obtain⟨w4,cY⟩:∃w4,w4=u3.alloc (.cells rB 144):=⟨_,rfl⟩;have ix:w4.heap[n]?=some (.cells rB 144 (0,0)):=by rw[cY,hne];exact af _ _
   have bT:Fr (aY v.b v.gv v.wv) w2 w4:=by rw[cY];exact vt.out.alloc _
   have Vu:=O ix;have fu:=O bT;have Tc:=O cY;have wY:=O hne;rw[<-cY, <-hne];clear cY hne ix bT;refine hK.out _ _ (HC.out _ fu.out) ?_;intro G_;clear hK CY K
   try simp only[Act.put,sA,sB,sC]
   refine wpAnyH_ready (rs:=[15]) (by kernel_rfl) (by simp) ?_;refine AllReadyH.cons rfl (fun K hK=>?_) AllReadyH.nil;refine aJ rfl 144 (.tmp 5) (.tmp 19) rfl n X rfl rfl 144 rB Vu.out (Fm HX.out.1) HX.out.1.symm HX.out.2.1 ?_;obtain⟨W,hW⟩:∃W,W=w4.setRow n X:=⟨_,rfl⟩;have wB:Fr (aY v.b v.gv v.wv) w2 W:=by rw[hW];exact jv fu.out (by rw[wY.out];exact vt.out.size) _
   have hP:=mW.after (z:=rB) (aA.after (Fr.drew (Fr.refl ay w2)) (aA.gK ((HH.out.bd dk.out).bd (Fr.drew (Fr.refl ay w2))) ((HA.out.bd dk.out).bd (Fr.drew (Fr.refl ay w2))) xk.out zK.out)) aiI.out aiJ.out (t:=144) (by decide) X;rw[<-Tc.out, <-wY.out, <-hW]at hP;rw[<-hW];refine hK.out _ _ (HC.out _ wB) ?_;intro PZ;clear hK G_ K
   try simp only[Act.put,sA,sB,sC]
   refine tk 16 ⟨some 6,_,_,_,_,_⟩ (v:=?_) rfl (by rfl) ?hy ?_
   case hy=>(intro w hSw;(try dsimp only at hSw);go_simp<;>with_reducible rfl)
   try simp only[Act.put,sA,sB,sC]
   clear PZ;refine wpAnyH_done (by kernel_rfl) ?_ _;exact HJ.out n X W ⟨hP.1,fun g hg=>by
    obtain⟨r,e1,e2⟩:=HX.out.2.2 g hg;exact⟨r,e1,e2.mono (fun v l h=>hP.2 v l h)⟩⟩
  ·go_simp;obtain⟨n,hne⟩:∃n,n=w2.heap.size:=⟨_,rfl⟩;obtain⟨w4,cY⟩:∃w4,w4=(w2.alloc (.cells rB 144)).drew:=⟨_,rfl⟩;have ix:w4.heap[n]?=some (.cells rB 144 (0,0)):=by rw[cY,hne];exact af w2 _
   have bT:Fr ay w2 w4:=by rw[cY];exact((Fr.refl _ _).alloc _).drew
   have Vu:=O ix;have fu:=O bT;have wY:=O (show w2.heap.size<=n by omega);rw[<-cY, <-hne];clear cY hne ix bT;refine hK.out _ _ (HC.out _ (fu.out.mono (fun _ _ h=>absurd h (fun h=>h)))) ?_;intro CY;clear hK cW K
   try simp only[Act.put,sA,sB,sC]
   refine wpAnyH_ready (rs:=[10]) (by kernel_rfl) (by simp) ?_;refine AllReadyH.cons rfl (fun K hK=>?_) AllReadyH.nil;go_simp;refine(TI.out _ fu.out).mono ?_;rintro e u3 EX;obtain⟨jQ,X,rfl,EY,EZ,yH⟩:=iT.one EX;rw[<-Gu.out];have zK:=O jQ;have HX:=O (And.intro EY (And.intro EZ yH))
   have qp:Fr (aY v.b v.gv v.wv) w2 u3:=(fu.out.mono (fun _ _ h=>absurd h (fun h=>h))).trans (by obtain⟨_,_,_,h,_⟩:=jQ;exact h);have Jb:u3.heap[n]?=some (.cells rB 144 (0,0)):=(show Fr (aY v.b v.gv v.wv) w4 u3 by obtain⟨_,_,_,h,_⟩:=jQ;exact h).keep Vu.out (fun hb=>by have:=(HH.out.bd dk.out).fO (Or.inl hb);have:=wY.out;omega);have vt:=O qp;have HZ3:=O Jb;clear EX jQ EY EZ yH qp Jb
   refine hK.out _ _ (HC.out _ vt.out) ?_;intro G_;clear hK CY K
   try simp only[Act.put,sA,sB,sC]
   refine tk 11 ⟨some 7,_,_,_,_,_⟩ (v:=?_) rfl (by rfl) ?hy ?_
   case hy=>(intro w hSw;(try dsimp only at hSw);go_simp<;>with_reducible rfl)
   try simp only[Act.put,sA,sB,sC]
   refine tk 12 ⟨some 19,_,_,_,_,_⟩ (v:=?_) rfl (by rfl) ?hy ?_
   case hy=>(intro w hSw;(try dsimp only at hSw);go_simp<;>with_reducible rfl)
   try simp only[Act.put,sA,sB,sC]
   refine tk 13 ⟨some 20,_,_,_,_,_⟩ (v:=?_) rfl (by rfl) ?hy ?_
   case hy=>(intro w hSw;(try dsimp only at hSw);go_simp<;>with_reducible rfl)
   try simp only[Act.put,sA,sB,sC]
   refine wpAnyH_ready (rs:=[15]) (by kernel_rfl) (by simp) ?_;refine AllReadyH.cons rfl (fun K hK=>?_) AllReadyH.nil;refine aJ rfl 144 (.tmp 5) (.tmp 19) rfl n X rfl rfl 144 rB HZ3.out (Fm HX.out.1) HX.out.1.symm HX.out.2.1 ?_;obtain⟨W,hW⟩:∃W,W=u3.setRow n X:=⟨_,rfl⟩;have wB:Fr (aY v.b v.gv v.wv) w2 W:=by rw[hW];exact jv vt.out wY.out _
   have hP:=mW.before (HH.out.bd dk.out) fu.out wY.out Vu.out (aA.gK ((HH.out.bd dk.out).bd fu.out) ((HA.out.bd dk.out).bd fu.out) xk.out zK.out) aiI.out aiJ.out (by decide) X;rw[<-hW]at hP;rw[<-hW];refine hK.out _ _ (HC.out _ wB) ?_;intro PZ;clear hK G_ K
   try simp only[Act.put,sA,sB,sC]
   refine tk 16 ⟨some 6,_,_,_,_,_⟩ (v:=?_) rfl (by rfl) ?hy ?_
   case hy=>(intro w hSw;(try dsimp only at hSw);go_simp<;>with_reducible rfl)
   try simp only[Act.put,sA,sB,sC]
   clear PZ;refine wpAnyH_done (by kernel_rfl) ?_ _;exact HJ.out n X W ⟨hP.1,fun g hg=>by
    obtain⟨r,e1,e2⟩:=HX.out.2.2 g hg;exact⟨r,e1,e2.mono (fun v l h=>hP.2 v l h)⟩⟩
 ·intro n X W hj;obtain⟨⟨v1,i1,f1,wA,P1,hX,Xw,PF⟩,EW⟩:=hj;have aa1:=cD.after (HA.out.bd dk.out) P1;have o1:=bM (HH.out.bd dk.out) f1 iw.out aO (by omega);have r1:=bM (HH.out.bd dk.out) f1 mX.out aD (by omega);have I1:=O i1;have F1:=O f1;have Xx:=O wA;have E0:=O aa1;have O1:=O o1;have R1:=O r1;have Xy:=O hX;have HNF:=O Xw;have HNA:=O PF;clear i1 f1 wA aa1 o1 r1 P1 hX Xw PF TI HC;cases Ml:tkn.2 with
  |none =>
   have lZ:ok=false:=by rw[Gu.out,Ml];rfl
   have HR:=O (show ef p (o.bF hs)=({p with waits:=tkn.1},rep 2)by
    unfold ef;rw[show fk (o.bF hs).o (o.bF hs).proxy p.waits=(tkn.1,none)from by rw[<-Ml];exact HTE.out.symm])
   have HP:=O (show aA base w2 B cs off v {p with waits:=tkn.1} W from⟨v1,I1.out,F1.out,Xx.out,E0.out.cR⟩);rw[lZ];clear EW Ml Gu HTE lZ
   go_wp2_with (first|((with_reducible refine ag ⟨none,.store 39 _ _,_,_,_,_⟩ ?_);go_must(refine wpList_store_row rfl 39 (.tmp 4) (.tmp 23) rfl (w.heap.size+1) #[.int .i64 2,.string ⟨#[]⟩,.int .i64 0] rfl rfl _ aM R1.out (az _ rfl) rfl (by simp[Value.oneCell']) ?_))|fail)
   refine bodyPost_ret (results_cell_row (by rfl) _ _ (w.heap.size+1) 39 #[.int .i64 2,.string ⟨#[]⟩,.int .i64 0] (0,0) _ rfl (setRow_heap _ (w.heap.size+1) _ _ _ _ R1.out) Tryz.underlying39 rfl (az _ rfl)) rfl ?_;unfold bL;rw[HR.out];exact⟨rfl,aA.row (HP.out.after dk.out) j6.out j8.out (Nat.le_succ _) R1.out bN (by decide) _⟩
  |some g =>
   have lZ:ok=true:=by rw[Gu.out,Ml];rfl
   obtain⟨r,S_,hr⟩:=EW g Ml;have hgm:g∈p.waits:=vh (o:=o.ab.o) (proxy:=o.proxy) (by rw[<-HTE.out];exact Ml);have hgp:=Zb g hgm;have HR:=O (show ef p (o.bF hs)=({p with waits:=tkn.1,aH:=oy p.aH ⟨g.o,g.proxy,o.user,o.pass,g.a,0,iG g.a g.proxy g.path⟩},rep 1)by
    unfold ef;rw[show fk (o.bF hs).o (o.bF hs).proxy p.waits=(tkn.1,some g)from by rw[<-Ml];exact HTE.out.symm];rfl)
   obtain⟨q1,q2,q3,q4⟩:=hr;have qa:=q4;obtain⟨e1,e2,e3,e4,e5,e6,e7,u_⟩:=q4;obtain⟨ad,cd,Aw⟩:=u_.rd.form;have uF:X= #[.bool g.o.ae,.string g.o.host,.int .i64 g.o.port,.bool g.proxy,.string g.path,.int .i64 g.a.scheme,.string g.a.ar,.string g.a.aE,.string g.a.aK,.bool g.a.aL,.string g.a.bU,.bool g.a.aX,.slice ad g.a.dom.length cd]:=by
    rw[S_];unfold aG.cells;rw[q1,q2,q3,e1,e2,e3,e4,e5,e6,e7,Aw]
   rw[uF]at Xy;have aiL:r.a.cells=[.int .i64 g.a.scheme,.string g.a.ar,.string g.a.aE,.string g.a.aK,.bool g.a.aL,.string g.a.bU,.bool g.a.aX,.slice ad g.a.dom.length cd]:=by unfold cQ.cells;rw[e1,e2,e3,e4,e5,e6,e7,Aw]
   have wX:=O (show∀U,Fr ay W U->Calls Tryz.prog 116 #[.agg #[.int .i64 g.a.scheme,.string g.a.ar,.string g.a.aE,.string g.a.aK,.bool g.a.aL,.string g.a.bU,.bool g.a.aX,.slice ad g.a.dom.length cd],.bool g.proxy,.string g.path] U (lL base U (iG g.a g.proxy g.path))from fun U hU=>by
    have h:=Lt base r.a g.a g.proxy g.path U (qa.mono (fun _ _ h=>h.bd hU)) (by omega);rw[aiL]at h;exact h)
   have HPU:=O (show∀U lv,Fr ay W U->aS base U lv (iG g.a g.proxy g.path)->Calls Tryz.prog 113 #[.pointer (some ⟨v1.b,0,none⟩),.agg #[.bool g.o.ae,.string g.o.host,.int .i64 g.o.port,.bool g.proxy,.string o.user,.string o.pass,.int .i64 g.a.scheme,.string g.a.ar,.string g.a.aE,.string g.a.aK,.bool g.a.aL,.string g.a.bU,.bool g.a.aX,.slice ad g.a.dom.length cd,.int .i64 0,lv]] U (B_ base U v1.b v1.gv v1.wv (oy p.aH ⟨g.o,g.proxy,o.user,o.pass,g.a,0,iG g.a g.proxy g.path⟩) tkn.1)from fun U lv hU hl=>by
    have h:=JI base U v1.b v1.gv v1.wv p.aH tkn.1 ⟨g.o,g.proxy,o.user,o.pass,r.a,0,lv⟩ ⟨g.o,g.proxy,o.user,o.pass,g.a,0,iG g.a g.proxy g.path⟩ (I1.out.bd hU).gK ⟨rfl,rfl,rfl,rfl,qa.mono (fun _ _ h=>h.bd hU),rfl,hl⟩ (by omega);unfold ai.cells at h;rw[e1,e2,e3,e4,e5,e6,e7,Aw]at h;exact h)
   have HC:=O (show∀U,Fr (aY v1.b v1.gv v1.wv) W U->(U.cell? ⟨B,off,none⟩=some (.pointer (some ⟨v1.b,0,none⟩))/\U.cell? ⟨n,0,none⟩=some (.bool g.o.ae)/\U.cell? ⟨n,1,none⟩=some (.string g.o.host)/\U.cell? ⟨n,2,none⟩=some (.int .i64 g.o.port)/\U.cell? ⟨n,3,none⟩=some (.bool g.proxy)/\U.cell? ⟨n,4,none⟩=some (.string g.path)/\U.cell? ⟨n,5,none⟩=some (.int .i64 g.a.scheme)/\U.cell? ⟨n,6,none⟩=some (.string g.a.ar)/\U.cell? ⟨n,7,none⟩=some (.string g.a.aE)/\U.cell? ⟨n,8,none⟩=some (.string g.a.aK)/\U.cell? ⟨n,9,none⟩=some (.bool g.a.aL)/\U.cell? ⟨n,10,none⟩=some (.string g.a.bU)/\U.cell? ⟨n,11,none⟩=some (.bool g.a.aX)/\U.cell? ⟨n,12,none⟩=some (.slice ad g.a.dom.length cd)/\U.cell? ⟨w.heap.size,16,none⟩=some (.string o.user)/\U.cell? ⟨w.heap.size,17,none⟩=some (.string o.pass))from fun U hU=>by
    have j1:=E0.out.fr hU (fun hb=>I1.out.bX E0.out.cR (by decide) (Or.inl hb));have j2:=hU.keep Xy.out (fun hb=>HNF.out (Or.inl hb));have j3:=hU.keep O1.out (fun hb=>I1.out.bX O1.out aO (Or.inl hb));obtain⟨a0,a1,a2,a3,a4,a5,a6,a7,a8,a9,eK,eL,a12,eH,eM,eC,eW,eX,eY,fc,a20,a21⟩:=bJ j3 fX.out;refine⟨j1.cell0,?_,?_,?_,?_,?_,?_,?_,?_,?_,?_,?_,?_,?_,eW,eX⟩<;>simp[World.cell?,j2])
   rw[lZ];clear EW Ml Gu HTE lZ hgm hgp Zb qa q1 q2 q3 e1 e2 e3 e4 e5 e6 e7 u_ Aw uF aiL S_;go_wp2_with fail
   go_region_held3 (fun U=>Fr (aY v1.b v1.gv v1.wv) W U/\U.cell? ⟨B,off,none⟩=some (.pointer (some ⟨v1.b,0,none⟩))/\U.cell? ⟨n,0,none⟩=some (.bool g.o.ae)/\U.cell? ⟨n,1,none⟩=some (.string g.o.host)/\U.cell? ⟨n,2,none⟩=some (.int .i64 g.o.port)/\U.cell? ⟨n,3,none⟩=some (.bool g.proxy)/\U.cell? ⟨n,4,none⟩=some (.string g.path)/\U.cell? ⟨n,5,none⟩=some (.int .i64 g.a.scheme)/\U.cell? ⟨n,6,none⟩=some (.string g.a.ar)/\U.cell? ⟨n,7,none⟩=some (.string g.a.aE)/\U.cell? ⟨n,8,none⟩=some (.string g.a.aK)/\U.cell? ⟨n,9,none⟩=some (.bool g.a.aL)/\U.cell? ⟨n,10,none⟩=some (.string g.a.bU)/\U.cell? ⟨n,11,none⟩=some (.bool g.a.aX)/\U.cell? ⟨n,12,none⟩=some (.slice ad g.a.dom.length cd)/\U.cell? ⟨w.heap.size,16,none⟩=some (.string o.user)/\U.cell? ⟨w.heap.size,17,none⟩=some (.string o.pass)) ((refine(fun hU=>⟨hU,HC.out _ hU⟩) ?_;first|exact Fr.drew (Fr.refl _ _)|assumption))
    ((first
     |(go_at_call 116;refine(wX.out _ (Fr.drew (Fr.refl _ _))).mono ?_;rintro e u5 ⟨lv,rfl,u0,gH⟩;obtain⟨pa,pc,Gi⟩:=u0.rd.form;subst Gi;have nQ:Fr ay W u5:=(Fr.drew (Fr.refl _ _)).trans gH;have aiM:Fr (aY v1.b v1.gv v1.wv) W u5:=nQ.mono (fun _ _ h=>absurd h (fun h=>h)))
     |(go_at_call 113;refine(HPU.out _ _ nQ u0).mono ?_;rintro e u6 ⟨rfl,wP⟩;have Fl:Fr (aY v1.b v1.gv v1.wv) W u6:=aiM.trans (by obtain⟨_,_,_,h,_⟩:=wP;exact h))))
   have P4:=aA.gK (I1.out.bd nQ) (E0.out.bd nQ) (I1.out.bX E0.out.cR (by decide)) wP;have HP:=O (show aA base w2 B cs off v {p with waits:=tkn.1,aH:=oy p.aH ⟨g.o,g.proxy,o.user,o.pass,g.a,0,iG g.a g.proxy g.path⟩} u6 from aA.seq F1.out Xx.out (aA.after nQ P4));have r6:=O (bM (B:=B) I1.out (Fl.mono (fun k _ hk=>Or.inr (Or.inl hk))) R1.out aD (by omega));clear P4 wP Fl aiM nQ u0 gH HC wX HPU
   go_wp2_with (first|((with_reducible refine ag ⟨none,.store 39 _ _,_,_,_,_⟩ ?_);go_must(refine wpList_store_row rfl 39 (.tmp 4) (.tmp 45) rfl (w.heap.size+1) #[.int .i64 1,.string ⟨#[]⟩,.int .i64 0] rfl rfl _ aM r6.out (az _ rfl) rfl (by simp[Value.oneCell']) ?_))|fail)
   refine bodyPost_ret (results_cell_row (by rfl) _ _ (w.heap.size+1) 39 #[.int .i64 1,.string ⟨#[]⟩,.int .i64 0] (0,0) _ rfl (setRow_heap _ (w.heap.size+1) _ _ _ _ r6.out) Tryz.underlying39 rfl (az _ rfl)) rfl ?_;unfold bL;rw[HR.out];exact⟨rfl,aA.row (HP.out.after dk.out) j6.out j8.out (Nat.le_succ _) r6.out bN (by decide) _⟩
structure fN (w:World):Prop where
 UP:qT w
 pw:nI w
theorem fN.fr{w w':World}(h:fN w)(hf:Fr ay w w'):fN w':=⟨h.UP.fr hf,h.pw.fr hf⟩
def eG(base:Nat)(w:World)(B:Nat)(pv:Nat->bB)(r:bW×nk)(e:Ending)(w':World):Prop :=
 e=.returned r.2.val/\aC base w B pv r.1 w'
section
variable {base : Nat} {a w w' : World} {B : Nat} {pv : Nat → bB} {x : bW}
theorem aC.after(hf:Fr ay a w)(h:aC base w B pv x w'):aC base a B pv x w':=by
 obtain⟨zu,h1,h2,h3⟩:=h;refine⟨zu,h1,Fr.step (S:=jV B pv) (hf.mono (fun _ _ h=>absurd h (fun h=>h))) h2 (fun _ _ h=>h),fun k hk=>?_⟩;rcases h3 k hk with h|h
 ·exact Or.inl h
 ·exact Or.inr (Nat.le_trans hf.size h)
theorem aC.then(h:aC base a B pv x w)(hf:Fr ay w w'):aC base a B pv x w':=by
 obtain⟨zu,h1,h2,h3⟩:=h;exact⟨zu,h1.bd hf,h2.step (T:=ay) hf (fun _ _ h=>absurd h (fun h=>h)),h3⟩
theorem aC.row(h:aC base w B pv x w'){n:Nat}{vT:Array Value}{t:TypeId}(ku:base<=w.heap.size)(hB:B<w.heap.size)(hn:w.heap.size<=n)(hr:w'.heap[n]?=some (.cells vT t (0,0)))
  (ht:fJ t)(hs:t≠9)(new:Array Value):aC base w B pv x (w'.setRow n new):=by
 obtain⟨zu,h1,h2,h3⟩:=h;have fM:Fr (one n) w' (w'.setRow n new):=(Fr.refl (one n) w').setRow (fun _=>rfl) _;have kb:lT base w' (one n):=by
  rintro k rfl _;exact⟨by omega,fun c f e=>by rw[hr]at e;cases e;exact hs rfl⟩
 refine⟨zu,h1.fr fM kb (fun i hi e=>?_),h2.step fM (fun k hk e=>?_),h3⟩
 ·have e':i=n:=e;subst e';rcases hi with rfl|⟨j,hj,hi⟩
  ·omega
  ·exact(h1.part j hj).bX hr ht hi
 ·have e':k=n:=e;omega
theorem ji(h:aR base w B pv x){i n:Nat}{c:Array Value}{t:TypeId}{p:bH}(hi:i<4)(hp:aA base w B (fo pv x.now) (i*3) (pv i) p w')(hn:w.heap[n]?=some (.cells c t (0,0)))(ht:fJ t)(hB:n≠B):w'.heap[n]?=some (.cells c t (0,0)):=by
 obtain⟨v',h1,h2,h3,h4⟩:=hp;exact bM (h.part i hi) h2 hn ht hB
end
theorem kO{x:bW}{o:ib}{i:Nat}(hr:o.right=true)(hi:o.part=(i:Int))(hw:o.what≠10):cV x o=(x.set i (lF (x.part i) x.now o).1,(lF (x.part i) x.now o).2):=by
 rw[fI hr hw,hi];rfl
theorem P6{p:bH}{n:Int}{o:ib}(h:o.what=8\/o.what=9):lF p n o=kN p o:=by
 unfold lF;rcases h with h|h<;>rw[h]<;>rfl
theorem aR.yT{base:Nat}{w:World}{B n:Nat}{pv:Nat->bB}{x:bW}(h:aR base w B pv x){c:Array Value}{t:TypeId}(hn:w.heap[n]?=some (.cells c t (0,0)))(ht:fJ t)(hw:t≠105):¬jV B pv n:=fun hk=>by
 rcases hk with rfl|⟨i,hi,hk⟩
 ·rw[h.cR]at hn;cases hn;exact hw rfl
 ·exact(h.part i hi).bX hn ht hk
theorem aaJ(base:Nat)(w:World)(B:Nat)(pv:Nat->bB)(x:bW)(o:ei)(hs:List dW)(h:aR base w B pv x)(hf:bg w o hs)(hi:fW x)(a:World)(mq:fN a)(mo:a.heap.size<=base)(mr:Fr ay a w)(hr:(o.bF hs).right=false) :
  Calls Tryz.prog 17 #[.pointer (some ⟨B,0,none⟩),.agg o.cells.toArray] w (eG base w B pv (cV x (o.bF hs))):=by
 have qR:B<w.heap.size:=h.lt;have ku:=h.low;obtain⟨ah,ch,df⟩:=hf.eJ;obtain⟨w2,bK⟩:∃w2,w2=(w.alloc (.cells o.cells.toArray 33)).alloc (.cells aM 39):=⟨_,rfl⟩;have bq:Fr ay w w2:=by rw[bK];exact((Fr.refl ay w).alloc _).alloc _
 have k1:w2.heap[w.heap.size]?=some (.cells o.cells.toArray 33 (0,0)):=by rw[bK];exact((Fr.refl ay _).alloc _).keep (af _ _) (fun h=>h)
 have k2:w2.heap[w.heap.size+1]?=some (.cells aM 39 (0,0)):=by
  have h:=af (w.alloc (.cells o.cells.toArray 33)) (.cells aM 39);rw[World.size_alloc]at h;rw[bK];exact h
 have oJ:=O (gF o hs w2 (hf.bd bq));have HH:=O (h.bd bq);have HF:=O (hf.bd bq);have fX:=O df;have HI:=O hi;have dk:=O bq;have iw:=O k1;have mX:=O k2;have j6:=O (show base<=w.heap.size by omega);have q_:=O ku;have j8:=O qR;have L':=O mq;have Hl:=O (mr.trans bq);have Nb:=O mo;rw[bK]at k1;rw[aZ df]at bK oJ k1 ⊢;unfold aM at bK k1;have ka:=O bK;have uw:=O k1;clear bK df bq k1 k2 h hf hi mq mo mr
 have HR:=O (show cV x (o.bF hs)=(x,rep 7)from gR hr);rw[hr]at oJ;clear hr;go_enter Tryz.func17,Tryz.ntmps17;go_wp2_with (first|((with_reducible refine ag ⟨some 8,_,_,_,_,_⟩ ?_);go_must(refine wpList_load_row rfl 33 (.tmp 3) rfl w.heap.size rfl _ _ (0,0) _ uw.out Tryz.underlying33 rfl (by kernel_rfl) ?_))|fail)
 rw[<-ka.out];refine oJ.out.mono ?_;rintro e u⟨rfl,hu⟩;have HU:=O hu;have HP:=O (show aC base w B pv x u from aC.after dk.out (aC.same HH.out hu));have j5:=O (hu.keep mX.out (fun h=>h));clear hu uw
 go_wp2_with (first|((with_reducible refine ag ⟨none,.store 39 _ _,_,_,_,_⟩ ?_);go_must(refine wpList_store_row rfl 39 (.tmp 4) (.tmp 11) rfl (w.heap.size+1) #[.int .i64 7,.string ⟨#[]⟩,.int .i64 0] rfl rfl _ aM j5.out (az _ rfl) rfl (by simp[Value.oneCell']) ?_))|fail)
 refine bodyPost_ret (results_cell_row (by rfl) _ _ (w.heap.size+1) 39 #[.int .i64 7,.string ⟨#[]⟩,.int .i64 0] (0,0) _ rfl (setRow_heap _ (w.heap.size+1) _ _ _ _ j5.out) Tryz.underlying39 rfl (az _ rfl)) rfl ?_;unfold eG;rw[HR.out];exact⟨rfl,aC.row HP.out j6.out j8.out (Nat.le_succ _) j5.out aD (by decide) _⟩
theorem Mf(base:Nat)(w:World)(B:Nat)(pv:Nat->bB)(x:bW)(o:ei)(hs:List dW)(h:aR base w B pv x)(hf:bg w o hs)(hi:fW x)(a:World)(mq:fN a)(mo:a.heap.size<=base)(mr:Fr ay a w)(hr:(o.bF hs).right=true)(hw:o.what=1) :
  Calls Tryz.prog 17 #[.pointer (some ⟨B,0,none⟩),.agg o.cells.toArray] w (eG base w B pv (cV x (o.bF hs))):=by
 have qR:B<w.heap.size:=h.lt;have ku:=h.low;obtain⟨ah,ch,df⟩:=hf.eJ;obtain⟨w2,bK⟩:∃w2,w2=(w.alloc (.cells o.cells.toArray 33)).alloc (.cells aM 39):=⟨_,rfl⟩;have bq:Fr ay w w2:=by rw[bK];exact((Fr.refl ay w).alloc _).alloc _
 have k1:w2.heap[w.heap.size]?=some (.cells o.cells.toArray 33 (0,0)):=by rw[bK];exact((Fr.refl ay _).alloc _).keep (af _ _) (fun h=>h)
 have k2:w2.heap[w.heap.size+1]?=some (.cells aM 39 (0,0)):=by
  have h:=af (w.alloc (.cells o.cells.toArray 33)) (.cells aM 39);rw[World.size_alloc]at h;rw[bK];exact h
 have oJ:=O (gF o hs w2 (hf.bd bq));have HH:=O (h.bd bq);have HF:=O (hf.bd bq);have fX:=O df;have HI:=O hi;have dk:=O bq;have iw:=O k1;have mX:=O k2;have j6:=O (show base<=w.heap.size by omega);have q_:=O ku;have j8:=O qR;have L':=O mq;have Hl:=O (mr.trans bq);have Nb:=O mo;rw[bK]at k1;rw[aZ df]at bK oJ k1 ⊢;unfold aM at bK k1;have ka:=O bK;have uw:=O k1;clear bK df bq k1 k2 h hf hi mq mo mr
 obtain⟨i,px,wD⟩:∃i:Nat,o.ab.part=(i:Int)/\i<4:=by
  obtain⟨h0,h1⟩:=fl hr;have XB:0<=o.ab.part:=h0;have JG:o.ab.part<4:=h1;exact⟨o.ab.part.toNat,by omega,by omega⟩
 have Nr:(i:Int)<4:=by omega
 have qD:¬(i:Int)<0:=by omega
 have Oh:¬(4:Int)<=(i:Int):=by omega
 have Lb:(0:Int)<=(i:Int):=by omega
 have nR:=O wD;have uH:=O px;obtain⟨r,wT⟩:∃r,r=ft (x.part i) (o.bF hs):=⟨_,rfl⟩;have HR:=O (show cV x (o.bF hs)=(x.set i r.1,r.2)by rw[kO hr px (by show o.what≠10;omega),wT,ah6 (show(o.bF hs).what=1 from hw)]);rw[hr]at oJ;have HM:=O (show∀U,Fr ay w2 U->Calls Tryz.prog 54 #[.pointer (some ⟨B,i*3,none⟩),.agg o.cells.toArray] U (bL base U B (fo pv x.now) (i*3) (pv i) r)from fun U hU=>by
  have h:=Hj base U B (i*3) (fo pv x.now) (pv i) (x.part i) o hs ((HH.out.bd hU).part i nR.out) ((HH.out.bd hU).partAt nR.out) q_.out (HF.out.bd hU) (HI.out.ok.part i) (HI.out.sm i) a L'.out.UP Nb.out (Hl.out.trans hU);rw[<-wT]at h;exact h)
 rw[aZ fX.out]at HM;have HW:=O hw;clear hr hw wT wD px;go_enter Tryz.func17,Tryz.ntmps17;go_wp2_with (first|((with_reducible refine ag ⟨some 8,_,_,_,_,_⟩ ?_);go_must(refine wpList_load_row rfl 33 (.tmp 3) rfl w.heap.size rfl _ _ (0,0) _ uw.out Tryz.underlying33 rfl (by kernel_rfl) ?_))|fail)
 rw[<-ka.out];refine oJ.out.mono ?_;rintro e u⟨rfl,hu⟩;obtain⟨a0,a1,a2,a3,a4,a5,a6,a7,a8,a9,eK,eL,a12,eH,eM,eC,eW,eX,eY,fc,a20,a21⟩:=bJ (hu.keep iw.out (fun h=>h)) fX.out;rw[uH.out]at a1;clear a0 a2 a3 a4 a5 a6 a7 a8 a9 eK eL a12 eH eM eC eW eX eY fc a20 a21;have kP:=O (show∀n,Fr ay w2 (u.drewN n)from fun n=>Fr.drewN n hu);clear hu uw;go_wp2_with fail
 go_quiet (fail);clear a1;have ie:=kP.out nq;generalize u.drewN nq=u1 at ie ⊢;have np:=O ie;clear ie kP;have zh:=O (np.out.keep iw.out (fun h=>h));rw[aZ fX.out]at zh;obtain⟨a0,a1,a2,a3,a4,a5,a6,a7,a8,a9,eK,eL,a12,eH,eM,eC,eW,eX,eY,fc,a20,a21⟩:=bJ (np.out.keep iw.out (fun h=>h)) fX.out;rw[uH.out]at a1;have rf:=HW.out;rw[rf]at a0;clear rf
 clear a1 a2 a3 a4 a5 a6 a7 a8 a9 eK eL a12 eH eM eC eW eX eY fc a20 a21;go_wp2_with (first|((with_reducible refine ag ⟨some 24,_,_,_,_,_⟩ ?_);go_must(refine wpList_load_row rfl 33 (.tmp 3) rfl w.heap.size rfl _ _ (0,0) _ zh.out Tryz.underlying33 rfl (by kernel_rfl) ?_))|fail)
 have nr:=np.out;refine(HM.out _ nr).mono ?_;rintro e u5⟨rfl,hp⟩;unfold nk.val;have E7:=nr.keep mX.out (fun h=>h);have j5:=O (ji (HH.out.bd nr) nR.out hp E7 aD (by omega));have HP:=O (show aC base w B pv (x.set i r.1) u5 from aC.after dk.out (aC.after nr (aR.step (HH.out.bd nr) nR.out hp)));clear hp E7 nr HM
 go_wp2_with (first|((with_reducible refine ag ⟨none,.store 39 _ _,_,_,_,_⟩ ?_);go_must(refine wpList_store_row rfl 39 (.tmp 4) (.tmp 25) rfl (w.heap.size+1) #[.int .i64 r.2.what,.string r.2.head,.int .i64 r.2.cert] rfl rfl _ aM j5.out (az _ rfl) rfl (by simp[Value.oneCell']) ?_))|fail)
 refine bodyPost_ret (results_cell_row (by rfl) _ _ (w.heap.size+1) 39 #[.int .i64 r.2.what,.string r.2.head,.int .i64 r.2.cert] (0,0) _ rfl (setRow_heap _ (w.heap.size+1) _ _ _ _ j5.out) Tryz.underlying39 rfl (az _ rfl)) rfl ?_;unfold eG;rw[HR.out];exact⟨rfl,aC.row HP.out j6.out j8.out (Nat.le_succ _) j5.out aD (by decide) _⟩
end Go.Proofs.YtjdmjbdkdmbaiaaGreatDoor
