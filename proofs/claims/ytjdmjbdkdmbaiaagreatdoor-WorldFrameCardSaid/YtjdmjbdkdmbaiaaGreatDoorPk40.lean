/- PartSeq, Allowed, DropC, Sane, HeldP. -/
import Derived.Test.YtjdmjbdkdmbaiaaGreatDoorPk39
import Derived.Test.YtjdmjbdkdmbaiaaGreatDoorPk36
set_option maxRecDepth 100000
set_option maxHeartbeats 16000000
set_option linter.unusedSimpArgs false
namespace Go.Proofs.YtjdmjbdkdmbaiaaGreatDoor
open Go.RowKit
theorem oG{w:World}{n B:Nat}{x:Obj}(h:w.heap[n]?=some x)(hn:n≠B)(o:Nat)(u:Value):(w.setCell ⟨B,o,none⟩ u).heap[n]?=some x :=
 ((Fr.refl (one B) w).setCell (p:=⟨B,o,none⟩) (fun _=>rfl) u).keep h hn
theorem Pw{cs:List Value}{o:Nat}{v:bB}(h:o+2<cs.length):(lG cs o v)[o]?=some (.pointer (some ⟨v.b,0,none⟩))/\(lG cs o v)[o+1]?=some (.pointer (some ⟨v.k,0,none⟩))/\(lG cs o v)[o+2]?=some v.cv:=by
 unfold lG;refine⟨?_,?_,?_⟩
 ·rw[List.getElem?_set_ne (by omega),List.getElem?_set_ne (by omega),List.getElem?_set_self (by omega)]
 ·rw[List.getElem?_set_ne (by omega),List.getElem?_set_self (by simp;omega)]
 ·rw[List.getElem?_set_self (by simp;omega)]
theorem LJ(cs:List Value)(o:Nat)(v v':bB):lG (lG cs o v) o v'=lG cs o v':=by
 unfold lG;apply List.ext_getElem?;intro i;simp only[List.getElem?_set,List.length_set];by_cases h2:o+2=i
 ·simp[h2]
 by_cases h1:o+1=i
 ·simp[h1,h2]
 by_cases h0:o=i
 ·simp[h0]
 simp[h0,h1,h2]
theorem cD.after{w w1:World}{B off:Nat}{cs:List Value}{v v1:bB}(ha:cD w B cs off v)(hb:w1.heap[B]?=some (.cells (lG cs off v1).toArray 105 (0,0))):cD w1 B (lG cs off v1) off v1:=by
 have hl:off+2<cs.length:=(List.getElem?_eq_some_iff.1 ha.c2).1;obtain⟨h0,h1,h2⟩:=Pw (v:=v1) hl;exact⟨hb,h0,h1,h2⟩
theorem aA.seq{base:Nat}{w w1 w2:World}{B off:Nat}{cs:List Value}{v v1:bB}{p2:bH}(f1:Fr (uq B v) w w1)(wA:∀k,v1.gL k->v.gL k\/w.heap.size<=k)(h2:aA base w1 B (lG cs off v1) off v1 p2 w2):aA base w B cs off v p2 w2:=by
 obtain⟨v2,i2,f2,aho,aoG⟩:=h2;refine⟨v2,i2,f1.step f2 (fun k hk hp=>?_),fun k hk=>?_,?_⟩
 ·rcases hp with rfl|hp
  ·exact Or.inl rfl
  ·rcases wA k hp with h|h
   ·exact Or.inr h
   ·omega
 ·rcases aho k hk with h|h
  ·exact wA k h
  ·exact Or.inr (Nat.le_trans f1.size h)
 ·rw[aoG,LJ]
theorem aA.fresh{base:Nat}{w:World}{B off:Nat}{cs:List Value}{v:bB}{p:bH}(h:cC base w v p)(ha:cD w B cs off v)(ku:base<=B) :
  aA base w B cs off v qh (((((w.alloc (.cells #[.slice none 0 0,.slice none 0 0] 139)).alloc (.cells #[.slice none 0 0] 141)).setCell ⟨B,off,none⟩ (.pointer (some ⟨w.heap.size,0,none⟩))).setCell ⟨B,off+1,none⟩ (.pointer (some ⟨w.heap.size+1,0,none⟩))).setCell ⟨B,off+2,none⟩ (.slice none 0 0)):=by
 have hB:¬v.gL B:=h.bX ha.cR (by decide);have qR:B<w.heap.size:=aj ha.cR;obtain⟨W,hW⟩:∃W,W=(w.alloc (.cells #[.slice none 0 0,.slice none 0 0] 139)).alloc (.cells #[.slice none 0 0] 141):=⟨_,rfl⟩;have hf:Fr ay w W:=by rw[hW];exact((Fr.refl ay w).alloc _).alloc _
 have ry:W.heap[w.heap.size]?=some (.cells #[.slice none 0 0,.slice none 0 0] 139 (0,0)):=by rw[hW];exact((Fr.refl ay _).alloc _).keep (af _ _) (fun h=>h)
 have tS:W.heap[w.heap.size+1]?=some (.cells #[.slice none 0 0] 141 (0,0)):=by
  have h:=af (w.alloc (.cells #[.slice none 0 0,.slice none 0 0] 139)) (.cells #[.slice none 0 0] 141);rw[World.size_alloc]at h;rw[hW];exact h
 rw[<-hW];have o7:=hf.keep ha.cR (fun h=>h);obtain⟨V,hV⟩:∃V,V=((W.setCell ⟨B,off,none⟩ (.pointer (some ⟨w.heap.size,0,none⟩))).setCell ⟨B,off+1,none⟩ (.pointer (some ⟨w.heap.size+1,0,none⟩))).setCell ⟨B,off+2,none⟩ (.slice none 0 0):=⟨_,rfl⟩;have Tb:Fr (one B) W V:=by
  rw[hV];exact(((Fr.refl (one B) W).setCell (p:=⟨B,off,none⟩) (fun _=>rfl) _).setCell (p:=⟨B,off+1,none⟩) (fun _=>rfl) _).setCell (p:=⟨B,off+2,none⟩) (fun _=>rfl) _
 have Z6:V.heap[B]?=some (.cells (lG cs off ⟨w.heap.size,.slice none 0 0,.slice none 0 0,w.heap.size+1,.slice none 0 0,.slice none 0 0⟩).toArray 105 (0,0)):=by
  have e1:=aP o7 off (.pointer (some ⟨w.heap.size,0,none⟩));have e2:=aP e1 (off+1) (.pointer (some ⟨w.heap.size+1,0,none⟩));have e3:=aP e2 (off+2) (.slice none 0 0);rw[hV,e3];unfold lG;simp
 rw[<-hV]
 refine⟨⟨w.heap.size,.slice none 0 0,.slice none 0 0,w.heap.size+1,.slice none 0 0,.slice none 0 0⟩,⟨⟨by show base<=w.heap.size;omega,Tb.keep ry (fun e=>by have e':w.heap.size=B:=e;omega),⟨[],OwnRows.nil _ _ _ _,.nil⟩,⟨[],OwnRows.nil _ _ _ _,.nil⟩⟩,⟨by show base<=w.heap.size+1;omega,Tb.keep tS (fun e=>by have e':w.heap.size+1=B:=e;omega),OwnRows.nil _ _ _ _⟩,OwnRows.nil _ _ _ _⟩,Fr.step (S:=uq B v) (hf.mono (fun _ _ h=>absurd h (fun h=>h))) Tb (fun _ _ e=>Or.inl e),?_,Z6⟩
 rintro k(hk|hk|hk)
 ·rcases hk with hk|hk|hk
  ·have e:k=w.heap.size:=hk;exact Or.inr (by omega)
  ·simp[own,Value.ownBlock]at hk
  ·simp[own,Value.ownBlock]at hk
 ·rcases hk with hk|hk
  ·have e:k=w.heap.size+1:=hk;exact Or.inr (by omega)
  ·simp[own,Value.ownBlock]at hk
 ·simp[own,Value.ownBlock]at hk
def fJ(t:TypeId):Prop:=t≠139/\t≠49/\t≠144/\t≠141/\t≠65/\t≠109
theorem bM{base:Nat}{w w':World}{v:bB}{p:bH}{B n:Nat}{c:Array Value}{t:TypeId}(h:cC base w v p)(hf:Fr (uq B v) w w')(hn:w.heap[n]?=some (.cells c t (0,0)))(ht:fJ t)(hB:n≠B):w'.heap[n]?=some (.cells c t (0,0)) :=
 hf.keep hn (fun e=>by
  rcases e with e|e
  ·exact hB e
  ·exact h.bX hn ht e)
theorem aO:fJ 33:=by unfold fJ;decide
theorem kx:fJ 24:=by unfold fJ;decide
theorem aD:fJ 39:=by unfold fJ;decide
theorem A_:fJ 29:=by unfold fJ;decide
theorem vo:fJ 47:=by unfold fJ;decide
theorem Po.XH{n:Nat}{er:Value}{w:World}(h:Po n er w):∃t x,er=.iface t x:=by
 rcases h with rfl|⟨g,p,rfl,_⟩
 ·exact⟨_,_,rfl⟩
 ·exact⟨_,_,rfl⟩
theorem Fg(base:Nat)(w:World)(B off:Nat)(cs:List Value)(v:bB)(p:bH)(o:ei)(hs:List dW)(now:Int)(h:cC base w v p)(ha:cD w B cs off v)(ku:base<=B)(hf:bg w o hs)(hk:jh p)(ht:nI w)(n0:0<=now)(n1:now<=1099511627776) :
  Calls Tryz.prog 58 #[.pointer (some ⟨B,off,none⟩),.agg o.cells.toArray,.int .i64 now] w (bL base w B cs off v (fS p now (o.bF hs))):=by
 have qR:B<w.heap.size:=aj ha.cR;have Bd:¬v.gL B:=h.bX ha.cR (by decide);obtain⟨ah,ch,df⟩:=hf.eJ;have Ma:=hk.xc.2.2.1;have Ml:=hf.text;obtain⟨w2,bK⟩:∃w2,w2=(w.alloc (.cells o.cells.toArray 33)).alloc (.cells aM 39):=⟨_,rfl⟩;have bq:Fr ay w w2:=by rw[bK];exact((Fr.refl ay w).alloc _).alloc _
 have k1:w2.heap[w.heap.size]?=some (.cells o.cells.toArray 33 (0,0)):=by rw[bK];exact((Fr.refl ay _).alloc _).keep (af _ _) (fun h=>h)
 have k2:w2.heap[w.heap.size+1]?=some (.cells aM 39 (0,0)):=by
  have h:=af (w.alloc (.cells o.cells.toArray 33)) (.cells aM 39);rw[World.size_alloc]at h;rw[bK];exact h
 have PY:=O (show∀U,Fr ay w2 U->U.heap[w.heap.size]?=some (.cells o.cells.toArray 33 (0,0))from fun U hU=>hU.keep k1 (fun h=>h));have xk:=O Bd;have HH:=O h;have HA:=O ha;have HF:=O hf;have fX:=O df;have HT:=O ht;have dk:=O bq;have mX:=O k2;have j6:=O (show base<=w.heap.size by omega);have j8:=O qR;have FL:=O (Hq o.text w2 Ml);have LQ:=O bK
 obtain⟨a0,a1,a2,a3,a4,a5,a6,a7,a8,a9,eK,eL,a12,eH,eM,eC,eW,eX,eY,fc,a20,a21⟩:=bJ k1 df;rw[bK]at a0 a1 a2 a3 a4 a5 a6 a7 a8 a9 eK eL a12 eH eM eC eW eX eY fc a20 a21;rw[aZ df]at bK a0 a1 a2 a3 a4 a5 a6 a7 a8 a9 eK eL a12 eH eM eC eW eX eY fc a20 a21 ⊢;unfold aM at bK a0 a1 a2 a3 a4 a5 a6 a7 a8 a9 eK eL a12 eH eM eC eW eX eY fc a20 a21;have ka:=O bK;clear bK df bq k1 k2 h ha hf Bd hk ht Ml
 go_enter Tryz.func58,Tryz.ntmps58;go_wp2_with fail
 rw[<-ka.out];refine FL.out.mono ?_;rintro e u1 Ee;clear a0 a1 a2 a3 a4 a5 a6 a7 a8 a9 eK eL a12 eH eM eC eW eX eY fc a20 a21;obtain⟨rF,Ee⟩:=Ee;have S':=O rF;cases yr:ik o.text.data.toList with
 |error n =>
  rw[yr]at Ee;obtain⟨er,rfl,hen⟩:=Ee;obtain⟨et,ev,rfl⟩:=hen.XH;have HR:=O (show fS p now (o.bF hs)=(p,rep 7)by unfold fS;rw[show(o.bF hs).text=o.text from rfl,yr]);have vr:=O (rF.keep mX.out (fun h=>h));clear yr hen rF
  go_wp2_with (first|((with_reducible refine ag ⟨none,.store 39 _ _,_,_,_,_⟩ ?_);go_must(refine wpList_store_row rfl 39 (.tmp 6) (.tmp 18) rfl (w.heap.size+1) #[.int .i64 7,.string ⟨#[]⟩,.int .i64 0] rfl rfl _ aM vr.out (az _ rfl) rfl (by simp[Value.oneCell']) ?_))|fail)
  refine bodyPost_ret (results_cell_row (by rfl) _ _ (w.heap.size+1) 39 #[.int .i64 7,.string ⟨#[]⟩,.int .i64 0] (0,0) _ rfl (setRow_heap u1 (w.heap.size+1) _ _ _ _ vr.out) Tryz.underlying39 rfl (az _ rfl)) rfl ?_;unfold bL;rw[HR.out];exact⟨rfl,aA.row (aA.same HH.out HA.out (dk.out.trans S'.out)) j6.out j8.out (Nat.le_succ _) vr.out bN (by decide) _⟩
 |ok l =>
  rw[yr]at Ee;obtain⟨v1,rfl,uT⟩:=Ee;have lZ:=uT.form;rw[List.length_map]at lZ;obtain⟨al,cl,rfl⟩:=lZ;have kz:=Cu yr;have hh1:=aN.bu HF.out.cU (dk.out.trans rF);have GR:=O (Mh o.ab hs _ l now u1 hh1 uT.at kz HF.out.ab (HT.out.fr (dk.out.trans rF)) HF.out.Pu.1 HF.out.Pu.2 HF.out.aI n0 n1);rw[ur fX.out]at GR
  obtain⟨a0,a1,a2,a3,a4,a5,a6,a7,a8,a9,eK,eL,a12,eH,eM,eC,eW,eX,eY,fc,a20,a21⟩:=bJ (PY.out u1 rF) fX.out;have HFL:=O yr;clear yr rF uT kz hh1;go_wp2_with fail
  refine GR.out.mono ?_;rintro e u2⟨jZ,vR⟩;clear a0 a1 a2 a3 a4 a5 a6 a7 a8 a9 eK eL a12 eH eM eC eW eX eY fc a20 a21 GR;have ql:=O (S'.out.trans jZ);have jF:=O (dk.out.trans ql.out);cases hg:oc (o.ab.bF hs) (ra o.ab.aI).data.toList l now with
  |error n =>
   rw[hg]at vR;obtain rfl:=vR;have HR:=O (show fS p now (o.bF hs)=({p with book:=p.book.filter (fun q=>!q.oW (o.ab.bF hs))},rep 2)by
    unfold fS;rw[show(o.bF hs).text=o.text from rfl,HFL.out];simp only;rw[show oc (o.bF hs).ab (zZ (o.bF hs).aI.bF) l now=.error n from hg];rfl)
   have Bg:=O (show∀U,Fr (dK v.k v.kv) u2 U->(U.cell? ⟨B,off+1,none⟩=some (.pointer (some ⟨v.k,0,none⟩))/\U.cell? ⟨w.heap.size,1,none⟩=some (.int .i64 o.ab.part)/\U.cell? ⟨w.heap.size,2,none⟩=some (.bool o.ab.aI.ae)/\U.cell? ⟨w.heap.size,3,none⟩=some (.string o.ab.aI.host)/\U.cell? ⟨w.heap.size,4,none⟩=some (.int .i64 o.ab.aI.port)/\U.cell? ⟨w.heap.size,5,none⟩=some (.bool o.ab.o.ae)/\U.cell? ⟨w.heap.size,6,none⟩=some (.string o.ab.o.host)/\U.cell? ⟨w.heap.size,7,none⟩=some (.int .i64 o.ab.o.port)/\U.cell? ⟨w.heap.size,8,none⟩=some (.string o.ab.path)/\U.cell? ⟨w.heap.size,9,none⟩=some (.string o.ab.query)/\U.cell? ⟨w.heap.size,10,none⟩=some (.string o.ab.method)/\U.cell? ⟨w.heap.size,11,none⟩=some (.slice ah hs.length ch)/\U.cell? ⟨w.heap.size,12,none⟩=some (.bool o.ab.bP)/\U.cell? ⟨w.heap.size,13,none⟩=some (.string o.ab.body))from fun U hU=>by
    have j1:=(HA.out.bd jF.out).fr hU (fun hb=>xk.out (Or.inr (Or.inl hb)));have j2:=hU.keep (PY.out u2 ql.out) (fun hb=>by
     have h3:=(HH.out.bd jF.out).book.dG hb;obtain⟨c,t,e,hk⟩:=h3;rw[PY.out u2 ql.out]at e;cases e;revert hk;decide)
    obtain⟨a0,a1,a2,a3,a4,a5,a6,a7,a8,a9,eK,eL,a12,eH,eM,eC,eW,eX,eY,fc,a20,a21⟩:=bJ j2 fX.out;exact⟨j1.dM,a1,a2,a3,a4,a5,a6,a7,a8,a9,eK,eL,a12,eH⟩)
   have HFG:=O (show∀U,Fr ay u2 U->Calls Tryz.prog 118 #[.pointer (some ⟨v.k,0,none⟩),.agg #[.int .i64 o.ab.part,.bool o.ab.aI.ae,.string o.ab.aI.host,.int .i64 o.ab.aI.port,.bool o.ab.o.ae,.string o.ab.o.host,.int .i64 o.ab.o.port,.string o.ab.path,.string o.ab.query,.string o.ab.method,.slice ah hs.length ch,.bool o.ab.bP,.string o.ab.body]] U (nN base U v.k v.kv p.book (bI.oW (o.ab.bF hs)))from fun U hU=>by
    have:=EI base U v.k v.kv p.book o.ab hs ((HH.out.bd jF.out).bd hU).book (by omega);rw[ur fX.out]at this;exact this)
   clear hg;go_wp2_with fail
   go_region_held3 (fun U=>Fr (dK v.k v.kv) u2 U/\U.cell? ⟨B,off+1,none⟩=some (.pointer (some ⟨v.k,0,none⟩))/\U.cell? ⟨w.heap.size,1,none⟩=some (.int .i64 o.ab.part)/\U.cell? ⟨w.heap.size,2,none⟩=some (.bool o.ab.aI.ae)/\U.cell? ⟨w.heap.size,3,none⟩=some (.string o.ab.aI.host)/\U.cell? ⟨w.heap.size,4,none⟩=some (.int .i64 o.ab.aI.port)/\U.cell? ⟨w.heap.size,5,none⟩=some (.bool o.ab.o.ae)/\U.cell? ⟨w.heap.size,6,none⟩=some (.string o.ab.o.host)/\U.cell? ⟨w.heap.size,7,none⟩=some (.int .i64 o.ab.o.port)/\U.cell? ⟨w.heap.size,8,none⟩=some (.string o.ab.path)/\U.cell? ⟨w.heap.size,9,none⟩=some (.string o.ab.query)/\U.cell? ⟨w.heap.size,10,none⟩=some (.string o.ab.method)/\U.cell? ⟨w.heap.size,11,none⟩=some (.slice ah hs.length ch)/\U.cell? ⟨w.heap.size,12,none⟩=some (.bool o.ab.bP)/\U.cell? ⟨w.heap.size,13,none⟩=some (.string o.ab.body)) ((refine(fun hU=>⟨hU,Bg.out _ hU⟩) ?_;first|exact Fr.drew (Fr.refl _ _)|assumption))
    ((first
     |(go_at_call 118;refine(HFG.out _ (Fr.drew (Fr.refl _ _))).mono ?_;rintro e u3 ⟨rfl,jQ⟩;have qp:Fr (dK v.k v.kv) u2 u3:=(Fr.drew (Fr.refl _ _)).trans (by obtain⟨_,_,h,_⟩:=jQ;exact h))))
   have HPP:=O (aA.book ((HH.out.bd jF.out).bd (Fr.drew (Fr.refl ay u2))) ((HA.out.bd jF.out).bd (Fr.drew (Fr.refl ay u2))) xk.out jQ);have vr:=O (qp.keep (ql.out.keep mX.out (fun h=>h)) (fun hb=>by
    obtain⟨c,t,e,hk⟩:=(HH.out.bd jF.out).book.dG hb;rw[ql.out.keep mX.out (fun h=>h)]at e;cases e;revert hk;decide))
   clear jQ qp Bg HFG;go_wp2_with (first|((with_reducible refine ag ⟨none,.store 39 _ _,_,_,_,_⟩ ?_);go_must(refine wpList_store_row rfl 39 (.tmp 6) (.tmp 36) rfl (w.heap.size+1) #[.int .i64 2,.string ⟨#[]⟩,.int .i64 0] rfl rfl _ aM vr.out (az _ rfl) rfl (by simp[Value.oneCell']) ?_))|fail)
   refine bodyPost_ret (results_cell_row (by rfl) _ _ (w.heap.size+1) 39 #[.int .i64 2,.string ⟨#[]⟩,.int .i64 0] (0,0) _ rfl (setRow_heap u3 (w.heap.size+1) _ _ _ _ vr.out) Tryz.underlying39 rfl (az _ rfl)) rfl ?_;unfold bL;rw[HR.out];exact⟨rfl,aA.row ((HPP.out.after (Fr.drew (Fr.refl ay u2))).after jF.out) j6.out j8.out (Nat.le_succ _) vr.out bN (by decide) _⟩
  |ok m =>
   rw[hg]at vR;obtain⟨v2,rfl,lr⟩:=vR;have HR:=O (show fS p now (o.bF hs)=({p with book:=ob p.book m now},rep 1)by
    unfold fS;rw[show(o.bF hs).text=o.text from rfl,HFL.out];simp only;rw[show oc (o.bF hs).ab (zZ (o.bF hs).aI.bF) l now=.ok m from hg])
   have nv:=Mk hg;have Pm:=(HH.out.bd jF.out).book;have aiA:=lr.form;rw[List.length_map]at aiA;obtain⟨am,cm,rfl⟩:=aiA;have HP:=O (Et base u2 v.k v.kv p.book _ m now Pm lr.at (fun _ k hk hb=>by
    have h1:=lr.block k hk;have h2:=HH.out.fO (Or.inr (Or.inl hb));have h3:=dk.out.size;have h4:=S'.out.size;omega) (by omega))
   have c1:=(HA.out.bd jF.out).dM;clear hg nv Pm lr;go_wp2_with fail
   refine HP.out.mono ?_;rintro e u3⟨rfl,jQ⟩;have HPP:=O (aA.book (HH.out.bd jF.out) (HA.out.bd jF.out) xk.out jQ);have qp:Fr (dK v.k v.kv) u2 u3:=by obtain⟨_,_,h,_⟩:=jQ;exact h
   have vr:=O (qp.keep (ql.out.keep mX.out (fun h=>h)) (fun hb=>by
    obtain⟨c,t,e,hk⟩:=(HH.out.bd jF.out).book.dG hb;rw[ql.out.keep mX.out (fun h=>h)]at e;cases e;revert hk;decide))
   clear jQ qp HP c1;go_wp2_with (first|((with_reducible refine ag ⟨none,.store 39 _ _,_,_,_,_⟩ ?_);go_must(refine wpList_store_row rfl 39 (.tmp 6) (.tmp 44) rfl (w.heap.size+1) #[.int .i64 1,.string ⟨#[]⟩,.int .i64 0] rfl rfl _ aM vr.out (az _ rfl) rfl (by simp[Value.oneCell']) ?_))|fail)
   refine bodyPost_ret (results_cell_row (by rfl) _ _ (w.heap.size+1) 39 #[.int .i64 1,.string ⟨#[]⟩,.int .i64 0] (0,0) _ rfl (setRow_heap u3 (w.heap.size+1) _ _ _ _ vr.out) Tryz.underlying39 rfl (az _ rfl)) rfl ?_;unfold bL;rw[HR.out];exact⟨rfl,aA.row (HPP.out.after jF.out) j6.out j8.out (Nat.le_succ _) vr.out bN (by decide) _⟩
theorem aA.dh{base:Nat}{w1 w2:World}{B off:Nat}{cs:List Value}{v:bB}{p:bH}{XO:Value}{l:List (cO×Int)}(h:cC base w1 v p)(ha:cD w1 B cs off v)(ku:base<=B)(ho:OwnRows base 109 4 w2 XO (l.map ic))(hf:Fr (own v.cv) w1 w2)(a_:∀k,own XO k->own v.cv k\/w1.heap.size<=k) :
  aA base w1 B cs off v {p with dh:=l} (w2.setCell ⟨B,off+2,none⟩ XO):=by
 have hB:¬v.gL B:=h.bX ha.cR (by decide);have o7:=hf.keep ha.cR (fun hb=>hB (Or.inr (Or.inr hb)));have kb:lT base w1 (own v.cv):=fun k hk hl=>h.off k (Or.inr (Or.inr hk)) hl;have fM:Fr (one B) w2 (w2.setCell ⟨B,off+2,none⟩ XO):=(Fr.refl (one B) w2).setCell (p:=⟨B,off+2,none⟩) (fun _=>rfl) _;have ap5:lT base w2 (one B):=by
  rintro k rfl _;exact⟨ku,fun c f e=>by rw[o7]at e;cases e⟩
 have qR:B<w1.heap.size:=aj ha.cR;have p2:ba base w2 v.b v.gv v.wv p.aH p.waits:=h.gK.fr hf kb (fun hb=>h.qO (Or.inl rfl) hb) (fun k hk hb=>h.qO (Or.inr (Or.inl hk)) hb) (fun k hk hb=>h.qO (Or.inr (Or.inr hk)) hb);have p3:cy base w2 v.k v.kv p.book:=h.book.fr hf (fun k hk hb=>h.AZ hk hb);refine⟨⟨v.b,v.gv,v.wv,v.k,v.kv,XO⟩,⟨p2.fr fM ap5 ?_ ?_ ?_,p3.fr fM ?_,ho.fr fM ?_⟩,?_,?_,?_⟩
 ·intro e;exact hB (Or.inl (by rw[<-show v.b=B from e];exact Or.inl rfl))
 ·intro k hk e;exact hB (Or.inl (by rw[<-show k=B from e];exact Or.inr (Or.inl hk)))
 ·intro k hk e;exact hB (Or.inl (by rw[<-show k=B from e];exact Or.inr (Or.inr hk)))
 ·intro k hk e;exact hB (Or.inr (Or.inl (by rw[<-show k=B from e];exact hk)))
 ·intro k hk e;have e':k=B:=e;subst e';rcases a_ k hk with h1|h1
  ·exact hB (Or.inr (Or.inr h1))
  ·omega
 ·exact(show Fr (uq B v) w1 w2 from hf.mono (fun k _ hk=>Or.inr (Or.inr (Or.inr hk)))).setCell (p:=⟨B,off+2,none⟩) (fun _=>Or.inl rfl) _
 ·rintro k(hk|hk|hk)
  ·exact Or.inl (Or.inl hk)
  ·exact Or.inl (Or.inr (Or.inl hk))
  ·rcases a_ k hk with h1|h1
   ·exact Or.inl (Or.inr (Or.inr h1))
   ·exact Or.inr h1
 ·have e:=aP o7 (off+2) XO;rw[e];have e2:lG cs off ⟨v.b,v.gv,v.wv,v.k,v.kv,XO⟩=cs.set (off+2) XO:=by
   have:=qQ ha.c0 ha.c1 ha.c2;unfold lG at this ⊢;simp only;have h3:(cs.set off (.pointer (some ⟨v.b,0,none⟩))).set (off+1) (.pointer (some ⟨v.k,0,none⟩))=cs:=by
    apply List.ext_getElem?;intro i;by_cases h1:i=off+1
    ·subst h1;rw[List.getElem?_set_self (by simp;exact(List.getElem?_eq_some_iff.1 ha.c1).1),ha.c1]
    rw[List.getElem?_set_ne (Ne.symm h1)];by_cases h0:i=off
    ·subst h0;rw[List.getElem?_set_self (List.getElem?_eq_some_iff.1 ha.c0).1,ha.c0]
    rw[List.getElem?_set_ne (Ne.symm h0)]
   rw[h3]
  rw[e2];simp
theorem Cw(o:cO)(l:List (cO×Int)):(l.map ic).filter (fun x=>!JJ o x)=(Ey o l).map ic:=by
 unfold Ey;rw[List.filter_map];rfl
theorem Bi(c:cO×Int):∀u∈ic c,u.oneCell'=true:=by
 intro u hu;unfold ic at hu;simp only[List.mem_cons,List.not_mem_nil,or_false]at hu;rcases hu with rfl|rfl|rfl|rfl<;>rfl
theorem Hv(c:cO×Int)(o:cO)(bo:Nat)(w:World)(ho:w.heap[bo]?=some (.cells #[.bool o.ae,.string o.host,.int .i64 o.port] 24 (0,0))) :
  Calls Tryz.prog 187 #[.agg (ic c).toArray,.pointer (some ⟨bo,0,none⟩)] w fun e w'=>e=.returned (.bool (JJ o (ic c)))/\Fr ay w w':=by
 have hC:=O (show JJ o (ic c)=c.1.eN o from rfl);have heq:=ey c.1 o;rw[hC.out];unfold ic;have dF:Fr ay w _:=(Fr.refl ay w).alloc (.cells #[.bool c.1.ae,.string c.1.host,.int .i64 c.1.port,.int .i64 c.2] 109);have lr:=O (dF.keep ho (fun h=>h));clear hC ho;go_enter Tryz.func187,Tryz.ntmps187
 go_wp2_with (first|((with_reducible refine ag ⟨some 6,_,_,_,_,_⟩ ?_);go_must(refine wpList_load_row rfl 24 (.tmp 1) rfl bo rfl _ _ (0,0) _ lr.out Tryz.underlying24 rfl (by kernel_rfl) ?_))|fail)
 go_ret;exact⟨rfl,dF⟩
theorem Fp(base:Nat)(w:World)(B off:Nat)(cs:List Value)(v:bB)(p:bH)(o:cO)(h:cC base w v p)(ha:cD w B cs off v)(ku:base<=B) :
  Calls Tryz.prog 120 #[.pointer (some ⟨B,off,none⟩),.agg o.cells.toArray] w fun e w'=>e=.returned (.tuple #[])/\aA base w B cs off v {p with dh:=Ey o p.dh} w':=by
 unfold cO.cells;have iJ:Fr ay w (w.alloc (.cells #[.bool o.ae,.string o.host,.int .i64 o.port] 24)):=(Fr.refl ay w).alloc _;have Pm:=af w (.cells #[.bool o.ae,.string o.host,.int .i64 o.port] 24);have h1:=h.bd iJ;have ha1:=ha.bd iJ;have qR:B<w.heap.size:=aj ha.cR;have uF:∀k,own v.cv k->k<w.heap.size:=fun k hk=>h.fO (Or.inr (Or.inr hk))
 have hd:=zL base 187 #[.pointer (some ⟨w.heap.size,0,none⟩)] (JJ o) v.cv (p.dh.map ic) _ Tryz.call187 (fun x hx u hu=>by
  obtain⟨c,_,rfl⟩:=List.mem_map.1 hx;exact Hv c o w.heap.size u (hu.keep Pm (fun hk=>by have:=uF _ hk;omega))) h1.dh
 rw[Cw,List.length_map]at hd;have c2:=ha1.ir;have f2:=ha1.free (off+2);obtain⟨av,cv,hcv⟩:=h1.dh.form;rw[List.length_map]at hcv;rw[hcv]at c2 hd;have wS:=O hcv;have HD:=O hd;have H1:=O h1;have Qf:=O ha1;have oK:=O iJ;have Bd:¬v.gL B:=h.bX ha.cR (by decide);have xk:=O Bd;clear h ha Pm h1 ha1 hd hcv iJ Bd f2 uF;go_enter Tryz.func120,Tryz.ntmps120;go_wp2_with fail
 refine HD.out.mono ?_;rintro e w2⟨a2,c2',rfl,lr,bq,bV⟩;rw[<-wS.out]at bq bV;have HP:=O (aA.dh H1.out Qf.out ku lr bq (fun k hk=>Or.inl (by rw[<-bV];exact hk)));have Qg:=bq.keep Qf.out.cR (fun hb=>xk.out (Or.inr (Or.inr hb)));have d2:w2.cell? ⟨B,off+2,none⟩=some (.slice av p.dh.length cv):=by
  have e:=Qf.out.c2;rw[wS.out]at e;simp[World.cell?,Qg,e]
 have e2:w2.frozen? ⟨B,off+2,none⟩=false:=by simp[World.frozen?,Qg]
 clear HD c2 lr bq bV Qg;go_wp2;go_end0;exact⟨rfl,HP.out.after oK.out⟩
def fU(o:ei×List dW):Bool:=!jx o.1.ab o.2||decide ((900:Int)<(o.1.ab.body.size:Int)+(o.1.text.size:Int)+(o.1.user.size:Int)+(o.1.pass.size:Int)+(o.1.aB.size:Int))
def jy(os:List (ei×List dW)):Bool:=decide (os.length<=30)&&!(os.any fU)
theorem aN.det{k:Nat}{w:World}{v:Value}{xs ys:List (List Value)}(h:aN k w v xs)(h':aN k w v ys):xs=ys:=by
 obtain⟨o1,h1⟩:=h;obtain⟨o2,h2⟩:=h';rcases h1 with ⟨a,c,hv,hs,_⟩|⟨bk,o,c,hv,_,_,_,h4⟩<;>rcases h2 with ⟨a',c',nu,JZ,_⟩|⟨ZE,o',c',nu,_,_,_,h4'⟩
 ·rw[hs,JZ]
 ·rw[hv]at nu;injection nu with _ e _
  rw[hs];exact(List.length_eq_zero_iff.1 e.symm).symm
 ·rw[hv]at nu;injection nu with _ e _
  rw[JZ];exact List.length_eq_zero_iff.1 e
 ·rw[hv]at nu;injection nu with ea e _
  injection ea with ea
  injection ea with e1 e2
  subst e1 e2;refine List.ext_getElem e (fun j hj Wz=>?_);have lx:=(o1 _ (List.getElem_mem hj)).1;have ly:=(o2 _ (List.getElem_mem Wz)).1;refine List.ext_getElem (lx.trans ly.symm) (fun i hi hi'=>?_);have q:=h4 j _ (List.getElem?_eq_getElem hj) i _ (List.getElem?_eq_getElem hi);have q':=h4' j _ (List.getElem?_eq_getElem Wz) i _ (List.getElem?_eq_getElem hi');rw[q]at q';injection q'
theorem Qr{hs JZ:List dW}(h:hs.map dW.cells=JZ.map dW.cells):hs=JZ:=by
 have:=congrArg (List.map J4) h;rw[List.map_map,List.map_map]at this;have e:∀l:List dW,l.map (J4 ∘ dW.cells)=l:=fun l=>by
  induction l with
  |nil=>rfl
  |cons p l ih=>rw[List.map_cons,ih];rfl
 rw[e,e]at this;exact this
theorem ei.vz{o o':ei}(h:o.cells=o'.cells):o=o':=by
 obtain⟨a,⟨b,⟨c1,c2,c3⟩,⟨d1,d2,d3⟩,e1,e2,e3,e4,e5,e6⟩,f,g,h1,h2,i,j,k,l⟩:=o;obtain⟨a',⟨b',⟨c1',c2',c3'⟩,⟨d1',d2',d3'⟩,e1',WX,e3',e4',e5',e6'⟩,f',g',JG,h2',i',j',k',l'⟩:=o';simp only[ei.cells,dp.cells,List.cons_append,List.nil_append,List.cons.injEq,Value.bool.injEq,Value.string.injEq,Value.int.injEq,true_and,and_true]at h
 obtain⟨rfl,rfl,rfl,rfl,rfl,rfl,rfl,rfl,rfl,rfl,rfl,rfl,rfl,rfl,rfl,rfl,rfl,rfl,rfl,rfl,rfl,rfl⟩:=h;rfl
theorem abc{w:World}{o o':ei×List dW}(h:jw w o.1 o.2)(h':jw w o'.1 o'.2)(e:o.1.cells=o'.1.cells):o=o':=by
 have e1:=ei.vz e;have h2:=h'.ab.cU;rw[<-e1]at h2;have e2:=Qr (h.ab.cU.det h2);exact Prod.ext e1 e2
theorem Ms(o:ei)(hs:List dW)(w:World)(h:jw w o hs) :
  Calls Tryz.prog 51 #[.agg o.cells.toArray] w fun e w'=>e=.returned (.bool (fU (o,hs)))/\Fr ay w w':=by
 obtain⟨⟨hh,hl,kz,hz,hbd,_,_,_⟩,aiY,aiZ,ai0,zcn,_,_,_⟩:=h;obtain⟨wb,eQ⟩:∃wb,wb=w.alloc (.cells o.cells.toArray 33):=⟨_,rfl⟩;have fa:Fr ay w wb:=by rw[eQ];exact(Fr.refl ay w).alloc _
 have gZ:wb.heap[w.heap.size]?=some (.cells o.cells.toArray 33 (0,0)):=by rw[eQ];exact af _ _
 obtain⟨ah,ch,df⟩:=aN.form hh;rw[List.length_map]at df;have HC:=O (show∀U,Fr ay wb U->U.cell? ⟨w.heap.size,13,none⟩=some (.string o.ab.body)/\U.cell? ⟨w.heap.size,15,none⟩=some (.string o.text)/\U.cell? ⟨w.heap.size,16,none⟩=some (.string o.user)/\U.cell? ⟨w.heap.size,17,none⟩=some (.string o.pass)/\U.cell? ⟨w.heap.size,18,none⟩=some (.string o.aB)from fun U hU=>by
  obtain⟨a0,a1,a2,a3,a4,a5,a6,a7,a8,a9,eK,eL,a12,eH,eM,eC,eW,eX,eY,fc,a20,a21⟩:=bJ (hU.keep gZ (fun h=>h)) df;exact⟨eH,eC,eW,eX,eY⟩)
 have Ta:=O (CA o.ab hs wb (aN.bu hh fa) hl kz hz);obtain⟨a0,a1,a2,a3,a4,a5,a6,a7,a8,a9,eK,eL,a12,eH,eM,eC,eW,eX,eY,fc,a20,a21⟩:=bJ gZ df;rw[eQ]at a1 a2 a3 a4 a5 a6 a7 a8 a9 eK eL a12 eH;rw[aZ df]at eQ a1 a2 a3 a4 a5 a6 a7 a8 a9 eK eL a12 eH ⊢;rw[ur df]at Ta;have gS:=O fa;have lq:=O eQ;clear hh hl kz hz fa gZ df eQ a0 eM eC eW eX eY fc a20 a21;cases hrf:jx o.ab hs
 ·have HR:=O (show fU (o,hs)=true by unfold fU;simp only;rw[hrf];rfl);rw[hrf]at Ta;clear hrf;go_enter Tryz.func51,Tryz.ntmps51;go_wp2_with fail
  rw[<-lq.out];refine Ta.out.mono ?_;rintro e u⟨rfl,hf⟩;clear a1 a2 a3 a4 a5 a6 a7 a8 a9 eK eL a12 eH;go_wp2;go_ret;exact⟨by rw[HR.out];rfl,gS.out.trans hf⟩
 ·have HR:=O (show fU (o,hs)=decide ((900:Int)<(o.ab.body.size:Int)+(o.text.size:Int)+(o.user.size:Int)+(o.pass.size:Int)+(o.aB.size:Int))by unfold fU;simp only;rw[hrf];rfl);rw[hrf]at Ta;clear hrf;go_enter Tryz.func51,Tryz.ntmps51;go_wp2_with fail
  rw[<-lq.out];refine Ta.out.mono ?_;rintro e u⟨rfl,hf⟩;clear a1 a2 a3 a4 a5 a6 a7 a8 a9 eK eL a12 eH;obtain⟨b13,b15,b16,b17,b18⟩:=HC.out u hf;go_wp2;go_ret;exact⟨by rw[HR.out];rfl,gS.out.trans hf⟩
theorem kQ(v:Value)(os:List (ei×List dW))(w:World)(h:gM w v os) :
  Calls Tryz.prog 15 #[v] w fun e w'=>e=.returned (.bool (jy os))/\Fr ay w w':=by
 classical
 obtain⟨hv,hl,ha⟩:=h;obtain⟨av,cv,cA⟩:=hv.form;rw[List.length_map]at cA;subst cA;obtain⟨p,hp⟩:∃p:List Value->Bool,∀o∈os,p o.1.cells=fU o:=⟨fun x=>decide (∃o∈os,o.1.cells=x/\fU o=true),fun o ho=>by
  cases hq:fU o
  ·refine decide_eq_false (fun⟨o',FJ,e,hq'⟩=>?_);rw[abc (ha o' FJ) (ha o ho) e,hq]at hq';cases hq'
  ·exact decide_eq_true ⟨o,ho,rfl,hq⟩⟩
 have hcf:=O (wU _ #[] p _ _ w Tryz.call51 (fun x hx u hu=>by
  obtain⟨o,ho,rfl⟩:=List.mem_map.1 hx;rw[hp o ho];have h:=ha o ho;have h':jw u o.1 o.2:={h with ab:={h.ab with cU:=aN.bu h.ab.cU hu}};simpa using Ms o.1 o.2 u h') hv)
 have dL:=O (show(os.map fun o=>o.1.cells).any p=os.any fU by
  rw[List.any_map];clear hcf hv hl
  induction os with
  |nil=>rfl
  |cons o os ih =>
   rw[List.any_cons,List.any_cons,ih (fun x hx=>ha x (List.mem_cons_of_mem _ hx)) (fun x hx=>hp x (List.mem_cons_of_mem _ hx))];show(p o.1.cells||_)=_;rw[hp o (List.mem_cons_self ..)])
 clear hp ha hv;by_cases h30:os.length<=30
 ·have hb:=O (show jy os=!(os.any fU)by unfold jy;rw[decide_eq_true h30];rfl);have i30:(os.length:Int)<=30:=by omega
  have d30:decide ((os.length:Int)<=30)=true:=decide_eq_true i30;go_enter Tryz.func15,Tryz.ntmps15;go_wp2_with fail
  refine hcf.out.mono ?_;rw[dL.out];rintro e u⟨rfl,hf⟩;go_wp2;go_ret;exact⟨cJ hb.out.symm,hf⟩
 ·have hb:=O (show jy os=false by unfold jy;rw[decide_eq_false h30];rfl);have i30:¬(os.length:Int)<=30:=by omega
  have d30:decide ((os.length:Int)<=30)=false:=decide_eq_false i30;go_enter Tryz.func15,Tryz.ntmps15;go_wp2;go_ret;exact⟨cJ hb.out.symm,Fr.refl _ _⟩
theorem bg.Mt{w:World}{o:ei}{hs:List dW}(h:jw w o hs)(hb:fU (o,hs)=false):bg w o hs:=by
 obtain⟨⟨hh,hl,kz,hz,hbd,z1,z2,z3⟩,aiY,aiZ,ai0,zcn,y1,y2,y3⟩:=h;unfold fU at hb;simp only[Bool.or_eq_false_iff,Bool.not_eq_false',decide_eq_false_iff_not]at hb;obtain⟨h1,h2⟩:=hb;have hq:=h1;unfold jx at hq;simp only[Bool.and_eq_true,decide_eq_true_eq]at hq;obtain⟨hf,hq⟩:=hq;have b1:=Go.bounds_i64 z1;have b2:=Go.bounds_i64 z2;have b3:=Go.bounds_i64 z3;have b4:=Go.bounds_i64 y1
 have b5:=Go.bounds_i64 y2;have b6:=Go.bounds_i64 y3;unfold Fx at hf;simp only[Bool.and_eq_true,decide_eq_true_eq,Bool.not_eq_true',List.any_eq_false]at hf;exact⟨hh,⟨by omega,by omega,fun p hp=>by
  have:=hf.2 p hp;unfold Mr at this;rw[decide_eq_true_eq]at this;omega⟩,by omega,by omega,by omega,by omega,by omega,by omega,by omega,by omega,by omega,by omega,b2,b3,b1,b4,b5,b6⟩
theorem PE{P G:Nat->Array Value->World->Prop}{T:Prop}(main:(∀a b c,P a b c->G a b c)->T)(rest:∀a b c,P a b c->G a b c):T:=main rest
def mW(base:Nat)(a:World)(B off:Nat)(cs:List Value)(v:bB)(p:bH)(n:Nat)(X:Array Value)(t:TypeId)(W:World):Prop :=
 ∃v',cC base W v' p/\Fr (uq B v) a W/\(∀k,v'.gL k->v.gL k\/a.heap.size<=k)/\W.heap[B]?=some (.cells (lG cs off v').toArray 105 (0,0))/\W.heap[n]?=some (.cells X t (0,0))/\¬v'.gL n/\a.heap.size<=n
section
variable {base B off n : Nat} {a w3 u : World} {cs : List Value} {v : bB} {p p0 : bH} {z : Array Value} {t : TypeId}
theorem mW.core{v':bB}(h1:cC base u v' p)(h2:Fr (uq B v) a u)(h3:∀k,v'.gL k->v.gL k\/a.heap.size<=k)(h4:u.heap[B]?=some (.cells (lG cs off v').toArray 105 (0,0)))(hn:u.heap[n]?=some (.cells z t (0,0)))(hf:¬v'.gL n)(PF:a.heap.size<=n)(ku:base<=a.heap.size)(hB:B<a.heap.size)(hs:t≠9)(X:Array Value) :
  mW base a B off cs v p n X t (u.setRow n X)/\∀vv ss,aS base u vv ss->aS base (u.setRow n X) vv ss:=by
 have fM:Fr (one n) u (u.setRow n X):=(Fr.refl (one n) u).setRow (fun _=>rfl) _;have kb:lT base u (one n):=by
  rintro k rfl _;exact⟨by omega,fun c f e=>by rw[hn]at e;cases e;exact hs rfl⟩
 refine⟨⟨v',h1.fr fM kb (fun i hi e=>?_),h2.step fM (fun k hk e=>?_),h3,fM.keep h4 (fun e=>?_),nP hn,hf,PF⟩,fun vv ss h=>h.fr fM kb⟩
 ·have e':i=n:=e;subst e';exact hf hi
 ·have e':k=n:=e;omega
 ·have e':B=n:=e;omega
theorem mW.after(h:aA base a B cs off v p u)(ku:base<=a.heap.size)(hB:B<a.heap.size)(hs:t≠9)(z X:Array Value) :
  mW base a B off cs v p u.heap.size X t ((u.alloc (.cells z t)).setRow u.heap.size X)/\∀vv ss,aS base u vv ss->aS base ((u.alloc (.cells z t)).setRow u.heap.size X) vv ss:=by
 obtain⟨v',h1,h2,h3,h4⟩:=h;have dF:Fr ay u (u.alloc (.cells z t)):=(Fr.refl ay u).alloc _;obtain⟨g1,g2⟩:=mW.core (h1.bd dF) (h2.alloc _) h3 (dF.keep h4 (fun h=>h)) (af _ _) (fun hf=>by have:=h1.fO hf;omega) h2.size ku hB hs X;exact⟨g1,fun vv ss hv=>g2 vv ss (hv.bd dF)⟩
theorem mW.before(h0:cC base a v p0)(f3:Fr ay a w3)(PF:a.heap.size<=n)(hn:w3.heap[n]?=some (.cells z t (0,0)))(h:aA base w3 B cs off v p u)(ku:base<=a.heap.size)(hB:B<a.heap.size)(hs:t≠9)(X:Array Value) :
  mW base a B off cs v p n X t (u.setRow n X)/\∀vv ss,aS base u vv ss->aS base (u.setRow n X) vv ss:=by
 obtain⟨v',h1,h2,h3,h4⟩:=h;have hv:¬v.gL n:=fun hf=>by have:=h0.fO hf;omega
 have hl:=aj hn;refine mW.core h1 (Fr.step (S:=uq B v) (f3.mono (fun _ _ h=>absurd h (fun h=>h))) h2 (fun _ _ h=>h)) (fun k hk=>?_) h4 (h2.keep hn (fun e=>?_)) (fun hf=>?_) PF ku hB hs X
 ·rcases h3 k hk with h|h
  ·exact Or.inl h
  ·exact Or.inr (Nat.le_trans f3.size h)
 ·rcases e with e|e
  ·omega
  ·exact hv e
 ·rcases h3 n hf with h|h
  ·exact hv h
  ·omega
end
end Go.Proofs.YtjdmjbdkdmbaiaaGreatDoor
