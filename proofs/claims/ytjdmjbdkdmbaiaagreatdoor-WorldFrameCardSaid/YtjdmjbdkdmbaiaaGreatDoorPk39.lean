/- WRight, WorldLaw3, OpenOp, WGet, PathSm, OpBlk, WorldLaw4, WGetX, LivedP. -/
import Derived.Test.YtjdmjbdkdmbaiaaGreatDoorPk38
set_option maxRecDepth 100000
set_option maxHeartbeats 16000000
set_option linter.unusedSimpArgs false
namespace Go.Proofs.YtjdmjbdkdmbaiaaGreatDoor
open Go.RowKit
theorem gF(o:ei)(hs:List dW)(w:World)(h:bg w o hs) :
  Calls Tryz.prog 53 #[.agg o.cells.toArray] w fun e w'=>e=.returned (.bool (o.bF hs).right)/\Fr ay w w':=by
 have di:=O (show(o.bF hs).right=(decide (1<=o.what)&&(decide (o.what<=10)&&(mg o.ab.part o.ab.method hs&&(jg o.ab.aI&&(jg o.ab.o&&(decide (o.ab.path.size<=200)&&(o.ab.path.data.toList.head?==some 47&&decide (o.text.size<=3000))))))))from rfl);generalize (o.bF hs).right=res at di ⊢;obtain⟨ah,ch,df⟩:=aN.form h.cU;rw[List.length_map]at df
 have MT:o.cells=[.int .i64 o.what,.int .i64 o.ab.part,.bool o.ab.aI.ae,.string o.ab.aI.host,.int .i64 o.ab.aI.port,.bool o.ab.o.ae,.string o.ab.o.host,.int .i64 o.ab.o.port,.string o.ab.path,.string o.ab.query,.string o.ab.method,.slice ah hs.length ch,.bool o.ab.bP,.string o.ab.body,.bool o.proxy,.string o.text,.string o.user,.string o.pass,.string o.aB,.int .i64 o.cert,.bool o.all,.int .i64 o.n]:=by unfold ei.cells dp.cells;rw[df];rfl
 have nw:o.ab.cells=[.int .i64 o.ab.part,.bool o.ab.aI.ae,.string o.ab.aI.host,.int .i64 o.ab.aI.port,.bool o.ab.o.ae,.string o.ab.o.host,.int .i64 o.ab.o.port,.string o.ab.path,.string o.ab.query,.string o.ab.method,.slice ah hs.length ch,.bool o.ab.bP,.string o.ab.body]:=by unfold dp.cells;rw[df]
 obtain⟨w2,bK⟩:∃w2,w2=(w.alloc (.cells #[.int .i64 o.what,.int .i64 o.ab.part,.bool o.ab.aI.ae,.string o.ab.aI.host,.int .i64 o.ab.aI.port,.bool o.ab.o.ae,.string o.ab.o.host,.int .i64 o.ab.o.port,.string o.ab.path,.string o.ab.query,.string o.ab.method,.slice ah hs.length ch,.bool o.ab.bP,.string o.ab.body,.bool o.proxy,.string o.text,.string o.user,.string o.pass,.string o.aB,.int .i64 o.cert,.bool o.all,.int .i64 o.n] 33)).alloc (.cells #[.int .i64 o.ab.part,.bool o.ab.aI.ae,.string o.ab.aI.host,.int .i64 o.ab.aI.port,.bool o.ab.o.ae,.string o.ab.o.host,.int .i64 o.ab.o.port,.string o.ab.path,.string o.ab.query,.string o.ab.method,.slice ah hs.length ch,.bool o.ab.bP,.string o.ab.body] 29):=⟨_,rfl⟩
 have bq:Fr ay w w2:=by rw[bK];exact((Fr.refl ay w).alloc _).alloc _
 have k1:w2.heap[w.heap.size]?=some (.cells #[.int .i64 o.what,.int .i64 o.ab.part,.bool o.ab.aI.ae,.string o.ab.aI.host,.int .i64 o.ab.aI.port,.bool o.ab.o.ae,.string o.ab.o.host,.int .i64 o.ab.o.port,.string o.ab.path,.string o.ab.query,.string o.ab.method,.slice ah hs.length ch,.bool o.ab.bP,.string o.ab.body,.bool o.proxy,.string o.text,.string o.user,.string o.pass,.string o.aB,.int .i64 o.cert,.bool o.all,.int .i64 o.n] 33 (0,0)):=by rw[bK];exact((Fr.refl ay _).alloc _).keep (af _ _) (fun h=>h)
 have k2:w2.heap[w.heap.size+1]?=some (.cells #[.int .i64 o.ab.part,.bool o.ab.aI.ae,.string o.ab.aI.host,.int .i64 o.ab.aI.port,.bool o.ab.o.ae,.string o.ab.o.host,.int .i64 o.ab.o.port,.string o.ab.path,.string o.ab.query,.string o.ab.method,.slice ah hs.length ch,.bool o.ab.bP,.string o.ab.body] 29 (0,0)):=by
  have h:=af (w.alloc (.cells #[.int .i64 o.what,.int .i64 o.ab.part,.bool o.ab.aI.ae,.string o.ab.aI.host,.int .i64 o.ab.aI.port,.bool o.ab.o.ae,.string o.ab.o.host,.int .i64 o.ab.o.port,.string o.ab.path,.string o.ab.query,.string o.ab.method,.slice ah hs.length ch,.bool o.ab.bP,.string o.ab.body,.bool o.proxy,.string o.text,.string o.user,.string o.pass,.string o.aB,.int .i64 o.cert,.bool o.all,.int .i64 o.n] 33)) (.cells #[.int .i64 o.ab.part,.bool o.ab.aI.ae,.string o.ab.aI.host,.int .i64 o.ab.aI.port,.bool o.ab.o.ae,.string o.ab.o.host,.int .i64 o.ab.o.port,.string o.ab.path,.string o.ab.query,.string o.ab.method,.slice ah hs.length ch,.bool o.ab.bP,.string o.ab.body] 29)
  rw[World.size_alloc]at h;rw[bK];exact h
 have HC:=O (show∀U,Fr ay w2 U->U.cell? ⟨w.heap.size,0,none⟩=some (.int .i64 o.what)/\U.cell? ⟨w.heap.size,15,none⟩=some (.string o.text)/\U.cell? ⟨w.heap.size+1,0,none⟩=some (.int .i64 o.ab.part)/\U.cell? ⟨w.heap.size+1,1,none⟩=some (.bool o.ab.aI.ae)/\U.cell? ⟨w.heap.size+1,2,none⟩=some (.string o.ab.aI.host)/\U.cell? ⟨w.heap.size+1,3,none⟩=some (.int .i64 o.ab.aI.port)/\U.cell? ⟨w.heap.size+1,4,none⟩=some (.bool o.ab.o.ae)/\U.cell? ⟨w.heap.size+1,5,none⟩=some (.string o.ab.o.host)/\U.cell? ⟨w.heap.size+1,6,none⟩=some (.int .i64 o.ab.o.port)/\U.cell? ⟨w.heap.size+1,7,none⟩=some (.string o.ab.path)/\U.cell? ⟨w.heap.size+1,8,none⟩=some (.string o.ab.query)/\U.cell? ⟨w.heap.size+1,9,none⟩=some (.string o.ab.method)/\U.cell? ⟨w.heap.size+1,10,none⟩=some (.slice ah hs.length ch)/\U.cell? ⟨w.heap.size+1,11,none⟩=some (.bool o.ab.bP)/\U.cell? ⟨w.heap.size+1,12,none⟩=some (.string o.ab.body)from fun U hU=>by
  have j1:=hU.keep k1 (fun h=>h);have j2:=hU.keep k2 (fun h=>h);simp[World.cell?,j1,j2])
 have C1:=O (show∀U,Fr ay w2 U->Calls Tryz.prog 106 #[.agg #[.int .i64 o.ab.part,.bool o.ab.aI.ae,.string o.ab.aI.host,.int .i64 o.ab.aI.port,.bool o.ab.o.ae,.string o.ab.o.host,.int .i64 o.ab.o.port,.string o.ab.path,.string o.ab.query,.string o.ab.method,.slice ah hs.length ch,.bool o.ab.bP,.string o.ab.body]] U fun e w'=>e=.returned (.bool (mg o.ab.part o.ab.method hs))/\Fr ay U w' from fun U hU=>by
  have:=G7 o.ab hs U (aN.bu h.cU (bq.trans hU)) h.ab;rw[nw]at this;exact this)
 have C2:=O (show∀U,Calls Tryz.prog 107 #[.agg #[.bool o.ab.aI.ae,.string o.ab.aI.host,.int .i64 o.ab.aI.port]] U fun e w'=>e=.returned (.bool (jg o.ab.aI))/\Fr ay U w' from fun U=>AB o.ab.aI U h.aI);have C3:=O (show∀U,Calls Tryz.prog 107 #[.agg #[.bool o.ab.o.ae,.string o.ab.o.host,.int .i64 o.ab.o.port]] U fun e w'=>e=.returned (.bool (jg o.ab.o))/\Fr ay U w' from fun U=>AB o.ab.o U h.ori)
 have hpz:=h.path;have SK:=h.text;have ka:=O bK;have dk:=O bq;rw[MT];clear h bq k1 k2 MT nw df;obtain⟨a0,eC,b0,b1,b2,b3,b4,b5,b6,b7,b8,b9,U3,U4,U5⟩:=HC.out w2 (Fr.refl _ _);rw[bK]at a0 eC b0 b1 b2 b3 b4 b5 b6 b7 b8 b9 U3 U4 U5;clear bK;by_cases h1:o.what>=1
 rotate_left
 ·have HR:=O (show res=false by rw[di.out,decide_eq_false (show¬1<=o.what by omega)];rfl);clear di;go_enter Tryz.func53,Tryz.ntmps53;go_wp2;go_ret;exact⟨by rw[HR.out];rfl,by rw[<-ka.out];exact dk.out⟩
 by_cases h2:o.what<=10
 rotate_left
 ·have HR:=O (show res=false by rw[di.out,decide_eq_false h2,Bool.false_and,Bool.and_false]);clear di;go_enter Tryz.func53,Tryz.ntmps53;go_wp2;go_ret;exact⟨by rw[HR.out];rfl,by rw[<-ka.out];exact dk.out⟩
 have GW:=O (show res=(mg o.ab.part o.ab.method hs&&(jg o.ab.aI&&(jg o.ab.o&&(decide (o.ab.path.size<=200)&&(o.ab.path.data.toList.head?==some 47&&decide (o.text.size<=3000))))))by rw[di.out,decide_eq_true h2,decide_eq_true (show 1<=o.what by omega)];rfl);clear di;go_enter Tryz.func53,Tryz.ntmps53;go_wp2_with fail
 rw[<-ka.out];refine(C1.out w2 (Fr.refl _ _)).mono ?_;rintro e u1⟨rfl,rF⟩;cases e1:mg o.ab.part o.ab.method hs
 ·have HR:=O (show res=false by rw[GW.out,e1];rfl);clear GW e1;go_wp2;go_ret;exact⟨by rw[HR.out];rfl,dk.out.trans rF⟩
 have j5:=O (show res=(jg o.ab.aI&&(jg o.ab.o&&(decide (o.ab.path.size<=200)&&(o.ab.path.data.toList.head?==some 47&&decide (o.text.size<=3000)))))by rw[GW.out,e1];rfl);have S':=O rF;clear GW e1 rF a0 eC b0 b1 b2 b3 b4 b5 b6 b7 b8 b9 U3 U4 U5;obtain⟨a0,eC,b0,b1,b2,b3,b4,b5,b6,b7,b8,b9,U3,U4,U5⟩:=HC.out u1 S'.out;go_wp2_with fail
 refine(C2.out u1).mono ?_;rintro e u2⟨rfl,jZ⟩;cases e1:jg o.ab.aI
 ·have HR:=O (show res=false by rw[j5.out,e1];rfl);clear j5 e1;go_wp2;go_ret;exact⟨by rw[HR.out];rfl,dk.out.trans (S'.out.trans jZ)⟩
 have Jc:=O (show res=(jg o.ab.o&&(decide (o.ab.path.size<=200)&&(o.ab.path.data.toList.head?==some 47&&decide (o.text.size<=3000))))by rw[j5.out,e1];rfl);have ql:=O (S'.out.trans jZ);clear j5 e1 jZ a0 eC b0 b1 b2 b3 b4 b5 b6 b7 b8 b9 U3 U4 U5;obtain⟨a0,eC,b0,b1,b2,b3,b4,b5,b6,b7,b8,b9,U3,U4,U5⟩:=HC.out u2 ql.out;go_wp2_with fail
 refine(C3.out u2).mono ?_;rintro e u3⟨rfl,pz⟩;cases e1:jg o.ab.o
 ·have HR:=O (show res=false by rw[Jc.out,e1];rfl);clear Jc e1;go_wp2;go_ret;exact⟨by rw[HR.out];rfl,dk.out.trans (ql.out.trans pz)⟩
 have U6:=O (show res=(decide (o.ab.path.size<=200)&&(o.ab.path.data.toList.head?==some 47&&decide (o.text.size<=3000)))by rw[Jc.out,e1];rfl);have HU3:=O (ql.out.trans pz);clear Jc e1 pz a0 eC b0 b1 b2 b3 b4 b5 b6 b7 b8 b9 U3 U4 U5;obtain⟨a0,eC,b0,b1,b2,b3,b4,b5,b6,b7,b8,b9,U3,U4,U5⟩:=HC.out u3 HU3.out;have HFZ:=O (dk.out.trans HU3.out);by_cases h3:(o.ab.path.size:Int)<=200
 rotate_left
 ·have HR:=O (show res=false by rw[U6.out,decide_eq_false (show¬o.ab.path.size<=200 by omega)];rfl);clear U6;go_wp2;go_ret;exact⟨by rw[HR.out];rfl,HFZ.out⟩
 have M_:=O (show res=(o.ab.path.data.toList.head?==some 47&&decide (o.text.size<=3000))by rw[U6.out,decide_eq_true (show o.ab.path.size<=200 by omega)];rfl);clear U6;by_cases h4:(o.ab.path.size:Int)>0
 rotate_left
 ·have HR:=O (show res=false by
   have e:o.ab.path.data.toList=[]:=List.eq_nil_of_length_eq_zero (by have:o.ab.path.data.toList.length=o.ab.path.size:=by simp
                                                                      omega)
   rw[M_.out,e];rfl)
  clear M_;go_wp2;go_ret;exact⟨by rw[HR.out];rfl,HFZ.out⟩
 have hp0:0<o.ab.path.size:=by omega
 have ahn:=byte_at o.ab.path 0 hp0;have hhd:o.ab.path.data.toList.head?=some o.ab.path[0]:=by rw[List.head?_eq_getElem?];exact ahn
 have Ta:=O (show res=(decide (o.ab.path[0]=47)&&decide (o.text.size<=3000))by
  rw[M_.out,hhd];by_cases q:o.ab.path[0]=47
  ·rw[q];rfl
  ·rw[decide_eq_false q,beq_eq_false_iff_ne.2 (fun e=>q (Option.some.inj e))])
 clear M_ hhd ahn;by_cases q:o.ab.path[0]=47
 rotate_left
 ·have HR:=O (show res=false by rw[Ta.out,decide_eq_false q];rfl);have q2:((o.ab.path[0].toNat:Int)==47)=false:=by
   rw[beq_eq_false_iff_ne];intro e;exact q (UInt8.toNat_inj.1 (by show o.ab.path[0].toNat=47;omega))
  clear Ta;go_wp2;go_ret;exact⟨by rw[HR.out];rfl,HFZ.out⟩
 have HR:=O (show res=decide (o.text.size<=3000)by rw[Ta.out,decide_eq_true q];rfl);have q2:((o.ab.path[0].toNat:Int)==47)=true:=by rw[q];rfl
 clear Ta q;go_wp2;go_ret;exact⟨by show Ending.returned (.bool (decide ((o.text.size:Int)<=3000)))=_;exact cJ (by rw[HR.out];exact decide_eq_decide.2 ⟨fun h=>by omega,fun h=>by omega⟩),HFZ.out⟩
theorem Mc{gs gs':List (ai aF)}{o:cO}{proxy:Bool}{path:ByteArray}{g:ai aF}(h:mD gs o proxy path=(gs',.ok g)) :
  ∃x∈gs,0<=eE o proxy path x/\g=x.used/\gs'.getLast?=some g/\gs'.length=gs.length/\g.count<=4294967295:=by
 unfold mD at h;have hb:=yF (eE o proxy path) gs;unfold lj at h;rcases hb with ⟨e,_⟩|⟨k,x,hx,e,h0,_⟩
 ·rw[e]at h;rw[if_neg (by decide)]at h;cases h
 ·rw[e]at h;rw[if_pos (show(0:Int)<=(k:Int)by omega)]at h;have hk:=(List.getElem?_eq_some_iff.1 hx).1;simp only[Int.toNat_natCast,hx]at h;split at h
  ·cases h
  ·rename_i hc;cases h;refine⟨x,List.mem_of_getElem? hx,h0,rfl,by simp,?_,?_⟩
   ·simp only[List.length_append,List.length_take,List.length_drop,List.length_singleton];omega
   ·show x.count+1<=4294967295;omega
theorem Cs{g:ai aF}{o:ib}{s:ByteArray}(h:jT g o=some s):32∈s.data.toList:=by
 unfold jT at h;split at h
 ·split at h
  ·cases h
  ·split at h
   ·cases h;show 32∈([66,97,115,105,99,32]++_:List UInt8);exact List.mem_append_left _ (by decide)
   ·cases h
 ·split at h
  ·cases h;show 32∈(TT++32 :: _:List UInt8);exact List.mem_append_right _ (List.mem_cons_self ..)
  ·cases h
theorem Me{w:bW}{o:ib}(hk:uk w)(h1:o.what=1) :
  (cV w o).2.what=7\/((cV w o).2.what=2/\(cV w o).2.head=.empty) \/
   ((cV w o).2.what=1/\(∃g∈(w.part o.part.toNat).aH,0<=eE o.o o.proxy o.path g)/\((cV w o).1.part o.part.toNat).aH.length=(w.part o.part.toNat).aH.length /\
    (∃x,((cV w o).1.part o.part.toNat).aH.getLast?=some x/\1<=x.count)/\32∈(cV w o).2.head.data.toList):=by
 cases hr:o.right
 ·rw[gR hr];exact Or.inl rfl
 rw[fI hr (by omega)];simp only[bW.qj];unfold lF;rw[if_pos h1];unfold ft;split
 ·exact Or.inr (Or.inl ⟨rfl,rfl⟩)
 ·rename_i gs g e;split
  ·exact Or.inr (Or.inl ⟨rfl,rfl⟩)
  ·rename_i s hs;obtain⟨x,hx,h0,rfl,hl,hn,_⟩:=Mc e;refine Or.inr (Or.inr ⟨rfl,⟨x,hx,h0⟩,hn,⟨x.used,hl,?_⟩,Cs hs⟩);have:=(hk.part o.part.toNat).nat x hx;show 1<=x.count+1;omega
open Go.ChangeShapes Go.WideShapes Go.ChangeAt Go.RowKit Go.Deep
variable {H : Type} {enc : TypeId × Value → H} {W : World}
structure jw (w:World) (o:ei) (hs:List dW):Prop where
 ab:Qn w o.ab hs
 text:o.text.size<=140737488351232
 user:o.user.size<=140737488351232
 pass:o.pass.size<=140737488351232
 aB:o.aB.size<=140737488351232
 what:(Lit.int .i64 o.what).wf=true
 cert:(Lit.int .i64 o.cert).wf=true
 n:(Lit.int .i64 o.n).wf=true
abbrev gM(w:World)(v:Value)(os:List (ei×List dW)):Prop:=aN 22 w v (os.map fun o=>o.1.cells)/\os.length<=140737488355328/\∀o∈os,jw w o.1 o.2
theorem Fw:Tryz.prog.cellsOf 33=22:=by kernel_rfl
theorem uC:Tryz.prog.cellsOf 31=2:=by kernel_rfl
theorem aiX{α:Type}{l:List α}(h:l.length=22):∃a0 a1 a2 a3 a4 a5 a6 a7 a8 a9 eK eL a12 eH eM eC eW eX eY fc a20 a21,l=[a0,a1,a2,a3,a4,a5,a6,a7,a8,a9,eK,eL,a12,eH,eM,eC,eW,eX,eY,fc,a20,a21]:=by
 match l,h with
 |[a0,a1,a2,a3,a4,a5,a6,a7,a8,a9,eK,eL,a12,eH,eM,eC,eW,eX,eY,fc,a20,a21],_=>exact⟨a0,a1,a2,a3,a4,a5,a6,a7,a8,a9,eK,eL,a12,eH,eM,eC,eW,eX,eY,fc,a20,a21,rfl⟩
theorem H8{fuel:Nat}{cs:List Value}{x:DataW H×List MemPlace}(h:DataW.trod enc Tryz.prog W 0 (fun _=>true) true fuel 31 cs=some x) :
  ∃u p:ByteArray,cs=[.string u,.string p]/\(kf Tryz.prog 31 x.1->u.size<=reachBytes/\p.size<=reachBytes):=by
 obtain⟨hl,n,hf⟩:=ky Tryz.underlying31 h;rw[uC]at hl;obtain⟨c0,c1,rfl⟩:=aiU hl;obtain⟨y0,h0,l0⟩:=hf 0 9 0 _ rfl dT;obtain⟨y1,h1,l1⟩:=hf 1 9 1 _ rfl dT;simp only[List.drop,List.take]at h0 h1;obtain⟨u,eu,wu⟩:=b_ Tryz.underlying9 h0;obtain⟨q,eq,wq⟩:=b_ Tryz.underlying9 h1;simp only[List.cons.injEq,and_true]at eu eq;subst eu eq;exact⟨u,q,rfl,fun hL=>⟨wu (l0 hL),wq (l1 hL)⟩⟩
theorem J3{fuel:Nat}{cs:List Value}{x:DataW H×List MemPlace}(h:DataW.trod enc Tryz.prog W 0 (fun _=>true) true fuel 33 cs=some x) :
  ∃b:ei×List dW,cs=b.1.cells/\cs.length=22/\(∀u∈cs,u.oneCell'=true)/\(kf Tryz.prog 33 x.1->jw W b.1 b.2):=by
 obtain⟨hl,n,hf⟩:=ky Tryz.underlying33 h;rw[Fw]at hl;obtain⟨c0,c1,c2,c3,c4,c5,c6,c7,c8,c9,FT,Xl,c12,c13,c14,c15,c16,c17,c18,c19,c20,c21,rfl⟩:=aiX hl;obtain⟨y0,h0,l0⟩:=hf 0 3 0 _ rfl nS;obtain⟨y1,h1,l1⟩:=hf 1 29 1 _ rfl Bk;obtain⟨y2,h2,l2⟩:=hf 2 4 14 _ rfl oL;obtain⟨y3,h3,l3⟩:=hf 3 9 15 _ rfl dT;obtain⟨y4,h4,l4⟩:=hf 4 31 16 _ rfl uC;obtain⟨y5,h5,l5⟩:=hf 5 9 18 _ rfl dT
 obtain⟨y6,h6,l6⟩:=hf 6 3 19 _ rfl nS;obtain⟨y7,h7,l7⟩:=hf 7 4 20 _ rfl oL;obtain⟨y8,h8,l8⟩:=hf 8 3 21 _ rfl nS;simp only[List.drop,List.take]at h0 h1 h2 h3 h4 h5 h6 h7 h8;obtain⟨b0,e0,w0⟩:=ig Tryz.underlying3 h0;obtain⟨r,⟨e1,_⟩,_,o1,s1⟩:=Qo h1;obtain⟨b2,e2⟩:=i_ Tryz.underlying4 h2;obtain⟨b3,e3,w3⟩:=b_ Tryz.underlying9 h3;obtain⟨u4,p4,e4,s4⟩:=H8 h4;obtain⟨b5,e5,w5⟩:=b_ Tryz.underlying9 h5
 obtain⟨b6,e6,w6⟩:=ig Tryz.underlying3 h6;obtain⟨b7,e7⟩:=i_ Tryz.underlying4 h7;obtain⟨b8,e8,w8⟩:=ig Tryz.underlying3 h8;rw[e1]at o1;unfold dp.cells at e1;simp only[List.cons.injEq,and_true]at e0 e1 e2 e3 e4 e5 e6 e7 e8;obtain⟨rfl,rfl,rfl,rfl,rfl,rfl,rfl,rfl,rfl,rfl,rfl,rfl,rfl⟩:=e1;obtain⟨rfl,rfl⟩:=e4;subst e0 e2 e3 e5 e6 e7 e8
 have bG:∀u∈(⟨b0,r.1,b2,b3,u4,p4,b5,b6,b7,b8⟩:ei).cells,u.oneCell'=true:=by
  intro u hu;unfold ei.cells at hu;rcases List.mem_cons.1 hu with rfl|hu
  ·rfl
  rcases List.mem_append.1 hu with hu|hu
  ·exact o1 u hu
  ·simp only[List.mem_cons,List.not_mem_nil,or_false]at hu;rcases hu with rfl|rfl|rfl|rfl|rfl|rfl|rfl|rfl<;>rfl
 refine⟨(⟨b0,r.1,b2,b3,u4,p4,b5,b6,b7,b8⟩,r.2),rfl,rfl,bG,fun hL=>?_⟩;have q4:=s4 (l4 hL);exact⟨s1 (l1 hL),w3 (l3 hL),q4.1,q4.2,w5 (l5 hL),w0,w6,w8⟩
instance:Inhabited (ei×List dW):=⟨(⟨0,⟨0,⟨false,.empty,0⟩,⟨false,.empty,0⟩,.empty,.empty,.empty,.nilIface,false,.empty⟩,false,.empty,.empty,.empty,.empty,0,false,0⟩,[])⟩
theorem mY{base:Nat}{v:Value}{d:DataW H}{p:List MemPlace}(hv:Value.okWide Tryz.prog W .any base 22 v)(h:DataW.Trod enc Tryz.prog W 0 (fun _=>true) true 22 v d p)(hL:kf Tryz.prog 22 d) :
  ∃os:List (ei×List dW),gM W v os:=by
 obtain⟨a,len,cap,rfl⟩:=okWide_slice Tryz.underlying22 hv;obtain⟨fuel,hf⟩:=h;obtain⟨v',css,bs,e,hr,hb,hs⟩:=yZ (Q:=fun cs (b:ei×List dW)=>cs=b.1.cells) (S:=fun b=>jw W b.1 b.2) Tryz.underlying22 Fw (by decide) (by kernel_rfl:Tryz.prog.bytesOf 33=272) J3 hf;simp only[Value.cells,List.cons.injEq,and_true]at e;subst e;rw[y_ hb]at hr;have h2:=hs hL;refine⟨bs,hr,?_,h2.2⟩
 have hk:reachBytes=140737488351232:=rfl;have:=h2.1;omega
theorem mh{base:Nat}{v:Value}{d:DataW H}{p:List MemPlace}(hv:Value.okWide Tryz.prog W .any base 33 v)(h:DataW.Trod enc Tryz.prog W 0 (fun _=>true) true 33 v d p)(hL:kf Tryz.prog 33 d) :
  ∃(o:ei) (hs:List dW),v=.agg o.cells.toArray/\jw W o hs:=by
 obtain⟨cs,rfl,_⟩:=okWide_struct Tryz.underlying33 hv;obtain⟨fuel,hf⟩:=h;simp only[Value.cells]at hf;obtain⟨b,e,_,_,hs⟩:=J3 hf;refine⟨b.1,b.2,?_,hs hL⟩
 congr 1
 apply Array.ext';rw[e]
theorem Fz(base:Nat)(w:World)(B:Nat)(pv:Nat->bB)(x:bW)(h:aR base w B pv x) :
  Calls Tryz.prog 23 #[.pointer (some ⟨B,0,none⟩)] w fun e w'=>e=.returned (.int .i64 x.now)/\w'=w:=by
 have c:w.cell? ⟨B,12,none⟩=some (.int .i64 x.now):=by
  simp only[World.cell?,h.cR];rfl
 clear h;go_enter Tryz.func23,Tryz.ntmps23;go_wp2;go_ret;exact⟨rfl,rfl⟩
theorem wE(base:Nat)(w:World)(B:Nat)(pv:Nat->bB)(x:bW)(h:aR base w B pv x)(i:Nat)(hi:i<4)(hl:(x.part i).aH.length<68719476736) :
  Calls Tryz.prog 18 #[.pointer (some ⟨B,0,none⟩),.int .i64 i] w (ow base w (x.part i).aH):=by
 have c:=(h.partAt hi).cell0;have HR:=O (GF base w (pv i).b (pv i).gv (pv i).wv (x.part i).aH (x.part i).waits (h.part i hi).gK hl);have Nr:(i:Int)<4:=by omega
 have qD:¬(i:Int)<0:=by omega
 have Oh:¬(4:Int)<=(i:Int):=by omega
 have Lb:(0:Int)<=(i:Int):=by omega
 clear h hl;go_enter Tryz.func18,Tryz.ntmps18;go_wp2_with fail
 refine HR.out.mono ?_;rintro e u⟨v',rfl,hg⟩;go_wp2;go_ret;exact⟨v',rfl,hg⟩
def iH(p:bH):Prop:=∀x∈p.waits,x.path.size<=5000
theorem iH.no:iH qh:=fun _ h=>by cases h
theorem iH.same{p q:bH}(h:iH p)(e:q.waits=p.waits):iH q:=by unfold iH;rw[e];exact h
theorem iH.sub{p q:bH}(h:iH p)(e:∀x∈q.waits,x∈p.waits):iH q:=fun x hx=>h x (e x hx)
theorem iH.lF{p:bH}(h:iH p)(now:Int)(o:ib)(hp:o.path.size<=5000):iH (lF p now o).1:=by
 unfold Go.Proofs.YtjdmjbdkdmbaiaaGreatDoor.lF;by_cases h1:o.what=1
 ·rw[if_pos h1];unfold ft;split
  ·exact h.same rfl
  ·split
   ·exact h.same rfl
   ·exact h.same rfl
 rw[if_neg h1];by_cases h2:o.what=2
 ·rw[if_pos h2];unfold ee;split
  ·exact h
  ·split
   ·split
    ·exact h.same rfl
    ·intro x hx;rcases EF hx with hx|rfl
     ·exact h x hx
     ·exact hp
   ·exact h
 rw[if_neg h2];by_cases h3:o.what=3
 ·rw[if_pos h3];have hs:=lM o.o o.proxy p.waits;unfold ef;split
  ·rename_i ws e;rw[e]at hs;exact h.sub (fun x hx=>hs.subset hx)
  ·rename_i ws x e;rw[e]at hs;exact h.sub (fun x hx=>hs.subset hx)
 rw[if_neg h3];by_cases h4:o.what=4
 ·rw[if_pos h4];exact h
 rw[if_neg h4];by_cases h5:o.what=5
 ·rw[if_pos h5];unfold fS;split
  ·exact h
  ·split
   ·exact h.same rfl
   ·exact h.same rfl
 rw[if_neg h5];by_cases h6:o.what=6
 ·rw[if_pos h6];exact h
 rw[if_neg h6];by_cases h7:o.what=7
 ·rw[if_pos h7];unfold jU;split
  ·exact h
  ·exact h.same rfl
 rw[if_neg h7];unfold kN;split
 ·exact iH.no
 ·split
  ·exact h.sub (fun x hx=>(List.mem_filter.1 hx).1)
  ·exact h.sub (fun x hx=>(List.mem_filter.1 hx).1)
def yJ(w:bW):Prop:=∀i,iH (w.part i)
theorem yJ.new:yJ yD:=fun _=>iH.no
theorem yJ.cV{w:bW}(h:yJ w)(o:ib)(hp:o.path.size<=5000):yJ (cV w o).1:=by
 unfold Go.Proofs.YtjdmjbdkdmbaiaaGreatDoor.cV;split
 ·split
  ·split
   ·exact h
   ·exact h
  ·intro i;show iH ((w.set _ _).part i);unfold bW.set;simp only;split
   ·exact(h _).lF _ _ hp
   ·exact h i
 ·exact h
def aM:Array Value:= #[.int .i64 0,.string ⟨#[]⟩,.int .i64 0]
theorem bg.eJ{w:World}{o:ei}{hs:List dW}(h:bg w o hs):∃ah ch,o.ab.cU=.slice ah hs.length ch:=by
 obtain⟨a,c,e⟩:=aN.form h.cU;rw[List.length_map]at e;exact⟨a,c,e⟩
section
variable {base : Nat} {w w' : World} {B o : Nat} {cs : List Value} {v : bB} {p : bH}
theorem cC.bX(h:cC base w v p){n:Nat}{vT:Array Value}{t:TypeId}(hn:w.heap[n]?=some (.cells vT t (0,0)))(ht:t≠139/\t≠49/\t≠144/\t≠141/\t≠65/\t≠109):¬v.gL n:=fun hf=>by
 obtain⟨c,t',e,h'⟩:=h.dG hf;rw[hn]at e;cases e;obtain⟨h1,h2,h3,h4,h5,h6⟩:=ht;rcases h' with h|h|h|h|h|h
 ·exact h1 h
 ·exact h2 h
 ·exact h3 h
 ·exact h4 h
 ·exact h5 h
 ·exact h6 h
theorem aA.row(h:aA base w B cs o v p w'){n:Nat}{vT:Array Value}{t:TypeId}(ku:base<=w.heap.size)(hB:B<w.heap.size)(hn:w.heap.size<=n)(hr:w'.heap[n]?=some (.cells vT t (0,0)))
  (ht:t≠139/\t≠49/\t≠144/\t≠141/\t≠65/\t≠109)(hs:t≠9)(new:Array Value):aA base w B cs o v p (w'.setRow n new):=by
 obtain⟨v',h1,h2,h3,h4⟩:=h;have fM:Fr (one n) w' (w'.setRow n new):=(Fr.refl (one n) w').setRow (fun _=>rfl) _;have kb:lT base w' (one n):=by
  rintro k rfl _;exact⟨by omega,fun c f e=>by rw[hr]at e;cases e;exact hs rfl⟩
 refine⟨v',h1.fr fM kb (fun i hi e=>?_),h2.step fM (fun k hk e=>?_),h3,fM.keep h4 (fun e=>?_)⟩
 ·have e':i=n:=e;subst e';exact h1.bX hr ht hi
 ·have e':k=n:=e;omega
 ·have e':B=n:=e;omega
end
theorem bN:(39:TypeId)≠139/\(39:TypeId)≠49/\(39:TypeId)≠144/\(39:TypeId)≠141/\(39:TypeId)≠65/\(39:TypeId)≠109:=by decide
theorem az(x:Array Value)(h:x.size=3):(Tryz.prog.info? 39).map (·.size)=some x.size:=by rw[h];kernel_rfl
theorem bJ{w:World}{b:Nat}{o:ei}{hs:List dW}{ah:Option Addr}{ch:Nat}(h:w.heap[b]?=some (.cells o.cells.toArray 33 (0,0)))(hh:o.ab.cU=.slice ah hs.length ch):w.cell? ⟨b,0,none⟩=some (.int .i64 o.what)/\w.cell? ⟨b,1,none⟩=some (.int .i64 o.ab.part)/\w.cell? ⟨b,2,none⟩=some (.bool o.ab.aI.ae)/\w.cell? ⟨b,3,none⟩=some (.string o.ab.aI.host)/\w.cell? ⟨b,4,none⟩=some (.int .i64 o.ab.aI.port)/\w.cell? ⟨b,5,none⟩=some (.bool o.ab.o.ae)/\w.cell? ⟨b,6,none⟩=some (.string o.ab.o.host)/\w.cell? ⟨b,7,none⟩=some (.int .i64 o.ab.o.port)/\w.cell? ⟨b,8,none⟩=some (.string o.ab.path)/\w.cell? ⟨b,9,none⟩=some (.string o.ab.query)/\w.cell? ⟨b,10,none⟩=some (.string o.ab.method)/\w.cell? ⟨b,11,none⟩=some (.slice ah hs.length ch)/\w.cell? ⟨b,12,none⟩=some (.bool o.ab.bP)/\w.cell? ⟨b,13,none⟩=some (.string o.ab.body)/\w.cell? ⟨b,14,none⟩=some (.bool o.proxy)/\w.cell? ⟨b,15,none⟩=some (.string o.text)/\w.cell? ⟨b,16,none⟩=some (.string o.user)/\w.cell? ⟨b,17,none⟩=some (.string o.pass)/\w.cell? ⟨b,18,none⟩=some (.string o.aB)/\w.cell? ⟨b,19,none⟩=some (.int .i64 o.cert)/\w.cell? ⟨b,20,none⟩=some (.bool o.all)/\w.cell? ⟨b,21,none⟩=some (.int .i64 o.n):=by
 have e:o.cells=[.int .i64 o.what,.int .i64 o.ab.part,.bool o.ab.aI.ae,.string o.ab.aI.host,.int .i64 o.ab.aI.port,.bool o.ab.o.ae,.string o.ab.o.host,.int .i64 o.ab.o.port,.string o.ab.path,.string o.ab.query,.string o.ab.method,.slice ah hs.length ch,.bool o.ab.bP,.string o.ab.body,.bool o.proxy,.string o.text,.string o.user,.string o.pass,.string o.aB,.int .i64 o.cert,.bool o.all,.int .i64 o.n]:=by unfold ei.cells dp.cells;rw[hh];rfl
 rw[e]at h;simp only[World.cell?,h];exact⟨rfl,rfl,rfl,rfl,rfl,rfl,rfl,rfl,rfl,rfl,rfl,rfl,rfl,rfl,rfl,rfl,rfl,rfl,rfl,rfl,rfl,rfl⟩
theorem aZ{o:ei}{hs:List dW}{ah:Option Addr}{ch:Nat}(hh:o.ab.cU=.slice ah hs.length ch):o.cells=[.int .i64 o.what,.int .i64 o.ab.part,.bool o.ab.aI.ae,.string o.ab.aI.host,.int .i64 o.ab.aI.port,.bool o.ab.o.ae,.string o.ab.o.host,.int .i64 o.ab.o.port,.string o.ab.path,.string o.ab.query,.string o.ab.method,.slice ah hs.length ch,.bool o.ab.bP,.string o.ab.body,.bool o.proxy,.string o.text,.string o.user,.string o.pass,.string o.aB,.int .i64 o.cert,.bool o.all,.int .i64 o.n]:=by unfold ei.cells dp.cells;rw[hh];rfl
theorem ur{o:ei}{hs:List dW}{ah:Option Addr}{ch:Nat}(hh:o.ab.cU=.slice ah hs.length ch):o.ab.cells=[.int .i64 o.ab.part,.bool o.ab.aI.ae,.string o.ab.aI.host,.int .i64 o.ab.aI.port,.bool o.ab.o.ae,.string o.ab.o.host,.int .i64 o.ab.o.port,.string o.ab.path,.string o.ab.query,.string o.ab.method,.slice ah hs.length ch,.bool o.ab.bP,.string o.ab.body]:=by unfold dp.cells;rw[hh]
def bL(base:Nat)(w:World)(B:Nat)(cs:List Value)(off:Nat)(v:bB)(r:bH×nk)(e:Ending)(w':World):Prop :=
 e=.returned r.2.val/\aA base w B cs off v r.1 w'
theorem Hm{o:ib}(hr:o.right=true):1<=o.what/\o.what<=10:=by
 unfold ib.right at hr;simp only[Bool.and_eq_true,decide_eq_true_eq]at hr;exact⟨hr.1,hr.2.1⟩
theorem ah6{p:bH}{n:Int}{o:ib}(h:o.what=1):lF p n o=ft p o:=by
 unfold lF;rw[if_pos h]
theorem apq{p:bH}{n:Int}{o:ib}(h:o.what=2):lF p n o=ee p o:=by
 unfold lF;rw[if_neg (by omega),if_pos h]
theorem ah7{p:bH}{n:Int}{o:ib}(h:o.what=3):lF p n o=ef p o:=by
 unfold lF;rw[if_neg (by omega),if_neg (by omega),if_pos h]
theorem apr{p:bH}{n:Int}{o:ib}(h:o.what=4):lF p n o=(p,rep (if hZ p.book o.ab n then 5 else 4)):=by
 unfold lF;rw[if_neg (by omega),if_neg (by omega),if_neg (by omega),if_pos h]
theorem aps{p:bH}{n:Int}{o:ib}(h:o.what=5):lF p n o=fS p n o:=by
 unfold lF;rw[if_neg (by omega),if_neg (by omega),if_neg (by omega),if_neg (by omega),if_pos h]
theorem ah8{p:bH}{n:Int}{o:ib}(h:o.what=6):lF p n o=(p,AV p o):=by
 unfold lF;rw[if_neg (by omega),if_neg (by omega),if_neg (by omega),if_neg (by omega),if_neg (by omega),if_pos h]
theorem apt{p:bH}{n:Int}{o:ib}(h:o.what=7):lF p n o=jU p o:=by
 unfold lF;rw[if_neg (by omega),if_neg (by omega),if_neg (by omega),if_neg (by omega),if_neg (by omega),if_neg (by omega),if_pos h]
def iW(x:bW)(n:Int):List (ai aF):=if 0<=n/\n<4 then(x.part n.toNat).aH else []
theorem Ik{base:Nat}{w:World}:ow base w [] (.returned (.slice none 0 0)) w :=
 ⟨_,rfl,⟨⟨[],OwnRows.nil _ _ _ _,.nil⟩,fun k hk=>by simp[Value.ownBlock]at hk⟩,Fr.refl _ _⟩
theorem oN(base:Nat)(w:World)(B:Nat)(pv:Nat->bB)(x:bW)(h:aR base w B pv x)(n:Int)(hl:∀i,i<4->(x.part i).aH.length<68719476736) :
  Calls Tryz.prog 18 #[.pointer (some ⟨B,0,none⟩),.int .i64 n] w (ow base w (iW x n)):=by
 by_cases hn:0<=n/\n<4
 ·obtain⟨i,rfl⟩:∃i:Nat,n=(i:Int):=⟨n.toNat,by omega⟩;have hi:i<4:=by omega
  unfold iW;rw[if_pos hn];exact wE base w B pv x h i hi (hl i hi)
 ·unfold iW;rw[if_neg hn];have HN:=O (Ik (base:=base) (w:=w));clear h hl;by_cases h0:n<0
  ·have h1:¬(0:Int)<=n:=by omega
   clear hn;go_enter Tryz.func18,Tryz.ntmps18;go_wp2;go_ret;exact HN.out
  ·have h1:(0:Int)<=n:=by omega
   have h4:(4:Int)<=n:=by omega
   have h5:¬n<4:=by omega
   clear hn;go_enter Tryz.func18,Tryz.ntmps18;go_wp2;go_ret;exact HN.out
structure fW (x:bW):Prop where
 ok:uk x
 sm:yI x
 path:yJ x
theorem fW.new:fW yD:=⟨uk.new,yI.new,yJ.new⟩
theorem fW.cV{x:bW}(h:fW x)(o:ib)(hu:o.user.size<=5000)(hp:o.pass.size<=5000)(ha:o.path.size<=5000):fW (cV x o).1 :=
 ⟨h.ok.cV o,h.sm.cV o hu hp,h.path.cV o ha⟩
def zH(n:Int):ib:=⟨n,0,yK,yK,⟨#[47]⟩,⟨#[]⟩,⟨#[71,69,84]⟩,[],false,⟨#[]⟩,false,⟨#[66,97,115,105,99,32,114,101,97,108,109,61,114]⟩,⟨#[117]⟩,⟨#[112]⟩,⟨#[]⟩,0,false,0⟩
def JS:bW:=(cV yD (zH 2)).1
def JT:bW:=(cV JS (zH 3)).1
def Xp:bW:=(cV JT (zH 1)).1
theorem aoA:(cV yD (zH 2)).2=⟨3,⟨#[]⟩,0⟩:=by kernel_rfl
theorem aoB:(cV JS (zH 3)).2=⟨1,⟨#[]⟩,0⟩:=by kernel_rfl
theorem aoC:(cV JT (zH 1)).2=⟨1,⟨#[66,97,115,105,99,32,100,84,112,119]⟩,0⟩:=by kernel_rfl
theorem aoD:(Xp.part 0).aH.length=1:=by kernel_rfl
theorem Xq:fW JS:=fW.new.cV _ (by decide) (by decide) (by decide)
theorem ahl:fW JT:=Xq.cV _ (by decide) (by decide) (by decide)
end Go.Proofs.YtjdmjbdkdmbaiaaGreatDoor
