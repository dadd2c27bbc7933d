/- Host2, Bank3. -/
import Derived.Test.YtjdmjbdkdmbaiaaGreatDoorPk10
import Derived.Test.YtjdmjbdkdmbaiaaGreatDoorPk11
set_option maxRecDepth 100000
set_option maxHeartbeats 16000000
set_option linter.unusedSimpArgs false
namespace Go.Proofs.YtjdmjbdkdmbaiaaGreatDoor
open Go.RowKit Go.Shelf
attribute [local go_sem] Oper.semAt_some
theorem B6(s sep:ByteArray)(w:World) :
  Calls Tryz.prog 230 #[.string s,.string sep] w fun e w' =>
   e=.returned (.func (.func 273) #[] #[.pointer (some ⟨w.heap.size+1,0,none⟩),.pointer (some ⟨w.heap.size,0,none⟩),.pointer (some ⟨w.heap.size+2,0,none⟩)]) /\
   w'=((w.alloc (.cells #[.string s] 9)).alloc (.cells #[.string sep] 9)).alloc (.cells #[.int .i64 0] 3):=by
 have rk:Calls Tryz.prog 256 #[.string s,.string sep,.int .i64 0] w fun e w' =>
   e=.returned (.func (.func 273) #[] #[.pointer (some ⟨w.heap.size+1,0,none⟩),.pointer (some ⟨w.heap.size,0,none⟩),.pointer (some ⟨w.heap.size+2,0,none⟩)]) /\
   w'=((w.alloc (.cells #[.string s] 9)).alloc (.cells #[.string sep] 9)).alloc (.cells #[.int .i64 0] 3):=by
  go_enter Tryz.func256,Tryz.ntmps256;go_wp2;go_ret;exact⟨rfl,rfl⟩
 go_enter Tryz.func230,Tryz.ntmps230;go_wp2_with fail
 refine rk.mono ?_;rintro e w1⟨rfl,rfl⟩;go_wp2;go_ret;exact⟨rfl,rfl⟩
theorem Ot(f:List UInt8->Nat):∀(L:List (List UInt8)) (l:List UInt8),l∈L->f l<=(L.map f).sum
 |a :: L,l,h=>by
  simp only[List.map_cons,List.sum_cons];rcases List.mem_cons.1 h with rfl|h
  ·omega
  ·have:=Ot f L l h;omega
theorem GA{c:UInt8}{s x:ByteArray}(h:x∈dX c s):x.size<=s.size:=by
 unfold dX at h;obtain⟨l,hl,rfl⟩:=List.mem_map.1 h;have h1:=uZ c s.data.toList;have h2:l.length+1<=((bD c s.data.toList).map fun p=>p.length+1).sum:=Ot (fun p=>p.length+1) _ l hl;have h3:s.data.toList.length=s.size:=by simp
 show l.toArray.size<=_;simp only[List.size_toArray];omega
def lB:ByteArray:=⟨#[97,98,99,100,101,102,103,104,105,106,107,108,109,110,111,112,113,114,115,116,117,118,119,120,121,122,48,49,50,51,52,53,54,55,56,57,45]⟩
theorem zA:∀b∈lB.data.toList,b.toNat<128:=by decide +kernel
theorem Ea:∀n:Fin 256,lB.data.toList.contains n.val.toUInt8=Dv n.val.toUInt8:=by decide +kernel
theorem v_(l:List UInt8):l.all (lB.data.toList.contains ·)=l.all Dv:=by
 congr 1;funext c
 have h:=Ea ⟨c.toNat,c.toNat_lt⟩;simpa using h
def oq(s:ByteArray):Bool:=IY s.data.toList
def p9(w wc W:World):Prop:=W.heap[w.heap.size]?=some (.cells #[.bool false] 4 (0,0))/\Fr ay w W/\wc.heap.size<=W.heap.size
def Eb(w wc:World)(pre:List ByteArray)(W:World):Prop:=(∀p∈pre,xy p.data.toList=true)/\p9 w wc W
def Ou(w wc:World)(pre:List ByteArray)(W:World):Prop:=(∃p∈pre,xy p.data.toList=false)/\p9 w wc W
theorem p9.fr{w wc A B:World}(hz:wc.heap.size=w.heap.size+4)(h:p9 w wc A)(hf:Fr (yi (w.heap.size+1) wc.heap.size) A B):p9 w wc B :=
 ⟨hf.keep h.1 (by unfold yi;omega),h.2.1.step hf (fun j hj hk=>by unfold yi at hk;omega),Nat.le_trans h.2.2 hf.size⟩
theorem p9.grow{w wc A B:World}(h:p9 w wc A)(hf:Fr ay A B):p9 w wc B:=⟨hf.keep h.1 (fun h=>h),h.2.1.trans hf,Nat.le_trans h.2.2 hf.size⟩
theorem p9.put{w wc A:World}(h:p9 w wc A):p9 w wc (A.setCell ⟨w.heap.size,0,none⟩ (.bool false)) :=
 ⟨by simp[World.setCell,Array.getElem?_modify,h.1],h.2.1.dI (p:=⟨w.heap.size,0,none⟩) (Nat.le_refl _) _,by simpa[World.setCell]using h.2.2⟩
theorem Fr.others{A B:World}(h:Fr ay A B):KeepsOthers A B:=⟨h.size,fun _ _ hk _=>h.keep hk (fun h=>h)⟩
theorem Fr.ZB{k:Nat}{A B:World}(h:Fr ay A B)(hk:k+3<=A.heap.size):pY k A B:=fun j _ h2=>h.block j (by omega) (fun h=>h)
theorem Ov{w wc W:World}{pre:List ByteArray}{x:ByteArray}(h:Eb w wc pre W)(hx:xy x.data.toList=false)(A:World)(hA:Fr ay W A)(aa:Act) :
  Gv (w.heap.size+1) (Eb w wc) (Ou w wc) (pre++[x]) W .ret aa (A.setCell ⟨w.heap.size,0,none⟩ (.bool false)) :=
 ⟨hA.others.trans (KeepsOthers.setCell A _ _),⟨x,by simp,hx⟩,(h.2.grow hA).put⟩
theorem Lj{w wc W:World}{pre:List ByteArray}{x:ByteArray}(hz:wc.heap.size=w.heap.size+4)(h:Eb w wc pre W)(hx:xy x.data.toList=true)(A:World)(hA:Fr ay W A)(aa:Act) :
  Gv (w.heap.size+1) (Eb w wc) (Ou w wc) (pre++[x]) W .normal aa A :=
 ⟨hA.others,hA.ZB (by have:=h.2.2.2;omega),fun p hp=>by
  rcases List.mem_append.1 hp with hp|hp
  ·exact h.1 p hp
  ·rw[List.mem_singleton]at hp;subst hp;exact hx,h.2.grow hA⟩
theorem Ow(s:ByteArray)(w:World)(hs:s.size<100000) :
  Calls Tryz.prog 170 #[.string s] w fun e w'=>e=.returned (.bool (oq s))/\Fr ay w w':=by
 by_cases h60:60<s.size
 ·have i60:(60:Int)<(s.size:Int):=by omega
  have HT:=O (show oq s=false by unfold oq IY;rw[decide_eq_false (by simpa using h60)];rfl);go_enter Tryz.func170,Tryz.ntmps170;go_wp2;refine bodyPost_ret (v:=.bool false) ?_ rfl ⟨by rw[HT.out],?_⟩
  ·simp[results,Tryz.f170,go_sem]
  ·first|exact(Fr.refl ay w).alloc _|exact((Fr.refl ay w).alloc _).dI (p:=⟨w.heap.size,0,none⟩) (Nat.le_refl _) _
 ·have i60:¬(60:Int)<(s.size:Int):=by omega
  obtain⟨wb,eQ⟩:∃wb,wb=w.alloc (.cells #[.bool false] 4):=⟨_,rfl⟩;have hzb:wb.heap.size=w.heap.size+1:=by rw[eQ];simp
  have fa:Fr ay w wb:=by rw[eQ];exact(Fr.refl ay w).alloc _
  have tS:wb.heap[w.heap.size]?=some (.cells #[.bool false] 4 (0,0)):=by rw[eQ];exact af _ _
  obtain⟨wc,ZC⟩:∃wc,wc=((wb.alloc (.cells #[.string s] 9)).alloc (.cells #[.string ⟨#[46]⟩] 9)).alloc (.cells #[.int .i64 0] 3):=⟨_,rfl⟩;have hfc:Fr ay wb wc:=by rw[ZC];exact(((Fr.refl ay wb).alloc _).alloc _).alloc _
  have hzc:wc.heap.size=w.heap.size+4:=by rw[ZC];simp[hzb]
  have hc0:wc.heap[w.heap.size+1]?=some (.cells #[.string s] 9 (0,0)):=by
   rw[ZC, <-hzb];exact(((Fr.refl ay _).alloc _).alloc _).keep (af wb _) (fun h=>h)
  have kS:wc.heap[w.heap.size+1+1]?=some (.cells #[.string ⟨#[46]⟩] 9 (0,0)):=by
   rw[ZC, <-hzb];have:=((Fr.refl ay _).alloc (.cells #[.int .i64 0] 3)).keep (af (wb.alloc (.cells #[.string s] 9)) (.cells #[.string ⟨#[46]⟩] 9)) (fun h=>h);simpa using this
  have nW:wc.heap[w.heap.size+1+2]?=some (.cells #[.int .i64 0] 3 (0,0)):=by
   rw[ZC, <-hzb];have:=af ((wb.alloc (.cells #[.string s] 9)).alloc (.cells #[.string ⟨#[46]⟩] 9)) (.cells #[.int .i64 0] 3);simpa using this
  have HSS:=O ((B6 s ⟨#[46]⟩ wb).mono (R':=fun e w'=>e=.returned (.func (.func 273) #[] #[.pointer (some ⟨w.heap.size+1+1,0,none⟩),.pointer (some ⟨w.heap.size+1,0,none⟩),.pointer (some ⟨w.heap.size+1+2,0,none⟩)])/\wc=w') (fun e w' h=>by rw[hzb, <-ZC]at h;exact⟨h.1,h.2.symm⟩));have lq:=O eQ;clear eQ ZC;refine(callsIn_wide (n:=5)).1 ?_;refine callsIn_of_wp_marks Tryz.func170 rfl trivial ?_ rfl
  simp only[Tryz.ntmps170,List.size_toArray,List.length_cons,List.length_nil,Nat.reduceAdd,Nat.reduceSub,Array.replicate_succ,Array.replicate_zero,List.push_toArray,List.append_toArray,List.nil_append,List.cons_append]
  gi_wp2_with fail
  rw[<-lq.out];refine⟨trivial,?_⟩;refine(callsIn_wide.2 HSS.out).mono ?_;rintro e u⟨rfl,rfl⟩;gi_wp2;have hkc:=hfc.keep tS (fun h=>h);have agt:=fa.trans hfc;have ZD:=O (show oq s=(dX 46 s).all (fun p=>xy p.data.toList)by
   unfold oq IY dX;rw[decide_eq_true (by simpa using Nat.le_of_not_lt h60),Bool.true_and,List.all_map];rfl)
  refine uY rfl (by decide) (gf:=273) (lb:= #[.pointer (some ⟨w.heap.size+1+1,0,none⟩),.pointer (some ⟨w.heap.size+1,0,none⟩),.pointer (some ⟨w.heap.size+1+2,0,none⟩)]) rfl trivial (enters_of Tryz.func273 (by kernel_rfl) rfl)
   (enc:=fun x:ByteArray=>Value.string x) (k:=w.heap.size+1) (ys:=dX 46 s) (by omega) (wN s (w.heap.size+1) 4 wc (by decide) hs hc0 kS nW) rfl
   (Eb w wc) (Ou w wc) (fun xs A B h f=>⟨h.1,h.2.fr hzc f⟩) (fun xs A B h f=>⟨h.1,h.2.fr hzc f⟩) ⟨(fun p hp=>by cases hp),hkc,agt,Nat.le_refl _⟩
   (fun x=>{tmps:= #[.string s,undef,.pointer (some ⟨w.heap.size,0,none⟩),.string x,.string s,.int .i64 s.size,.bool false,.string s,.func (.func 273) #[] #[.pointer (some ⟨w.heap.size+1+1,0,none⟩),.pointer (some ⟨w.heap.size+1,0,none⟩),.pointer (some ⟨w.heap.size+1+2,0,none⟩)],.string x,undef,undef,undef,undef,undef,undef,undef,undef,undef,undef,undef,undef,undef,undef,undef,undef,undef,undef,undef,undef],defers:=[]}) ?assign ?body ?done ?stop
  case assign =>
   intro l x W K hK;gi_wp2;exact hK
  case body =>
   intro l pre x W hi hxp;have hxz:x.size<=s.size:=GA (hxp.subset (by simp));clear hxp;have AA:=O (fun hx=>Lj (x:=x) hzc hi hx);have wM:=O (fun hx=>Ov (x:=x) hi hx);obtain⟨_,hr,_,_⟩:=hi;have HR:=O hr;have c0:W.cell? ⟨w.heap.size,0,none⟩=some (.bool false):=by simp[World.cell?,hr]
   have c1:W.frozen? ⟨w.heap.size,0,none⟩=false:=by simp[World.frozen?,hr]
   clear hr tS hkc hc0 kS nW fa hfc agt hzb HSS lq ZD;by_cases B7:x.size=0
   ·have hl:xy x.data.toList=false:=by
     have:x.data.toList=[]:=by apply List.eq_nil_of_length_eq_zero;simpa using B7
     rw[this];rfl
    have hem:x.toList=[]:=by rw[ByteArray.toList_eq];apply List.eq_nil_of_length_eq_zero;simpa using B7
    have av_:x.toList.isEmpty=true:=by rw[hem];rfl
    have HB:=O (wM.out hl);clear hl wM AA;gi_wp2;refine⟨trivial,?_⟩;gi_wp2;exact HB.out W (Fr.refl _ _) _
   ·obtain⟨m,hm⟩:∃m,x.size=m+1:=⟨x.size-1,by omega⟩;have hne:¬x.toList=[]:=by rw[ByteArray.toList_eq];intro h;apply B7;have:=congrArg List.length h;simpa using this
    have Ox:x.toList.isEmpty=false:=by simpa using hne
    have HEM:=O (show x.data.toList.isEmpty=false by rw[<-ByteArray.toList_eq];exact Ox);have HH0:=O (show x.data.toList.head?=some (x[0]'(by omega))by rw[List.head?_eq_getElem?];exact byte_at x 0 (by omega));have HHL:=O (show x.data.toList.getLast?=some (x[m]'(by omega))by
     rw[List.getLast?_eq_getElem?]
     have:x.data.toList.length-1=m:=by have:x.data.toList.length=x.size:=by simp
                                       omega
     rw[this];exact byte_at x m (by omega))
    have hm1:((x.size:Nat):Int)-1=(m:Int):=by omega
    have CX:(m:Int)<(x.size:Int):=by omega
    have hm3:(0:Int)<=(m:Int):=by omega
    have hm4:m<x.size:=by omega
    have hm5:0<x.size:=by omega
    have hm6:(0:Int)<(x.size:Int):=by omega
    have Oy:∀c:UInt8,c=45↔(c.toNat:Int)=45:=fun c=>by
     constructor
     ·rintro rfl;rfl
     ·intro h;exact UInt8.toNat.inj (by have:(45:UInt8).toNat=45:=rfl;omega)
    by_cases Uv:x[0]'(by omega)=45
    ·have i0:(((x[0]'(by omega)).toNat:Int)==45)=true:=beq_iff_eq.2 ((Oy _).1 Uv);have i0':((x[0]'(by omega)).toNat:Int)=45:=(Oy _).1 Uv;have HB:=O (wM.out (by unfold xy;rw[HH0.out,Uv];simp));clear wM AA HEM HH0 HHL Oy Uv;gi_wp2;refine⟨trivial,?_⟩;gi_wp2;exact HB.out W (Fr.refl _ _) _
    ·have i0:(((x[0]'(by omega)).toNat:Int)==45)=false:=beq_eq_false_iff_ne.2 (fun h=>Uv ((Oy _).2 h));have i0':¬((x[0]'(by omega)).toNat:Int)=45:=fun h=>Uv ((Oy _).2 h);by_cases WW:x[m]'(by omega)=45
     ·have i1:(((x[m]'(by omega)).toNat:Int)==45)=true:=beq_iff_eq.2 ((Oy _).1 WW);have i1':((x[m]'(by omega)).toNat:Int)=45:=(Oy _).1 WW;have HB:=O (wM.out (by unfold xy;rw[HHL.out,WW];simp));clear wM AA HEM HH0 HHL Oy WW Uv;gi_wp2;refine⟨trivial,?_⟩;gi_wp2;exact HB.out W (Fr.refl _ _) _
     ·have i1:(((x[m]'(by omega)).toNat:Int)==45)=false:=beq_eq_false_iff_ne.2 (fun h=>WW ((Oy _).2 h));have i1':¬((x[m]'(by omega)).toNat:Int)=45:=fun h=>WW ((Oy _).2 h);have q_:=O (show xy x.data.toList=x.data.toList.all Dv by
       unfold xy;rw[HEM.out,HH0.out,HHL.out,show(some (x[0]'(by omega))==some 45)=false by simpa using Uv,show(some (x[m]'(by omega))==some 45)=false by simpa using WW];rfl)
      have HTR:=O (mK x lB W (by omega) (by decide) (by decide) zA);clear HEM HH0 HHL Oy WW Uv
      gi_wp2_with fail
      refine⟨trivial,?_⟩;refine(CallsIn.inRound l (callsIn_wide.2 HTR.out)).mono ?_;rintro e u⟨rfl,qJ⟩;cases dy:x.data.toList.all Dv
      ·have IZ:Lib.trimS x.data.toList lB.data.toList≠ []:=fun h=>by rw[qB,v_,dy]at h;cases h
       have t1:¬(⟨(Lib.trimS x.data.toList lB.data.toList).toArray⟩:ByteArray).toList=[]:=by rw[ByteArray.toList_eq];simpa using IZ
       have t2:(⟨(Lib.trimS x.data.toList lB.data.toList).toArray⟩:ByteArray).toList.isEmpty=false:=by simpa using t1
       have HB:=O (wM.out (q_.out.trans dy));have SL:=qJ.keep HR.out (fun h=>h);have d0:u.cell? ⟨w.heap.size,0,none⟩=some (.bool false):=by simp[World.cell?,SL]
       have d1:u.frozen? ⟨w.heap.size,0,none⟩=false:=by simp[World.frozen?,SL]
       clear IZ dy wM AA q_ HTR c0 c1;generalize (⟨(Lib.trimS x.data.toList lB.data.toList).toArray⟩:ByteArray)=z at *
       gi_wp2;exact HB.out u qJ _
      ·have IZ:Lib.trimS x.data.toList lB.data.toList=[]:=by rw[qB,v_,dy]
       rw[IZ];have HG:=O (AA.out (q_.out.trans dy));clear IZ dy wM AA q_ HTR;gi_wp2;exact HG.out u qJ _
  case done =>
   rintro D W rfl⟨dy,hw⟩hd;have c0:W.cell? ⟨w.heap.size,0,none⟩=some (.bool false):=by simp[World.cell?,hw.1]
   have c1:W.frozen? ⟨w.heap.size,0,none⟩=false:=by simp[World.frozen?,hw.1]
   have HT:=O (show oq s=true by rw[ZD.out,List.all_eq_true];exact dy);have HF:=O hw.2.1;clear hw;gi_wp2;have hd':=(KeepsOthers.setCell W ⟨w.heap.size,0,none⟩ (.bool true)).same _ _ hd rfl;refine⟨by simp,.inl ⟨_,_,rfl,run_takeDeferred hd',?_⟩⟩
   have nV:=cell_kept (World.cell?_setCell_same' W ⟨w.heap.size,0,none⟩ (.bool true) (by rw[c0];rfl)) (grownBy_putObj' _ wc.heap.size (.deferred none)) (fun r e=>by cases e;exact⟨_,hd',rfl⟩);refine⟨.bool true,?_,by rw[HT.out],(HF.out.dI (p:=⟨w.heap.size,0,none⟩) (Nat.le_refl _) _).putObj (fun hl=>by omega) _⟩;simp[results,Tryz.f170,go_sem,nV]
  case stop =>
   rintro D xs W rfl WG⟨⟨p,hp,hlp⟩,hw⟩hd;have HT:=O (show oq s=false by rw[ZD.out,List.all_eq_false];exact⟨p,WG.subset hp,by simp[hlp]⟩);have c0:W.cell? ⟨w.heap.size,0,none⟩=some (.bool false):=by simp[World.cell?,hw.1]
   have HF:=O hw.2.1;clear hw;gi_wp2;refine⟨by simp,.inl ⟨_,_,rfl,run_takeDeferred hd,?_⟩⟩;have nV:=cell_kept c0 (grownBy_putObj' _ wc.heap.size (.deferred none)) (fun r e=>by cases e;exact⟨_,hd,rfl⟩);refine⟨.bool false,?_,by rw[HT.out],HF.out.putObj (fun hl=>by omega) _⟩;simp[results,Tryz.f170,go_sem,nV]
def jg(o:cO):Bool:=YZ ⟨o.ae,o.host.data.toList,o.port⟩
theorem AB(o:cO)(w:World)(hs:o.host.size<100000) :
  Calls Tryz.prog 107 #[.agg o.cells.toArray] w fun e w'=>e=.returned (.bool (jg o))/\Fr ay w w':=by
 obtain⟨sec,host,port⟩:=o;unfold cO.cells;have HR:=O (show jg ⟨sec,host,port⟩=(oq host&&(decide (1<=port)&&decide (port<=65535)))from rfl);obtain⟨wb,eQ⟩:∃wb,wb=w.alloc (.cells #[.bool sec,.string host,.int .i64 port] 24):=⟨_,rfl⟩;have fa:Fr ay w wb:=by rw[eQ];exact(Fr.refl ay w).alloc _
 have gZ:wb.heap[w.heap.size]?=some (.cells #[.bool sec,.string host,.int .i64 port] 24 (0,0)):=by rw[eQ];exact af _ _
 have lq:=O eQ;clear eQ;go_enter Tryz.func107,Tryz.ntmps107;go_wp2_with fail
 rw[<-lq.out];refine(Ow host wb hs).mono ?_;rintro e u⟨rfl,qJ⟩;have ng:=qJ.keep gZ (fun h=>h);have c2:u.cell? ⟨w.heap.size,2,none⟩=some (.int .i64 port):=by simp[World.cell?,ng]
 generalize oq host=b at *
 cases b
 ·go_wp2;go_ret;exact⟨by rw[HR.out];rfl,fa.trans qJ⟩
 ·by_cases h1:1<=port
  ·have d1:decide (1<=port)=true:=decide_eq_true h1;go_wp2;go_ret;exact⟨by rw[HR.out,d1];rfl,fa.trans qJ⟩
  ·have d1:decide (1<=port)=false:=decide_eq_false h1;go_wp2;go_ret;exact⟨by rw[HR.out,d1];rfl,fa.trans qJ⟩
open Go.RowKit
theorem ou(base:Nat)(v:Value)(ss:List ByteArray)(w:World)(h:aS base w v ss) :
  Calls Tryz.prog 176 #[v] w fun e w'=>∃a c,e=.returned (.slice a ss.length c)/\aS base w' (.slice a ss.length c) ss/\Fr ay w w':=by
 have hl:=h.xc;rcases h.rd with ⟨a,c,rfl,rfl,_⟩|⟨bk,o,c,rfl,h1,h2,h3,h4⟩
 ·cases a with
  |none=>exact(Tryz.slices_Clone_string_nil 0 c w).mono fun e w' ⟨he,hw⟩=>⟨none,0,he,aS.nil _ _,hw▸Fr.refl _ _⟩
  |some a =>
   refine(Tryz.slices_Clone_string_zero a c w).mono fun e w' ⟨v',he,ho,_,hb⟩=>?_;have hs:Strs w.heap.size w' v' []:=ho;obtain⟨a',c',hv⟩:=hs.form;exact⟨a',c',by rw[he,hv],by rw[<-hv];exact hs.in hl,Fr.gW hb⟩
 ·refine(Tryz.slices_Clone_string bk o ss.length c ss w (Nat.le_refl _) (by omega) (fun j hj=>h4 j _ (by simp[List.getD,hj]))).mono fun e w' ⟨v',he,ho,_,hb⟩=>?_;rw[List.take_of_length_le (Nat.le_refl _)]at ho;have hs:Strs w.heap.size w' v' ss:=ho;obtain⟨a',c',hv⟩:=hs.form;exact⟨a',c',by rw[he,hv],by rw[<-hv];exact hs.in hl,Fr.gW hb⟩
def OC(base:Nat)(m:ai aF)(w:World)(e:Ending)(w':World):Prop :=
 ∃r:ai Value,e=.returned (.agg r.cells.toArray)/\r.Reads (aS base w') m/\(∀u∈r.cells,u.oneCell'=true)/\Fr ay w w'
theorem AE{r:ai Value}{a b:Option Addr}{n m c d:Nat}(h1:r.a.dom=.slice a n c)(h2:r.paths=.slice b m d):∀u∈r.cells,u.oneCell'=true:=by
 intro u hu;simp only[ai.cells,List.mem_cons,List.not_mem_nil,or_false]at hu;rcases hu with rfl|rfl|rfl|rfl|rfl|rfl|rfl|rfl|rfl|rfl|rfl|rfl|rfl|rfl|rfl|rfl<;>first|rfl|(rw[h1];rfl)|(rw[h2];rfl)
theorem ov(base:Nat)(g:ai Value)(m:ai aF)(w:World)(eI:base<=w.heap.size)(h:g.Reads (aS base w) m) :
  Calls Tryz.prog 124 #[.agg g.cells.toArray] w (OC base m w):=by
 have hpi:=h.2.2.2.2.2.2;have hdi:=h.2.2.2.2.1.2.2.2.2.2.2.2;have H:=O h;clear h;unfold ai.cells;obtain⟨ad,cd,hd⟩:=hdi.rd.form;obtain⟨ap,cp,hp⟩:=hpi.rd.form;rw[hp]at hpi;rw[hd]at hdi;rw[hd,hp];clear hd hp;go_enter Tryz.func124,Tryz.ntmps124;go_wp2_with fail
 have iJ:Fr ay w _:=((Fr.refl ay w).alloc (.cells #[.bool g.o.ae,.string g.o.host,.int .i64 g.o.port,.bool g.proxy,.string g.user,.string g.pass,.int .i64 g.a.scheme,.string g.a.ar,.string g.a.aE,.string g.a.aK,.bool g.a.aL,.string g.a.bU,.bool g.a.aX,.slice ad m.a.dom.length cd,.int .i64 g.count,.slice ap m.paths.length cp] 49)).alloc (.cells bZ 49)
 have b0:=Below.heap_alloc (w.alloc (.cells #[.bool g.o.ae,.string g.o.host,.int .i64 g.o.port,.bool g.proxy,.string g.user,.string g.pass,.int .i64 g.a.scheme,.string g.a.ar,.string g.a.aE,.string g.a.aK,.bool g.a.aL,.string g.a.bU,.bool g.a.aX,.slice ad m.a.dom.length cd,.int .i64 g.count,.slice ap m.paths.length cp] 49)) (.cells bZ 49) w.heap.size (by simp);rw[af]at b0
 have b1:=af (w.alloc (.cells #[.bool g.o.ae,.string g.o.host,.int .i64 g.o.port,.bool g.proxy,.string g.user,.string g.pass,.int .i64 g.a.scheme,.string g.a.ar,.string g.a.aE,.string g.a.aK,.bool g.a.aL,.string g.a.bU,.bool g.a.aX,.slice ad m.a.dom.length cd,.int .i64 g.count,.slice ap m.paths.length cp] 49)) (.cells bZ 49)
 rw[show(w.alloc (.cells #[.bool g.o.ae,.string g.o.host,.int .i64 g.o.port,.bool g.proxy,.string g.user,.string g.pass,.int .i64 g.a.scheme,.string g.a.ar,.string g.a.aE,.string g.a.aK,.bool g.a.aL,.string g.a.bU,.bool g.a.aX,.slice ad m.a.dom.length cd,.int .i64 g.count,.slice ap m.paths.length cp] 49)).heap.size=w.heap.size+1 from by simp]at b1
 generalize (w.alloc (.cells _ 49)).alloc _=W at iJ b0 b1;have hpi:=hpi.bd iJ;have hdi:=hdi.bd iJ;refine(ou base _ m.paths W hpi).mono ?_;rintro e u1⟨a1,c1,rfl,zo,bt⟩;have M0:=bt.keep b0 (fun h=>h);have OD:=bt.keep b1 (fun h=>h);have agz:=hdi.bd bt;have ZG:=iJ.trans bt;have c13:u1.cell? ⟨w.heap.size,13,none⟩=some (.slice ad m.a.dom.length cd):=by simp[World.cell?,M0]
 have c15:u1.cell? ⟨w.heap.size,15,none⟩=some (.slice ap m.paths.length cp):=by simp[World.cell?,M0]
 have f15:u1.frozen? ⟨w.heap.size,15,none⟩=false:=by simp[World.frozen?,M0]
 clear iJ b0 b1 bt hpi hdi;have AF:w.heap.size<=u1.heap.size:=ZG.size;go_wp2_with fail
 have bq:=ZG.dI (p:=⟨w.heap.size,15,none⟩) (Nat.le_refl _) (.slice a1 m.paths.length c1);have b0:=aP M0 15 (.slice a1 m.paths.length c1);have b1:=(nd (w:=u1) (b:=w.heap.size) (g:=w.heap.size+1) (by omega) 15 (.slice a1 m.paths.length c1)).trans OD;have lZ:lT base u1 (one w.heap.size):=by
  rintro k rfl hk;exact⟨eI,fun c f e=>by rw[M0]at e;cases e⟩
 have fM:Fr (one w.heap.size) u1 (u1.setCell ⟨w.heap.size,15,none⟩ (.slice a1 m.paths.length c1)):=(Fr.refl (one w.heap.size) u1).setCell (p:=⟨w.heap.size,15,none⟩) (fun _=>rfl) _;have Kp:=zo.fr fM lZ;have qE:=agz.fr fM lZ;clear zo agz lZ fM M0 OD ZG c13 c15 f15;generalize u1.setCell ⟨w.heap.size,15,none⟩ (.slice a1 m.paths.length c1)=U at *
 refine(ou base _ m.a.dom U qE).mono ?_;rintro e u2⟨a2,c2,rfl,Nv,dv⟩
 have M0:u2.heap[w.heap.size]?=some (.cells #[.bool g.o.ae,.string g.o.host,.int .i64 g.o.port,.bool g.proxy,.string g.user,.string g.pass,.int .i64 g.a.scheme,.string g.a.ar,.string g.a.aE,.string g.a.aK,.bool g.a.aL,.string g.a.bU,.bool g.a.aX,.slice ad m.a.dom.length cd,.int .i64 g.count,.slice a1 m.paths.length c1] 49 (0,0)):=dv.keep b0 (fun h=>h);have OD:=dv.keep b1 (fun h=>h)
 have WY:=Kp.bd dv;have HF:=bq.trans dv;have c13:u2.cell? ⟨w.heap.size,13,none⟩=some (.slice ad m.a.dom.length cd):=by simp[World.cell?,M0]
 have f13:u2.frozen? ⟨w.heap.size,13,none⟩=false:=by simp[World.frozen?,M0]
 have b2:(u2.setCell ⟨w.heap.size,13,none⟩ (.slice a2 m.a.dom.length c2)).heap[w.heap.size]?=some (.cells #[.bool g.o.ae,.string g.o.host,.int .i64 g.o.port,.bool g.proxy,.string g.user,.string g.pass,.int .i64 g.a.scheme,.string g.a.ar,.string g.a.aE,.string g.a.aK,.bool g.a.aL,.string g.a.bU,.bool g.a.aX,.slice a2 m.a.dom.length c2,.int .i64 g.count,.slice a1 m.paths.length c1] 49 (0,0)):=aP M0 13 (.slice a2 m.a.dom.length c2)
 have b3:=(nd (w:=u2) (b:=w.heap.size) (g:=w.heap.size+1) (by omega) 13 (.slice a2 m.a.dom.length c2)).trans OD;have lZ:lT base u2 (one w.heap.size):=by
  rintro k rfl hk;exact⟨eI,fun c f e=>by rw[M0]at e;cases e⟩
 have fM:Fr (one w.heap.size) u2 (u2.setCell ⟨w.heap.size,13,none⟩ (.slice a2 m.a.dom.length c2)):=(Fr.refl (one w.heap.size) u2).setCell (p:=⟨w.heap.size,13,none⟩) (fun _=>rfl) _;have hs5:=WY.fr fM lZ;have hd5:=Nv.fr fM lZ;have dk:=HF.dI (p:=⟨w.heap.size,13,none⟩) (Nat.le_refl _) (.slice a2 m.a.dom.length c2);have B2:=O b2;have B3:=O b3;clear b0 b1 M0 OD b2 b3 lZ fM WY Kp qE Nv HF bq dv
 have sM:(#[.bool g.o.ae,.string g.o.host,.int .i64 g.o.port,.bool g.proxy,.string g.user,.string g.pass,.int .i64 g.a.scheme,.string g.a.ar,.string g.a.aE,.string g.a.aK,.bool g.a.aL,.string g.a.bU,.bool g.a.aX,.slice a2 m.a.dom.length c2,.int .i64 g.count,.slice a1 m.paths.length c1]:Array Value).all (·.oneCell')=true:=all_oneCell_toArray (AE (r:={g with a:={g.a with dom:=.slice a2 m.a.dom.length c2},paths:=.slice a1 m.paths.length c1}) rfl rfl)
 have HX1:=O sM;clear sM
 go_wp2_with (first|((with_reducible refine ag ⟨some 13,_,_,_,_,_⟩ ?_);refine wpList_load_row rfl 49 (.tmp 1) rfl w.heap.size rfl _ _ (0,0) _ B2.out Tryz.underlying49 rfl (by kernel_rfl) ?_)|((with_reducible refine ag ⟨none,.store 49 _ _,_,_,_,_⟩ ?_);go_must(refine wpList_store_row rfl 49 (.tmp 2) (.tmp 13) rfl (w.heap.size+1) _ rfl rfl _ bZ B3.out (by kernel_rfl) rfl HX1.out ?_))|fail)
 have lZ:lT base (u2.setCell ⟨w.heap.size,13,none⟩ (.slice a2 m.a.dom.length c2)) (one (w.heap.size+1)):=by
  rintro k rfl hk;exact⟨by omega,fun c f e=>by rw[B3.out]at e;cases e⟩
 generalize (u2.setCell ⟨w.heap.size,13,none⟩ (.slice a2 m.a.dom.length c2))=V at *
 have fM:Fr (one (w.heap.size+1)) V (V.setRow (w.heap.size+1) #[.bool g.o.ae,.string g.o.host,.int .i64 g.o.port,.bool g.proxy,.string g.user,.string g.pass,.int .i64 g.a.scheme,.string g.a.ar,.string g.a.aE,.string g.a.aK,.bool g.a.aL,.string g.a.bU,.bool g.a.aX,.slice a2 m.a.dom.length c2,.int .i64 g.count,.slice a1 m.paths.length c1]):=(Fr.refl (one (w.heap.size+1)) V).setRow (fun _=>rfl) _
 refine bodyPost_ret (results_cell_row (by rfl) _ _ (w.heap.size+1) 49 #[.bool g.o.ae,.string g.o.host,.int .i64 g.o.port,.bool g.proxy,.string g.user,.string g.pass,.int .i64 g.a.scheme,.string g.a.ar,.string g.a.aE,.string g.a.aK,.bool g.a.aL,.string g.a.bU,.bool g.a.aX,.slice a2 m.a.dom.length c2,.int .i64 g.count,.slice a1 m.paths.length c1] (0,0) _ rfl (setRow_heap V (w.heap.size+1) _ _ _ _ B3.out) Tryz.underlying49 rfl (by kernel_rfl)) rfl ?_
 obtain⟨h1,h2,h3,h4,⟨k1,k2,k3,k4,k5,k6,k7,_⟩,h6,_⟩:=H.out;exact⟨{g with a:={g.a with dom:=.slice a2 m.a.dom.length c2},paths:=.slice a1 m.paths.length c1},rfl,⟨h1,h2,h3,h4,⟨k1,k2,k3,k4,k5,k6,k7,hd5.fr fM lZ⟩,h6,hs5.fr fM lZ⟩,AE rfl rfl,dk.setRow (fun h=>absurd h (by omega)) _⟩
end Go.Proofs.YtjdmjbdkdmbaiaaGreatDoor
