/- Host, Clean. -/
import Derived.Test.YtjdmjbdkdmbaiaaGreatDoorPk8
import Derived.Test.YtjdmjbdkdmbaiaaGreatDoorPk7
set_option maxRecDepth 100000
set_option maxHeartbeats 16000000
set_option linter.unusedSimpArgs false
namespace Go.Proofs.YtjdmjbdkdmbaiaaGreatDoor
open Go.RowKit Go.Shelf
attribute [local go_sem] Oper.semAt_some
theorem Gx(s:ByteArray)(c:UInt8)(w:World) :
  Calls Tryz.prog 64 #[.string s,.string ⟨#[c]⟩] w fun e w'=>e=.returned (.int .i64 (Lib.indexByte s.data.toList c))/\w'=w:=by
 go_enter Tryz.func64,Tryz.ntmps64;go_wp2_with fail
 refine(Tryz.stringslite_Index_one s c w).mono ?_;rintro e w1⟨rfl,rfl⟩;go_wp2;go_ret;exact⟨rfl,rfl⟩
def Oj(w:World)(k:Nat):Nat:=match w.cell? ⟨k,0,none⟩with
 |some (.string s)=>s.size+1
 |_=>0
theorem wN(s:ByteArray)(k n:Nat)(w:World)(hn:1<=n)(hs:s.size<100000)
  (h0:w.heap[k]?=some (.cells #[.string s] 9 (0,0)))(h1:w.heap[k+1]?=some (.cells #[.string ⟨#[46]⟩] 9 (0,0)))(h2:w.heap[k+2]?=some (.cells #[.int .i64 0] 3 (0,0))) :
  Og Fence.wide n Tryz.prog 273 #[.pointer (some ⟨k+1,0,none⟩),.pointer (some ⟨k,0,none⟩),.pointer (some ⟨k+2,0,none⟩)] (fun x:ByteArray=>Value.string x) k (dX 46 s) w:=by
 intro l J Jx W hfW hJ hJx hY hJ0;have b0:=hfW.keep h0 (fun h=>h);have b1:=hfW.keep h1 (fun h=>h);have b2:=hfW.keep h2 (fun h=>h);have c0:W.cell? ⟨k,0,none⟩=some (.string s):=by simp[World.cell?,b0]
 have c1:W.cell? ⟨k+1,0,none⟩=some (.string ⟨#[46]⟩):=by simp[World.cell?,b1]
 refine callsIn_of_wp Tryz.func273 rfl trivial ?_ rfl;simp only[Tryz.ntmps273,List.size_toArray,List.length_cons,List.length_nil,Nat.reduceAdd,Nat.reduceSub,Array.replicate_succ,Array.replicate_zero,List.push_toArray,List.append_toArray,List.nil_append,List.cons_append];gi_wp2
 gi_loopw [] (fun wr=>∃(pre:List ByteArray) (r:ByteArray),pre++dX 46 r=dX 46 s/\r.size<=s.size/\wr.heap[k]?=some (.cells #[.string r] 9 (0,0))/\wr.heap[k+1]?=some (.cells #[.string ⟨#[46]⟩] 9 (0,0))/\wr.heap[k+2]?=some (.cells #[.int .i64 0] 3 (0,0))/\J pre wr) (fun wr=>Oj wr k)
 case atStart=>exact⟨[],s,rfl,Nat.le_refl _,b0,b1,b2,hJ0⟩
 case round =>
  obtain⟨pre,r,sN,hrs,d0,d1,d2,hj⟩:=hrel;have e0:wr.cell? ⟨k,0,none⟩=some (.string r):=by simp[World.cell?,d0]
  have e1:wr.cell? ⟨k+1,0,none⟩=some (.string ⟨#[46]⟩):=by simp[World.cell?,d1]
  have e2:wr.cell? ⟨k+2,0,none⟩=some (.int .i64 0):=by simp[World.cell?,d2]
  gi_wp2_with fail
  refine⟨trivial,?_⟩;refine(callsIn_wide.2 (Gx r 46 wr)).mono ?_;rintro e u⟨rfl,rfl⟩;by_cases rm:0<=Lib.indexByte r.data.toList 46
  ·obtain⟨i,hi⟩:∃i:Nat,Lib.indexByte r.data.toList 46=(i:Int):=⟨(Lib.indexByte r.data.toList 46).toNat,by omega⟩;have hil:i<r.size:=by have:=Oi hi;simpa using this
   have HPH:=O (yk 46 r i hi);rw[hi];clear hi rm;have q0:¬(i:Int)<0:=by omega
   have q1:(0:Int)<=(i:Int):=by omega
   have q2:(i:Int)<=(r.size:Int):=by omega
   have q3:(i:Int)+1<=(r.size:Int):=by omega
   have q4:(0:Int)<=(i:Int)+1:=by omega
   obtain⟨fn,tmps,assign,body,hy,hR⟩:=hY pre (r.extract 0 i) u hj ⟨dX 46 (r.extract (i+1) r.size),by rw[List.append_assoc,List.singleton_append, <-HPH.out];exact sN⟩;gi_wp2;refine hR.mono ?_;rintro e W3(⟨rfl,hJ3,BR⟩|⟨rfl,CU⟩)
   ·have f0:=(BR k (by omega) (by omega)).trans d0;have f1:=(BR (k+1) (by omega) (by omega)).trans d1;have f2:=(BR (k+2) (by omega) (by omega)).trans d2;clear e0 e1 e2 BR;have e0:W3.cell? ⟨k,0,none⟩=some (.string r):=by simp[World.cell?,f0]
    have e1:W3.cell? ⟨k+1,0,none⟩=some (.string ⟨#[46]⟩):=by simp[World.cell?,f1]
    have e3:W3.frozen? ⟨k,0,none⟩=false:=by simp[World.frozen?,f0]
    gi_wp2;have g0:(W3.setCell ⟨k,0,none⟩ (.string (r.extract (i+1) r.size))).heap[k]?=some (.cells #[.string (r.extract (i+1) r.size)] 9 (0,0)):=by simp[World.setCell,Array.getElem?_modify,f0]
    have hz:(r.extract (i+1) r.size).size=r.size-(i+1):=by rw[ByteArray.size_extract];omega
    refine⟨⟨pre++[r.extract 0 i],r.extract (i+1) r.size,by rw[List.append_assoc,List.singleton_append, <-HPH.out];exact sN,by omega,g0,(Below.heap_setCell _ _ _ _ (by simp)).trans f1,(Below.heap_setCell _ _ _ _ (by simp)).trans f2,hJ _ _ _ hJ3 ((Fr.refl (fun j=>j=k) W3).setCell (p:=⟨k,0,none⟩) (fun _=>rfl) _)⟩,?_⟩;unfold Oj;simp only[World.cell?,g0,d0];simp;omega
   ·gi_wp2;refine bodyPost_ret (results_none rfl _ _ _) rfl ?_;exact⟨⟨_,rfl⟩,.inr ⟨pre++[r.extract 0 i],⟨dX 46 (r.extract (i+1) r.size),by rw[List.append_assoc,List.singleton_append, <-HPH.out];exact sN⟩,CU⟩⟩
  ·have HPM:=O (show pre++[r]=dX 46 s by rw[<-vZ 46 r rm];exact sN);obtain⟨fn,tmps,assign,body,hy,hR⟩:=hY pre r u hj ⟨[],by rw[List.append_nil];exact HPM.out⟩;have q0:Lib.indexByte r.data.toList 46<0:=by omega
   clear rm;gi_wp2;refine hR.mono ?_;rintro e W3(⟨rfl,hJ3,BR⟩|⟨rfl,CU⟩)
   ·gi_wp2;go_end0;exact⟨⟨_,rfl⟩,.inl (by rw[<-HPM.out];exact hJ3)⟩
   ·gi_wp2;go_end0;exact⟨⟨_,rfl⟩,.inr ⟨pre++[r],⟨[],by rw[List.append_nil];exact HPM.out⟩,CU⟩⟩
open Go.RowKit
theorem Strs.pop{base:Nat}{w:World}{a:Addr}{n c:Nat}{ss:List ByteArray}{x:ByteArray}(h:Strs base w (.slice (some a) n c) (ss++[x])):Strs base w (.slice (some a) ss.length c) ss:=by
 obtain⟨h1,h2⟩:=h;rcases h2 with ⟨hv,_⟩|⟨g,cap,cur,hv,hg,hh,h3,h4,h5,h6⟩
 ·cases hv
 ·cases hv;refine⟨by simp,Or.inr ⟨g,c,cur,rfl,hg,hh,?_,h4,h5,?_⟩⟩
  ·simp at h3;omega
  ·have e:(cur.toList.take (ss.length*1))=(cur.toList.take ((ss++[x]).length*1)).take ss.length:=by
    rw[List.take_take];congr 1;simp
   rw[e,h6];simp
theorem Strs.Ol{base:Nat}{w:World}{n c:Nat}{ss:List ByteArray}(h:Strs base w (.slice none n c) ss):ss=[]:=by
 rcases h.2 with ⟨_,hn⟩|⟨g,cap,cur,hq,_⟩
 ·exact List.eq_nil_of_length_eq_zero hn
 ·cases hq
theorem Strs.cap{base:Nat}{w:World}{a:Option Addr}{n c:Nat}{ss:List ByteArray}(h:Strs base w (.slice a n c) ss):ss.length<=c:=by
 rcases h.2 with ⟨hq,hn⟩|⟨g,cap,cur,hq,_,_,h3,_⟩
 ·rw[hn];exact Nat.zero_le _
 ·cases hq;exact h3
theorem Lc{α:Type}{l:List α}{k:Nat}{x:α}(h:l[k]?=some x):l.drop k=x :: l.drop (k+1):=by
 obtain⟨hk,e⟩:=List.getElem?_eq_some_iff.1 h;rw[List.drop_eq_getElem_cons hk,e]
theorem jf(l:List (List UInt8))(p:List UInt8):bw (l++[p])=bw l++[⟨p.toArray⟩]:=by unfold bw;simp
theorem cg(l:List (List UInt8)):(bw l).length=l.length:=by unfold bw;simp
theorem tR(c:UInt8):∀l:List UInt8,(bD c l).length<=l.length+1
 |[]=>by simp[bD]
 |x :: l=>by
  have ih:=tR c l;have hne:=qA c l;by_cases h:x=c
  ·subst h;rw[lO];simp;omega
  ·cases e:bD c l with
   |nil=>exact absurd e hne
   |cons p ps=>rw[jm h e];rw[e]at ih;simp at ih ⊢; omega
theorem yl{base:Nat}{w:World}{n c:Nat}{l:List (List UInt8)}(h:Strs base w (.slice none n c) (bw l)):l.length=0:=by
 rw[<-cg l,Strs.Ol h];rfl
theorem Om(l:List (List UInt8))(p:List UInt8)(last:Bool):(dE l p last).length<=l.length+1:=by
 have hp:(sX l).length<=l.length:=by unfold sX;split<;>simp
 unfold dE;split
 ·split<;>simp<;>omega
 ·split
  ·split<;>simp
  ·simp
theorem join_eq(l:List (List UInt8)):Lib.join ((bw l).map (·.data.toList)) [47]=pG 47 l:=by
 have e:(bw l).map (·.data.toList)=l:=by unfold bw;rw[List.map_map];simp[Function.comp_def]
 rw[e]
 induction l with
 |nil=>rfl
 |cons p ps ih =>
  cases ps with
  |nil=>simp[Lib.join,pG]
  |cons q qs =>
   have ih':=ih (by unfold bw;rw[List.map_map];simp[Function.comp_def]);rw[pG, <-ih'];simp[Lib.join]
theorem Ld(v:Value)(l:List (List UInt8))(w:World)(hv:cX w v (bw l))(hn:l.length<=140737488355328)(hlen:(pG 47 l).length<=140737488355328) :
  Calls Tryz.prog 143 #[v,.string ⟨#[47]⟩] w fun e w'=>e=.returned (.string ⟨(pG 47 l).toArray⟩)/\Fr ay w w':=by
 have ej:=join_eq l;rcases hv with ⟨a,c,rfl,hs,_⟩|⟨bk,o,c,rfl,h1,h2,h3,h4⟩
 ·have hl:l=[]:=by cases l with|nil=>rfl|cons p ps=>simp[bw]at hs
  subst hl;exact(Tryz.strings_Join_none _ _ _ _).mono (by rintro e w1 ⟨rfl,rfl⟩;exact⟨rfl,Fr.refl _ _⟩)
 ·refine(Tryz.strings_Join bk o c (bw l) ⟨#[47]⟩ w h4 h3 (by rw[cg];exact hn) h1 (by show(Lib.join _ [47]).length<=_;rw[ej];exact hlen)).mono ?_;rintro e w1⟨rfl,hb⟩;refine⟨?_,Fr.gW hb⟩;show Ending.returned (.string ⟨(Lib.join _ [47]).toArray⟩)=_;rw[ej]
def ago(s:List UInt8)(base:Nat)(w1:World)(parts:List (List UInt8))(v i:Value)(wr:World):Prop :=
 ∃(k:Nat) (l:List (List UInt8)),k<=parts.length/\i=.int .i64 k/\Strs base wr v (bw l)/\l.length<=k/\kA l (parts.drop k)=hD s/\Fr ay w1 wr
theorem Lf(s:ByteArray):∃t:ByteArray,t.data.toList=vP s.data.toList/\t.size<=s.size+1/\(Lib.hasPrefix s.data.toList [47]=true->t=s)/\(Lib.hasPrefix s.data.toList [47]=false->t=⟨#[47]⟩++s):=by
 have hp:Lib.hasPrefix s.data.toList [47]=true↔s.data.toList.head?=some 47:=by
  cases h:s.data.toList with
  |nil=>simp[Lib.hasPrefix]
  |cons a l=>simp[Lib.hasPrefix];exact eq_comm
 cases h:Lib.hasPrefix s.data.toList [47]
 ·have h1:(⟨#[47]⟩:ByteArray).size=1:=rfl;refine⟨⟨#[47]⟩++s,?_,by rw[ByteArray.size_append,h1];omega,(fun e=>by cases e),fun _=>rfl⟩;unfold vP;rw[if_neg (fun e=>by rw[hp.2 e]at h;cases h)];simp
 ·refine⟨s,?_,by omega,fun _=>rfl,(fun e=>by cases e)⟩;unfold vP;rw[if_pos (hp.1 h)]
theorem Lg(s:List UInt8):(vP s).length<=s.length+1:=by unfold vP;split<;>simp
theorem join_le(c:UInt8):∀ps:List (List UInt8),(pG c ps).length<=(ps.map fun p=>p.length+1).sum
 |[]=>by simp[pG]
 |[p]=>by simp[pG]
 |p :: q :: ps=>by
  have ih:=join_le c (q :: ps);rw[pG];simp at ih ⊢;omega
theorem D8(f:List UInt8->Nat):∀l:List (List UInt8),((l.dropLast).map f).sum<=(l.map f).sum
 |[]=>by simp
 |[p]=>by simp
 |p :: q :: ps=>by
  have ih:=D8 f (q :: ps);rw[List.dropLast_cons_of_ne_nil (by simp)];simp at ih ⊢;omega
theorem On:∀(ps l:List (List UInt8)),((kA l ps).map fun p=>p.length+1).sum<=(l.map fun p=>p.length+1).sum+(ps.map fun p=>p.length+1).sum
 |[],l=>by simp[kA]
 |p :: ps,l=>by
  have ih:=On ps (dE l p ps.isEmpty);have av8:((sX l).map fun p=>p.length+1).sum<=(l.map fun p=>p.length+1).sum:=by
   unfold sX;split
   ·exact D8 _ l
   ·exact Nat.le_refl _
  have fR:((dE l p ps.isEmpty).map fun p=>p.length+1).sum<=(l.map fun p=>p.length+1).sum+(p.length+1):=by
   unfold dE;split
   ·split
    ·simp only[List.map_append,List.sum_append,List.map_cons,List.map_nil,List.sum_cons,List.sum_nil,List.length_nil];omega
    ·omega
   ·split
    ·split
     ·simp only[List.map_append,List.sum_append,List.map_cons,List.map_nil,List.sum_cons,List.sum_nil,List.length_nil];omega
     ·omega
    ·simp only[List.map_append,List.sum_append,List.map_cons,List.map_nil,List.sum_cons,List.sum_nil];omega
  show((kA (dE l p ps.isEmpty) ps).map fun p=>p.length+1).sum<=_;simp at ih fR ⊢;omega
theorem uZ(c:UInt8):∀l:List UInt8,((bD c l).map fun p=>p.length+1).sum<=l.length+1
 |[]=>by simp[bD]
 |x :: l=>by
  have ih:=uZ c l;have hne:=qA c l;by_cases h:x=c
  ·subst h;rw[lO];simp at ih ⊢; omega
  ·cases e:bD c l with
   |nil=>exact absurd e hne
   |cons p ps=>rw[jm h e];rw[e]at ih;simp at ih ⊢; omega
theorem Lh(s:List UInt8):(jK s).length<=s.length+2:=by
 have h1:=join_le 47 (hD s);have h2:=On (bD 47 (vP s)) [];have h3:=uZ 47 (vP s);have h4:=Lg s;unfold jK;unfold hD at h1 ⊢;simp at h1 h2 h3 h4 ⊢;omega
theorem Li(s:ByteArray)(w:World)(hs:s.size<100000) :
  Calls Tryz.prog 214 #[.string s] w fun e w'=>e=.returned (.string ⟨(jK s.data.toList).toArray⟩)/\Fr ay w w':=by
 obtain⟨t,ht,SK,MY,IZ⟩:=Lf s;obtain⟨parts,ym⟩:∃parts,parts=bD 47 t.data.toList:=⟨_,rfl⟩;have zd:parts.length<=100001:=by rw[ym];have:=tR 47 t.data.toList;simp at this;omega
 have SX:dX 47 t=bw parts:=by rw[ym];rfl
 have HGO:=O (show kA [] parts=hD s.data.toList by rw[ym,ht];rfl);have JC:=O (show(jK s.data.toList).length<=140737488355328 by have:=Lh s.data.toList;simp at this;omega);obtain⟨W,hW⟩:∃W,W=w.alloc (.cells ((dX 47 t).map Value.string).toArray 9):=⟨_,rfl⟩;have hfW:Fr ay w W:=by rw[hW];exact(Fr.refl ay w).alloc _
 have hzW:W.heap.size=w.heap.size+1:=by rw[hW];simp
 have gG:W.heap[w.heap.size]?=some (.cells ((dX 47 t).map Value.string).toArray 9 (0,0)):=by rw[hW];exact af _ _
 have wX:=O ((sk t 47 w (by omega)).mono (fun e w' h=>by rw[<-hW,SX,cg]at h;exact⟨h.1,h.2.symm⟩):Calls Tryz.prog 67 #[.string t,.string ⟨#[47]⟩] w fun e w'=>e=.returned (.slice (some ⟨w.heap.size,0,none⟩) parts.length parts.length)/\W=w');rw[SX]at gG;clear hW SX
 have agp:=O (show∀U,Fr ay W U->∀(k:Nat) p,parts[k]?=some p->U.cell? ⟨w.heap.size,k,none⟩=some (.string ⟨p.toArray⟩)from fun U hU k p hp=>by
  have:=hU.keep gG (fun h=>h);simp[World.cell?,this,bw,hp])
 clear gG;have Oo:∀(v:Value) (wr:World) (l:List (List UInt8)),Strs (w.heap.size+1) wr v (bw l)->l.length<=100001->l=hD s.data.toList->Fr ay W wr ->
   Calls Tryz.prog 143 #[v,.string ⟨#[47]⟩] wr fun e w'=>e=.returned (.string ⟨(jK s.data.toList).toArray⟩)/\Fr ay w w':=fun v wr l hv hl e hf=>by
  have:=(Ld v l wr hv.at (by omega) (by rw[e];exact JC.out)).mono (R':=fun e w'=>e=.returned (.string ⟨(jK s.data.toList).toArray⟩)/\Fr ay w w') (fun e' w' ⟨h1,h2⟩=>⟨by rw[h1,e];rfl,(hfW.trans hf).trans h2⟩);exact this
 have Oo:=O Oo;have agq:=O (show Calls Tryz.prog 63 #[.string s,.string ⟨#[47]⟩] w fun e w'=>e=.returned (.bool (Lib.hasPrefix s.data.toList (⟨#[47]⟩:ByteArray).data.toList))/\w=w' from(Tryz.strings_HasPrefix s ⟨#[47]⟩ w).mono fun e w' h=>⟨h.1,h.2.symm⟩);cases pn:Lib.hasPrefix s.data.toList [47]
 case' false =>
  have e:=IZ pn;have Oq:=wX.out;rw[e]at Oq;clear MY IZ ht e ym;go_enter Tryz.func214,Tryz.ntmps214;go_wp2_with fail
  refine agq.out.mono ?_;rintro e u⟨rfl,rfl⟩;rw[show Lib.hasPrefix s.data.toList (⟨#[47]⟩:ByteArray).data.toList=false from pn];go_wp2_with fail
  refine Oq.mono ?_;rintro e u⟨rfl,rfl⟩
 case' true =>
  have e:=MY pn;have Oq:=wX.out;rw[e]at Oq;clear MY IZ ht e ym;go_enter Tryz.func214,Tryz.ntmps214;go_wp2_with fail
  refine agq.out.mono ?_;rintro e u⟨rfl,rfl⟩;rw[show Lib.hasPrefix s.data.toList (⟨#[47]⟩:ByteArray).data.toList=true from pn];go_wp2_with fail
  refine Oq.mono ?_;rintro e u⟨rfl,rfl⟩
 all_goals
  go_wp2;go_loopw[3,17] (ago s.data.toList (w.heap.size+1) W parts) (fun _ i _=>parts.length-(intOf i).toNat)
  case atStart=>exact⟨0,[],Nat.zero_le _,rfl,Strs.nil _ _,Nat.le_refl _,by rw[List.drop_zero];exact HGO.out,Fr.refl _ _⟩
  case round =>
   obtain⟨k,l,hk,rfl,hv,hlk,hgo,aW⟩:=hrel;have HG:=O hgo;clear hgo;obtain⟨av,cv,D9⟩:=hv.form;rw[cg]at D9;subst D9;have zo:w.heap.size+1<=wr.heap.size:=by have:=aW.size;omega
   by_cases cG:k<parts.length
   ·have lf:(k:Int)<(parts.length:Int):=by omega
    obtain⟨p,hp⟩:∃p,parts[k]?=some p:=⟨_,List.getElem?_eq_getElem cG⟩;have hcell:=agp.out wr aW k p hp;have MZ:=O (show kA l (parts.drop k)=kA (dE l p (parts.drop (k+1)).isEmpty) (parts.drop (k+1))by rw[Lc hp];rfl);clear hp;have Gy:(⟨p.toArray⟩:ByteArray).toList=p:=by rw[ByteArray.toList_eq]
    obtain⟨pb,SX⟩:∃pb:ByteArray,pb=⟨p.toArray⟩:=⟨_,rfl⟩;rw[<-SX]at hcell Gy;have HPB:=O SX;clear SX;have D_:=O (show∀(l':List (List UInt8)),l'=dE l p (parts.drop (k+1)).isEmpty->l'.length<=k+1/\kA l' (parts.drop (k+1))=hD s.data.toList from fun l' e=>by
     have:=Om l p (parts.drop (k+1)).isEmpty;rw[e];exact⟨by omega,by rw[<-MZ.out];exact HG.out⟩)
    by_cases hla:k+1=parts.length
    ·have HE:=O (show(parts.drop (k+1)).isEmpty=true by rw[hla];simp);have hl1:((k:Int)==(parts.length:Int)-1)=true:=beq_iff_eq.2 (by omega);clear hla;by_cases qE:p=Nz
     ·subst qE;have zd:pb.toList=[46,46]:=Gy;clear Gy;by_cases hlen:1<l.length
      ·have hli:(1:Int)<(l.length:Int):=by omega
       obtain⟨l0,x,D'⟩:∃l0 x,l=l0++[x]:=⟨l.dropLast,l.getLast (by intro e;rw[e]at hlen;simp at hlen),(List.dropLast_concat_getLast _).symm⟩;have hll:l.length=l0.length+1:=by rw[D'];simp
       obtain⟨ad,had⟩:∃ad,av=some ad:=by
        cases av with
        |none=>exact absurd (yl hv) (by omega)
        |some ad=>exact⟨ad,rfl⟩
       subst had;have Gz:=O (show sX l=l0 by unfold sX;rw[if_pos hlen,D'];simp);rw[D',jf]at hv;rw[hll];rw[show(l0++[x]).length=(bw l0).length+1 from by rw[cg];simp]at hv;replace hv:=Strs.pop hv;rw[cg]at hv;have q1:(0:Int)<=(l0.length:Int):=by omega
       have q4:(l0.length:Int)<=(cv:Int):=by have:=Strs.cap hv;rw[cg]at this;omega
       have q5:l0.length<=cv:=by omega
       have q2:(1:Int)<(l0.length:Int)+1:=by omega
       have q3:(l0.length:Int)+1-1=(l0.length:Int):=by omega
       clear hli D';have HX:=O (D_.out (l0++[[]]) (by unfold dE;rw[if_pos rfl,HE.out,Gz.out];rfl));go_wp2_with (at_builtin;refine jb rfl _ _ rfl (w.heap.size+1) (.slice (some ad) _ cv) (bw l0) rfl (by apply Strs.alloc;exact hv) ⟨wr.heap.size,0,none⟩ 1 ⟨#[]⟩ rfl (eo _ _ _ _) (by rw[cg];omega) (by simp;omega) ?_;intro v2 w3 xr wZ)
       have dV:=O ((aW.alloc (.cells #[.string ⟨#[]⟩] 9)).cK wZ (fun j hj=>by have:=hv.block j hj;omega));go_roundw
       case rel=>exact⟨k+1,l0++[[]],by omega,by go_num,by rw[jf];exact xr,(HX.out).1,(HX.out).2,dV.out⟩
       case measure=>simp[intOf];omega
      ·have hli:¬(1:Int)<(l.length:Int):=by omega
       have Gz:=O (show sX l=l by unfold sX;rw[if_neg hlen]);have HX:=O (D_.out (l++[[]]) (by unfold dE;rw[if_pos rfl,HE.out,Gz.out];rfl));go_wp2_with (at_builtin;refine jb rfl _ _ rfl (w.heap.size+1) (.slice av _ cv) (bw l) rfl (by apply Strs.alloc;exact hv) ⟨wr.heap.size,0,none⟩ 1 ⟨#[]⟩ rfl (eo _ _ _ _) (by rw[cg];omega) (by simp;omega) ?_;intro v2 w3 xr wZ)
       have dV:=O ((aW.alloc (.cells #[.string ⟨#[]⟩] 9)).cK wZ (fun j hj=>by have:=hv.block j hj;omega));go_roundw
       case rel=>exact⟨k+1,l++[[]],by omega,by go_num,by rw[jf];exact xr,(HX.out).1,(HX.out).2,dV.out⟩
       case measure=>simp[intOf];omega
     ·have Zz:¬pb.toList=[46,46]:=fun e=>qE (Gy.symm.trans e);have an0:(pb.toList== [46,46])=false:=beq_eq_false_iff_ne.2 Zz;by_cases zl:p=YX
      ·subst zl;have zd:pb.toList=[46]:=Gy;clear Gy;have HX:=O (D_.out (l++[[]]) (by unfold dE;rw[if_neg qE,if_pos rfl,HE.out];rfl));clear qE;go_wp2_with (at_builtin;refine jb rfl _ _ rfl (w.heap.size+1) (.slice av _ cv) (bw l) rfl (by apply Strs.alloc;exact hv) ⟨wr.heap.size,0,none⟩ 1 ⟨#[]⟩ rfl (eo _ _ _ _) (by rw[cg];omega) (by simp;omega) ?_;intro v2 w3 xr wZ)
       have dV:=O ((aW.alloc (.cells #[.string ⟨#[]⟩] 9)).cK wZ (fun j hj=>by have:=hv.block j hj;omega));go_roundw
       case rel=>exact⟨k+1,l++[[]],by omega,by go_num,by rw[jf];exact xr,(HX.out).1,(HX.out).2,dV.out⟩
       case measure=>simp[intOf];omega
      ·have ZA:¬pb.toList=[46]:=fun e=>zl (Gy.symm.trans e);have an1:(pb.toList== [46])=false:=beq_eq_false_iff_ne.2 ZA;have HX:=O (D_.out (l++[p]) (by unfold dE;rw[if_neg qE,if_neg zl]));clear qE zl Gy
       go_wp2_with (at_builtin;refine jb rfl _ _ rfl (w.heap.size+1) (.slice av _ cv) (bw l) rfl (by apply Strs.alloc;exact hv) ⟨wr.heap.size,0,none⟩ 1 pb rfl (eo _ _ _ _) (by rw[cg];omega) (by simp;omega) ?_;intro v2 w3 xr wZ)
       have dV:=O ((aW.alloc (.cells #[.string pb] 9)).cK wZ (fun j hj=>by have:=hv.block j hj;omega));go_roundw
       case rel=>exact⟨k+1,l++[p],by omega,by go_num,by rw[jf, <-HPB.out];exact xr,(HX.out).1,(HX.out).2,dV.out⟩
       case measure=>simp[intOf];omega
    ·have HE:=O (show(parts.drop (k+1)).isEmpty=false by
      cases e:parts.drop (k+1)with
      |nil=>have:=congrArg List.length e;simp at this;omega
      |cons a b=>rfl)
     have hl1:((k:Int)==(parts.length:Int)-1)=false:=beq_eq_false_iff_ne.2 (by omega);by_cases qE:p=Nz
     ·subst qE;have zd:pb.toList=[46,46]:=Gy;clear Gy;by_cases hlen:1<l.length
      ·have hli:(1:Int)<(l.length:Int):=by omega
       obtain⟨l0,x,D'⟩:∃l0 x,l=l0++[x]:=⟨l.dropLast,l.getLast (by intro e;rw[e]at hlen;simp at hlen),(List.dropLast_concat_getLast _).symm⟩;have hll:l.length=l0.length+1:=by rw[D'];simp
       obtain⟨ad,had⟩:∃ad,av=some ad:=by
        cases av with
        |none=>exact absurd (yl hv) (by omega)
        |some ad=>exact⟨ad,rfl⟩
       subst had;have Gz:=O (show sX l=l0 by unfold sX;rw[if_pos hlen,D'];simp);rw[D',jf]at hv;rw[hll];rw[show(l0++[x]).length=(bw l0).length+1 from by rw[cg];simp]at hv;replace hv:=Strs.pop hv;rw[cg]at hv;have q1:(0:Int)<=(l0.length:Int):=by omega
       have q4:(l0.length:Int)<=(cv:Int):=by have:=Strs.cap hv;rw[cg]at this;omega
       have q5:l0.length<=cv:=by omega
       have q2:(1:Int)<(l0.length:Int)+1:=by omega
       have q3:(l0.length:Int)+1-1=(l0.length:Int):=by omega
       clear hli D';have HX:=O (D_.out (l0) (by unfold dE;rw[if_pos rfl,HE.out,Gz.out];rfl));go_wp2;go_roundw
       case rel=>exact⟨k+1,l0,by omega,by go_num,hv,(HX.out).1,(HX.out).2,aW⟩
       case measure=>simp[intOf];omega
      ·have hli:¬(1:Int)<(l.length:Int):=by omega
       have Gz:=O (show sX l=l by unfold sX;rw[if_neg hlen]);have HX:=O (D_.out (l) (by unfold dE;rw[if_pos rfl,HE.out,Gz.out];rfl));go_wp2;go_roundw
       case rel=>exact⟨k+1,l,by omega,by go_num,hv,(HX.out).1,(HX.out).2,aW⟩
       case measure=>simp[intOf];omega
     ·have Zz:¬pb.toList=[46,46]:=fun e=>qE (Gy.symm.trans e);have an0:(pb.toList== [46,46])=false:=beq_eq_false_iff_ne.2 Zz;by_cases zl:p=YX
      ·subst zl;have zd:pb.toList=[46]:=Gy;clear Gy;have HX:=O (D_.out (l) (by unfold dE;rw[if_neg qE,if_pos rfl,HE.out];rfl));clear qE;go_wp2;go_roundw
       case rel=>exact⟨k+1,l,by omega,by go_num,hv,(HX.out).1,(HX.out).2,aW⟩
       case measure=>simp[intOf];omega
      ·have ZA:¬pb.toList=[46]:=fun e=>zl (Gy.symm.trans e);have an1:(pb.toList== [46])=false:=beq_eq_false_iff_ne.2 ZA;have HX:=O (D_.out (l++[p]) (by unfold dE;rw[if_neg qE,if_neg zl]));clear qE zl Gy
       go_wp2_with (at_builtin;refine jb rfl _ _ rfl (w.heap.size+1) (.slice av _ cv) (bw l) rfl (by apply Strs.alloc;exact hv) ⟨wr.heap.size,0,none⟩ 1 pb rfl (eo _ _ _ _) (by rw[cg];omega) (by simp;omega) ?_;intro v2 w3 xr wZ)
       have dV:=O ((aW.alloc (.cells #[.string pb] 9)).cK wZ (fun j hj=>by have:=hv.block j hj;omega));go_roundw
       case rel=>exact⟨k+1,l++[p],by omega,by go_num,by rw[jf, <-HPB.out];exact xr,(HX.out).1,(HX.out).2,dV.out⟩
       case measure=>simp[intOf];omega
   ·have lf:¬(k:Int)<(parts.length:Int):=by omega
    have he:l=hD s.data.toList:=by
     have:=HG.out;rw[List.drop_of_length_le (by omega)]at this;exact this
    have hj:=O (Oo.out _ wr l hv (by omega) he aW);clear he;go_wp2_with fail
    refine hj.out.mono ?_;rintro e w9⟨rfl,Up⟩;go_wp2;go_ret;exact⟨rfl,Up⟩
end Go.Proofs.YtjdmjbdkdmbaiaaGreatDoor
