/- Lemmas for the law's walk. -/
import Derived.Test.YtjndhcngnghpiaaGreatDoorPn4
set_option maxRecDepth 100000
set_option maxHeartbeats 16000000
set_option linter.unusedSimpArgs false
namespace Go.Proofs.YtjndhcngnghpiaaGreatDoor
open Go.Proofs.Tryz
open Go.RowKit
variable {base n c:Nat} {w w':World} {ss:List aj} {v:Value} {gs:List (aP bE)} {S:dB} {x:aX} {p:aX->Bool} {l:cY}
theorem Strs.pop{a:Addr}{x:aj}(h:Strs base w (.slice (some a) n c) (ss++[x])):Strs base w (.slice (some a) ss.length c) ss:=by
 obtain⟨h1,h2⟩:=h;rcases h2 with ⟨hv,_⟩|⟨g,cap,cur,hv,hg,hh,h3,h4,h5,h6⟩
 ·cases hv
 ·cases hv;refine⟨aR,Or.inr ⟨g,c,cur,rfl,hg,hh,?_,h4,h5,?_⟩⟩
  ·simp at h3;omega
  ·have e:(cur.toList.take (ss.length*1))=(cur.toList.take ((ss++[x]).length*1)).take ss.length:=by
    rw[km];congr 1;simp
   rw[e,h6];simp
theorem Strs.Uz(h:Strs base w (.slice none n c) ss):ss=[]:=by
 rcases h.2 with ⟨_,hn⟩|⟨g,cap,cur,hq,_⟩
 ·exact cg hn
 ·cases hq
theorem Strs.cap{base:Nat}{w:World}{a:eQ}{n c:Nat}{ss:List aj}(h:Strs base w (.slice a n c) ss):ss.length<=c:=by
 rcases h.2 with ⟨hq,hn⟩|⟨g,cap,cur,hq,_,_,h3,_⟩
 ·rw[hn];exact aQ _
 ·cases hq;exact h3
theorem QZ{α:Type}{l:List α}{k:Nat}{x:α}(h:l[k]?=some x):l.drop k=x :: l.drop (k+1):=by
 obtain⟨hk,e⟩:=List.getElem?_eq_some_iff.1 h;rw[cR hk,e]
theorem nM(l:List (aH))(p:aH):dQ (l++[p])=dQ l++[⟨p.toArray⟩]:=by unfold dQ;simp
theorem fu(l:List (aH)):(dQ l).length=l.length:=by unfold dQ;simp
theorem zm(c:UInt8):∀l:aH,(dY c l).length<=l.length+1
 |[]=>by simp[dY]
 |x :: l=>by
  have ih:=zm c l;have hne:=wD c l;by_cases h:x=c
  ·subst h;rw[rj];simp;omega
  ·cases e:dY c l with
   |nil=>exact absurd e hne
   |cons p ps=>rw[nW h e];rw[e]at ih;simp at ih ⊢; omega
theorem Dt{l:List (aH)}(h:Strs base w (.slice none n c) (dQ l)):l.length=0:=by
 rw[<-fu l,Strs.Uz h];rfl
theorem UA(l:List (aH))(p:aH)(last:Bool):(h_ l p last).length<=l.length+1:=by
 have hp:(yN l).length<=l.length:=by unfold yN;split<;>simp
 unfold h_;split
 ·split<;>simp<;>omega
 ·split
  ·split<;>simp
  ·simp
theorem join_eq(l:List (aH)):Lib.join ((dQ l).map (·.data.toList)) [47]=vr 47 l:=by
 have e:(dQ l).map (·.data.toList)=l:=by unfold dQ;rw[ic];simp[Function.comp_def]
 rw[e]
 induction l with
 |nil=>rfl
 |cons p ps ih =>
  cases ps with
  |nil=>simp[Lib.join,vr]
  |cons q qs =>
   have ih':=ih (by unfold dQ;rw[ic];simp[Function.comp_def]);rw[vr, <-ih'];simp[Lib.join]
theorem Q0(v:Value)(l:List (aH))(w:World)(hv:fM w v (dQ l))(hn:l.length<=140737488355328)(hlen:(vr 47 l).length<=140737488355328) :
  aB 206 #[v,.string ⟨#[47]⟩] w fun e w'=>e=.returned (.string ⟨(vr 47 l).toArray⟩)/\Fr aS w w':=by
 have ej:=join_eq l;rcases hv with ⟨a,c,rfl,hs,_⟩|⟨bk,o,c,rfl,h1,h2,h3,h4⟩
 ·have hl:l=[]:=by cases l with|nil=>rfl|cons p ps=>simp[dQ]at hs
  subst hl;exact(strings_Join_none _ _ _ _).mono (by rintro e w1 ⟨rfl,rfl⟩;exact⟨rfl,ae _ _⟩)
 ·refine(strings_Join bk o c (dQ l) ⟨#[47]⟩ w h4 h3 (by rw[fu];exact hn) h1 (by show(Lib.join _ [47]).length<=_;rw[ej];exact hlen)).mono ?_;rintro e w1⟨rfl,hb⟩;refine⟨?_,fj hb⟩;show Ending.returned (.string ⟨(Lib.join _ [47]).toArray⟩)=_;rw[ej]
def ahn(s:aH)(base:Nat)(w1:World)(parts:List (aH))(v i:Value)(wr:World):Prop :=
 ∃(k:Nat) (l:List (aH)),k<=parts.length/\i=.int .i64 k/\Strs base wr v (dQ l)/\l.length<=k/\pK l (parts.drop k)=mr s/\Fr aS w1 wr
theorem Q2(s:aj):∃t:aj,t.data.toList=Bo s.data.toList/\t.size<=s.size+1/\(Lib.hasPrefix s.data.toList [47]=true->t=s)/\(Lib.hasPrefix s.data.toList [47]=false->t=⟨#[47]⟩++s):=by
 have hp:Lib.hasPrefix s.data.toList [47]=true↔s.data.toList.head?=some 47:=by
  cases h:s.data.toList with
  |nil=>simp[Lib.hasPrefix]
  |cons a l=>simp[Lib.hasPrefix];exact eq_comm
 cases h:Lib.hasPrefix s.data.toList [47]
 ·have h1:(⟨#[47]⟩:aj).size=1:=rfl;refine⟨⟨#[47]⟩++s,?_,by rw[iW,h1];omega,(fun e=>by cases e),fun _=>rfl⟩;unfold Bo;rw[ar (fun e=>by rw[hp.2 e]at h;cases h)];simp
 ·refine⟨s,?_,ab,fun _=>rfl,(fun e=>by cases e)⟩;unfold Bo;rw[aA (hp.1 h)]
theorem Q3(s:aH):(Bo s).length<=s.length+1:=by unfold Bo;split<;>simp
theorem join_le(c:UInt8):∀ps:List (aH),(vr c ps).length<=(ps.map fun p=>p.length+1).sum
 |[]=>by simp[vr]
 |[p]=>by simp[vr]
 |p :: q :: ps=>by
  have ih:=join_le c (q :: ps);rw[vr];simp at ih ⊢;omega
theorem Ku(f:aH->Nat):∀l:List (aH),((l.dropLast).map f).sum<=(l.map f).sum
 |[]=>aR
 |[p]=>aR
 |p :: q :: ps=>by
  have ih:=Ku f (q :: ps);rw[List.dropLast_cons_of_ne_nil aR];simp at ih ⊢;omega
theorem UB:∀(ps l:List (aH)),((pK l ps).map fun p=>p.length+1).sum<=(l.map fun p=>p.length+1).sum+(ps.map fun p=>p.length+1).sum
 |[],l=>by simp[pK]
 |p :: ps,l=>by
  have ih:=UB ps (h_ l p ps.isEmpty);have aui:((yN l).map fun p=>p.length+1).sum<=(l.map fun p=>p.length+1).sum:=by
   unfold yN;split
   ·exact Ku _ l
   ·exact ay _
  have jq:((h_ l p ps.isEmpty).map fun p=>p.length+1).sum<=(l.map fun p=>p.length+1).sum+(p.length+1):=by
   unfold h_;split
   ·split
    ·simp only[bG,List.sum_append,cD,dp,List.sum_cons,List.sum_nil,List.length_nil];omega
    ·omega
   ·split
    ·split
     ·simp only[bG,List.sum_append,cD,dp,List.sum_cons,List.sum_nil,List.length_nil];omega
     ·omega
    ·simp only[bG,List.sum_append,cD,dp,List.sum_cons,List.sum_nil];omega
  show((pK (h_ l p ps.isEmpty) ps).map fun p=>p.length+1).sum<=_;simp at ih jq ⊢;omega
theorem AH(c:UInt8):∀l:aH,((dY c l).map fun p=>p.length+1).sum<=l.length+1
 |[]=>by simp[dY]
 |x :: l=>by
  have ih:=AH c l;have hne:=wD c l;by_cases h:x=c
  ·subst h;rw[rj];simp at ih ⊢; omega
  ·cases e:dY c l with
   |nil=>exact absurd e hne
   |cons p ps=>rw[nW h e];rw[e]at ih;simp at ih ⊢; omega
theorem Q4(s:aH):(oB s).length<=s.length+2:=by
 have h1:=join_le 47 (mr s);have h2:=UB (dY 47 (Bo s)) [];have h3:=AH 47 (Bo s);have h4:=Q3 s;unfold oB;unfold mr at h1 ⊢;simp at h1 h2 h3 h4 ⊢;omega
theorem Q5(s:aj)(w:World)(hs:s.size<100000) :
  aB 179 #[.string s] w fun e w'=>e=.returned (.string ⟨(oB s.data.toList).toArray⟩)/\Fr aS w w':=by
 obtain⟨t,ht,Xn,SX,O'⟩:=Q2 s;obtain⟨parts,Du⟩:∃parts,parts=dY 47 t.data.toList:=⟨_,rfl⟩;have Ev:parts.length<=100001:=by rw[Du];have:=zm 47 t.data.toList;simp at this;omega
 have Xx:iQ 47 t=dQ parts:=by rw[Du];rfl
 have HGO:=O (show pK [] parts=mr s.data.toList by rw[Du,ht];rfl);have EO:=O (show(oB s.data.toList).length<=140737488355328 by have:=Q4 s.data.toList;simp at this;omega);obtain⟨W,hW⟩:∃W,W=w.alloc (.cells ((iQ 47 t).map Value.string).toArray 9):=⟨_,rfl⟩;have hfW:Fr aS w W:=by rw[hW];exact(ae aS w).alloc _
 have hzW:W.heap.size=w.heap.size+1:=by rw[hW];simp
 have lT:W.heap[w.heap.size]?=some (.cells ((iQ 47 t).map Value.string).toArray 9 (0,0)):=by rw[hW];exact aC _ _
 have xF:=O ((xY t 47 w ab).mono (fun e w' h=>by rw[<-hW,Xx,fu]at h;exact⟨h.1,h.2.symm⟩):aB 131 #[.string t,.string ⟨#[47]⟩] w fun e w'=>e=.returned (.slice (some ⟨w.heap.size,0,none⟩) parts.length parts.length)/\W=w');rw[Xx]at lT;clear hW Xx;have aho:=O (show∀U,Fr aS W U->∀(k:Nat) p,parts[k]?=some p->U.cell? ⟨w.heap.size,k,none⟩=some (.string ⟨p.toArray⟩)from fun U hU k p hp=>by
  have:=hU.keep lT id;simp[World.cell?,this,dQ,hp])
 clear lT;have UC:∀(v:Value) (wr:World) (l:List (aH)),Strs (w.heap.size+1) wr v (dQ l)->l.length<=100001->l=mr s.data.toList->Fr aS W wr ->
   aB 206 #[v,.string ⟨#[47]⟩] wr fun e w'=>e=.returned (.string ⟨(oB s.data.toList).toArray⟩)/\Fr aS w w':=fun v wr l hv hl e hf=>by
  have:=(Q0 v l wr hv.at ab (by rw[e];exact EO.o)).mono (R':=fun e w'=>e=.returned (.string ⟨(oB s.data.toList).toArray⟩)/\Fr aS w w') (fun e' w' ⟨h1,h2⟩=>⟨by rw[h1,e];rfl,(hfW.trans hf).trans h2⟩);exact this
 have UC:=O UC;have ahp:=O (show aB 178 #[.string s,.string ⟨#[47]⟩] w fun e w'=>e=.returned (.bool (Lib.hasPrefix s.data.toList (⟨#[47]⟩:aj).data.toList))/\w=w' from(strings_HasPrefix s ⟨#[47]⟩ w).mono fun e w' h=>⟨h.1,h.2.symm⟩);cases uY:Lib.hasPrefix s.data.toList [47]
 case' false =>
  have e:=O' uY;have UD:=xF.o;rw[e]at UD;clear SX O' ht e Du;go_enter func179,ntmps179;go_wp2_with fail
  refine ahp.o.mono ?_;rintro e u⟨rfl,rfl⟩;rw[show Lib.hasPrefix s.data.toList (⟨#[47]⟩:aj).data.toList=false from uY];go_wp2_with fail
  refine UD.mono ?_;rintro e u⟨rfl,rfl⟩
 case' true =>
  have e:=SX uY;have UD:=xF.o;rw[e]at UD;clear SX O' ht e Du;go_enter func179,ntmps179;go_wp2_with fail
  refine ahp.o.mono ?_;rintro e u⟨rfl,rfl⟩;rw[show Lib.hasPrefix s.data.toList (⟨#[47]⟩:aj).data.toList=true from uY];go_wp2_with fail
  refine UD.mono ?_;rintro e u⟨rfl,rfl⟩
 all_goals
  go_wp2;go_loopw[3,17] (ahn s.data.toList (w.heap.size+1) W parts) (fun _ i _=>parts.length-(intOf i).toNat)
  case atStart=>exact⟨0,[],aQ _,rfl,kI _ _,ay _,by rw[eE];exact HGO.o,ae _ _⟩
  case round =>
   obtain⟨k,l,hk,rfl,hv,hlk,hgo,cL⟩:=hrel;have HG:=O hgo;clear hgo;obtain⟨av,cv,Kv⟩:=hv.form;rw[fu]at Kv;subst Kv;have BQ:w.heap.size+1<=wr.heap.size:=by have:=cL.size;omega
   by_cases fk:k<parts.length
   ·have o_:(k:Int)<(parts.length:Int):=ab;obtain⟨p,hp⟩:∃p,parts[k]?=some p:=⟨_,List.getElem?_eq_getElem fk⟩;have hcell:=aho.o wr cL k p hp;have S_:=O (show pK l (parts.drop k)=pK (h_ l p (parts.drop (k+1)).isEmpty) (parts.drop (k+1))by rw[QZ hp];rfl);clear hp;have Co:(⟨p.toArray⟩:aj).toList=p:=by rw[aO]
    obtain⟨pb,Xx⟩:∃pb:aj,pb=⟨p.toArray⟩:=⟨_,rfl⟩;rw[<-Xx]at hcell Co;have HPB:=O Xx;clear Xx;have EP:=O (show∀(l':List (aH)),l'=h_ l p (parts.drop (k+1)).isEmpty->l'.length<=k+1/\pK l' (parts.drop (k+1))=mr s.data.toList from fun l' e=>by
     have:=UA l p (parts.drop (k+1)).isEmpty;rw[e];exact⟨ab,by rw[<-S_.o];exact HG.o⟩)
    by_cases hla:k+1=parts.length
    ·have HE:=O (show(parts.drop (k+1)).isEmpty=true by rw[hla];simp);have hl1:((k:Int)==(parts.length:Int)-1)=true:=dT.2 ab;clear hla;by_cases su:p=TJ
     ·subst su;have Ev:pb.toList=[46,46]:=Co;clear Co;by_cases hlen:1<l.length
      ·have hli:(1:Int)<(l.length:Int):=ab;obtain⟨l0,x,S'⟩:∃l0 x,l=l0++[x]:=⟨l.dropLast,l.getLast (by intro e;rw[e]at hlen;simp at hlen),(List.dropLast_concat_getLast _).symm⟩;have hll:l.length=l0.length+1:=by rw[S'];simp
       obtain⟨ad,had⟩:∃ad,av=some ad:=by
        cases av with
        |none=>exact absurd (Dt hv) ab
        |some ad=>exact⟨ad,rfl⟩
       subst had;have Nf:=O (show yN l=l0 by unfold yN;rw[aA hlen,S'];simp);rw[S',nM]at hv;rw[hll];rw[show(l0++[x]).length=(dQ l0).length+1 from by rw[fu];simp]at hv;replace hv:=Strs.pop hv;rw[fu]at hv;have q1:(0:Int)<=(l0.length:Int):=ab;have q4:(l0.length:Int)<=(cv:Int):=by have:=Strs.cap hv;rw[fu]at this;omega
       have q5:l0.length<=cv:=ab;have q2:(1:Int)<(l0.length:Int)+1:=ab;have q3:(l0.length:Int)+1-1=(l0.length:Int):=ab;clear hli S';have HX:=O (EP.o (l0++[[]]) (by unfold h_;rw[aA rfl,HE.o,Nf.o];rfl))
       go_wp2_with (at_builtin;refine nH rfl _ _ rfl (w.heap.size+1) (.slice (some ad) _ cv) (dQ l0) rfl (by apply iy;exact hv) ⟨wr.heap.size,0,none⟩ 1 ⟨#[]⟩ rfl (jk _ _ _ _) (by rw[fu];omega) bH ?_;intro v2 w3 Bk Cf)
       have iq:=O ((cL.alloc (.cells #[.string ⟨#[]⟩] 9)).fP Cf (fun j hj=>by have:=hv.block j hj;omega));go_roundw
       case rel=>exact⟨k+1,l0++[[]],ab,bg,by rw[nM];exact Bk,(HX.o).1,(HX.o).2,iq.o⟩
       case measure=>simp[intOf];omega
      ·have hli:¬(1:Int)<(l.length:Int):=ab;have Nf:=O (show yN l=l by unfold yN;rw[ar hlen]);have HX:=O (EP.o (l++[[]]) (by unfold h_;rw[aA rfl,HE.o,Nf.o];rfl));go_wp2_with (at_builtin;refine nH rfl _ _ rfl (w.heap.size+1) (.slice av _ cv) (dQ l) rfl (by apply iy;exact hv) ⟨wr.heap.size,0,none⟩ 1 ⟨#[]⟩ rfl (jk _ _ _ _) (by rw[fu];omega) bH ?_;intro v2 w3 Bk Cf)
       have iq:=O ((cL.alloc (.cells #[.string ⟨#[]⟩] 9)).fP Cf (fun j hj=>by have:=hv.block j hj;omega));go_roundw
       case rel=>exact⟨k+1,l++[[]],ab,bg,by rw[nM];exact Bk,(HX.o).1,(HX.o).2,iq.o⟩
       case measure=>simp[intOf];omega
     ·have ada:¬pb.toList=[46,46]:=fun e=>su (Co.symm.trans e);have anl:(pb.toList== [46,46])=false:=aL.2 ada;by_cases yJ:p=acz
      ·subst yJ;have Ev:pb.toList=[46]:=Co;clear Co;have HX:=O (EP.o (l++[[]]) (by unfold h_;rw[ar su,aA rfl,HE.o];rfl));clear su;go_wp2_with (at_builtin;refine nH rfl _ _ rfl (w.heap.size+1) (.slice av _ cv) (dQ l) rfl (by apply iy;exact hv) ⟨wr.heap.size,0,none⟩ 1 ⟨#[]⟩ rfl (jk _ _ _ _) (by rw[fu];omega) bH ?_;intro v2 w3 Bk Cf)
       have iq:=O ((cL.alloc (.cells #[.string ⟨#[]⟩] 9)).fP Cf (fun j hj=>by have:=hv.block j hj;omega));go_roundw
       case rel=>exact⟨k+1,l++[[]],ab,bg,by rw[nM];exact Bk,(HX.o).1,(HX.o).2,iq.o⟩
       case measure=>simp[intOf];omega
      ·have adb:¬pb.toList=[46]:=fun e=>yJ (Co.symm.trans e);have anm:(pb.toList== [46])=false:=aL.2 adb;have HX:=O (EP.o (l++[p]) (by unfold h_;rw[ar su,ar yJ]));clear su yJ Co;go_wp2_with (at_builtin;refine nH rfl _ _ rfl (w.heap.size+1) (.slice av _ cv) (dQ l) rfl (by apply iy;exact hv) ⟨wr.heap.size,0,none⟩ 1 pb rfl (jk _ _ _ _) (by rw[fu];omega) bH ?_;intro v2 w3 Bk Cf)
       have iq:=O ((cL.alloc (.cells #[.string pb] 9)).fP Cf (fun j hj=>by have:=hv.block j hj;omega));go_roundw
       case rel=>exact⟨k+1,l++[p],ab,bg,by rw[nM, <-HPB.o];exact Bk,(HX.o).1,(HX.o).2,iq.o⟩
       case measure=>simp[intOf];omega
    ·have HE:=O (show(parts.drop (k+1)).isEmpty=false by
      cases e:parts.drop (k+1)with
      |nil=>have:=aq List.length e;simp at this;omega
      |cons a b=>rfl)
     have hl1:((k:Int)==(parts.length:Int)-1)=false:=aL.2 ab;by_cases su:p=TJ
     ·subst su;have Ev:pb.toList=[46,46]:=Co;clear Co;by_cases hlen:1<l.length
      ·have hli:(1:Int)<(l.length:Int):=ab;obtain⟨l0,x,S'⟩:∃l0 x,l=l0++[x]:=⟨l.dropLast,l.getLast (by intro e;rw[e]at hlen;simp at hlen),(List.dropLast_concat_getLast _).symm⟩;have hll:l.length=l0.length+1:=by rw[S'];simp
       obtain⟨ad,had⟩:∃ad,av=some ad:=by
        cases av with
        |none=>exact absurd (Dt hv) ab
        |some ad=>exact⟨ad,rfl⟩
       subst had;have Nf:=O (show yN l=l0 by unfold yN;rw[aA hlen,S'];simp);rw[S',nM]at hv;rw[hll];rw[show(l0++[x]).length=(dQ l0).length+1 from by rw[fu];simp]at hv;replace hv:=Strs.pop hv;rw[fu]at hv;have q1:(0:Int)<=(l0.length:Int):=ab;have q4:(l0.length:Int)<=(cv:Int):=by have:=Strs.cap hv;rw[fu]at this;omega
       have q5:l0.length<=cv:=ab;have q2:(1:Int)<(l0.length:Int)+1:=ab;have q3:(l0.length:Int)+1-1=(l0.length:Int):=ab;clear hli S';have HX:=O (EP.o (l0) (by unfold h_;rw[aA rfl,HE.o,Nf.o];rfl));go_wp2;go_roundw
       case rel=>exact⟨k+1,l0,ab,bg,hv,(HX.o).1,(HX.o).2,cL⟩
       case measure=>simp[intOf];omega
      ·have hli:¬(1:Int)<(l.length:Int):=ab;have Nf:=O (show yN l=l by unfold yN;rw[ar hlen]);have HX:=O (EP.o (l) (by unfold h_;rw[aA rfl,HE.o,Nf.o];rfl));go_wp2;go_roundw
       case rel=>exact⟨k+1,l,ab,bg,hv,(HX.o).1,(HX.o).2,cL⟩
       case measure=>simp[intOf];omega
     ·have ada:¬pb.toList=[46,46]:=fun e=>su (Co.symm.trans e);have anl:(pb.toList== [46,46])=false:=aL.2 ada;by_cases yJ:p=acz
      ·subst yJ;have Ev:pb.toList=[46]:=Co;clear Co;have HX:=O (EP.o (l) (by unfold h_;rw[ar su,aA rfl,HE.o];rfl));clear su;go_wp2;go_roundw
       case rel=>exact⟨k+1,l,ab,bg,hv,(HX.o).1,(HX.o).2,cL⟩
       case measure=>simp[intOf];omega
      ·have adb:¬pb.toList=[46]:=fun e=>yJ (Co.symm.trans e);have anm:(pb.toList== [46])=false:=aL.2 adb;have HX:=O (EP.o (l++[p]) (by unfold h_;rw[ar su,ar yJ]));clear su yJ Co;go_wp2_with (at_builtin;refine nH rfl _ _ rfl (w.heap.size+1) (.slice av _ cv) (dQ l) rfl (by apply iy;exact hv) ⟨wr.heap.size,0,none⟩ 1 pb rfl (jk _ _ _ _) (by rw[fu];omega) bH ?_;intro v2 w3 Bk Cf)
       have iq:=O ((cL.alloc (.cells #[.string pb] 9)).fP Cf (fun j hj=>by have:=hv.block j hj;omega));go_roundw
       case rel=>exact⟨k+1,l++[p],ab,bg,by rw[nM, <-HPB.o];exact Bk,(HX.o).1,(HX.o).2,iq.o⟩
       case measure=>simp[intOf];omega
   ·have o_:¬(k:Int)<(parts.length:Int):=ab;have he:l=mr s.data.toList:=by
     have:=HG.o;rw[List.drop_of_length_le ab]at this;exact this
    have hj:=O (UC.o _ wr l hv ab he cL);clear he;go_wp2_with fail
    refine hj.o.mono ?_;rintro e w9⟨rfl,SZ⟩;go_wp2;go_ret;exact⟨rfl,SZ⟩
def fZ(base:Nat)(w:World)(v:Value)(gs:List (aP bE)):Prop :=
 ∃rs:List (aP Value),OwnRows base 133 16 w v (rs.map aP.cells)/\kT (aP.Reads (du base w)) rs gs
theorem fZ.fr(h:fZ base w v gs)(hf:Fr S w w')(ho:rR base w S)(hn:∀k,v.ownBlock=some k->¬S k):fZ base w' v gs:=by
 obtain⟨rs,h1,h2⟩:=h;exact⟨rs,h1.fr hf hn,h2.mono (fun _ _ h=>h.mono (fun _ _ h=>h.fr hf ho))⟩
theorem fZ.form(h:fZ base w v gs):∃a c,v=.slice a gs.length c:=by
 obtain⟨rs,h1,h2⟩:=h;obtain⟨a,c,hv⟩:=h1.form;exact⟨a,c,by rw[hv,ai,h2.len]⟩
def Y2(base:Nat)(w:World)(b:Nat)(o:Nat)(g:aP bE):Prop :=
 ∃r:aP Value,(∀u∈r.cells,u.oneCell'=true)/\r.Reads (du base w) g/\∀(i:Nat) u,r.cells[i]?=some u->w.cell? ⟨b,o+i,none⟩=some u
theorem fZ.at{base:Nat}{w:World}{v:Value}{gs:List (aP bE)}(h:fZ base w v gs){k:Nat}(hk:k<gs.length) :
  ∃b c,v=.slice (some ⟨b,0,none⟩) gs.length c/\gs.length<=maxLen/\Y2 base w b (k*16) gs[k]:=by
 obtain⟨rs,h1,h2⟩:=h;have hl:=h2.len;obtain⟨x,hx⟩:∃x,rs[k]?=some x:=⟨_,List.getElem?_eq_getElem ab⟩;obtain⟨g,hg,hr⟩:=h2.get hx;rw[List.getElem?_eq_getElem hk]at hg;obtain rfl:=jR hg;have dP:=h1.at;rcases h1.2.2 with ⟨_,hn⟩|⟨bk,cap,cur,hv,_⟩
 ·rw[ai]at hn;omega
 rcases dP.2 with ⟨_,_,e1,e,_⟩|⟨Jf,o,c,rW,q1,q2,q3,q4⟩
 ·simp at e;rw[e]at hl;simp at hl;omega
 ·rw[hv]at rW;cases rW;rw[ai]at q1;refine⟨bk,cap,by rw[hv,ai,hl],ab,x,(h1.1 x.cells (bZ.2 ⟨x,cj hx,rfl⟩)).2,hr,?_⟩;intro i u hu;have:=q4 k x.cells (by rw[List.getElem?_map,hx];rfl) i u hu;rw[bw]at this;exact this
structure bI (D:Type) where
 o:gq
 proxy:Bool
 path:aj
 a:fI D
def bI.cells(g:bI Value):aX :=
 [.bool g.o.aE,.string g.o.host,.int .i64 g.o.port,.bool g.proxy,.string g.path,
  .int .i64 g.a.scheme,.string g.a.aK,.string g.a.bq,.string g.a.cy,.bool g.a.cA,.string g.a.eF,.bool g.a.cN,g.a.dom]
def bI.Reads(R:Value->List aj->Prop)(r:bI Value)(g:bI (List aj)):Prop :=
 r.o=g.o/\r.proxy=g.proxy/\r.path=g.path/\r.a.Reads R g.a
theorem bI.Reads.mono{R S:Value->List aj->Prop}{r:bI Value}{g:bI (List aj)}(h:r.Reads R g)(hs:∀v l,R v l->S v l):r.Reads S g :=
 ⟨h.1,h.2.1,h.2.2.1,h.2.2.2.mono hs⟩
def jY(base:Nat)(w:World)(v:Value)(gs:List (bI bE)):Prop :=
 ∃rs:List (bI Value),OwnRows base 129 13 w v (rs.map bI.cells)/\kT (bI.Reads (du base w)) rs gs
theorem jY.fr{gs:List (bI bE)}(h:jY base w v gs)(hf:Fr S w w')(ho:rR base w S)(hn:∀k,v.ownBlock=some k->¬S k):jY base w' v gs:=by
 obtain⟨rs,h1,h2⟩:=h;exact⟨rs,h1.fr hf hn,h2.mono (fun _ _ h=>h.mono (fun _ _ h=>h.fr hf ho))⟩
theorem jY.form{gs:List (bI bE)}(h:jY base w v gs):∃a c,v=.slice a gs.length c:=by
 obtain⟨rs,h1,h2⟩:=h;obtain⟨a,c,hv⟩:=h1.form;exact⟨a,c,by rw[hv,ai,h2.len]⟩
structure dD (base:Nat) (w:World) (b:Nat) (gv wv:Value) (gs:List (aP bE)) (ws:List (bI bE)):Prop where
 low:base<=b
 eJ:w.heap[b]?=some (.cells #[gv,wv] 118 (0,0))
 bU:fZ base w gv gs
 waits:jY base w wv ws
section
variable {base : Nat} {w w' : World} {b : Nat} {gv wv : Value} {gs : List (aP bE)} {ws : List (bI bE)}
theorem dD.lt(h:dD base w b gv wv gs ws):b<w.heap.size:=bj h.eJ
theorem dD.c0(h:dD base w b gv wv gs ws):w.cell? ⟨b,0,none⟩=some gv:=by simp[World.cell?,h.eJ]
theorem dD.c1(h:dD base w b gv wv gs ws):w.cell? ⟨b,1,none⟩=some wv:=by simp[World.cell?,h.eJ]
theorem dD.free(h:dD base w b gv wv gs ws)(k:Nat):w.frozen? ⟨b,k,none⟩=false:=by simp[World.frozen?,h.eJ]
theorem dD.fr(h:dD base w b gv wv gs ws)(hf:Fr S w w')(ho:rR base w S)(hb:¬S b)(h1:∀k,gv.ownBlock=some k->¬S k)(h2:∀k,wv.ownBlock=some k->¬S k):dD base w' b gv wv gs ws :=
 ⟨h.low,hf.keep h.eJ hb,h.bU.fr hf ho h1,h.waits.fr hf ho h2⟩
theorem dD.di(h:dD base w b gv wv gs ws)(hf:Fr aS w w'):dD base w' b gv wv gs ws:=h.fr hf (fC _ _) id (fun _ _ h=>h) (fun _ _ h=>h)
end
abbrev eS:bS:= #[.bool false,.string ⟨#[]⟩,.int .i64 0,.bool false,.string ⟨#[]⟩,.string ⟨#[]⟩,.int .i64 0,.string ⟨#[]⟩,.string ⟨#[]⟩,.string ⟨#[]⟩,.bool false,.string ⟨#[]⟩,.bool false,.slice none 0 0,.int .i64 0,.slice none 0 0]
def oL{α:Type}(f:α->Int):List α->Nat->Int×Int->Int×Int
 |[],_,acc=>acc
 |g :: l,i,acc=>oL f l (i+1) (if 0<=f g/\acc.1<=f g then(f g,(i:Int))else acc)
theorem Dw{α:Type}(f:α->Int):∀(l:List α) (i:Nat) (acc:Int×Int) (x:α),
  oL f (l++[x]) i acc=(if 0<=f x/\(oL f l i acc).1<=f x then(f x,((i+l.length:Nat):Int))else oL f l i acc)
 |[],i,acc,x=>by simp only[List.nil_append,oL,List.length_nil,Nat.add_zero];rfl
 |g :: l,i,acc,x=>by
  rw[List.cons_append,oL,Dw f l (i+1) _ x,oL];simp only[List.length_cons,show i+1+l.length=i+(l.length+1)from ab]
def pH(o:gq)(proxy:Bool)(path:aj)(g:aP bE):Int:=uq g.o g.proxy g.paths o proxy path
def tL(gs:List (aP bE))(o:gq)(proxy:Bool)(path:aj):Int:=(oL (pH o proxy path) gs 0 (-1, -1)).2
def Y3(w:World)(gs:List (aP bE))(o:gq)(proxy:Bool)(path:aj)(anq at_ i:Value)(wr:World):Prop :=
 ∃k:Nat,k<=gs.length/\i=.int .i64 k/\anq=.int .i64 (oL (pH o proxy path) (gs.take k) 0 (-1, -1)).1/\at_=.int .i64 (oL (pH o proxy path) (gs.take k) 0 (-1, -1)).2/\Fr aS w wr
theorem UM(base:Nat)(w:World)(b:Nat)(gv wv:Value)(gs:List (aP bE))(ws:List (bI bE))(o:gq)(proxy:Bool)(path:aj)(h:dD base w b gv wv gs ws) :
  aB 101 #[.pointer (some ⟨b,0,none⟩),.agg o.cells.toArray,.bool proxy,.string path] w fun e w'=>e=.returned (.int .i64 (tL gs o proxy path))/\Fr aS w w':=by
 unfold gq.cells;have h0:=h.c0;obtain⟨av,cv,hv⟩:=h.bU.form;subst hv;have tV:=h.lt;go_enter func101,ntmps101;go_wp2;clear h0;have oW:Fr aS w (w.alloc (.cells #[.bool o.aE,.string o.host,.int .i64 o.port] 24)):=(ae aS w).alloc _;have hO:(w.alloc (.cells #[.bool o.aE,.string o.host,.int .i64 o.port] 24)).heap[w.heap.size]?=some (.cells #[.bool o.aE,.string o.host,.int .i64 o.port] 24 (0,0)):=aC w _
 have h1:=h.di oW;generalize w.alloc (.cells #[.bool o.aE,.string o.host,.int .i64 o.port] 24)=W at oW hO h1;go_loopw[9,10,19] (Y3 W gs o proxy path) (fun _ _ i _=>gs.length-(intOf i).toNat)
 case atStart=>exact⟨0,aQ _,rfl,rfl,rfl,ae _ _⟩
 case round =>
  obtain⟨k,hk,rfl,rfl,rfl,cL⟩:=hrel;by_cases fk:k<gs.length
  ·obtain⟨bk,c,dn,sG,r,dX,hr,hcell⟩:=(h1.di cL).bU.at fk;cases dn;unfold maxLen at sG;have hO2:=cL.keep hO id;obtain⟨x,hx⟩:∃x,x=r.cells:=⟨_,rfl⟩;have lp:x.length=16:=by rw[hx];rfl
   have jq:=fun W=>run_storeCells_new (P:=prog) W 133 #[.bool false,.string ⟨#[]⟩,.int .i64 0,.bool false,.string ⟨#[]⟩,.string ⟨#[]⟩,.int .i64 0,.string ⟨#[]⟩,.string ⟨#[]⟩,.string ⟨#[]⟩,.bool false,.string ⟨#[]⟩,.bool false,.slice none 0 0,.int .i64 0,.slice none 0 0] x (by rw[lp];rfl) (by rw[hx];exact dX);rw[<-hx]at hcell;have HX:=O hx
   have Dx:(prog.info? 133).map (·.size)=some x.toArray.size:=by rw[aZ,lp];kernel_rfl
   have Hu:=O Dx;clear hx Dx;have hO3:(wr.alloc (.cells x.toArray 133)).heap[w.heap.size]?=some (.cells #[.bool o.aE,.string o.host,.int .i64 o.port] 24 (0,0)):=by rw[Below.heap_alloc _ _ _ (bj hO2)];exact hO2
   have HO3:=O hO3;clear hO3 hO2
   go_wp2_with (first|((with_reducible refine dk 23 ?_);refine a_ rfl 133 (.tmp 22) rfl bk (k*16) rfl x _ hcell underlying133 rfl (by have h:=Hu.o;rw[aZ]at h;exact h) ?_)|((with_reducible refine dk 24 ?_);refine aI rfl 133 (.tmp 12) rfl wr.heap.size rfl _ x.toArray (0,0) _ (aC wr _) underlying133 rfl Hu.o ?_)|((with_reducible refine dk 25 ?_);refine aI rfl 24 (.tmp 5) rfl w.heap.size rfl _ _ (0,0) _ HO3.o underlying24 rfl af ?_)|fail)
   have gO:Fr aS wr (wr.alloc (.cells x.toArray 133)):=(ae aS wr).alloc _;have hps:=(hr.2.2.2.2.2.2.di gO).rd;have hre:=O (show uq r.o r.proxy gs[k].paths o proxy path=pH o proxy path gs[k]by unfold pH;rw[hr.1,hr.2.1]);have dP:=List.getElem?_eq_getElem fk;have I9:=O (show oL (pH o proxy path) (gs.take (k+1)) 0 (-1, -1)=_ by rw[dW dP,Dw,aM,dL hk,bw]);have sX:=(cL.trans gO)
   have fB:=O (Q9 r o proxy path gs[k].paths _ hps);rw[<-HX.o]at fB;clear hr gO dP dX jq;generalize wr.alloc (.cells x.toArray 133)=W2 at *
   refine fB.o.mono ?_;rintro e w3⟨rfl,il⟩;have iq:=sX.trans il;rw[hre.o];clear hre fB hps hcell;generalize oL (pH o proxy path) (gs.take k) 0 (-1, -1)=acc at *
   generalize pH o proxy path gs[k]=n at *
   by_cases h0:0<=n
   ·by_cases Hv:acc.1<=n
    ·have hs:=O (show oL (pH o proxy path) (gs.take (k+1)) 0 (-1, -1)=(n,(k:Int))by rw[I9.o,aA ⟨h0,Hv⟩]);go_wp2;go_roundw
     case rel=>exact⟨k+1,ab,bg,by rw[hs.o],by rw[hs.o],iq⟩
     case measure=>simp[intOf];omega
    ·have hs:=O (show oL (pH o proxy path) (gs.take (k+1)) 0 (-1, -1)=acc by rw[I9.o,ar (fun h=>Hv h.2)]);go_wp2;go_roundw
     case rel=>exact⟨k+1,ab,bg,by rw[hs.o],by rw[hs.o],iq⟩
     case measure=>simp[intOf];omega
   ·have hs:=O (show oL (pH o proxy path) (gs.take (k+1)) 0 (-1, -1)=acc by rw[I9.o,ar (fun h=>h0 h.1)]);go_wp2;go_roundw
    case rel=>exact⟨k+1,ab,bg,by rw[hs.o],by rw[hs.o],iq⟩
    case measure=>simp[intOf];omega
  ·have hs:=O (show(oL (pH o proxy path) (gs.take k) 0 (-1, -1)).2=tL gs o proxy path by rw[aD ab];rfl);go_wp2;go_ret;exact⟨by rw[<-hs.o];rfl,oW.trans cL⟩
abbrev Y4:bS:= #[.bool false,.string ⟨#[]⟩,.int .i64 0,.bool false,.string ⟨#[]⟩,.string ⟨#[]⟩,.int .i64 0,.string ⟨#[]⟩,.string ⟨#[]⟩,.string ⟨#[]⟩,.bool false,.string ⟨#[]⟩,.bool false,.slice none 0 0,.int .i64 0,.slice none 0 0]
theorem PL:∀v∈Y4.toList,v.oneCell'=true:=dt
theorem Hx(h:x.length=16):(prog.info? 133).map (·.size)=some x.length:=by rw[h];kernel_rfl
def adk(w:World)(p:aX->Bool)(xs:cY)(i:Value)(wr:World):Prop :=
 ∃k:Nat,k<=xs.length/\i=.int .i64 k/\(xs.take k).any p=false/\Fr aS w wr
theorem zp(g:Nat)(cap:bS)(p:aX->Bool)(v:Value)(xs:cY)(w:World)(eg:∀args w,(callFunc g args).run prog w=.ok (.enter g args) w)(hp:gL aS w g cap p xs)(hv:dV 16 w v xs) :
  aB 163 #[v,.func (.func g) #[] cap] w fun e w'=>e=.returned (.int .i64 (lQ p xs 0))/\Fr aS w w':=by
 obtain⟨av,cv,fH⟩:=hv.form;subst fH;have dX:=O hv.1;go_enter func163,ntmps163;go_wp2;go_loopw[8] (adk w p xs) (fun i _=>xs.length-(intOf i).toNat)
 case atStart=>exact⟨0,aQ _,rfl,rfl,ae _ _⟩
 case round =>
  obtain⟨k,hk,rfl,hn,cL⟩:=hrel;have HN:=O hn;clear hn;by_cases fk:k<xs.length
  ·rcases(hv.fG cL).2 with ⟨_,_,_,e,_⟩|⟨bk,of,c,hf,h1,h2,h3,h4⟩
   ·rw[e]at fk;exact absurd fk (cq _)
   ·cases hf;unfold maxLen at h2;have dP:=O (List.getElem?_eq_getElem fk);have hcell:=h4 k _ dP.o;have iw:=O (bM fk);generalize xs[k]=x at dP hcell iw;have fB:=O (hp x iw.o wr cL);have lp:=(dX.o x iw.o).1;clear h4;cases qy:p x
    ·have pV:=O (any_take_succ dP.o HN.o qy);go_wp2_with (first|((with_reducible refine dk 15 ?_);refine a_ rfl 133 (.tmp 14) rfl bk (of+k*16) rfl x _ hcell underlying133 rfl (Hx lp) ?_)|fail)
     refine fB.o.mono ?_;rintro e w1⟨rfl,dn⟩;rw[qy];go_wp2;go_roundw
     case rel=>exact⟨k+1,ab,bg,pV.o,cL.trans dn⟩
     case measure=>simp[intOf];omega
    ·have fe:=O (oK (i:=0) dP.o qy HN.o);go_wp2_with (first|((with_reducible refine dk 15 ?_);refine a_ rfl 133 (.tmp 14) rfl bk (of+k*16) rfl x _ hcell underlying133 rfl (Hx lp) ?_)|fail)
     refine fB.o.mono ?_;rintro e w1⟨rfl,dn⟩;rw[qy];go_wp2;go_ret;rw[fe.o,bw];exact⟨rfl,cL.trans dn⟩
  ·have fe:=O (show lQ p xs 0= -1 from kh (by have h:=HN.o;rw[aD ab]at h;exact h));go_wp2;go_ret;rw[fe.o];exact⟨rfl,cL⟩
def adl(b:Nat)(w:World)(bk cap:Nat)(p:aX->Bool)(xs:cY)(i j:Value)(wr:World):Prop :=
 ∃(m n:Nat) (ys:cY),i=.int .i64 m/\j=.int .i64 n/\m<n/\n<=xs.length/\ys.length=xs.length/\OwnRows b 133 16 wr (.slice (some ⟨bk,0,none⟩) xs.length cap) ys /\
  ys.take m=(xs.take n).filter (fun x=>!p x)/\ys.drop n=xs.drop n/\Fr (one bk) w wr
theorem zq{p:aX->Bool}:∀ {l:cY} (i:Nat),l.any p=true->∃k x,l[k]?=some x/\p x=true/\(l.take k).any p=false/\lQ p l i=((i+k:Nat):Int)
 |[],_,h=>by simp at h
 |a :: l,i,h=>by
  cases ha:p a
  ·rw[List.any_cons,ha,jE]at h;obtain⟨k,x,h1,h2,h3,h4⟩:=zq (i+1) h;refine⟨k+1,x,by simpa using h1,h2,by simp[ha,h3],?_⟩;rw[lQ,ha];simp only[cJ,eV];rw[h4];congr 1;omega
  ·exact⟨0,a,rfl,ha,rfl,by rw[lQ,ha];simp⟩
theorem zr(h:l.any p=false):l.filter (fun x=>!p x)=l:=by
 rw[List.filter_eq_self];intro a ha;have:=eX.1 h a ha;simpa using this
theorem xo(b:Nat)(g:Nat)(cap:bS)(p:aX->Bool)(v:Value)(xs:cY)(w:World)(eg:∀args w,(callFunc g args).run prog w=.ok (.enter g args) w)(hp:gL (own v) w g cap p xs)(hv:OwnRows b 133 16 w v xs) :
  aB 114 #[v,.func (.func g) #[] cap] w fun e w'=>∃a c,e=.returned (.slice a (xs.filter (fun x=>!p x)).length c)/\OwnRows b 133 16 w' (.slice a (xs.filter (fun x=>!p x)).length c) (xs.filter (fun x=>!p x))/\Fr (own v) w w'/\own (.slice a (xs.filter (fun x=>!p x)).length c)=own v:=by
 cases ja:xs.any p
 ·have rH:=O (kh (i:=0) ja);rw[zr ja];obtain⟨av,cv,fH⟩:=hv.form;subst fH;go_enter func114,ntmps114;go_wp2_with fail
  refine(zp g cap p _ xs w eg hp.none hv.at).mono ?_;rintro e w1⟨rfl,dn⟩;rw[rH.o];go_wp2;go_ret;exact⟨_,_,rfl,hv.fr dn (fun _ _ h=>h),dn.mono (fun _ _ h=>absurd h id),rfl⟩
 ·obtain⟨k0,x0,Ht,DC,uY,rH⟩:=zq 0 ja;rw[bw]at rH;have QD:=(List.getElem?_eq_some_iff.1 Ht).1;obtain⟨bk,cp,Kv⟩:∃bk cp,v=.slice (some ⟨bk,0,none⟩) xs.length cp:=by
   rcases hv.2.2 with ⟨_,hn⟩|⟨bk,cp,cur,hv,_⟩
   ·omega
   ·exact⟨bk,cp,hv⟩
  subst Kv;obtain⟨BV,cur,rW,q1,q2,q3,q4,q5,q6⟩:=hv.open (g:=bk) rfl;cases rW;unfold maxLen at q4;have dX:=O hv.1;have DD:=O (show xs.take k0=(xs.take (k0+1)).filter (fun x=>!p x)by
   rw[dW Ht,cG,zr uY];simp[DC])
  have HP:=O hp;have Y5:=O rH;clear ja uY Ht DC rH q2 q5 q6 hp;go_enter func114,ntmps114;go_wp2_with fail
  refine(zp g cap p _ xs w eg HP.o.none hv.at).mono ?_;rintro e w1⟨rfl,dn⟩;rw[Y5.o];have EE:=hv.fr dn (fun _ _ h=>h);have Jg:((k0:Int)== -1)=false:=by rw[aL];omega
  go_wp2;go_loopw[5,6] (adl b w bk cp p xs) (fun _ j _=>xs.length-(intOf j).toNat)
  case atStart=>exact⟨k0,k0+1,xs,rfl,bg,ab,ab,rfl,EE,DD.o,rfl,dn.mono (fun _ _ h=>absurd h id)⟩
  case round =>
   obtain⟨m,n,ys,rfl,rfl,hmn,hn,hlen,cQ,rp,sH,cL⟩:=hrel;have HT:=O rp;have HD:=O sH;have jI:=O hlen;clear rp sH hlen;rw[<-jI.o]at cQ;have rI:=cQ.at;by_cases fk:n<xs.length
   ·rcases rI.2 with ⟨_,_,_,e,_⟩|⟨Jf,of,c,hf,h1,h2,h3,h4⟩
    ·have hl:=jI.o;rw[e]at hl;simp at hl;omega
    ·cases hf;have dP:=O (List.getElem?_eq_getElem fk);have yb:ys[n]?=some xs[n]:=by
      have e:=aq (fun l:cY=>l[0]?) HD.o;simp only[List.getElem?_drop,Nat.add_zero]at e;rw[e,dP.o]
     have hcell:=h4 n _ yb;simp only[bw]at hcell;have iw:=O (bM fk);generalize xs[n]=x at dP hcell iw yb;have lp:=(dX.o x iw.o).1;have mI:=O (dX.o x iw.o).2
     have jq:=fun W=>run_storeCells_new (P:=prog) W 133 #[.bool false,.string ⟨#[]⟩,.int .i64 0,.bool false,.string ⟨#[]⟩,.string ⟨#[]⟩,.int .i64 0,.string ⟨#[]⟩,.string ⟨#[]⟩,.string ⟨#[]⟩,.bool false,.string ⟨#[]⟩,.bool false,.slice none 0 0,.int .i64 0,.slice none 0 0] x (by rw[lp];rfl) mI.o;have gO:Fr aS wr (wr.alloc (.cells x.toArray 133)):=(ae aS wr).alloc _
     have fB:=O (HP.o x iw.o (wr.alloc (.cells x.toArray 133)) ((cL.alloc _).mono (fun k _ h=>by have e:k=bk:=h;rw[e];rfl)));have Hy:=O (Hx lp);have je:=cL.alloc (.cells x.toArray 133);have fA:=cQ.fr gO (fun _ _ h=>h);have p_:(wr.alloc (.cells x.toArray 133)).heap[wr.heap.size]?=some (.cells x.toArray 133 (0,0)):=aC _ _;have tG:=O p_;clear h4 yb p_ gO
     go_wp2_with (first|((with_reducible refine dk 25 ?_);refine a_ rfl 133 (.tmp 24) rfl bk (n*16) rfl x _ hcell underlying133 rfl Hy.o ?_)|((with_reducible refine dk 27 ?_);refine aI rfl 133 (.tmp 7) rfl wr.heap.size rfl _ x.toArray (0,0) _ tG.o underlying133 rfl (by rw[aZ];exact Hy.o) ?_)|fail)
     have hlw:wr.heap.size<(wr.alloc (.cells x.toArray 133)).heap.size:=aR;clear jq hcell;generalize wr.alloc (.cells x.toArray 133)=W2 at *
     refine fB.o.mono ?_;rintro e w3⟨rfl,il⟩;have qw:=je.trans (il.mono (fun _ _ h=>absurd h id));have fq:=fA.fr il (fun _ _ h=>h);have sV:=O (il.keep tG.o id);have Nq:=O jI.o;cases qy:p x
     ·have Xy:=O (fq.there (g:=bk) (cap:=cp) (by rw[jI.o]) (o:=m*16) (n:=x.toArray.size) (by
       have hmc:(m+1)*16<=cp*16:=bO _ ab;rw[aZ,lp];omega))
      have eZ:=fq.store (i:=m) (y:=x) (by rw[jI.o];omega) lp mI.o (g:=bk) rfl;rw[jI.o]at eZ;have oo:=qw.step (fE (ae (one bk) w3) (fun _=>rfl) x (m*16)) (fun _ _ h=>h)
      go_wp2_with (first|((with_reducible refine dk 32 ?_);refine aI rfl 133 (.tmp 7) rfl wr.heap.size rfl _ x.toArray (0,0) _ sV.o underlying133 rfl (by rw[aZ];exact Hy.o) ?_)|((with_reducible refine cV 133 ?_);refine ig rfl 133 (.tmp 33) (.tmp 32) rfl bk (m*16) x.toArray rfl rfl Xy.o (by rw[aZ];exact Hy.o) (bW mI.o) ?_)|fail)
      go_roundw
      case rel =>
       refine⟨m+1,n+1,ys.set m x,bg,bg,ab,ab,by rw[d_];exact Nq.o,eZ,?_,?_,oo⟩
       ·rw[dW (l:=ys.set m x) (List.getElem?_set_self (by rw[Nq.o];omega)),gi (ay m),dW dP.o,cG,HT.o];simp[qy]
       ·rw[gj ab];have e:=aq (List.drop 1) HD.o;simpa[ew]using e
      case measure=>simp[intOf];omega
     ·rw[jI.o]at fq;go_wp2_with fail
      go_roundw
      case rel =>
       refine⟨m,n+1,ys,rfl,bg,ab,ab,Nq.o,fq,?_,?_,qw⟩
       ·rw[dW dP.o,cG,HT.o];simp[qy]
       ·have e:=aq (List.drop 1) HD.o;simpa[ew]using e
      case measure=>simp[intOf];omega
   ·have rJ:n=xs.length:=ab;subst rJ;have fe:=O (show ys.take m=xs.filter (fun x=>!p x)by have h:=HT.o;rw[aD (ay _)]at h;exact h);have sG:(ys.take m).length=m:=by rw[aM,jI.o];omega
    have zt:=O (show(xs.filter (fun x=>!p x)).length=m by rw[<-fe.o];exact sG);have hcut:=cQ.cut (i:=m) (by rw[jI.o];omega) (g:=bk) (cap:=cp) (by rw[jI.o]);have hle:(xs.length-m)*16+m*16<=cp*16:=by rw[<-dE];exact bO _ ab
    have B7:(Builtin.zeroCells Y4 (xs.length-m)).toList.length=(xs.length-m)*16:=by simp[Builtin.zeroCells]
    have xh:=fun ty=>jv (P:=prog) wr 85 133 ty Y4 underlying85 (fun w=>af) ag PL bk (m*16) (xs.length-m) (cp-m) ab (by
     have:=cQ.there (g:=bk) (cap:=cp) (by rw[jI.o]) (o:=m*16) (n:=(xs.length-m)*16) ab;exact this)
    have yc:=hcut.behind (o:=m*16) (vs:=(Builtin.zeroCells Y4 (xs.length-m)).toList) (by rw[sG];exact ay _) (g:=bk) (cap:=cp) (by rw[sG]) (by rw[B7];omega);have oo:=cL.step (fE (ae (one bk) wr) (fun _=>rfl) (Builtin.zeroCells Y4 (xs.length-m)).toList (m*16)) (fun _ _ h=>h);clear cQ rI hcut B7 sG hle jI;go_wp2_with fail
    go_ret;rw[zt.o, <-fe.o];exact⟨_,_,rfl,yc,oo.mono (fun k _ h=>by have e:k=bk:=h;rw[e];rfl),rfl⟩
theorem adm:∃i0:TypeInfo,prog.info? 133=some i0/\i0.size=16:=by
 have h:(prog.info? 133).map (·.size)=some 16:=af;cases hq:prog.info? 133 with
 |none=>rw[hq]at h;cases h
 |some i=>rw[hq]at h;exact⟨i,rfl,by simpa using h⟩
theorem FX(b:Nat)(bk cp i j:Nat)(xs:cY)(w:World)(hv:OwnRows b 133 16 w (.slice (some ⟨bk,0,none⟩) xs.length cp) xs)(Qz:i<j)(hj:j<=xs.length) :
  aB 102 #[.slice (some ⟨bk,0,none⟩) xs.length cp,.int .i64 i,.int .i64 j] w fun e w'=>e=.returned (.slice (some ⟨bk,0,none⟩) (i+(xs.length-j)) cp)/\OwnRows b 133 16 w' (.slice (some ⟨bk,0,none⟩) (i+(xs.length-j)) cp) (xs.take i++xs.drop j)/\Fr (one bk) w w':=by
 obtain⟨i0,qp,kQ⟩:=adm;obtain⟨BV,cur,rW,q1,q2,q3,q4,q5,q6⟩:=hv.open (g:=bk) rfl;cases rW;unfold maxLen at q4;have dP:=hv.at;have dX:=hv.1;obtain⟨news,ky⟩:∃news,news=(xs.drop j).flatten:=⟨_,rfl⟩;have hdr:∀x∈xs.drop j,x.length=16/\∀u∈x,u.oneCell'=true:=fun x hx=>dX x (ez hx);have hlen:news.length=(xs.length-j)*16:=by rw[ky,gz (fun x hx=>(hdr x hx).1),bJ]
 obtain⟨A,hA,Nr⟩:∃A:Addr,(if cp=j then some (⟨bk,0,none⟩:Addr)else some ⟨bk,j*16,none⟩)=some A/\Hid (∀t u,news[t]?=some u->w.drew.cell? (A.add t)=some u):=by
  by_cases h:cp=j
  ·refine⟨⟨bk,0,none⟩,by simp[h],fun t u hu=>?_⟩
   have h0:news.length=0:=by rw[hlen];have:xs.length-j=0:=by omega
                             rw[this,ia]
   rw[dG.1 h0]at hu;simp at hu
  ·refine⟨⟨bk,j*16,none⟩,by simp[h],fun t u hu=>?_⟩;have ht:t<(xs.length-j)*16:=by
    have:=(List.getElem?_eq_some_iff.1 hu).1;omega
   have nj:xs.flatten[j*16+t]?=some u:=by
    have e:xs.flatten=(xs.take j).flatten++(xs.drop j).flatten:=by rw[<-ed,fL]
    have hl:(xs.take j).flatten.length=j*16:=by rw[gz (fun x hx=>(dX x (ey hx)).1),aM,dL hj]
    rw[e,List.getElem?_append_right ab,hl,show j*16+t-j*16=t from ab, <-ky];exact hu
   have hjt:j*16+t<xs.length*16:=by
    have:(xs.length-j)*16+j*16=xs.length*16:=by rw[<-dE];congr 1;omega
    omega
   rw[<-q6,List.getElem?_take_of_lt hjt]at nj;have zu:cur[j*16+t]?=some u:=by simpa using nj
   have ea:(Addr.add ⟨bk,j*16,none⟩ t)=⟨bk,j*16+t,none⟩:=by unfold Addr.add;split<;>simp_all
   rw[ea];show w.cell? _=some u;simp[World.cell?,q2,zu]
 have s1:=O hlen;have s2:=O (show∀u∈news,u.oneCell'=true by
  intro u hu;rw[ky]at hu;obtain⟨x,hx,FY⟩:=fK.1 hu;exact(hdr x hx).2 u FY)
 have s3:=O (show∀t,t<news.length->(w.drew.cell? ⟨bk,0+i*16+t,none⟩).isSome=true/\w.drew.frozen? ⟨bk,0+i*16+t,none⟩=false by
  intro t ht;rw[bw];have hle:i*16+(xs.length-j)*16<=cp*16:=by rw[<-dE];exact bO _ ab
  have:=hv.there (g:=bk) (cap:=cp) rfl (o:=i*16) (n:=(xs.length-j)*16) hle t ab;exact this)
 have UR:OwnRows b 133 16 w.drew (.slice (some ⟨bk,0,none⟩) xs.length cp) xs:=hv;have ql:=UR.CY (i:=i) (ys:=xs.drop j) ab hdr (g:=bk) (cap:=cp) rfl (by rw[bJ];omega);rw[bJ, <-ky]at ql;have yd:Fr (one bk) w (w.drew.setCells bk (i*16) news):=((ae (one bk) w).drew).setCells (fun _=>rfl) _ _;obtain⟨W1,B4⟩:∃W1,W1=w.drew.setCells bk (0+i*16) news:=⟨_,rfl⟩;have HW:=O B4;rw[bw]at B4;rw[<-B4]at ql yd
 have rJ:(xs.take i++xs.drop j).length=i+(xs.length-j):=by rw[aN,aM,bJ];omega
 have hm:i+(xs.length-j)<xs.length:=ab;have B7:(Builtin.zeroCells Y4 (xs.length-(i+(xs.length-j)))).toList.length=(xs.length-(i+(xs.length-j)))*16:=by simp[Builtin.zeroCells]
 have hle:(i+(xs.length-j))*16+(xs.length-(i+(xs.length-j)))*16<=cp*16:=by rw[<-dE];exact bO _ ab
 have xh:=fun ty=>jv (P:=prog) W1 85 133 ty Y4 underlying85 (fun w=>af) ag PL bk ((i+(xs.length-j))*16) (xs.length-(i+(xs.length-j))) (cp-(i+(xs.length-j))) ab (by
  have:=ql.there (g:=bk) (cap:=cp) (by rw[rJ]) (o:=(i+(xs.length-j))*16) (n:=(xs.length-(i+(xs.length-j)))*16) hle;exact this)
 have yc:=ql.behind (o:=(i+(xs.length-j))*16) (vs:=(Builtin.zeroCells Y4 (xs.length-(i+(xs.length-j)))).toList) (by rw[rJ];exact ay _) (g:=bk) (cap:=cp) (by rw[rJ]) (by rw[B7];omega);have oo:=yd.step (fE (ae (one bk) W1) (fun _=>rfl) (Builtin.zeroCells Y4 (xs.length-(i+(xs.length-j)))).toList ((i+(xs.length-j))*16)) (fun _ _ h=>h);have hne:((i:Int)==(j:Int))=false:=by rw[aL];omega
 have ado:i<=cp:=ab;have adp:j<=cp:=ab;have HA:=O hA;clear B4 ql UR yd ky hlen hdr dX dP rJ B7 hle q2 q5 q6 hv;go_enter func102,ntmps102;go_wp2_with fail
 have hA:=HA.o;go_region_law (refine step_append_room rfl (.tmp 22) (.tmp 25) 85 rfl 133 i0 16 underlying85 qp kQ bk 0 i cp (by simp[Act.eval,Act.put]) A (xs.length-j) (cp-j) news (by simp[Act.eval,Act.put]) s1.o Nr.out s2.o ab s3.o ?_;rw[<-HW.o])
 all_goals
  go_wp2_with fail
  go_ret;exact⟨rfl,yc,oo⟩
abbrev vR:bS:= #[.bool false,.string ⟨#[]⟩,.int .i64 0,.bool false,.string ⟨#[]⟩,.int .i64 0,.string ⟨#[]⟩,.string ⟨#[]⟩,.string ⟨#[]⟩,.bool false,.string ⟨#[]⟩,.bool false,.slice none 0 0]
theorem U1:vR.size=13:=rfl
theorem H':∀v∈vR.toList,v.oneCell'=true:=dt
theorem AK(h:x.length=13):(prog.info? 129).map (·.size)=some x.length:=by rw[h];kernel_rfl
def adA(w:World)(p:aX->Bool)(xs:cY)(i:Value)(wr:World):Prop :=
 ∃k:Nat,k<=xs.length/\i=.int .i64 k/\(xs.take k).any p=false/\Fr aS w wr
theorem zz(g:Nat)(cap:bS)(p:aX->Bool)(v:Value)(xs:cY)(w:World)(eg:∀args w,(callFunc g args).run prog w=.ok (.enter g args) w)(hp:gL aS w g cap p xs)(hv:dV 13 w v xs) :
  aB 200 #[v,.func (.func g) #[] cap] w fun e w'=>e=.returned (.int .i64 (lQ p xs 0))/\Fr aS w w':=by
 obtain⟨av,cv,fH⟩:=hv.form;subst fH;have dX:=O hv.1;go_enter func200,ntmps200;go_wp2;go_loopw[8] (adA w p xs) (fun i _=>xs.length-(intOf i).toNat)
 case atStart=>exact⟨0,aQ _,rfl,rfl,ae _ _⟩
 case round =>
  obtain⟨k,hk,rfl,hn,cL⟩:=hrel;have HN:=O hn;clear hn;by_cases fk:k<xs.length
  ·rcases(hv.fG cL).2 with ⟨_,_,_,e,_⟩|⟨bk,of,c,hf,h1,h2,h3,h4⟩
   ·rw[e]at fk;exact absurd fk (cq _)
   ·cases hf;unfold maxLen at h2;have dP:=O (List.getElem?_eq_getElem fk);have hcell:=h4 k _ dP.o;have iw:=O (bM fk);generalize xs[k]=x at dP hcell iw;have fB:=O (hp x iw.o wr cL);have lp:=(dX.o x iw.o).1;clear h4;cases qy:p x
    ·have pV:=O (any_take_succ dP.o HN.o qy);go_wp2_with (first|((with_reducible refine dk 15 ?_);refine a_ rfl 129 (.tmp 14) rfl bk (of+k*13) rfl x _ hcell underlying129 rfl (AK lp) ?_)|fail)
     refine fB.o.mono ?_;rintro e w1⟨rfl,dn⟩;rw[qy];go_wp2;go_roundw
     case rel=>exact⟨k+1,ab,bg,pV.o,cL.trans dn⟩
     case measure=>simp[intOf];omega
    ·have fe:=O (oK (i:=0) dP.o qy HN.o);go_wp2_with (first|((with_reducible refine dk 15 ?_);refine a_ rfl 129 (.tmp 14) rfl bk (of+k*13) rfl x _ hcell underlying129 rfl (AK lp) ?_)|fail)
     refine fB.o.mono ?_;rintro e w1⟨rfl,dn⟩;rw[qy];go_wp2;go_ret;rw[fe.o,bw];exact⟨rfl,cL.trans dn⟩
  ·have fe:=O (show lQ p xs 0= -1 from kh (by have h:=HN.o;rw[aD ab]at h;exact h));go_wp2;go_ret;rw[fe.o];exact⟨rfl,cL⟩
def adB(b:Nat)(w:World)(bk cap:Nat)(p:aX->Bool)(xs:cY)(i j:Value)(wr:World):Prop :=
 ∃(m n:Nat) (ys:cY),i=.int .i64 m/\j=.int .i64 n/\m<n/\n<=xs.length/\ys.length=xs.length/\OwnRows b 129 13 wr (.slice (some ⟨bk,0,none⟩) xs.length cap) ys /\
  ys.take m=(xs.take n).filter (fun x=>!p x)/\ys.drop n=xs.drop n/\Fr (one bk) w wr
theorem zA{p:aX->Bool}:∀ {l:cY} (i:Nat),l.any p=true->∃k x,l[k]?=some x/\p x=true/\(l.take k).any p=false/\lQ p l i=((i+k:Nat):Int)
 |[],_,h=>by simp at h
 |a :: l,i,h=>by
  cases ha:p a
  ·rw[List.any_cons,ha,jE]at h;obtain⟨k,x,h1,h2,h3,h4⟩:=zA (i+1) h;refine⟨k+1,x,by simpa using h1,h2,by simp[ha,h3],?_⟩;rw[lQ,ha];simp only[cJ,eV];rw[h4];congr 1;omega
  ·exact⟨0,a,rfl,ha,rfl,by rw[lQ,ha];simp⟩
theorem zB(h:l.any p=false):l.filter (fun x=>!p x)=l:=by
 rw[List.filter_eq_self];intro a ha;have:=eX.1 h a ha;simpa using this
theorem EW(b:Nat)(g:Nat)(cap:bS)(p:aX->Bool)(v:Value)(xs:cY)(w:World)(eg:∀args w,(callFunc g args).run prog w=.ok (.enter g args) w)(hp:gL (own v) w g cap p xs)(hv:OwnRows b 129 13 w v xs) :
  aB 150 #[v,.func (.func g) #[] cap] w fun e w'=>∃a c,e=.returned (.slice a (xs.filter (fun x=>!p x)).length c)/\OwnRows b 129 13 w' (.slice a (xs.filter (fun x=>!p x)).length c) (xs.filter (fun x=>!p x))/\Fr (own v) w w'/\own (.slice a (xs.filter (fun x=>!p x)).length c)=own v:=by
 cases ja:xs.any p
 ·have rH:=O (kh (i:=0) ja);rw[zB ja];obtain⟨av,cv,fH⟩:=hv.form;subst fH;go_enter func150,ntmps150;go_wp2_with fail
  refine(zz g cap p _ xs w eg hp.none hv.at).mono ?_;rintro e w1⟨rfl,dn⟩;rw[rH.o];go_wp2;go_ret;exact⟨_,_,rfl,hv.fr dn (fun _ _ h=>h),dn.mono (fun _ _ h=>absurd h id),rfl⟩
 ·obtain⟨k0,x0,Ht,DC,uY,rH⟩:=zA 0 ja;rw[bw]at rH;have QD:=(List.getElem?_eq_some_iff.1 Ht).1;obtain⟨bk,cp,Kv⟩:∃bk cp,v=.slice (some ⟨bk,0,none⟩) xs.length cp:=by
   rcases hv.2.2 with ⟨_,hn⟩|⟨bk,cp,cur,hv,_⟩
   ·omega
   ·exact⟨bk,cp,hv⟩
  subst Kv;obtain⟨BV,cur,rW,q1,q2,q3,q4,q5,q6⟩:=hv.open (g:=bk) rfl;cases rW;unfold maxLen at q4;have dX:=O hv.1;have DD:=O (show xs.take k0=(xs.take (k0+1)).filter (fun x=>!p x)by
   rw[dW Ht,cG,zB uY];simp[DC])
  have HP:=O hp;have Y5:=O rH;clear ja uY Ht DC rH q2 q5 q6 hp;go_enter func150,ntmps150;go_wp2_with fail
  refine(zz g cap p _ xs w eg HP.o.none hv.at).mono ?_;rintro e w1⟨rfl,dn⟩;rw[Y5.o];have EE:=hv.fr dn (fun _ _ h=>h);have Jg:((k0:Int)== -1)=false:=by rw[aL];omega
  go_wp2;go_loopw[5,6] (adB b w bk cp p xs) (fun _ j _=>xs.length-(intOf j).toNat)
  case atStart=>exact⟨k0,k0+1,xs,rfl,bg,ab,ab,rfl,EE,DD.o,rfl,dn.mono (fun _ _ h=>absurd h id)⟩
  case round =>
   obtain⟨m,n,ys,rfl,rfl,hmn,hn,hlen,cQ,rp,sH,cL⟩:=hrel;have HT:=O rp;have HD:=O sH;have jI:=O hlen;clear rp sH hlen;rw[<-jI.o]at cQ;have rI:=cQ.at;by_cases fk:n<xs.length
   ·rcases rI.2 with ⟨_,_,_,e,_⟩|⟨Jf,of,c,hf,h1,h2,h3,h4⟩
    ·have hl:=jI.o;rw[e]at hl;simp at hl;omega
    ·cases hf;have dP:=O (List.getElem?_eq_getElem fk);have yb:ys[n]?=some xs[n]:=by
      have e:=aq (fun l:cY=>l[0]?) HD.o;simp only[List.getElem?_drop,Nat.add_zero]at e;rw[e,dP.o]
     have hcell:=h4 n _ yb;simp only[bw]at hcell;have iw:=O (bM fk);generalize xs[n]=x at dP hcell iw yb;have lp:=(dX.o x iw.o).1;have mI:=O (dX.o x iw.o).2;have jq:=fun W=>run_storeCells_new (P:=prog) W 129 #[.bool false,.string ⟨#[]⟩,.int .i64 0,.bool false,.string ⟨#[]⟩,.int .i64 0,.string ⟨#[]⟩,.string ⟨#[]⟩,.string ⟨#[]⟩,.bool false,.string ⟨#[]⟩,.bool false,.slice none 0 0] x (by rw[lp];rfl) mI.o
     have gO:Fr aS wr (wr.alloc (.cells x.toArray 129)):=(ae aS wr).alloc _;have fB:=O (HP.o x iw.o (wr.alloc (.cells x.toArray 129)) ((cL.alloc _).mono (fun k _ h=>by have e:k=bk:=h;rw[e];rfl)));have Hy:=O (AK lp);have je:=cL.alloc (.cells x.toArray 129);have fA:=cQ.fr gO (fun _ _ h=>h);have p_:(wr.alloc (.cells x.toArray 129)).heap[wr.heap.size]?=some (.cells x.toArray 129 (0,0)):=aC _ _
     have tG:=O p_;clear h4 yb p_ gO;go_wp2_with (first|((with_reducible refine dk 25 ?_);refine a_ rfl 129 (.tmp 24) rfl bk (n*13) rfl x _ hcell underlying129 rfl Hy.o ?_)|((with_reducible refine dk 27 ?_);refine aI rfl 129 (.tmp 7) rfl wr.heap.size rfl _ x.toArray (0,0) _ tG.o underlying129 rfl (by rw[aZ];exact Hy.o) ?_)|fail)
     have hlw:wr.heap.size<(wr.alloc (.cells x.toArray 129)).heap.size:=aR;clear jq hcell;generalize wr.alloc (.cells x.toArray 129)=W2 at *
     refine fB.o.mono ?_;rintro e w3⟨rfl,il⟩;have qw:=je.trans (il.mono (fun _ _ h=>absurd h id));have fq:=fA.fr il (fun _ _ h=>h);have sV:=O (il.keep tG.o id);have Nq:=O jI.o;cases qy:p x
     ·have Xy:=O (fq.there (g:=bk) (cap:=cp) (by rw[jI.o]) (o:=m*13) (n:=x.toArray.size) (by
       have hmc:(m+1)*13<=cp*13:=bO _ ab;rw[aZ,lp];omega))
      have eZ:=fq.store (i:=m) (y:=x) (by rw[jI.o];omega) lp mI.o (g:=bk) rfl;rw[jI.o]at eZ;have oo:=qw.step (fE (ae (one bk) w3) (fun _=>rfl) x (m*13)) (fun _ _ h=>h)
      go_wp2_with (first|((with_reducible refine dk 32 ?_);refine aI rfl 129 (.tmp 7) rfl wr.heap.size rfl _ x.toArray (0,0) _ sV.o underlying129 rfl (by rw[aZ];exact Hy.o) ?_)|((with_reducible refine cV 129 ?_);refine ig rfl 129 (.tmp 33) (.tmp 32) rfl bk (m*13) x.toArray rfl rfl Xy.o (by rw[aZ];exact Hy.o) (bW mI.o) ?_)|fail)
      go_roundw
      case rel =>
       refine⟨m+1,n+1,ys.set m x,bg,bg,ab,ab,by rw[d_];exact Nq.o,eZ,?_,?_,oo⟩
       ·rw[dW (l:=ys.set m x) (List.getElem?_set_self (by rw[Nq.o];omega)),gi (ay m),dW dP.o,cG,HT.o];simp[qy]
       ·rw[gj ab];have e:=aq (List.drop 1) HD.o;simpa[ew]using e
      case measure=>simp[intOf];omega
     ·rw[jI.o]at fq;go_wp2_with fail
      go_roundw
      case rel =>
       refine⟨m,n+1,ys,rfl,bg,ab,ab,Nq.o,fq,?_,?_,qw⟩
       ·rw[dW dP.o,cG,HT.o];simp[qy]
       ·have e:=aq (List.drop 1) HD.o;simpa[ew]using e
      case measure=>simp[intOf];omega
   ·have rJ:n=xs.length:=ab;subst rJ;have fe:=O (show ys.take m=xs.filter (fun x=>!p x)by have h:=HT.o;rw[aD (ay _)]at h;exact h);have sG:(ys.take m).length=m:=by rw[aM,jI.o];omega
    have zt:=O (show(xs.filter (fun x=>!p x)).length=m by rw[<-fe.o];exact sG);have hcut:=cQ.cut (i:=m) (by rw[jI.o];omega) (g:=bk) (cap:=cp) (by rw[jI.o]);have hle:(xs.length-m)*13+m*13<=cp*13:=by rw[<-dE];exact bO _ ab
    have B7:(Builtin.zeroCells vR (xs.length-m)).toList.length=(xs.length-m)*13:=by simp[Builtin.zeroCells]
    have xh:=fun ty=>jv (P:=prog) wr 116 129 ty vR underlying116 (fun w=>af) ag H' bk (m*13) (xs.length-m) (cp-m) ab (by
     have:=cQ.there (g:=bk) (cap:=cp) (by rw[jI.o]) (o:=m*13) (n:=(xs.length-m)*13) ab;exact this)
    have yc:=hcut.behind (o:=m*13) (vs:=(Builtin.zeroCells vR (xs.length-m)).toList) (by rw[sG];exact ay _) (g:=bk) (cap:=cp) (by rw[sG]) (by rw[B7];omega);have oo:=cL.step (fE (ae (one bk) wr) (fun _=>rfl) (Builtin.zeroCells vR (xs.length-m)).toList (m*13)) (fun _ _ h=>h);clear cQ rI hcut B7 sG hle jI;go_wp2_with fail
    go_ret;rw[zt.o, <-fe.o];exact⟨_,_,rfl,yc,oo.mono (fun k _ h=>by have e:k=bk:=h;rw[e];rfl),rfl⟩
theorem adC:∃i0:TypeInfo,prog.info? 129=some i0/\i0.size=13:=by
 have h:(prog.info? 129).map (·.size)=some 13:=af;cases hq:prog.info? 129 with
 |none=>rw[hq]at h;cases h
 |some i=>rw[hq]at h;exact⟨i,rfl,by simpa using h⟩
theorem F0(b:Nat)(bk cp i j:Nat)(xs:cY)(w:World)(hv:OwnRows b 129 13 w (.slice (some ⟨bk,0,none⟩) xs.length cp) xs)(Qz:i<j)(hj:j<=xs.length) :
  aB 122 #[.slice (some ⟨bk,0,none⟩) xs.length cp,.int .i64 i,.int .i64 j] w fun e w'=>e=.returned (.slice (some ⟨bk,0,none⟩) (i+(xs.length-j)) cp)/\OwnRows b 129 13 w' (.slice (some ⟨bk,0,none⟩) (i+(xs.length-j)) cp) (xs.take i++xs.drop j)/\Fr (one bk) w w':=by
 obtain⟨i0,qp,kQ⟩:=adC;obtain⟨BV,cur,rW,q1,q2,q3,q4,q5,q6⟩:=hv.open (g:=bk) rfl;cases rW;unfold maxLen at q4;have dP:=hv.at;have dX:=hv.1;obtain⟨news,ky⟩:∃news,news=(xs.drop j).flatten:=⟨_,rfl⟩;have hdr:∀x∈xs.drop j,x.length=13/\∀u∈x,u.oneCell'=true:=fun x hx=>dX x (ez hx);have hlen:news.length=(xs.length-j)*13:=by rw[ky,gz (fun x hx=>(hdr x hx).1),bJ]
 obtain⟨A,hA,Nr⟩:∃A:Addr,(if cp=j then some (⟨bk,0,none⟩:Addr)else some ⟨bk,j*13,none⟩)=some A/\Hid (∀t u,news[t]?=some u->w.drew.cell? (A.add t)=some u):=by
  by_cases h:cp=j
  ·refine⟨⟨bk,0,none⟩,by simp[h],fun t u hu=>?_⟩
   have h0:news.length=0:=by rw[hlen];have:xs.length-j=0:=by omega
                             rw[this,ia]
   rw[dG.1 h0]at hu;simp at hu
  ·refine⟨⟨bk,j*13,none⟩,by simp[h],fun t u hu=>?_⟩;have ht:t<(xs.length-j)*13:=by
    have:=(List.getElem?_eq_some_iff.1 hu).1;omega
   have nj:xs.flatten[j*13+t]?=some u:=by
    have e:xs.flatten=(xs.take j).flatten++(xs.drop j).flatten:=by rw[<-ed,fL]
    have hl:(xs.take j).flatten.length=j*13:=by rw[gz (fun x hx=>(dX x (ey hx)).1),aM,dL hj]
    rw[e,List.getElem?_append_right ab,hl,show j*13+t-j*13=t from ab, <-ky];exact hu
   have hjt:j*13+t<xs.length*13:=by
    have:(xs.length-j)*13+j*13=xs.length*13:=by rw[<-dE];congr 1;omega
    omega
   rw[<-q6,List.getElem?_take_of_lt hjt]at nj;have zu:cur[j*13+t]?=some u:=by simpa using nj
   have ea:(Addr.add ⟨bk,j*13,none⟩ t)=⟨bk,j*13+t,none⟩:=by unfold Addr.add;split<;>simp_all
   rw[ea];show w.cell? _=some u;simp[World.cell?,q2,zu]
 have s1:=O hlen;have s2:=O (show∀u∈news,u.oneCell'=true by
  intro u hu;rw[ky]at hu;obtain⟨x,hx,FY⟩:=fK.1 hu;exact(hdr x hx).2 u FY)
 have s3:=O (show∀t,t<news.length->(w.drew.cell? ⟨bk,0+i*13+t,none⟩).isSome=true/\w.drew.frozen? ⟨bk,0+i*13+t,none⟩=false by
  intro t ht;rw[bw];have hle:i*13+(xs.length-j)*13<=cp*13:=by rw[<-dE];exact bO _ ab
  have:=hv.there (g:=bk) (cap:=cp) rfl (o:=i*13) (n:=(xs.length-j)*13) hle t ab;exact this)
 have UR:OwnRows b 129 13 w.drew (.slice (some ⟨bk,0,none⟩) xs.length cp) xs:=hv;have ql:=UR.CY (i:=i) (ys:=xs.drop j) ab hdr (g:=bk) (cap:=cp) rfl (by rw[bJ];omega);rw[bJ, <-ky]at ql;have yd:Fr (one bk) w (w.drew.setCells bk (i*13) news):=((ae (one bk) w).drew).setCells (fun _=>rfl) _ _;obtain⟨W1,B4⟩:∃W1,W1=w.drew.setCells bk (0+i*13) news:=⟨_,rfl⟩;have HW:=O B4;rw[bw]at B4;rw[<-B4]at ql yd
 have rJ:(xs.take i++xs.drop j).length=i+(xs.length-j):=by rw[aN,aM,bJ];omega
 have hm:i+(xs.length-j)<xs.length:=ab;have B7:(Builtin.zeroCells vR (xs.length-(i+(xs.length-j)))).toList.length=(xs.length-(i+(xs.length-j)))*13:=by simp[Builtin.zeroCells]
 have hle:(i+(xs.length-j))*13+(xs.length-(i+(xs.length-j)))*13<=cp*13:=by rw[<-dE];exact bO _ ab
 have xh:=fun ty=>jv (P:=prog) W1 116 129 ty vR underlying116 (fun w=>af) ag H' bk ((i+(xs.length-j))*13) (xs.length-(i+(xs.length-j))) (cp-(i+(xs.length-j))) ab (by
  have:=ql.there (g:=bk) (cap:=cp) (by rw[rJ]) (o:=(i+(xs.length-j))*13) (n:=(xs.length-(i+(xs.length-j)))*13) hle;exact this)
 have yc:=ql.behind (o:=(i+(xs.length-j))*13) (vs:=(Builtin.zeroCells vR (xs.length-(i+(xs.length-j)))).toList) (by rw[rJ];exact ay _) (g:=bk) (cap:=cp) (by rw[rJ]) (by rw[B7];omega);have oo:=yd.step (fE (ae (one bk) W1) (fun _=>rfl) (Builtin.zeroCells vR (xs.length-(i+(xs.length-j)))).toList ((i+(xs.length-j))*13)) (fun _ _ h=>h);have hne:((i:Int)==(j:Int))=false:=by rw[aL];omega
 have ado:i<=cp:=ab;have adp:j<=cp:=ab;have HA:=O hA;clear B4 ql UR yd ky hlen hdr dX dP rJ B7 hle q2 q5 q6 hv;go_enter func122,ntmps122;go_wp2_with fail
 have hA:=HA.o;go_region_law (refine step_append_room rfl (.tmp 22) (.tmp 25) 116 rfl 129 i0 13 underlying116 qp kQ bk 0 i cp (by simp[Act.eval,Act.put]) A (xs.length-j) (cp-j) news (by simp[Act.eval,Act.put]) s1.o Nr.out s2.o ab s3.o ?_;rw[<-HW.o])
 all_goals
  go_wp2_with fail
  go_ret;exact⟨rfl,yc,oo⟩
abbrev EX:bS:= #[.bool false,.string ⟨#[]⟩,.int .i64 0,.bool false,.string ⟨#[]⟩,.int .i64 0,.string ⟨#[]⟩,.string ⟨#[]⟩,.bool false,.string ⟨#[]⟩,.string ⟨#[]⟩,.int .i64 0]
theorem PR:∀v∈EX.toList,v.oneCell'=true:=dt
theorem AO(h:x.length=12):(prog.info? 137).map (·.size)=some x.length:=by rw[h];kernel_rfl
def adJ(w:World)(p:aX->Bool)(xs:cY)(i:Value)(wr:World):Prop :=
 ∃k:Nat,k<=xs.length/\i=.int .i64 k/\(xs.take k).any p=false/\Fr aS w wr
theorem uu(g:Nat)(cap:bS)(p:aX->Bool)(v:Value)(xs:cY)(w:World)(eg:∀args w,(callFunc g args).run prog w=.ok (.enter g args) w)(hp:gL aS w g cap p xs)(hv:dV 12 w v xs) :
  aB 181 #[v,.func (.func g) #[] cap] w fun e w'=>e=.returned (.int .i64 (lQ p xs 0))/\Fr aS w w':=by
 obtain⟨av,cv,fH⟩:=hv.form;subst fH;have dX:=O hv.1;go_enter func181,ntmps181;go_wp2;go_loopw[8] (adJ w p xs) (fun i _=>xs.length-(intOf i).toNat)
 case atStart=>exact⟨0,aQ _,rfl,rfl,ae _ _⟩
 case round =>
  obtain⟨k,hk,rfl,hn,cL⟩:=hrel;have HN:=O hn;clear hn;by_cases fk:k<xs.length
  ·rcases(hv.fG cL).2 with ⟨_,_,_,e,_⟩|⟨bk,of,c,hf,h1,h2,h3,h4⟩
   ·rw[e]at fk;exact absurd fk (cq _)
   ·cases hf;unfold maxLen at h2;have dP:=O (List.getElem?_eq_getElem fk);have hcell:=h4 k _ dP.o;have iw:=O (bM fk);generalize xs[k]=x at dP hcell iw;have fB:=O (hp x iw.o wr cL);have lp:=(dX.o x iw.o).1;clear h4;cases qy:p x
    ·have pV:=O (any_take_succ dP.o HN.o qy);go_wp2_with (first|((with_reducible refine dk 15 ?_);refine a_ rfl 137 (.tmp 14) rfl bk (of+k*12) rfl x _ hcell underlying137 rfl (AO lp) ?_)|fail)
     refine fB.o.mono ?_;rintro e w1⟨rfl,dn⟩;rw[qy];go_wp2;go_roundw
     case rel=>exact⟨k+1,ab,bg,pV.o,cL.trans dn⟩
     case measure=>simp[intOf];omega
    ·have fe:=O (oK (i:=0) dP.o qy HN.o);go_wp2_with (first|((with_reducible refine dk 15 ?_);refine a_ rfl 137 (.tmp 14) rfl bk (of+k*12) rfl x _ hcell underlying137 rfl (AO lp) ?_)|fail)
     refine fB.o.mono ?_;rintro e w1⟨rfl,dn⟩;rw[qy];go_wp2;go_ret;rw[fe.o,bw];exact⟨rfl,cL.trans dn⟩
  ·have fe:=O (show lQ p xs 0= -1 from kh (by have h:=HN.o;rw[aD ab]at h;exact h));go_wp2;go_ret;rw[fe.o];exact⟨rfl,cL⟩
theorem B8(g:Nat)(cap:bS)(p:aX->Bool)(v:Value)(xs:cY)(w:World)(eg:∀args w,(callFunc g args).run prog w=.ok (.enter g args) w)(hp:gL aS w g cap p xs)(hv:dV 12 w v xs) :
  aB 125 #[v,.func (.func g) #[] cap] w fun e w'=>e=.returned (.bool (xs.any p))/\Fr aS w w':=by
 have hb:=O (rD p xs 0);go_enter func125,ntmps125;go_wp2_with fail
 refine(uu g cap p v xs w eg hp hv).mono ?_;rintro e w1⟨rfl,dn⟩;go_wp2;go_ret;exact⟨fy hb.o,dn⟩
