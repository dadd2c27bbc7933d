/- Lemmas for the law's walk. -/
import Derived.Test.YtnckmcnffadjoaaGreatDoorPm4
set_option maxRecDepth 100000
set_option maxHeartbeats 16000000
set_option linter.unusedSimpArgs false
namespace Go.Proofs.YtnckmcnffadjoaaGreatDoor
open Go.Proofs.Tryz
open Go.RowKit
variable {base n c:Nat} {w w':World} {ss:List aj} {v:Value} {gs:List (aP bE)} {S:dC} {x:aX} {p:aX->Bool} {l:cZ}
theorem Strs.pop{a:Addr}{x:aj}(h:Strs base w (.slice (some a) n c) (ss++[x])):Strs base w (.slice (some a) ss.length c) ss:=by
 obtain⟨h1,h2⟩:=h;rcases h2 with ⟨hv,_⟩|⟨g,cap,cur,hv,hg,hh,h3,h4,h5,h6⟩
 ·cases hv
 ·cases hv;refine⟨aR,Or.inr ⟨g,c,cur,rfl,hg,hh,?_,h4,h5,?_⟩⟩
  ·simp at h3;omega
  ·have e:(cur.toList.take (ss.length*1))=(cur.toList.take ((ss++[x]).length*1)).take ss.length:=by
    rw[kz];congr 1;simp
   rw[e,h6];simp
theorem Strs.UU(h:Strs base w (.slice none n c) ss):ss=[]:=by
 rcases h.2 with ⟨_,hn⟩|⟨g,cap,cur,hq,_⟩
 ·exact cj hn
 ·cases hq
theorem Strs.cap{base:Nat}{w:World}{a:eV}{n c:Nat}{ss:List aj}(h:Strs base w (.slice a n c) ss):ss.length<=c:=by
 rcases h.2 with ⟨hq,hn⟩|⟨g,cap,cur,hq,_,_,h3,_⟩
 ·rw[hn];exact aQ _
 ·cases hq;exact h3
theorem Rj{α:Type}{l:List α}{k:Nat}{x:α}(h:l[k]?=some x):l.drop k=x :: l.drop (k+1):=by
 obtain⟨hk,e⟩:=List.getElem?_eq_some_iff.1 h;rw[cU hk,e]
theorem nV(l:List (aI))(p:aI):dU (l++[p])=dU l++[⟨p.toArray⟩]:=by unfold dU;simp
theorem fy(l:List (aI)):(dU l).length=l.length:=by unfold dU;simp
theorem zx(c:UInt8):∀l:aI,(ec c l).length<=l.length+1
 |[]=>by simp[ec]
 |x :: l=>by
  have ih:=zx c l;have hne:=wP c l;by_cases h:x=c
  ·subst h;rw[rB];simp;omega
  ·cases e:ec c l with
   |nil=>exact absurd e hne
   |cons p ps=>rw[oa h e];rw[e]at ih;simp at ih ⊢; omega
theorem DJ{l:List (aI)}(h:Strs base w (.slice none n c) (dU l)):l.length=0:=by
 rw[<-fy l,Strs.UU h];rfl
theorem UW(l:List (aI))(p:aI)(last:Bool):(ik l p last).length<=l.length+1:=by
 have hp:(yW l).length<=l.length:=by unfold yW;split<;>simp
 unfold ik;split
 ·split<;>simp<;>omega
 ·split
  ·split<;>simp
  ·simp
theorem join_eq(l:List (aI)):Lib.join ((dU l).map (·.data.toList)) [47]=vE 47 l:=by
 have e:(dU l).map (·.data.toList)=l:=by unfold dU;rw[iq];simp[Function.comp_def]
 rw[e]
 induction l with
 |nil=>rfl
 |cons p ps ih =>
  cases ps with
  |nil=>simp[Lib.join,vE]
  |cons q qs =>
   have ih':=ih (by unfold dU;rw[iq];simp[Function.comp_def]);rw[vE, <-ih'];simp[Lib.join]
theorem Rk(v:Value)(l:List (aI))(w:World)(hv:fP w v (dU l))(hn:l.length<=140737488355328)(hlen:(vE 47 l).length<=140737488355328) :
  aB 207 #[v,.string ⟨#[47]⟩] w fun e w'=>e=.returned (.string ⟨(vE 47 l).toArray⟩)/\Fr aS w w':=by
 have ej:=join_eq l;rcases hv with ⟨a,c,rfl,hs,_⟩|⟨bk,o,c,rfl,h1,h2,h3,h4⟩
 ·have hl:l=[]:=by cases l with|nil=>rfl|cons p ps=>simp[dU]at hs
  subst hl;exact(strings_Join_none _ _ _ _).mono (by rintro e w1 ⟨rfl,rfl⟩;exact⟨rfl,ae _ _⟩)
 ·refine(strings_Join bk o c (dU l) ⟨#[47]⟩ w h4 h3 (by rw[fy];exact hn) h1 (by show(Lib.join _ [47]).length<=_;rw[ej];exact hlen)).mono ?_;rintro e w1⟨rfl,hb⟩;refine⟨?_,fk hb⟩;show Ending.returned (.string ⟨(Lib.join _ [47]).toArray⟩)=_;rw[ej]
def ahX(s:aI)(base:Nat)(w1:World)(parts:List (aI))(v i:Value)(wr:World):Prop :=
 ∃(k:Nat) (l:List (aI)),k<=parts.length/\i=.int .i64 k/\Strs base wr v (dU l)/\l.length<=k/\pS l (parts.drop k)=mD s/\Fr aS w1 wr
theorem Rl(s:aj):∃t:aj,t.data.toList=BI s.data.toList/\t.size<=s.size+1/\(Lib.hasPrefix s.data.toList [47]=true->t=s)/\(Lib.hasPrefix s.data.toList [47]=false->t=⟨#[47]⟩++s):=by
 have hp:Lib.hasPrefix s.data.toList [47]=true↔s.data.toList.head?=some 47:=by
  cases h:s.data.toList with
  |nil=>simp[Lib.hasPrefix]
  |cons a l=>simp[Lib.hasPrefix];exact eq_comm
 cases h:Lib.hasPrefix s.data.toList [47]
 ·have h1:(⟨#[47]⟩:aj).size=1:=rfl;refine⟨⟨#[47]⟩++s,?_,by rw[je,h1];omega,(fun e=>by cases e),fun _=>rfl⟩;unfold BI;rw[aq (fun e=>by rw[hp.2 e]at h;cases h)];simp
 ·refine⟨s,?_,ab,fun _=>rfl,(fun e=>by cases e)⟩;unfold BI;rw[az (hp.1 h)]
theorem Rm(s:aI):(BI s).length<=s.length+1:=by unfold BI;split<;>simp
theorem join_le(c:UInt8):∀ps:List (aI),(vE c ps).length<=(ps.map fun p=>p.length+1).sum
 |[]=>by simp[vE]
 |[p]=>by simp[vE]
 |p :: q :: ps=>by
  have ih:=join_le c (q :: ps);rw[vE];simp at ih ⊢;omega
theorem KQ(f:aI->Nat):∀l:List (aI),((l.dropLast).map f).sum<=(l.map f).sum
 |[]=>aR
 |[p]=>aR
 |p :: q :: ps=>by
  have ih:=KQ f (q :: ps);rw[List.dropLast_cons_of_ne_nil aR];simp at ih ⊢;omega
theorem UX:∀(ps l:List (aI)),((pS l ps).map fun p=>p.length+1).sum<=(l.map fun p=>p.length+1).sum+(ps.map fun p=>p.length+1).sum
 |[],l=>by simp[pS]
 |p :: ps,l=>by
  have ih:=UX ps (ik l p ps.isEmpty);have au0:((yW l).map fun p=>p.length+1).sum<=(l.map fun p=>p.length+1).sum:=by
   unfold yW;split
   ·exact KQ _ l
   ·exact ay _
  have ir:((ik l p ps.isEmpty).map fun p=>p.length+1).sum<=(l.map fun p=>p.length+1).sum+(p.length+1):=by
   unfold ik;split
   ·split
    ·simp only[bG,List.sum_append,cE,dt,List.sum_cons,List.sum_nil,List.length_nil];omega
    ·omega
   ·split
    ·split
     ·simp only[bG,List.sum_append,cE,dt,List.sum_cons,List.sum_nil,List.length_nil];omega
     ·omega
    ·simp only[bG,List.sum_append,cE,dt,List.sum_cons,List.sum_nil];omega
  show((pS (ik l p ps.isEmpty) ps).map fun p=>p.length+1).sum<=_;simp at ih ir ⊢;omega
theorem AX(c:UInt8):∀l:aI,((ec c l).map fun p=>p.length+1).sum<=l.length+1
 |[]=>by simp[ec]
 |x :: l=>by
  have ih:=AX c l;have hne:=wP c l;by_cases h:x=c
  ·subst h;rw[rB];simp at ih ⊢; omega
  ·cases e:ec c l with
   |nil=>exact absurd e hne
   |cons p ps=>rw[oa h e];rw[e]at ih;simp at ih ⊢; omega
theorem Rn(s:aI):(oJ s).length<=s.length+2:=by
 have h1:=join_le 47 (mD s);have h2:=UX (ec 47 (BI s)) [];have h3:=AX 47 (BI s);have h4:=Rm s;unfold oJ;unfold mD at h1 ⊢;simp at h1 h2 h3 h4 ⊢;omega
theorem Ro(s:aj)(w:World)(hs:s.size<100000) :
  aB 178 #[.string s] w fun e w'=>e=.returned (.string ⟨(oJ s.data.toList).toArray⟩)/\Fr aS w w':=by
 obtain⟨t,ht,XT,Tq,Pv⟩:=Rl s;obtain⟨parts,DK⟩:∃parts,parts=ec 47 t.data.toList:=⟨_,rfl⟩;have EN:parts.length<=100001:=by rw[DK];have:=zx 47 t.data.toList;simp at this;omega
 have X2:ja 47 t=dU parts:=by rw[DK];rfl
 have HGO:=O (show pS [] parts=mD s.data.toList by rw[DK,ht];rfl);have Ff:=O (show(oJ s.data.toList).length<=140737488355328 by have:=Rn s.data.toList;simp at this;omega);obtain⟨W,hW⟩:∃W,W=w.alloc (.cells ((ja 47 t).map Value.string).toArray 9):=⟨_,rfl⟩;have hfW:Fr aS w W:=by rw[hW];exact(ae aS w).alloc _
 have hzW:W.heap.size=w.heap.size+1:=by rw[hW];simp
 have lY:W.heap[w.heap.size]?=some (.cells ((ja 47 t).map Value.string).toArray 9 (0,0)):=by rw[hW];exact aC _ _
 have xN:=O ((yf t 47 w ab).mono (fun e w' h=>by rw[<-hW,X2,fy]at h;exact⟨h.1,h.2.symm⟩):aB 125 #[.string t,.string ⟨#[47]⟩] w fun e w'=>e=.returned (.slice (some ⟨w.heap.size,0,none⟩) parts.length parts.length)/\W=w');rw[X2]at lY;clear hW X2;have ahY:=O (show∀U,Fr aS W U->∀(k:Nat) p,parts[k]?=some p->U.cell? ⟨w.heap.size,k,none⟩=some (.string ⟨p.toArray⟩)from fun U hU k p hp=>by
  have:=hU.keep lY id;simp[World.cell?,this,dU,hp])
 clear lY;have UY:∀(v:Value) (wr:World) (l:List (aI)),Strs (w.heap.size+1) wr v (dU l)->l.length<=100001->l=mD s.data.toList->Fr aS W wr ->
   aB 207 #[v,.string ⟨#[47]⟩] wr fun e w'=>e=.returned (.string ⟨(oJ s.data.toList).toArray⟩)/\Fr aS w w':=fun v wr l hv hl e hf=>by
  have:=(Rk v l wr hv.at ab (by rw[e];exact Ff.o)).mono (R':=fun e w'=>e=.returned (.string ⟨(oJ s.data.toList).toArray⟩)/\Fr aS w w') (fun e' w' ⟨h1,h2⟩=>⟨by rw[h1,e];rfl,(hfW.trans hf).trans h2⟩);exact this
 have UY:=O UY;have ahZ:=O (show aB 177 #[.string s,.string ⟨#[47]⟩] w fun e w'=>e=.returned (.bool (Lib.hasPrefix s.data.toList (⟨#[47]⟩:aj).data.toList))/\w=w' from(strings_HasPrefix s ⟨#[47]⟩ w).mono fun e w' h=>⟨h.1,h.2.symm⟩);cases vp:Lib.hasPrefix s.data.toList [47]
 case' false =>
  have e:=Pv vp;have UZ:=xN.o;rw[e]at UZ;clear Tq Pv ht e DK;go_enter func178,ntmps178;go_wp2_with fail
  refine ahZ.o.mono ?_;rintro e u⟨rfl,rfl⟩;rw[show Lib.hasPrefix s.data.toList (⟨#[47]⟩:aj).data.toList=false from vp];go_wp2_with fail
  refine UZ.mono ?_;rintro e u⟨rfl,rfl⟩
 case' true =>
  have e:=Tq vp;have UZ:=xN.o;rw[e]at UZ;clear Tq Pv ht e DK;go_enter func178,ntmps178;go_wp2_with fail
  refine ahZ.o.mono ?_;rintro e u⟨rfl,rfl⟩;rw[show Lib.hasPrefix s.data.toList (⟨#[47]⟩:aj).data.toList=true from vp];go_wp2_with fail
  refine UZ.mono ?_;rintro e u⟨rfl,rfl⟩
 all_goals
  go_wp2;go_loopw[3,17] (ahX s.data.toList (w.heap.size+1) W parts) (fun _ i _=>parts.length-(intOf i).toNat)
  case atStart=>exact⟨0,[],aQ _,rfl,kU _ _,ay _,by rw[eG];exact HGO.o,ae _ _⟩
  case round =>
   obtain⟨k,l,hk,rfl,hv,hlk,hgo,cL⟩:=hrel;have HG:=O hgo;clear hgo;obtain⟨av,cv,KS⟩:=hv.form;rw[fy]at KS;subst KS;have Cf:w.heap.size+1<=wr.heap.size:=by have:=cL.size;omega
   by_cases fo:k<parts.length
   ·have pq:(k:Int)<(parts.length:Int):=ab;obtain⟨p,hp⟩:∃p,parts[k]?=some p:=⟨_,List.getElem?_eq_getElem fo⟩;have hcell:=ahY.o wr cL k p hp;have Tt:=O (show pS l (parts.drop k)=pS (ik l p (parts.drop (k+1)).isEmpty) (parts.drop (k+1))by rw[Rj hp];rfl);clear hp;have CG:(⟨p.toArray⟩:aj).toList=p:=by rw[aO]
    obtain⟨pb,X2⟩:∃pb:aj,pb=⟨p.toArray⟩:=⟨_,rfl⟩;rw[<-X2]at hcell CG;have HPB:=O X2;clear X2;have Fg:=O (show∀(l':List (aI)),l'=ik l p (parts.drop (k+1)).isEmpty->l'.length<=k+1/\pS l' (parts.drop (k+1))=mD s.data.toList from fun l' e=>by
     have:=UW l p (parts.drop (k+1)).isEmpty;rw[e];exact⟨ab,by rw[<-Tt.o];exact HG.o⟩)
    by_cases hla:k+1=parts.length
    ·have HE:=O (show(parts.drop (k+1)).isEmpty=true by rw[hla];simp);have hl1:((k:Int)==(parts.length:Int)-1)=true:=dW.2 ab;clear hla;by_cases sI:p=T'
     ·subst sI;have EN:pb.toList=[46,46]:=CG;clear CG;by_cases hlen:1<l.length
      ·have hli:(1:Int)<(l.length:Int):=ab;obtain⟨l0,x,Tu⟩:∃l0 x,l=l0++[x]:=⟨l.dropLast,l.getLast (by intro e;rw[e]at hlen;simp at hlen),(List.dropLast_concat_getLast _).symm⟩;have hll:l.length=l0.length+1:=by rw[Tu];simp
       obtain⟨ad,had⟩:∃ad,av=some ad:=by
        cases av with
        |none=>exact absurd (DJ hv) ab
        |some ad=>exact⟨ad,rfl⟩
       subst had;have NB:=O (show yW l=l0 by unfold yW;rw[az hlen,Tu];simp);rw[Tu,nV]at hv;rw[hll];rw[show(l0++[x]).length=(dU l0).length+1 from by rw[fy];simp]at hv;replace hv:=Strs.pop hv;rw[fy]at hv;have q1:(0:Int)<=(l0.length:Int):=ab;have q4:(l0.length:Int)<=(cv:Int):=by have:=Strs.cap hv;rw[fy]at this;omega
       have q5:l0.length<=cv:=ab;have q2:(1:Int)<(l0.length:Int)+1:=ab;have q3:(l0.length:Int)+1-1=(l0.length:Int):=ab;clear hli Tu;have HX:=O (Fg.o (l0++[[]]) (by unfold ik;rw[az rfl,HE.o,NB.o];rfl))
       go_wp2_with (at_builtin;refine nO rfl _ _ rfl (w.heap.size+1) (.slice (some ad) _ cv) (dU l0) rfl (by apply iG;exact hv) ⟨wr.heap.size,0,none⟩ 1 ⟨#[]⟩ rfl (jw _ _ _ _) (by rw[fy];omega) bI ?_;intro v2 w3 BD Cw)
       have iA:=O ((cL.alloc (.cells #[.string ⟨#[]⟩] 9)).fR Cw (fun j hj=>by have:=hv.block j hj;omega));go_roundw
       case rel=>exact⟨k+1,l0++[[]],ab,bg,by rw[nV];exact BD,(HX.o).1,(HX.o).2,iA.o⟩
       case measure=>simp[intOf];omega
      ·have hli:¬(1:Int)<(l.length:Int):=ab;have NB:=O (show yW l=l by unfold yW;rw[aq hlen]);have HX:=O (Fg.o (l++[[]]) (by unfold ik;rw[az rfl,HE.o,NB.o];rfl));go_wp2_with (at_builtin;refine nO rfl _ _ rfl (w.heap.size+1) (.slice av _ cv) (dU l) rfl (by apply iG;exact hv) ⟨wr.heap.size,0,none⟩ 1 ⟨#[]⟩ rfl (jw _ _ _ _) (by rw[fy];omega) bI ?_;intro v2 w3 BD Cw)
       have iA:=O ((cL.alloc (.cells #[.string ⟨#[]⟩] 9)).fR Cw (fun j hj=>by have:=hv.block j hj;omega));go_roundw
       case rel=>exact⟨k+1,l++[[]],ab,bg,by rw[nV];exact BD,(HX.o).1,(HX.o).2,iA.o⟩
       case measure=>simp[intOf];omega
     ·have adH:¬pb.toList=[46,46]:=fun e=>sI (CG.symm.trans e);have an4:(pb.toList== [46,46])=false:=aL.2 adH;by_cases yS:p=ac3
      ·subst yS;have EN:pb.toList=[46]:=CG;clear CG;have HX:=O (Fg.o (l++[[]]) (by unfold ik;rw[aq sI,az rfl,HE.o];rfl));clear sI;go_wp2_with (at_builtin;refine nO rfl _ _ rfl (w.heap.size+1) (.slice av _ cv) (dU l) rfl (by apply iG;exact hv) ⟨wr.heap.size,0,none⟩ 1 ⟨#[]⟩ rfl (jw _ _ _ _) (by rw[fy];omega) bI ?_;intro v2 w3 BD Cw)
       have iA:=O ((cL.alloc (.cells #[.string ⟨#[]⟩] 9)).fR Cw (fun j hj=>by have:=hv.block j hj;omega));go_roundw
       case rel=>exact⟨k+1,l++[[]],ab,bg,by rw[nV];exact BD,(HX.o).1,(HX.o).2,iA.o⟩
       case measure=>simp[intOf];omega
      ·have adI:¬pb.toList=[46]:=fun e=>yS (CG.symm.trans e);have an5:(pb.toList== [46])=false:=aL.2 adI;have HX:=O (Fg.o (l++[p]) (by unfold ik;rw[aq sI,aq yS]));clear sI yS CG;go_wp2_with (at_builtin;refine nO rfl _ _ rfl (w.heap.size+1) (.slice av _ cv) (dU l) rfl (by apply iG;exact hv) ⟨wr.heap.size,0,none⟩ 1 pb rfl (jw _ _ _ _) (by rw[fy];omega) bI ?_;intro v2 w3 BD Cw)
       have iA:=O ((cL.alloc (.cells #[.string pb] 9)).fR Cw (fun j hj=>by have:=hv.block j hj;omega));go_roundw
       case rel=>exact⟨k+1,l++[p],ab,bg,by rw[nV, <-HPB.o];exact BD,(HX.o).1,(HX.o).2,iA.o⟩
       case measure=>simp[intOf];omega
    ·have HE:=O (show(parts.drop (k+1)).isEmpty=false by
      cases e:parts.drop (k+1)with
      |nil=>have:=ar List.length e;simp at this;omega
      |cons a b=>rfl)
     have hl1:((k:Int)==(parts.length:Int)-1)=false:=aL.2 ab;by_cases sI:p=T'
     ·subst sI;have EN:pb.toList=[46,46]:=CG;clear CG;by_cases hlen:1<l.length
      ·have hli:(1:Int)<(l.length:Int):=ab;obtain⟨l0,x,Tu⟩:∃l0 x,l=l0++[x]:=⟨l.dropLast,l.getLast (by intro e;rw[e]at hlen;simp at hlen),(List.dropLast_concat_getLast _).symm⟩;have hll:l.length=l0.length+1:=by rw[Tu];simp
       obtain⟨ad,had⟩:∃ad,av=some ad:=by
        cases av with
        |none=>exact absurd (DJ hv) ab
        |some ad=>exact⟨ad,rfl⟩
       subst had;have NB:=O (show yW l=l0 by unfold yW;rw[az hlen,Tu];simp);rw[Tu,nV]at hv;rw[hll];rw[show(l0++[x]).length=(dU l0).length+1 from by rw[fy];simp]at hv;replace hv:=Strs.pop hv;rw[fy]at hv;have q1:(0:Int)<=(l0.length:Int):=ab;have q4:(l0.length:Int)<=(cv:Int):=by have:=Strs.cap hv;rw[fy]at this;omega
       have q5:l0.length<=cv:=ab;have q2:(1:Int)<(l0.length:Int)+1:=ab;have q3:(l0.length:Int)+1-1=(l0.length:Int):=ab;clear hli Tu;have HX:=O (Fg.o (l0) (by unfold ik;rw[az rfl,HE.o,NB.o];rfl));go_wp2;go_roundw
       case rel=>exact⟨k+1,l0,ab,bg,hv,(HX.o).1,(HX.o).2,cL⟩
       case measure=>simp[intOf];omega
      ·have hli:¬(1:Int)<(l.length:Int):=ab;have NB:=O (show yW l=l by unfold yW;rw[aq hlen]);have HX:=O (Fg.o (l) (by unfold ik;rw[az rfl,HE.o,NB.o];rfl));go_wp2;go_roundw
       case rel=>exact⟨k+1,l,ab,bg,hv,(HX.o).1,(HX.o).2,cL⟩
       case measure=>simp[intOf];omega
     ·have adH:¬pb.toList=[46,46]:=fun e=>sI (CG.symm.trans e);have an4:(pb.toList== [46,46])=false:=aL.2 adH;by_cases yS:p=ac3
      ·subst yS;have EN:pb.toList=[46]:=CG;clear CG;have HX:=O (Fg.o (l) (by unfold ik;rw[aq sI,az rfl,HE.o];rfl));clear sI;go_wp2;go_roundw
       case rel=>exact⟨k+1,l,ab,bg,hv,(HX.o).1,(HX.o).2,cL⟩
       case measure=>simp[intOf];omega
      ·have adI:¬pb.toList=[46]:=fun e=>yS (CG.symm.trans e);have an5:(pb.toList== [46])=false:=aL.2 adI;have HX:=O (Fg.o (l++[p]) (by unfold ik;rw[aq sI,aq yS]));clear sI yS CG;go_wp2_with (at_builtin;refine nO rfl _ _ rfl (w.heap.size+1) (.slice av _ cv) (dU l) rfl (by apply iG;exact hv) ⟨wr.heap.size,0,none⟩ 1 pb rfl (jw _ _ _ _) (by rw[fy];omega) bI ?_;intro v2 w3 BD Cw)
       have iA:=O ((cL.alloc (.cells #[.string pb] 9)).fR Cw (fun j hj=>by have:=hv.block j hj;omega));go_roundw
       case rel=>exact⟨k+1,l++[p],ab,bg,by rw[nV, <-HPB.o];exact BD,(HX.o).1,(HX.o).2,iA.o⟩
       case measure=>simp[intOf];omega
   ·have pq:¬(k:Int)<(parts.length:Int):=ab;have he:l=mD s.data.toList:=by
     have:=HG.o;rw[List.drop_of_length_le ab]at this;exact this
    have hj:=O (UY.o _ wr l hv ab he cL);clear he;go_wp2_with fail
    refine hj.o.mono ?_;rintro e w9⟨rfl,Ts⟩;go_wp2;go_ret;exact⟨rfl,Ts⟩
def gi(base:Nat)(w:World)(v:Value)(gs:List (aP bE)):Prop :=
 ∃rs:List (aP Value),OwnRows base 114 16 w v (rs.map aP.cells)/\lg (aP.Reads (dv base w)) rs gs
theorem gi.fr(h:gi base w v gs)(hf:Fr S w w')(ho:rY base w S)(hn:∀k,v.ownBlock=some k->¬S k):gi base w' v gs:=by
 obtain⟨rs,h1,h2⟩:=h;exact⟨rs,h1.fr hf hn,h2.mono (fun _ _ h=>h.mono (fun _ _ h=>h.fr hf ho))⟩
theorem gi.form(h:gi base w v gs):∃a c,v=.slice a gs.length c:=by
 obtain⟨rs,h1,h2⟩:=h;obtain⟨a,c,hv⟩:=h1.form;exact⟨a,c,by rw[hv,ai,h2.len]⟩
def Zv(base:Nat)(w:World)(b:Nat)(o:Nat)(g:aP bE):Prop :=
 ∃r:aP Value,(∀u∈r.cells,u.oneCell'=true)/\r.Reads (dv base w) g/\∀(i:Nat) u,r.cells[i]?=some u->w.cell? ⟨b,o+i,none⟩=some u
theorem gi.at{base:Nat}{w:World}{v:Value}{gs:List (aP bE)}(h:gi base w v gs){k:Nat}(hk:k<gs.length) :
  ∃b c,v=.slice (some ⟨b,0,none⟩) gs.length c/\gs.length<=maxLen/\Zv base w b (k*16) gs[k]:=by
 obtain⟨rs,h1,h2⟩:=h;have hl:=h2.len;obtain⟨x,hx⟩:∃x,rs[k]?=some x:=⟨_,List.getElem?_eq_getElem ab⟩;obtain⟨g,hg,hr⟩:=h2.get hx;rw[List.getElem?_eq_getElem hk]at hg;obtain rfl:=j8 hg;have dT:=h1.at;rcases h1.2.2 with ⟨_,hn⟩|⟨bk,cap,cur,hv,_⟩
 ·rw[ai]at hn;omega
 rcases dT.2 with ⟨_,_,e1,e,_⟩|⟨Jy,o,c,se,q1,q2,q3,q4⟩
 ·simp at e;rw[e]at hl;simp at hl;omega
 ·rw[hv]at se;cases se;rw[ai]at q1;refine⟨bk,cap,by rw[hv,ai,hl],ab,x,(h1.1 x.cells (b_.2 ⟨x,cq hx,rfl⟩)).2,hr,?_⟩;intro i u hu;have:=q4 k x.cells (by rw[List.getElem?_map,hx];rfl) i u hu;rw[bw]at this;exact this
structure bJ (D:Type) where
 o:gA
 proxy:Bool
 path:aj
 a:fK D
def bJ.cells(g:bJ Value):aX :=
 [.bool g.o.aE,.string g.o.host,.int .i64 g.o.port,.bool g.proxy,.string g.path,
  .int .i64 g.a.scheme,.string g.a.aK,.string g.a.bq,.string g.a.cy,.bool g.a.cA,.string g.a.eH,.bool g.a.cN,g.a.dom]
def bJ.Reads(R:Value->List aj->Prop)(r:bJ Value)(g:bJ (List aj)):Prop :=
 r.o=g.o/\r.proxy=g.proxy/\r.path=g.path/\r.a.Reads R g.a
theorem bJ.Reads.mono{R S:Value->List aj->Prop}{r:bJ Value}{g:bJ (List aj)}(h:r.Reads R g)(hs:∀v l,R v l->S v l):r.Reads S g :=
 ⟨h.1,h.2.1,h.2.2.1,h.2.2.2.mono hs⟩
def ki(base:Nat)(w:World)(v:Value)(gs:List (bJ bE)):Prop :=
 ∃rs:List (bJ Value),OwnRows base 133 13 w v (rs.map bJ.cells)/\lg (bJ.Reads (dv base w)) rs gs
theorem ki.fr{gs:List (bJ bE)}(h:ki base w v gs)(hf:Fr S w w')(ho:rY base w S)(hn:∀k,v.ownBlock=some k->¬S k):ki base w' v gs:=by
 obtain⟨rs,h1,h2⟩:=h;exact⟨rs,h1.fr hf hn,h2.mono (fun _ _ h=>h.mono (fun _ _ h=>h.fr hf ho))⟩
theorem ki.form{gs:List (bJ bE)}(h:ki base w v gs):∃a c,v=.slice a gs.length c:=by
 obtain⟨rs,h1,h2⟩:=h;obtain⟨a,c,hv⟩:=h1.form;exact⟨a,c,by rw[hv,ai,h2.len]⟩
structure dE (base:Nat) (w:World) (b:Nat) (gv wv:Value) (gs:List (aP bE)) (ws:List (bJ bE)):Prop where
 low:base<=b
 eL:w.heap[b]?=some (.cells #[gv,wv] 89 (0,0))
 bH:gi base w gv gs
 waits:ki base w wv ws
section
variable {base : Nat} {w w' : World} {b : Nat} {gv wv : Value} {gs : List (aP bE)} {ws : List (bJ bE)}
theorem dE.lt(h:dE base w b gv wv gs ws):b<w.heap.size:=bj h.eL
theorem dE.c0(h:dE base w b gv wv gs ws):w.cell? ⟨b,0,none⟩=some gv:=by simp[World.cell?,h.eL]
theorem dE.c1(h:dE base w b gv wv gs ws):w.cell? ⟨b,1,none⟩=some wv:=by simp[World.cell?,h.eL]
theorem dE.free(h:dE base w b gv wv gs ws)(k:Nat):w.frozen? ⟨b,k,none⟩=false:=by simp[World.frozen?,h.eL]
theorem dE.fr(h:dE base w b gv wv gs ws)(hf:Fr S w w')(ho:rY base w S)(hb:¬S b)(h1:∀k,gv.ownBlock=some k->¬S k)(h2:∀k,wv.ownBlock=some k->¬S k):dE base w' b gv wv gs ws :=
 ⟨h.low,hf.keep h.eL hb,h.bH.fr hf ho h1,h.waits.fr hf ho h2⟩
theorem dE.dm(h:dE base w b gv wv gs ws)(hf:Fr aS w w'):dE base w' b gv wv gs ws:=h.fr hf (fE _ _) id (fun _ _ h=>h) (fun _ _ h=>h)
end
abbrev eS:bS:= #[.bool false,.string ⟨#[]⟩,.int .i64 0,.bool false,.string ⟨#[]⟩,.string ⟨#[]⟩,.int .i64 0,.string ⟨#[]⟩,.string ⟨#[]⟩,.string ⟨#[]⟩,.bool false,.string ⟨#[]⟩,.bool false,.slice none 0 0,.int .i64 0,.slice none 0 0]
def oU{α:Type}(f:α->Int):List α->Nat->Int×Int->Int×Int
 |[],_,acc=>acc
 |g :: l,i,acc=>oU f l (i+1) (if 0<=f g/\acc.1<=f g then(f g,(i:Int))else acc)
theorem DM{α:Type}(f:α->Int):∀(l:List α) (i:Nat) (acc:Int×Int) (x:α),
  oU f (l++[x]) i acc=(if 0<=f x/\(oU f l i acc).1<=f x then(f x,((i+l.length:Nat):Int))else oU f l i acc)
 |[],i,acc,x=>by simp only[List.nil_append,oU,List.length_nil,Nat.add_zero];rfl
 |g :: l,i,acc,x=>by
  rw[List.cons_append,oU,DM f l (i+1) _ x,oU];simp only[List.length_cons,show i+1+l.length=i+(l.length+1)from ab]
def pO(o:gA)(proxy:Bool)(path:aj)(g:aP bE):Int:=uD g.o g.proxy g.paths o proxy path
def tW(gs:List (aP bE))(o:gA)(proxy:Bool)(path:aj):Int:=(oU (pO o proxy path) gs 0 (-1, -1)).2
def Zw(w:World)(gs:List (aP bE))(o:gA)(proxy:Bool)(path:aj)(an9 at_ i:Value)(wr:World):Prop :=
 ∃k:Nat,k<=gs.length/\i=.int .i64 k/\an9=.int .i64 (oU (pO o proxy path) (gs.take k) 0 (-1, -1)).1/\at_=.int .i64 (oU (pO o proxy path) (gs.take k) 0 (-1, -1)).2/\Fr aS w wr
theorem U8(base:Nat)(w:World)(b:Nat)(gv wv:Value)(gs:List (aP bE))(ws:List (bJ bE))(o:gA)(proxy:Bool)(path:aj)(h:dE base w b gv wv gs ws) :
  aB 94 #[.pointer (some ⟨b,0,none⟩),.agg o.cells.toArray,.bool proxy,.string path] w fun e w'=>e=.returned (.int .i64 (tW gs o proxy path))/\Fr aS w w':=by
 unfold gA.cells;have h0:=h.c0;obtain⟨av,cv,hv⟩:=h.bH.form;subst hv;have uf:=h.lt;go_enter func94,ntmps94;go_wp2;clear h0;have pd:Fr aS w (w.alloc (.cells #[.bool o.aE,.string o.host,.int .i64 o.port] 32)):=(ae aS w).alloc _;have hO:(w.alloc (.cells #[.bool o.aE,.string o.host,.int .i64 o.port] 32)).heap[w.heap.size]?=some (.cells #[.bool o.aE,.string o.host,.int .i64 o.port] 32 (0,0)):=aC w _
 have h1:=h.dm pd;generalize w.alloc (.cells #[.bool o.aE,.string o.host,.int .i64 o.port] 32)=W at pd hO h1;go_loopw[9,10,19] (Zw W gs o proxy path) (fun _ _ i _=>gs.length-(intOf i).toNat)
 case atStart=>exact⟨0,aQ _,rfl,rfl,rfl,ae _ _⟩
 case round =>
  obtain⟨k,hk,rfl,rfl,rfl,cL⟩:=hrel;by_cases fo:k<gs.length
  ·obtain⟨bk,c,dr,sN,r,eb,hr,hcell⟩:=(h1.dm cL).bH.at fo;cases dr;unfold maxLen at sN;have hO2:=cL.keep hO id;obtain⟨x,hx⟩:∃x,x=r.cells:=⟨_,rfl⟩;have lB:x.length=16:=by rw[hx];rfl
   have ir:=fun W=>run_storeCells_new (P:=prog) W 114 #[.bool false,.string ⟨#[]⟩,.int .i64 0,.bool false,.string ⟨#[]⟩,.string ⟨#[]⟩,.int .i64 0,.string ⟨#[]⟩,.string ⟨#[]⟩,.string ⟨#[]⟩,.bool false,.string ⟨#[]⟩,.bool false,.slice none 0 0,.int .i64 0,.slice none 0 0] x (by rw[lB];rfl) (by rw[hx];exact eb);rw[<-hx]at hcell;have HX:=O hx
   have DN:(prog.info? 114).map (·.size)=some x.toArray.size:=by rw[aZ,lB];kernel_rfl
   have Iq:=O DN;clear hx DN;have hO3:(wr.alloc (.cells x.toArray 114)).heap[w.heap.size]?=some (.cells #[.bool o.aE,.string o.host,.int .i64 o.port] 32 (0,0)):=by rw[Below.heap_alloc _ _ _ (bj hO2)];exact hO2
   have HO3:=O hO3;clear hO3 hO2
   go_wp2_with (first|((with_reducible refine di 23 ?_);refine a_ rfl 114 (.tmp 22) rfl bk (k*16) rfl x _ hcell underlying114 rfl (by have h:=Iq.o;rw[aZ]at h;exact h) ?_)|((with_reducible refine di 24 ?_);refine aH rfl 114 (.tmp 12) rfl wr.heap.size rfl _ x.toArray (0,0) _ (aC wr _) underlying114 rfl Iq.o ?_)|((with_reducible refine di 25 ?_);refine aH rfl 32 (.tmp 5) rfl w.heap.size rfl _ _ (0,0) _ HO3.o underlying32 rfl af ?_)|fail)
   have gS:Fr aS wr (wr.alloc (.cells x.toArray 114)):=(ae aS wr).alloc _;have hps:=(hr.2.2.2.2.2.2.dm gS).rd;have hre:=O (show uD r.o r.proxy gs[k].paths o proxy path=pO o proxy path gs[k]by unfold pO;rw[hr.1,hr.2.1]);have dT:=List.getElem?_eq_getElem fo;have Jp:=O (show oU (pO o proxy path) (gs.take (k+1)) 0 (-1, -1)=_ by rw[dZ dT,DM,aM,dP hk,bw]);have tA:=(cL.trans gS)
   have fD:=O (Rr r o proxy path gs[k].paths _ hps);rw[<-HX.o]at fD;clear hr gS dT eb ir;generalize wr.alloc (.cells x.toArray 114)=W2 at *
   refine fD.o.mono ?_;rintro e w3⟨rfl,iz⟩;have iA:=tA.trans iz;rw[hre.o];clear hre fD hps hcell;generalize oU (pO o proxy path) (gs.take k) 0 (-1, -1)=acc at *
   generalize pO o proxy path gs[k]=n at *
   by_cases h0:0<=n
   ·by_cases Ir:acc.1<=n
    ·have hs:=O (show oU (pO o proxy path) (gs.take (k+1)) 0 (-1, -1)=(n,(k:Int))by rw[Jp.o,az ⟨h0,Ir⟩]);go_wp2;go_roundw
     case rel=>exact⟨k+1,ab,bg,by rw[hs.o],by rw[hs.o],iA⟩
     case measure=>simp[intOf];omega
    ·have hs:=O (show oU (pO o proxy path) (gs.take (k+1)) 0 (-1, -1)=acc by rw[Jp.o,aq (fun h=>Ir h.2)]);go_wp2;go_roundw
     case rel=>exact⟨k+1,ab,bg,by rw[hs.o],by rw[hs.o],iA⟩
     case measure=>simp[intOf];omega
   ·have hs:=O (show oU (pO o proxy path) (gs.take (k+1)) 0 (-1, -1)=acc by rw[Jp.o,aq (fun h=>h0 h.1)]);go_wp2;go_roundw
    case rel=>exact⟨k+1,ab,bg,by rw[hs.o],by rw[hs.o],iA⟩
    case measure=>simp[intOf];omega
  ·have hs:=O (show(oU (pO o proxy path) (gs.take k) 0 (-1, -1)).2=tW gs o proxy path by rw[aD ab];rfl);go_wp2;go_ret;exact⟨by rw[<-hs.o];rfl,pd.trans cL⟩
abbrev Zx:bS:= #[.bool false,.string ⟨#[]⟩,.int .i64 0,.bool false,.string ⟨#[]⟩,.string ⟨#[]⟩,.int .i64 0,.string ⟨#[]⟩,.string ⟨#[]⟩,.string ⟨#[]⟩,.bool false,.string ⟨#[]⟩,.bool false,.slice none 0 0,.int .i64 0,.slice none 0 0]
theorem P6:∀v∈Zx.toList,v.oneCell'=true:=du
theorem Iv(h:x.length=16):(prog.info? 114).map (·.size)=some x.length:=by rw[h];kernel_rfl
def adP(w:World)(p:aX->Bool)(xs:cZ)(i:Value)(wr:World):Prop :=
 ∃k:Nat,k<=xs.length/\i=.int .i64 k/\(xs.take k).any p=false/\Fr aS w wr
theorem zz(g:Nat)(cap:bS)(p:aX->Bool)(v:Value)(xs:cZ)(w:World)(eg:∀args w,(callFunc g args).run prog w=.ok (.enter g args) w)(hp:gP aS w g cap p xs)(hv:dY 16 w v xs) :
  aB 162 #[v,.func (.func g) #[] cap] w fun e w'=>e=.returned (.int .i64 (lU p xs 0))/\Fr aS w w':=by
 obtain⟨av,cv,fJ⟩:=hv.form;subst fJ;have eb:=O hv.1;go_enter func162,ntmps162;go_wp2;go_loopw[8] (adP w p xs) (fun i _=>xs.length-(intOf i).toNat)
 case atStart=>exact⟨0,aQ _,rfl,rfl,ae _ _⟩
 case round =>
  obtain⟨k,hk,rfl,hn,cL⟩:=hrel;have HN:=O hn;clear hn;by_cases fo:k<xs.length
  ·rcases(hv.fI cL).2 with ⟨_,_,_,e,_⟩|⟨bk,of,c,hf,h1,h2,h3,h4⟩
   ·rw[e]at fo;exact absurd fo (ct _)
   ·cases hf;unfold maxLen at h2;have dT:=O (List.getElem?_eq_getElem fo);have hcell:=h4 k _ dT.o;have iD:=O (bN fo);generalize xs[k]=x at dT hcell iD;have fD:=O (hp x iD.o wr cL);have lB:=(eb.o x iD.o).1;clear h4;cases qF:p x
    ·have qe:=O (any_take_succ dT.o HN.o qF);go_wp2_with (first|((with_reducible refine di 15 ?_);refine a_ rfl 114 (.tmp 14) rfl bk (of+k*16) rfl x _ hcell underlying114 rfl (Iv lB) ?_)|fail)
     refine fD.o.mono ?_;rintro e w1⟨rfl,dr⟩;rw[qF];go_wp2;go_roundw
     case rel=>exact⟨k+1,ab,bg,qe.o,cL.trans dr⟩
     case measure=>simp[intOf];omega
    ·have fg:=O (oT (i:=0) dT.o qF HN.o);go_wp2_with (first|((with_reducible refine di 15 ?_);refine a_ rfl 114 (.tmp 14) rfl bk (of+k*16) rfl x _ hcell underlying114 rfl (Iv lB) ?_)|fail)
     refine fD.o.mono ?_;rintro e w1⟨rfl,dr⟩;rw[qF];go_wp2;go_ret;rw[fg.o,bw];exact⟨rfl,cL.trans dr⟩
  ·have fg:=O (show lU p xs 0= -1 from kt (by have h:=HN.o;rw[aD ab]at h;exact h));go_wp2;go_ret;rw[fg.o];exact⟨rfl,cL⟩
def adQ(b:Nat)(w:World)(bk cap:Nat)(p:aX->Bool)(xs:cZ)(i j:Value)(wr:World):Prop :=
 ∃(m n:Nat) (ys:cZ),i=.int .i64 m/\j=.int .i64 n/\m<n/\n<=xs.length/\ys.length=xs.length/\OwnRows b 114 16 wr (.slice (some ⟨bk,0,none⟩) xs.length cap) ys /\
  ys.take m=(xs.take n).filter (fun x=>!p x)/\ys.drop n=xs.drop n/\Fr (one bk) w wr
theorem zA{p:aX->Bool}:∀ {l:cZ} (i:Nat),l.any p=true->∃k x,l[k]?=some x/\p x=true/\(l.take k).any p=false/\lU p l i=((i+k:Nat):Int)
 |[],_,h=>by simp at h
 |a :: l,i,h=>by
  cases ha:p a
  ·rw[List.any_cons,ha,jM]at h;obtain⟨k,x,h1,h2,h3,h4⟩:=zA (i+1) h;refine⟨k+1,x,by simpa using h1,h2,by simp[ha,h3],?_⟩;rw[lU,ha];simp only[cJ,eW];rw[h4];congr 1;omega
  ·exact⟨0,a,rfl,ha,rfl,by rw[lU,ha];simp⟩
theorem zB(h:l.any p=false):l.filter (fun x=>!p x)=l:=by
 rw[List.filter_eq_self];intro a ha;have:=eY.1 h a ha;simpa using this
theorem xA(b:Nat)(g:Nat)(cap:bS)(p:aX->Bool)(v:Value)(xs:cZ)(w:World)(eg:∀args w,(callFunc g args).run prog w=.ok (.enter g args) w)(hp:gP (own v) w g cap p xs)(hv:OwnRows b 114 16 w v xs) :
  aB 107 #[v,.func (.func g) #[] cap] w fun e w'=>∃a c,e=.returned (.slice a (xs.filter (fun x=>!p x)).length c)/\OwnRows b 114 16 w' (.slice a (xs.filter (fun x=>!p x)).length c) (xs.filter (fun x=>!p x))/\Fr (own v) w w'/\own (.slice a (xs.filter (fun x=>!p x)).length c)=own v:=by
 cases jk:xs.any p
 ·have rP:=O (kt (i:=0) jk);rw[zB jk];obtain⟨av,cv,fJ⟩:=hv.form;subst fJ;go_enter func107,ntmps107;go_wp2_with fail
  refine(zz g cap p _ xs w eg hp.none hv.at).mono ?_;rintro e w1⟨rfl,dr⟩;rw[rP.o];go_wp2;go_ret;exact⟨_,_,rfl,hv.fr dr (fun _ _ h=>h),dr.mono (fun _ _ h=>absurd h id),rfl⟩
 ·obtain⟨k0,x0,Ip,DU,vp,rP⟩:=zA 0 jk;rw[bw]at rP;have QV:=(List.getElem?_eq_some_iff.1 Ip).1;obtain⟨bk,cp,KS⟩:∃bk cp,v=.slice (some ⟨bk,0,none⟩) xs.length cp:=by
   rcases hv.2.2 with ⟨_,hn⟩|⟨bk,cp,cur,hv,_⟩
   ·omega
   ·exact⟨bk,cp,hv⟩
  subst KS;obtain⟨Cj,cur,se,q1,q2,q3,q4,q5,q6⟩:=hv.open (g:=bk) rfl;cases se;unfold maxLen at q4;have eb:=O hv.1;have DV:=O (show xs.take k0=(xs.take (k0+1)).filter (fun x=>!p x)by
   rw[dZ Ip,cG,zB vp];simp[DU])
  have HP:=O hp;have Zy:=O rP;clear jk vp Ip DU rP q2 q5 q6 hp;go_enter func107,ntmps107;go_wp2_with fail
  refine(zz g cap p _ xs w eg HP.o.none hv.at).mono ?_;rintro e w1⟨rfl,dr⟩;rw[Zy.o];have EZ:=hv.fr dr (fun _ _ h=>h);have Jz:((k0:Int)== -1)=false:=by rw[aL];omega
  go_wp2;go_loopw[5,6] (adQ b w bk cp p xs) (fun _ j _=>xs.length-(intOf j).toNat)
  case atStart=>exact⟨k0,k0+1,xs,rfl,bg,ab,ab,rfl,EZ,DV.o,rfl,dr.mono (fun _ _ h=>absurd h id)⟩
  case round =>
   obtain⟨m,n,ys,rfl,rfl,hmn,hn,hlen,cR,rE,sO,cL⟩:=hrel;have HT:=O rE;have HD:=O sO;have jS:=O hlen;clear rE sO hlen;rw[<-jS.o]at cR;have rQ:=cR.at;by_cases fo:n<xs.length
   ·rcases rQ.2 with ⟨_,_,_,e,_⟩|⟨Jy,of,c,hf,h1,h2,h3,h4⟩
    ·have hl:=jS.o;rw[e]at hl;simp at hl;omega
    ·cases hf;have dT:=O (List.getElem?_eq_getElem fo);have yj:ys[n]?=some xs[n]:=by
      have e:=ar (fun l:cZ=>l[0]?) HD.o;simp only[List.getElem?_drop,Nat.add_zero]at e;rw[e,dT.o]
     have hcell:=h4 n _ yj;simp only[bw]at hcell;have iD:=O (bN fo);generalize xs[n]=x at dT hcell iD yj;have lB:=(eb.o x iD.o).1;have mM:=O (eb.o x iD.o).2
     have ir:=fun W=>run_storeCells_new (P:=prog) W 114 #[.bool false,.string ⟨#[]⟩,.int .i64 0,.bool false,.string ⟨#[]⟩,.string ⟨#[]⟩,.int .i64 0,.string ⟨#[]⟩,.string ⟨#[]⟩,.string ⟨#[]⟩,.bool false,.string ⟨#[]⟩,.bool false,.slice none 0 0,.int .i64 0,.slice none 0 0] x (by rw[lB];rfl) mM.o;have gS:Fr aS wr (wr.alloc (.cells x.toArray 114)):=(ae aS wr).alloc _
     have fD:=O (HP.o x iD.o (wr.alloc (.cells x.toArray 114)) ((cL.alloc _).mono (fun k _ h=>by have e:k=bk:=h;rw[e];rfl)));have Iw:=O (Iv lB);have jq:=cL.alloc (.cells x.toArray 114);have fC:=cR.fr gS (fun _ _ h=>h);have qk:(wr.alloc (.cells x.toArray 114)).heap[wr.heap.size]?=some (.cells x.toArray 114 (0,0)):=aC _ _;have tR:=O qk;clear h4 yj qk gS
     go_wp2_with (first|((with_reducible refine di 25 ?_);refine a_ rfl 114 (.tmp 24) rfl bk (n*16) rfl x _ hcell underlying114 rfl Iw.o ?_)|((with_reducible refine di 27 ?_);refine aH rfl 114 (.tmp 7) rfl wr.heap.size rfl _ x.toArray (0,0) _ tR.o underlying114 rfl (by rw[aZ];exact Iw.o) ?_)|fail)
     have hlw:wr.heap.size<(wr.alloc (.cells x.toArray 114)).heap.size:=aR;clear ir hcell;generalize wr.alloc (.cells x.toArray 114)=W2 at *
     refine fD.o.mono ?_;rintro e w3⟨rfl,iz⟩;have qD:=jq.trans (iz.mono (fun _ _ h=>absurd h id));have fu:=fC.fr iz (fun _ _ h=>h);have tu:=O (iz.keep tR.o id);have NL:=O jS.o;cases qF:p x
     ·have X3:=O (fu.there (g:=bk) (cap:=cp) (by rw[jS.o]) (o:=m*16) (n:=x.toArray.size) (by
       have hmc:(m+1)*16<=cp*16:=bP _ ab;rw[aZ,lB];omega))
      have fa:=fu.store (i:=m) (y:=x) (by rw[jS.o];omega) lB mM.o (g:=bk) rfl;rw[jS.o]at fa;have ox:=qD.step (fG (ae (one bk) w3) (fun _=>rfl) x (m*16)) (fun _ _ h=>h)
      go_wp2_with (first|((with_reducible refine di 32 ?_);refine aH rfl 114 (.tmp 7) rfl wr.heap.size rfl _ x.toArray (0,0) _ tu.o underlying114 rfl (by rw[aZ];exact Iw.o) ?_)|((with_reducible refine cW 114 ?_);refine iu rfl 114 (.tmp 33) (.tmp 32) rfl bk (m*16) x.toArray rfl rfl X3.o (by rw[aZ];exact Iw.o) (bX mM.o) ?_)|fail)
      go_roundw
      case rel =>
       refine⟨m+1,n+1,ys.set m x,bg,bg,ab,ab,by rw[ed];exact NL.o,fa,?_,?_,ox⟩
       ·rw[dZ (l:=ys.set m x) (List.getElem?_set_self (by rw[NL.o];omega)),gl (ay m),dZ dT.o,cG,HT.o];simp[qF]
       ·rw[gq ab];have e:=ar (List.drop 1) HD.o;simpa[eB]using e
      case measure=>simp[intOf];omega
     ·rw[jS.o]at fu;go_wp2_with fail
      go_roundw
      case rel =>
       refine⟨m,n+1,ys,rfl,bg,ab,ab,NL.o,fu,?_,?_,qD⟩
       ·rw[dZ dT.o,cG,HT.o];simp[qF]
       ·have e:=ar (List.drop 1) HD.o;simpa[eB]using e
      case measure=>simp[intOf];omega
   ·have rR:n=xs.length:=ab;subst rR;have fg:=O (show ys.take m=xs.filter (fun x=>!p x)by have h:=HT.o;rw[aD (ay _)]at h;exact h);have sN:(ys.take m).length=m:=by rw[aM,jS.o];omega
    have zC:=O (show(xs.filter (fun x=>!p x)).length=m by rw[<-fg.o];exact sN);have hcut:=cR.cut (i:=m) (by rw[jS.o];omega) (g:=bk) (cap:=cp) (by rw[jS.o]);have hle:(xs.length-m)*16+m*16<=cp*16:=by rw[<-dF];exact bP _ ab
    have Co:(Builtin.zeroCells Zx (xs.length-m)).toList.length=(xs.length-m)*16:=by simp[Builtin.zeroCells]
    have xr:=fun ty=>jF (P:=prog) wr 77 114 ty Zx underlying77 (fun w=>af) ag P6 bk (m*16) (xs.length-m) (cp-m) ab (by
     have:=cR.there (g:=bk) (cap:=cp) (by rw[jS.o]) (o:=m*16) (n:=(xs.length-m)*16) ab;exact this)
    have yk:=hcut.behind (o:=m*16) (vs:=(Builtin.zeroCells Zx (xs.length-m)).toList) (by rw[sN];exact ay _) (g:=bk) (cap:=cp) (by rw[sN]) (by rw[Co];omega);have ox:=cL.step (fG (ae (one bk) wr) (fun _=>rfl) (Builtin.zeroCells Zx (xs.length-m)).toList (m*16)) (fun _ _ h=>h);clear cR rQ hcut Co sN hle jS;go_wp2_with fail
    go_ret;rw[zC.o, <-fg.o];exact⟨_,_,rfl,yk,ox.mono (fun k _ h=>by have e:k=bk:=h;rw[e];rfl),rfl⟩
theorem adR:∃i0:TypeInfo,prog.info? 114=some i0/\i0.size=16:=by
 have h:(prog.info? 114).map (·.size)=some 16:=af;cases hq:prog.info? 114 with
 |none=>rw[hq]at h;cases h
 |some i=>rw[hq]at h;exact⟨i,rfl,by simpa using h⟩
theorem Gm(b:Nat)(bk cp i j:Nat)(xs:cZ)(w:World)(hv:OwnRows b 114 16 w (.slice (some ⟨bk,0,none⟩) xs.length cp) xs)(QR:i<j)(hj:j<=xs.length) :
  aB 95 #[.slice (some ⟨bk,0,none⟩) xs.length cp,.int .i64 i,.int .i64 j] w fun e w'=>e=.returned (.slice (some ⟨bk,0,none⟩) (i+(xs.length-j)) cp)/\OwnRows b 114 16 w' (.slice (some ⟨bk,0,none⟩) (i+(xs.length-j)) cp) (xs.take i++xs.drop j)/\Fr (one bk) w w':=by
 obtain⟨i0,qA,k_⟩:=adR;obtain⟨Cj,cur,se,q1,q2,q3,q4,q5,q6⟩:=hv.open (g:=bk) rfl;cases se;unfold maxLen at q4;have dT:=hv.at;have eb:=hv.1;obtain⟨news,kJ⟩:∃news,news=(xs.drop j).flatten:=⟨_,rfl⟩;have hdr:∀x∈xs.drop j,x.length=16/\∀u∈x,u.oneCell'=true:=fun x hx=>eb x (eD hx);have hlen:news.length=(xs.length-j)*16:=by rw[kJ,gD (fun x hx=>(hdr x hx).1),bK]
 obtain⟨A,hA,NM⟩:∃A:Addr,(if cp=j then some (⟨bk,0,none⟩:Addr)else some ⟨bk,j*16,none⟩)=some A/\Hid (∀t u,news[t]?=some u->w.drew.cell? (A.add t)=some u):=by
  by_cases h:cp=j
  ·refine⟨⟨bk,0,none⟩,by simp[h],fun t u hu=>?_⟩
   have h0:news.length=0:=by rw[hlen];have:xs.length-j=0:=by omega
                             rw[this,il]
   rw[dH.1 h0]at hu;simp at hu
  ·refine⟨⟨bk,j*16,none⟩,by simp[h],fun t u hu=>?_⟩;have ht:t<(xs.length-j)*16:=by
    have:=(List.getElem?_eq_some_iff.1 hu).1;omega
   have nu:xs.flatten[j*16+t]?=some u:=by
    have e:xs.flatten=(xs.take j).flatten++(xs.drop j).flatten:=by rw[<-en,fO]
    have hl:(xs.take j).flatten.length=j*16:=by rw[gD (fun x hx=>(eb x (eC hx)).1),aM,dP hj]
    rw[e,List.getElem?_append_right ab,hl,show j*16+t-j*16=t from ab, <-kJ];exact hu
   have hjt:j*16+t<xs.length*16:=by
    have:(xs.length-j)*16+j*16=xs.length*16:=by rw[<-dF];congr 1;omega
    omega
   rw[<-q6,List.getElem?_take_of_lt hjt]at nu;have zD:cur[j*16+t]?=some u:=by simpa using nu
   have ea:(Addr.add ⟨bk,j*16,none⟩ t)=⟨bk,j*16+t,none⟩:=by unfold Addr.add;split<;>simp_all
   rw[ea];show w.cell? _=some u;simp[World.cell?,q2,zD]
 have s1:=O hlen;have s2:=O (show∀u∈news,u.oneCell'=true by
  intro u hu;rw[kJ]at hu;obtain⟨x,hx,Gn⟩:=fL.1 hu;exact(hdr x hx).2 u Gn)
 have s3:=O (show∀t,t<news.length->(w.drew.cell? ⟨bk,0+i*16+t,none⟩).isSome=true/\w.drew.frozen? ⟨bk,0+i*16+t,none⟩=false by
  intro t ht;rw[bw];have hle:i*16+(xs.length-j)*16<=cp*16:=by rw[<-dF];exact bP _ ab
  have:=hv.there (g:=bk) (cap:=cp) rfl (o:=i*16) (n:=(xs.length-j)*16) hle t ab;exact this)
 have Vc:OwnRows b 114 16 w.drew (.slice (some ⟨bk,0,none⟩) xs.length cp) xs:=hv;have qx:=Vc.De (i:=i) (ys:=xs.drop j) ab hdr (g:=bk) (cap:=cp) rfl (by rw[bK];omega);rw[bK, <-kJ]at qx;have yl:Fr (one bk) w (w.drew.setCells bk (i*16) news):=((ae (one bk) w).drew).setCells (fun _=>rfl) _ _;obtain⟨W1,Cm⟩:∃W1,W1=w.drew.setCells bk (0+i*16) news:=⟨_,rfl⟩;have HW:=O Cm;rw[bw]at Cm;rw[<-Cm]at qx yl
 have rR:(xs.take i++xs.drop j).length=i+(xs.length-j):=by rw[aN,aM,bK];omega
 have hm:i+(xs.length-j)<xs.length:=ab;have Co:(Builtin.zeroCells Zx (xs.length-(i+(xs.length-j)))).toList.length=(xs.length-(i+(xs.length-j)))*16:=by simp[Builtin.zeroCells]
 have hle:(i+(xs.length-j))*16+(xs.length-(i+(xs.length-j)))*16<=cp*16:=by rw[<-dF];exact bP _ ab
 have xr:=fun ty=>jF (P:=prog) W1 77 114 ty Zx underlying77 (fun w=>af) ag P6 bk ((i+(xs.length-j))*16) (xs.length-(i+(xs.length-j))) (cp-(i+(xs.length-j))) ab (by
  have:=qx.there (g:=bk) (cap:=cp) (by rw[rR]) (o:=(i+(xs.length-j))*16) (n:=(xs.length-(i+(xs.length-j)))*16) hle;exact this)
 have yk:=qx.behind (o:=(i+(xs.length-j))*16) (vs:=(Builtin.zeroCells Zx (xs.length-(i+(xs.length-j)))).toList) (by rw[rR];exact ay _) (g:=bk) (cap:=cp) (by rw[rR]) (by rw[Co];omega);have ox:=yl.step (fG (ae (one bk) W1) (fun _=>rfl) (Builtin.zeroCells Zx (xs.length-(i+(xs.length-j)))).toList ((i+(xs.length-j))*16)) (fun _ _ h=>h);have hne:((i:Int)==(j:Int))=false:=by rw[aL];omega
 have adT:i<=cp:=ab;have adU:j<=cp:=ab;have HA:=O hA;clear Cm qx Vc yl kJ hlen hdr eb dT rR Co hle q2 q5 q6 hv;go_enter func95,ntmps95;go_wp2_with fail
 have hA:=HA.o;go_region_law (refine step_append_room rfl (.tmp 22) (.tmp 25) 77 rfl 114 i0 16 underlying77 qA k_ bk 0 i cp (by simp[Act.eval,Act.put]) A (xs.length-j) (cp-j) news (by simp[Act.eval,Act.put]) s1.o NM.out s2.o ab s3.o ?_;rw[<-HW.o])
 all_goals
  go_wp2_with fail
  go_ret;exact⟨rfl,yk,ox⟩
abbrev v_:bS:= #[.bool false,.string ⟨#[]⟩,.int .i64 0,.bool false,.string ⟨#[]⟩,.int .i64 0,.string ⟨#[]⟩,.string ⟨#[]⟩,.string ⟨#[]⟩,.bool false,.string ⟨#[]⟩,.bool false,.slice none 0 0]
theorem Vl:v_.size=13:=rfl
theorem IA:∀v∈v_.toList,v.oneCell'=true:=du
theorem A1(h:x.length=13):(prog.info? 133).map (·.size)=some x.length:=by rw[h];kernel_rfl
def ad6(w:World)(p:aX->Bool)(xs:cZ)(i:Value)(wr:World):Prop :=
 ∃k:Nat,k<=xs.length/\i=.int .i64 k/\(xs.take k).any p=false/\Fr aS w wr
theorem zI(g:Nat)(cap:bS)(p:aX->Bool)(v:Value)(xs:cZ)(w:World)(eg:∀args w,(callFunc g args).run prog w=.ok (.enter g args) w)(hp:gP aS w g cap p xs)(hv:dY 13 w v xs) :
  aB 199 #[v,.func (.func g) #[] cap] w fun e w'=>e=.returned (.int .i64 (lU p xs 0))/\Fr aS w w':=by
 obtain⟨av,cv,fJ⟩:=hv.form;subst fJ;have eb:=O hv.1;go_enter func199,ntmps199;go_wp2;go_loopw[8] (ad6 w p xs) (fun i _=>xs.length-(intOf i).toNat)
 case atStart=>exact⟨0,aQ _,rfl,rfl,ae _ _⟩
 case round =>
  obtain⟨k,hk,rfl,hn,cL⟩:=hrel;have HN:=O hn;clear hn;by_cases fo:k<xs.length
  ·rcases(hv.fI cL).2 with ⟨_,_,_,e,_⟩|⟨bk,of,c,hf,h1,h2,h3,h4⟩
   ·rw[e]at fo;exact absurd fo (ct _)
   ·cases hf;unfold maxLen at h2;have dT:=O (List.getElem?_eq_getElem fo);have hcell:=h4 k _ dT.o;have iD:=O (bN fo);generalize xs[k]=x at dT hcell iD;have fD:=O (hp x iD.o wr cL);have lB:=(eb.o x iD.o).1;clear h4;cases qF:p x
    ·have qe:=O (any_take_succ dT.o HN.o qF);go_wp2_with (first|((with_reducible refine di 15 ?_);refine a_ rfl 133 (.tmp 14) rfl bk (of+k*13) rfl x _ hcell underlying133 rfl (A1 lB) ?_)|fail)
     refine fD.o.mono ?_;rintro e w1⟨rfl,dr⟩;rw[qF];go_wp2;go_roundw
     case rel=>exact⟨k+1,ab,bg,qe.o,cL.trans dr⟩
     case measure=>simp[intOf];omega
    ·have fg:=O (oT (i:=0) dT.o qF HN.o);go_wp2_with (first|((with_reducible refine di 15 ?_);refine a_ rfl 133 (.tmp 14) rfl bk (of+k*13) rfl x _ hcell underlying133 rfl (A1 lB) ?_)|fail)
     refine fD.o.mono ?_;rintro e w1⟨rfl,dr⟩;rw[qF];go_wp2;go_ret;rw[fg.o,bw];exact⟨rfl,cL.trans dr⟩
  ·have fg:=O (show lU p xs 0= -1 from kt (by have h:=HN.o;rw[aD ab]at h;exact h));go_wp2;go_ret;rw[fg.o];exact⟨rfl,cL⟩
def ad7(b:Nat)(w:World)(bk cap:Nat)(p:aX->Bool)(xs:cZ)(i j:Value)(wr:World):Prop :=
 ∃(m n:Nat) (ys:cZ),i=.int .i64 m/\j=.int .i64 n/\m<n/\n<=xs.length/\ys.length=xs.length/\OwnRows b 133 13 wr (.slice (some ⟨bk,0,none⟩) xs.length cap) ys /\
  ys.take m=(xs.take n).filter (fun x=>!p x)/\ys.drop n=xs.drop n/\Fr (one bk) w wr
theorem zJ{p:aX->Bool}:∀ {l:cZ} (i:Nat),l.any p=true->∃k x,l[k]?=some x/\p x=true/\(l.take k).any p=false/\lU p l i=((i+k:Nat):Int)
 |[],_,h=>by simp at h
 |a :: l,i,h=>by
  cases ha:p a
  ·rw[List.any_cons,ha,jM]at h;obtain⟨k,x,h1,h2,h3,h4⟩:=zJ (i+1) h;refine⟨k+1,x,by simpa using h1,h2,by simp[ha,h3],?_⟩;rw[lU,ha];simp only[cJ,eW];rw[h4];congr 1;omega
  ·exact⟨0,a,rfl,ha,rfl,by rw[lU,ha];simp⟩
theorem zK(h:l.any p=false):l.filter (fun x=>!p x)=l:=by
 rw[List.filter_eq_self];intro a ha;have:=eY.1 h a ha;simpa using this
theorem Fl(b:Nat)(g:Nat)(cap:bS)(p:aX->Bool)(v:Value)(xs:cZ)(w:World)(eg:∀args w,(callFunc g args).run prog w=.ok (.enter g args) w)(hp:gP (own v) w g cap p xs)(hv:OwnRows b 133 13 w v xs) :
  aB 144 #[v,.func (.func g) #[] cap] w fun e w'=>∃a c,e=.returned (.slice a (xs.filter (fun x=>!p x)).length c)/\OwnRows b 133 13 w' (.slice a (xs.filter (fun x=>!p x)).length c) (xs.filter (fun x=>!p x))/\Fr (own v) w w'/\own (.slice a (xs.filter (fun x=>!p x)).length c)=own v:=by
 cases jk:xs.any p
 ·have rP:=O (kt (i:=0) jk);rw[zK jk];obtain⟨av,cv,fJ⟩:=hv.form;subst fJ;go_enter func144,ntmps144;go_wp2_with fail
  refine(zI g cap p _ xs w eg hp.none hv.at).mono ?_;rintro e w1⟨rfl,dr⟩;rw[rP.o];go_wp2;go_ret;exact⟨_,_,rfl,hv.fr dr (fun _ _ h=>h),dr.mono (fun _ _ h=>absurd h id),rfl⟩
 ·obtain⟨k0,x0,Ip,DU,vp,rP⟩:=zJ 0 jk;rw[bw]at rP;have QV:=(List.getElem?_eq_some_iff.1 Ip).1;obtain⟨bk,cp,KS⟩:∃bk cp,v=.slice (some ⟨bk,0,none⟩) xs.length cp:=by
   rcases hv.2.2 with ⟨_,hn⟩|⟨bk,cp,cur,hv,_⟩
   ·omega
   ·exact⟨bk,cp,hv⟩
  subst KS;obtain⟨Cj,cur,se,q1,q2,q3,q4,q5,q6⟩:=hv.open (g:=bk) rfl;cases se;unfold maxLen at q4;have eb:=O hv.1;have DV:=O (show xs.take k0=(xs.take (k0+1)).filter (fun x=>!p x)by
   rw[dZ Ip,cG,zK vp];simp[DU])
  have HP:=O hp;have Zy:=O rP;clear jk vp Ip DU rP q2 q5 q6 hp;go_enter func144,ntmps144;go_wp2_with fail
  refine(zI g cap p _ xs w eg HP.o.none hv.at).mono ?_;rintro e w1⟨rfl,dr⟩;rw[Zy.o];have EZ:=hv.fr dr (fun _ _ h=>h);have Jz:((k0:Int)== -1)=false:=by rw[aL];omega
  go_wp2;go_loopw[5,6] (ad7 b w bk cp p xs) (fun _ j _=>xs.length-(intOf j).toNat)
  case atStart=>exact⟨k0,k0+1,xs,rfl,bg,ab,ab,rfl,EZ,DV.o,rfl,dr.mono (fun _ _ h=>absurd h id)⟩
  case round =>
   obtain⟨m,n,ys,rfl,rfl,hmn,hn,hlen,cR,rE,sO,cL⟩:=hrel;have HT:=O rE;have HD:=O sO;have jS:=O hlen;clear rE sO hlen;rw[<-jS.o]at cR;have rQ:=cR.at;by_cases fo:n<xs.length
   ·rcases rQ.2 with ⟨_,_,_,e,_⟩|⟨Jy,of,c,hf,h1,h2,h3,h4⟩
    ·have hl:=jS.o;rw[e]at hl;simp at hl;omega
    ·cases hf;have dT:=O (List.getElem?_eq_getElem fo);have yj:ys[n]?=some xs[n]:=by
      have e:=ar (fun l:cZ=>l[0]?) HD.o;simp only[List.getElem?_drop,Nat.add_zero]at e;rw[e,dT.o]
     have hcell:=h4 n _ yj;simp only[bw]at hcell;have iD:=O (bN fo);generalize xs[n]=x at dT hcell iD yj;have lB:=(eb.o x iD.o).1;have mM:=O (eb.o x iD.o).2;have ir:=fun W=>run_storeCells_new (P:=prog) W 133 #[.bool false,.string ⟨#[]⟩,.int .i64 0,.bool false,.string ⟨#[]⟩,.int .i64 0,.string ⟨#[]⟩,.string ⟨#[]⟩,.string ⟨#[]⟩,.bool false,.string ⟨#[]⟩,.bool false,.slice none 0 0] x (by rw[lB];rfl) mM.o
     have gS:Fr aS wr (wr.alloc (.cells x.toArray 133)):=(ae aS wr).alloc _;have fD:=O (HP.o x iD.o (wr.alloc (.cells x.toArray 133)) ((cL.alloc _).mono (fun k _ h=>by have e:k=bk:=h;rw[e];rfl)));have Iw:=O (A1 lB);have jq:=cL.alloc (.cells x.toArray 133);have fC:=cR.fr gS (fun _ _ h=>h);have qk:(wr.alloc (.cells x.toArray 133)).heap[wr.heap.size]?=some (.cells x.toArray 133 (0,0)):=aC _ _
     have tR:=O qk;clear h4 yj qk gS;go_wp2_with (first|((with_reducible refine di 25 ?_);refine a_ rfl 133 (.tmp 24) rfl bk (n*13) rfl x _ hcell underlying133 rfl Iw.o ?_)|((with_reducible refine di 27 ?_);refine aH rfl 133 (.tmp 7) rfl wr.heap.size rfl _ x.toArray (0,0) _ tR.o underlying133 rfl (by rw[aZ];exact Iw.o) ?_)|fail)
     have hlw:wr.heap.size<(wr.alloc (.cells x.toArray 133)).heap.size:=aR;clear ir hcell;generalize wr.alloc (.cells x.toArray 133)=W2 at *
     refine fD.o.mono ?_;rintro e w3⟨rfl,iz⟩;have qD:=jq.trans (iz.mono (fun _ _ h=>absurd h id));have fu:=fC.fr iz (fun _ _ h=>h);have tu:=O (iz.keep tR.o id);have NL:=O jS.o;cases qF:p x
     ·have X3:=O (fu.there (g:=bk) (cap:=cp) (by rw[jS.o]) (o:=m*13) (n:=x.toArray.size) (by
       have hmc:(m+1)*13<=cp*13:=bP _ ab;rw[aZ,lB];omega))
      have fa:=fu.store (i:=m) (y:=x) (by rw[jS.o];omega) lB mM.o (g:=bk) rfl;rw[jS.o]at fa;have ox:=qD.step (fG (ae (one bk) w3) (fun _=>rfl) x (m*13)) (fun _ _ h=>h)
      go_wp2_with (first|((with_reducible refine di 32 ?_);refine aH rfl 133 (.tmp 7) rfl wr.heap.size rfl _ x.toArray (0,0) _ tu.o underlying133 rfl (by rw[aZ];exact Iw.o) ?_)|((with_reducible refine cW 133 ?_);refine iu rfl 133 (.tmp 33) (.tmp 32) rfl bk (m*13) x.toArray rfl rfl X3.o (by rw[aZ];exact Iw.o) (bX mM.o) ?_)|fail)
      go_roundw
      case rel =>
       refine⟨m+1,n+1,ys.set m x,bg,bg,ab,ab,by rw[ed];exact NL.o,fa,?_,?_,ox⟩
       ·rw[dZ (l:=ys.set m x) (List.getElem?_set_self (by rw[NL.o];omega)),gl (ay m),dZ dT.o,cG,HT.o];simp[qF]
       ·rw[gq ab];have e:=ar (List.drop 1) HD.o;simpa[eB]using e
      case measure=>simp[intOf];omega
     ·rw[jS.o]at fu;go_wp2_with fail
      go_roundw
      case rel =>
       refine⟨m,n+1,ys,rfl,bg,ab,ab,NL.o,fu,?_,?_,qD⟩
       ·rw[dZ dT.o,cG,HT.o];simp[qF]
       ·have e:=ar (List.drop 1) HD.o;simpa[eB]using e
      case measure=>simp[intOf];omega
   ·have rR:n=xs.length:=ab;subst rR;have fg:=O (show ys.take m=xs.filter (fun x=>!p x)by have h:=HT.o;rw[aD (ay _)]at h;exact h);have sN:(ys.take m).length=m:=by rw[aM,jS.o];omega
    have zC:=O (show(xs.filter (fun x=>!p x)).length=m by rw[<-fg.o];exact sN);have hcut:=cR.cut (i:=m) (by rw[jS.o];omega) (g:=bk) (cap:=cp) (by rw[jS.o]);have hle:(xs.length-m)*13+m*13<=cp*13:=by rw[<-dF];exact bP _ ab
    have Co:(Builtin.zeroCells v_ (xs.length-m)).toList.length=(xs.length-m)*13:=by simp[Builtin.zeroCells]
    have xr:=fun ty=>jF (P:=prog) wr 87 133 ty v_ underlying87 (fun w=>af) ag IA bk (m*13) (xs.length-m) (cp-m) ab (by
     have:=cR.there (g:=bk) (cap:=cp) (by rw[jS.o]) (o:=m*13) (n:=(xs.length-m)*13) ab;exact this)
    have yk:=hcut.behind (o:=m*13) (vs:=(Builtin.zeroCells v_ (xs.length-m)).toList) (by rw[sN];exact ay _) (g:=bk) (cap:=cp) (by rw[sN]) (by rw[Co];omega);have ox:=cL.step (fG (ae (one bk) wr) (fun _=>rfl) (Builtin.zeroCells v_ (xs.length-m)).toList (m*13)) (fun _ _ h=>h);clear cR rQ hcut Co sN hle jS;go_wp2_with fail
    go_ret;rw[zC.o, <-fg.o];exact⟨_,_,rfl,yk,ox.mono (fun k _ h=>by have e:k=bk:=h;rw[e];rfl),rfl⟩
theorem ad8:∃i0:TypeInfo,prog.info? 133=some i0/\i0.size=13:=by
 have h:(prog.info? 133).map (·.size)=some 13:=af;cases hq:prog.info? 133 with
 |none=>rw[hq]at h;cases h
 |some i=>rw[hq]at h;exact⟨i,rfl,by simpa using h⟩
theorem Gq(b:Nat)(bk cp i j:Nat)(xs:cZ)(w:World)(hv:OwnRows b 133 13 w (.slice (some ⟨bk,0,none⟩) xs.length cp) xs)(QR:i<j)(hj:j<=xs.length) :
  aB 116 #[.slice (some ⟨bk,0,none⟩) xs.length cp,.int .i64 i,.int .i64 j] w fun e w'=>e=.returned (.slice (some ⟨bk,0,none⟩) (i+(xs.length-j)) cp)/\OwnRows b 133 13 w' (.slice (some ⟨bk,0,none⟩) (i+(xs.length-j)) cp) (xs.take i++xs.drop j)/\Fr (one bk) w w':=by
 obtain⟨i0,qA,k_⟩:=ad8;obtain⟨Cj,cur,se,q1,q2,q3,q4,q5,q6⟩:=hv.open (g:=bk) rfl;cases se;unfold maxLen at q4;have dT:=hv.at;have eb:=hv.1;obtain⟨news,kJ⟩:∃news,news=(xs.drop j).flatten:=⟨_,rfl⟩;have hdr:∀x∈xs.drop j,x.length=13/\∀u∈x,u.oneCell'=true:=fun x hx=>eb x (eD hx);have hlen:news.length=(xs.length-j)*13:=by rw[kJ,gD (fun x hx=>(hdr x hx).1),bK]
 obtain⟨A,hA,NM⟩:∃A:Addr,(if cp=j then some (⟨bk,0,none⟩:Addr)else some ⟨bk,j*13,none⟩)=some A/\Hid (∀t u,news[t]?=some u->w.drew.cell? (A.add t)=some u):=by
  by_cases h:cp=j
  ·refine⟨⟨bk,0,none⟩,by simp[h],fun t u hu=>?_⟩
   have h0:news.length=0:=by rw[hlen];have:xs.length-j=0:=by omega
                             rw[this,il]
   rw[dH.1 h0]at hu;simp at hu
  ·refine⟨⟨bk,j*13,none⟩,by simp[h],fun t u hu=>?_⟩;have ht:t<(xs.length-j)*13:=by
    have:=(List.getElem?_eq_some_iff.1 hu).1;omega
   have nu:xs.flatten[j*13+t]?=some u:=by
    have e:xs.flatten=(xs.take j).flatten++(xs.drop j).flatten:=by rw[<-en,fO]
    have hl:(xs.take j).flatten.length=j*13:=by rw[gD (fun x hx=>(eb x (eC hx)).1),aM,dP hj]
    rw[e,List.getElem?_append_right ab,hl,show j*13+t-j*13=t from ab, <-kJ];exact hu
   have hjt:j*13+t<xs.length*13:=by
    have:(xs.length-j)*13+j*13=xs.length*13:=by rw[<-dF];congr 1;omega
    omega
   rw[<-q6,List.getElem?_take_of_lt hjt]at nu;have zD:cur[j*13+t]?=some u:=by simpa using nu
   have ea:(Addr.add ⟨bk,j*13,none⟩ t)=⟨bk,j*13+t,none⟩:=by unfold Addr.add;split<;>simp_all
   rw[ea];show w.cell? _=some u;simp[World.cell?,q2,zD]
 have s1:=O hlen;have s2:=O (show∀u∈news,u.oneCell'=true by
  intro u hu;rw[kJ]at hu;obtain⟨x,hx,Gn⟩:=fL.1 hu;exact(hdr x hx).2 u Gn)
 have s3:=O (show∀t,t<news.length->(w.drew.cell? ⟨bk,0+i*13+t,none⟩).isSome=true/\w.drew.frozen? ⟨bk,0+i*13+t,none⟩=false by
  intro t ht;rw[bw];have hle:i*13+(xs.length-j)*13<=cp*13:=by rw[<-dF];exact bP _ ab
  have:=hv.there (g:=bk) (cap:=cp) rfl (o:=i*13) (n:=(xs.length-j)*13) hle t ab;exact this)
 have Vc:OwnRows b 133 13 w.drew (.slice (some ⟨bk,0,none⟩) xs.length cp) xs:=hv;have qx:=Vc.De (i:=i) (ys:=xs.drop j) ab hdr (g:=bk) (cap:=cp) rfl (by rw[bK];omega);rw[bK, <-kJ]at qx;have yl:Fr (one bk) w (w.drew.setCells bk (i*13) news):=((ae (one bk) w).drew).setCells (fun _=>rfl) _ _;obtain⟨W1,Cm⟩:∃W1,W1=w.drew.setCells bk (0+i*13) news:=⟨_,rfl⟩;have HW:=O Cm;rw[bw]at Cm;rw[<-Cm]at qx yl
 have rR:(xs.take i++xs.drop j).length=i+(xs.length-j):=by rw[aN,aM,bK];omega
 have hm:i+(xs.length-j)<xs.length:=ab;have Co:(Builtin.zeroCells v_ (xs.length-(i+(xs.length-j)))).toList.length=(xs.length-(i+(xs.length-j)))*13:=by simp[Builtin.zeroCells]
 have hle:(i+(xs.length-j))*13+(xs.length-(i+(xs.length-j)))*13<=cp*13:=by rw[<-dF];exact bP _ ab
 have xr:=fun ty=>jF (P:=prog) W1 87 133 ty v_ underlying87 (fun w=>af) ag IA bk ((i+(xs.length-j))*13) (xs.length-(i+(xs.length-j))) (cp-(i+(xs.length-j))) ab (by
  have:=qx.there (g:=bk) (cap:=cp) (by rw[rR]) (o:=(i+(xs.length-j))*13) (n:=(xs.length-(i+(xs.length-j)))*13) hle;exact this)
 have yk:=qx.behind (o:=(i+(xs.length-j))*13) (vs:=(Builtin.zeroCells v_ (xs.length-(i+(xs.length-j)))).toList) (by rw[rR];exact ay _) (g:=bk) (cap:=cp) (by rw[rR]) (by rw[Co];omega);have ox:=yl.step (fG (ae (one bk) W1) (fun _=>rfl) (Builtin.zeroCells v_ (xs.length-(i+(xs.length-j)))).toList ((i+(xs.length-j))*13)) (fun _ _ h=>h);have hne:((i:Int)==(j:Int))=false:=by rw[aL];omega
 have adT:i<=cp:=ab;have adU:j<=cp:=ab;have HA:=O hA;clear Cm qx Vc yl kJ hlen hdr eb dT rR Co hle q2 q5 q6 hv;go_enter func116,ntmps116;go_wp2_with fail
 have hA:=HA.o;go_region_law (refine step_append_room rfl (.tmp 22) (.tmp 25) 87 rfl 133 i0 13 underlying87 qA k_ bk 0 i cp (by simp[Act.eval,Act.put]) A (xs.length-j) (cp-j) news (by simp[Act.eval,Act.put]) s1.o NM.out s2.o ab s3.o ?_;rw[<-HW.o])
 all_goals
  go_wp2_with fail
  go_ret;exact⟨rfl,yk,ox⟩
abbrev Fm:bS:= #[.bool false,.string ⟨#[]⟩,.int .i64 0,.bool false,.string ⟨#[]⟩,.int .i64 0,.string ⟨#[]⟩,.string ⟨#[]⟩,.bool false,.string ⟨#[]⟩,.string ⟨#[]⟩,.int .i64 0]
theorem P':∀v∈Fm.toList,v.oneCell'=true:=du
theorem Ba(h:x.length=12):(prog.info? 155).map (·.size)=some x.length:=by rw[h];kernel_rfl
def aee(w:World)(p:aX->Bool)(xs:cZ)(i:Value)(wr:World):Prop :=
 ∃k:Nat,k<=xs.length/\i=.int .i64 k/\(xs.take k).any p=false/\Fr aS w wr
theorem uF(g:Nat)(cap:bS)(p:aX->Bool)(v:Value)(xs:cZ)(w:World)(eg:∀args w,(callFunc g args).run prog w=.ok (.enter g args) w)(hp:gP aS w g cap p xs)(hv:dY 12 w v xs) :
  aB 180 #[v,.func (.func g) #[] cap] w fun e w'=>e=.returned (.int .i64 (lU p xs 0))/\Fr aS w w':=by
 obtain⟨av,cv,fJ⟩:=hv.form;subst fJ;have eb:=O hv.1;go_enter func180,ntmps180;go_wp2;go_loopw[8] (aee w p xs) (fun i _=>xs.length-(intOf i).toNat)
 case atStart=>exact⟨0,aQ _,rfl,rfl,ae _ _⟩
 case round =>
  obtain⟨k,hk,rfl,hn,cL⟩:=hrel;have HN:=O hn;clear hn;by_cases fo:k<xs.length
  ·rcases(hv.fI cL).2 with ⟨_,_,_,e,_⟩|⟨bk,of,c,hf,h1,h2,h3,h4⟩
   ·rw[e]at fo;exact absurd fo (ct _)
   ·cases hf;unfold maxLen at h2;have dT:=O (List.getElem?_eq_getElem fo);have hcell:=h4 k _ dT.o;have iD:=O (bN fo);generalize xs[k]=x at dT hcell iD;have fD:=O (hp x iD.o wr cL);have lB:=(eb.o x iD.o).1;clear h4;cases qF:p x
    ·have qe:=O (any_take_succ dT.o HN.o qF);go_wp2_with (first|((with_reducible refine di 15 ?_);refine a_ rfl 155 (.tmp 14) rfl bk (of+k*12) rfl x _ hcell underlying155 rfl (Ba lB) ?_)|fail)
     refine fD.o.mono ?_;rintro e w1⟨rfl,dr⟩;rw[qF];go_wp2;go_roundw
     case rel=>exact⟨k+1,ab,bg,qe.o,cL.trans dr⟩
     case measure=>simp[intOf];omega
    ·have fg:=O (oT (i:=0) dT.o qF HN.o);go_wp2_with (first|((with_reducible refine di 15 ?_);refine a_ rfl 155 (.tmp 14) rfl bk (of+k*12) rfl x _ hcell underlying155 rfl (Ba lB) ?_)|fail)
     refine fD.o.mono ?_;rintro e w1⟨rfl,dr⟩;rw[qF];go_wp2;go_ret;rw[fg.o,bw];exact⟨rfl,cL.trans dr⟩
  ·have fg:=O (show lU p xs 0= -1 from kt (by have h:=HN.o;rw[aD ab]at h;exact h));go_wp2;go_ret;rw[fg.o];exact⟨rfl,cL⟩
theorem Cp(g:Nat)(cap:bS)(p:aX->Bool)(v:Value)(xs:cZ)(w:World)(eg:∀args w,(callFunc g args).run prog w=.ok (.enter g args) w)(hp:gP aS w g cap p xs)(hv:dY 12 w v xs) :
  aB 119 #[v,.func (.func g) #[] cap] w fun e w'=>e=.returned (.bool (xs.any p))/\Fr aS w w':=by
 have hb:=O (rL p xs 0);go_enter func119,ntmps119;go_wp2_with fail
 refine(uF g cap p v xs w eg hp hv).mono ?_;rintro e w1⟨rfl,dr⟩;go_wp2;go_ret;exact⟨fB hb.o,dr⟩
