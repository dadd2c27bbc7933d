/- Token2, Trim, RowK, Build, Tabs0, Strs. -/
import Derived.Test.YtjdmjbdkdmbaiaaGreatDoorPk2
import Derived.Shelf.Strings.SlTrimAscii
import Derived.Shelf.SlicesQ.Load
import Derived.Stop.LaidErr
import Derived.Lib.SmallJoins
import Derived.Lib.AppendIntMem
set_option maxRecDepth 100000
set_option maxHeartbeats 16000000
set_option linter.unusedSimpArgs false
namespace Go.Proofs.YtjdmjbdkdmbaiaaGreatDoor
open Go.RowKit
def aQ(p:UInt8->Bool)(l:List UInt8)(i:Nat):Nat:=i+((l.drop i).takeWhile p).length
theorem jH{p:UInt8->Bool}{l:List UInt8}{i:Nat}{c:UInt8}(h:l[i]?=some c)(hp:p c=true):aQ p l i=aQ p l (i+1):=by
 have hi:i<l.length:=by
  rcases Nat.lt_or_ge i l.length with g|g
  ·exact g
  ·simp[List.getElem?_eq_none g]at h
 unfold aQ;have e:l.drop i=c :: l.drop (i+1):=by
  rw[List.drop_eq_getElem_cons hi];rw[List.getElem?_eq_getElem hi]at h;simp at h;rw[h]
 rw[e,List.takeWhile_cons_of_pos hp];simp;omega
theorem fZ{p:UInt8->Bool}{l:List UInt8}{i:Nat}(h:∀c,l[i]?=some c->p c=false):aQ p l i=i:=by
 unfold aQ;rcases Nat.lt_or_ge i l.length with g|g
 ·rw[List.drop_eq_getElem_cons g,List.takeWhile_cons_of_neg]
  ·rfl
  ·have:=h l[i] (List.getElem?_eq_getElem g);simp[this]
 ·simp[List.drop_eq_nil_of_le g]
theorem dC{p:UInt8->Bool}{l:List UInt8}{i:Nat}(h:i<=l.length):aQ p l i<=l.length:=by
 unfold aQ;have:=(List.takeWhile_prefix p (l:=l.drop i)).length_le;simp at this;omega
theorem f_{p:UInt8->Bool}{l:List UInt8}{i:Nat}:i<=aQ p l i:=by unfold aQ;omega
def ki(w:World)(b:Nat):Nat:=match w.cell? ⟨b,1,none⟩with|some (.int _ n)=>n.toNat|_=>0
theorem aU.pos{w:World}{b i:Nat}{s:ByteArray}(h:aU w b s i):ki w b=i:=by simp[ki,h.dM]
theorem Bu{w:World}{b k:Nat}{s:ByteArray}(h:aU w b s (k+1))(hk:k<s.size):s.size-ki w b<s.size-k:=by rw[h.pos];omega
def bh(c:UInt8):Bool:=c==32||c==9
theorem oP{c:UInt8}(n:Nat)(hn:n<256):((c.toNat:Int)==(n:Int))=(c==n.toUInt8):=by
 rw[Bool.eq_iff_iff,beq_iff_eq,beq_iff_eq, <-UInt8.toNat_inj];have:(n.toUInt8).toNat=n:=by simp;omega
 rw[this];omega
theorem gY(b:Nat)(s:ByteArray)(i:Nat)(w:World)(h:aU w b s i)(hs:s.size<=maxLen)(hi:i<=s.size) :
  Calls Tryz.prog 153 #[.pointer (some ⟨b,0,none⟩)] w fun e w'=>e=.returned (.bool (decide (i<aQ bh s.data.toList i)))/\aU w' b s (aQ bh s.data.toList i)/\Fr (one b) w w':=by
 have h0:=h.cell0;have h1:=h.dM;unfold maxLen at hs;go_enter Tryz.func153,Tryz.ntmps153;go_wp2;clear h0 h1;go_loopw[] (fun wr=>∃k,i<=k/\k<=s.size/\aU wr b s k/\aQ bh s.data.toList k=aQ bh s.data.toList i/\Fr (one b) w wr) (fun wr=>s.size-ki wr b)
 case atStart=>exact⟨i,Nat.le_refl _,hi,h,rfl,Fr.refl _ _⟩
 case round =>
  obtain⟨k,YS,cG,hc,mH,aW⟩:=hrel;have wX:=O mH;clear mH;have h0:=hc.cell0;have h1:=hc.dM;have hf:=hc.free 1;have mA:=O hc.pos;by_cases hk:k<s.size
  ·have hd:decide (k<s.size)=true:=by simp[hk]
   have bC:=O (byte_at s k hk);generalize hx:s[k]=x at bC;have go:bh x=true->aQ bh s.data.toList (k+1)=aQ bh s.data.toList i:=fun hb=>(jH bC.out hb).symm.trans wX.out;have GO:=O go;clear go;cases e1:x==32
   ·have n1:((x.toNat:Int)==32)=false:=by rw[<-e1];exact oP 32 (by decide)
    cases e2:x==9
    ·have n2:((x.toNat:Int)==9)=false:=by rw[<-e2];exact oP 9 (by decide)
     have sS:=O (fZ (p:=bh) (l:=s.data.toList) (i:=k) (fun c Nk=>by rw[bC.out]at Nk;cases Nk;simp[bh,e1,e2]));clear e1 e2;go_wp2;go_quiet (fail);go_wp2;go_ret;rw[<-wX.out,sS.out];exact⟨rfl,hc,by repeat(first|exact aW|apply Fr.drewN)⟩
    ·have n2:((x.toNat:Int)==9)=true:=by rw[<-e2];exact oP 9 (by decide)
     have hn:=O (GO.out (by simp[bh,e2]));clear e1 e2;go_wp2;go_quiet (fail);go_wp2;go_roundw
     case rel=>exact⟨k+1,by omega,by omega,(hc.setCell (j:=k+1)).drewN _,hn.out,aW.trans (Fr.one_set wr b _ _)⟩
     case measure=>rw[mA.out];exact Bu (hc.setCell (j:=k+1)) hk
   ·have n1:((x.toNat:Int)==32)=true:=by rw[<-e1];exact oP 32 (by decide)
    have hn:=O (GO.out (by simp[bh,e1]));clear e1;go_wp2;go_quiet (fail);go_wp2;go_roundw
    case rel=>exact⟨k+1,by omega,by omega,(hc.setCell (j:=k+1)).drewN _,hn.out,aW.trans (Fr.one_set wr b _ _)⟩
    case measure=>rw[mA.out];exact Bu (hc.setCell (j:=k+1)) hk
  ·have hd:decide (k<s.size)=false:=by simp;omega
   have sS:=O (fZ (p:=bh) (l:=s.data.toList) (i:=k) (fun c Nk=>by rw[ny s k hk]at Nk;cases Nk));go_wp2;go_quiet (fail);go_wp2;go_ret;rw[<-wX.out,sS.out];exact⟨rfl,hc,by repeat(first|exact aW|apply Fr.drewN)⟩
theorem pC(b:Nat)(s:ByteArray)(i:Nat)(w:World)(h:aU w b s i)(hs:s.size<=maxLen)(hi:i<=s.size) :
  Calls Tryz.prog 154 #[.pointer (some ⟨b,0,none⟩)] w fun e w'=>e=.returned (.string (s.extract i (aQ cP s.data.toList i)))/\aU w' b s (aQ cP s.data.toList i)/\Fr (one b) w w':=by
 have h0:=h.cell0;have h1:=h.dM;unfold maxLen at hs;go_enter Tryz.func154,Tryz.ntmps154;go_wp2;clear h0 h1;go_loopw[] (fun wr=>∃k,i<=k/\k<=s.size/\aU wr b s k/\aQ cP s.data.toList k=aQ cP s.data.toList i/\Fr (one b) w wr) (fun wr=>s.size-ki wr b)
 case atStart=>exact⟨i,Nat.le_refl _,hi,h,rfl,Fr.refl _ _⟩
 case round =>
  obtain⟨k,YS,cG,hc,mH,aW⟩:=hrel;have wX:=O mH;clear mH;have h0:=hc.cell0;have h1:=hc.dM;have hf:=hc.free 1;have mA:=O hc.pos;by_cases hk:k<s.size
  ·have hd:decide (k<s.size)=true:=by simp[hk]
   have bC:=O (byte_at s k hk);generalize hx:s[k]=x at bC;have go:cP x=true->aQ cP s.data.toList (k+1)=aQ cP s.data.toList i:=fun hb=>(jH bC.out hb).symm.trans wX.out;have GO:=O go;clear go;cases e1:cP x
   ·have sS:=O (fZ (p:=cP) (l:=s.data.toList) (i:=k) (fun c Nk=>by rw[bC.out]at Nk;cases Nk;exact e1));go_wp2;go_quiet ((go_at_call 135;exact nx (sR _ _)));go_wp2;go_quiet (fail);go_wp2;go_ret;rw[<-wX.out,sS.out];exact⟨rfl,hc,by repeat(first|exact aW|apply Fr.drewN)⟩
   ·have hn:=O (GO.out e1);go_wp2;go_quiet ((go_at_call 135;exact nx (sR _ _)));go_wp2;go_roundw
    case rel=>exact⟨k+1,by omega,by omega,(hc.setCell (j:=k+1)).drewN _,hn.out,aW.trans (Fr.one_set wr b _ _)⟩
    case measure=>rw[mA.out];exact Bu (hc.setCell (j:=k+1)) hk
  ·have hd:decide (k<s.size)=false:=by simp;omega
   have sS:=O (fZ (p:=cP) (l:=s.data.toList) (i:=k) (fun c Nk=>by rw[ny s k hk]at Nk;cases Nk));go_wp2;go_quiet (fail);go_wp2;go_quiet (fail);go_wp2;go_ret;rw[<-wX.out,sS.out];exact⟨rfl,hc,by repeat(first|exact aW|apply Fr.drewN)⟩
theorem dropWhile_nil{α:Type}{p:α->Bool}:∀ {l:List α},l.dropWhile p=[]↔l.all p=true
 |[]=>by simp
 |a :: l=>by
  rw[List.dropWhile_cons,List.all_cons];cases h:p a
  ·simp
  ·simp only[if_true,Bool.true_and];exact dropWhile_nil
theorem qB(l cs:List UInt8):Lib.trimS l cs=[]↔l.all (cs.contains ·)=true:=by
 unfold Lib.trimS Lib.trimLeftS Lib.trimRightS;rw[dropWhile_nil];constructor
 ·intro h;have h2:l.reverse.dropWhile (cs.contains ·)=[]:=by
   cases hq:l.reverse.dropWhile (cs.contains ·)with
   |nil=>rfl
   |cons a r =>
    exfalso;have hh:=List.head?_dropWhile_not (p:=(cs.contains ·)) l.reverse;rw[hq]at h hh;simp only[List.head?_cons,List.reverse_cons,List.all_append,List.all_cons,List.all_nil,Bool.and_true,Bool.and_eq_true]at h hh;rw[h.2]at hh;simp at hh
  rw[dropWhile_nil]at h2;simpa using h2
 ·intro h;rw[List.all_eq_true]at h ⊢;intro x hx;refine h x ?_;have h1:=(List.dropWhile_sublist (cs.contains ·) (l:=l.reverse)).subset (List.mem_reverse.1 hx);exact List.mem_reverse.1 h1
theorem dw{s:ByteArray}:s.data.toList=[]↔s.size=0:=by
 constructor
 ·intro h;have:s.data.toList.length=0:=by rw[h];rfl
  simpa using this
 ·intro h;apply List.eq_nil_of_length_eq_zero;simpa using h
theorem mK(s cs:ByteArray)(w:World)(hs:s.size<=9223372036854775807)(h2:2<=cs.size)(hcs:cs.size<4294967281)(F7:∀b∈cs.data.toList,b.toNat<128) :
  Calls Tryz.prog 71 #[.string s,.string cs] w fun e w'=>e=.returned (.string ⟨(Lib.trimS s.data.toList cs.data.toList).toArray⟩)/\Fr ay w w':=by
 by_cases h0:s.size=0
 ·refine(Any.strings_Trim_empty Tryz.IK s cs w (Or.inl h0)).mono fun e w' ⟨he,hw⟩=>⟨?_,hw▸Fr.refl _ _⟩;have e0:=dw.2 h0;rw[he,e0]
  congr 2
  rw[show Lib.trimS [] cs.data.toList=[]from rfl];cases s with
  |mk d=>simp at e0;rw[e0]
 ·refine(Any.strings_Trim_set Tryz.IK (fun w=>by kernel_rfl) (by kernel_rfl) s cs w h2 (by omega) hs hcs (fun j b hj=>F7 b (List.mem_of_getElem? hj))).mono fun e w' ⟨he,q,hw⟩=>⟨he,?_⟩;rw[hw];exact(((Fr.refl ay w).alloc _).alloc _).drewN q
def aN(k:Nat)(w:World)(v:Value)(xs:List (List Value)):Prop :=
 (∀x∈xs,x.length=k/\∀u∈x,u.oneCell'=true) /\
 ((∃a c,v=.slice a 0 c/\xs=[]/\(a=none->c=0)) \/
  ∃bk o c,v=.slice (some ⟨bk,o,none⟩) xs.length c/\xs.length<=c/\c<=maxLen/\bk<w.heap.size /\
   ∀(j:Nat) x,xs[j]?=some x->∀(i:Nat) u,x[i]?=some u->w.cell? ⟨bk,o+j*k+i,none⟩=some u)
section
variable {k : Nat} {w w' : World} {v : Value} {xs : List (List Value)}
theorem aN.nil(k:Nat)(w:World):aN k w (.slice none 0 0) []:=⟨by simp,Or.inl ⟨_,_,rfl,rfl,fun _=>rfl⟩⟩
theorem aN.form(h:aN k w v xs):∃a c,v=.slice a xs.length c:=by
 rcases h.2 with ⟨a,c,hv,hs,_⟩|⟨bk,o,c,hv,_⟩
 ·exact⟨a,c,by rw[hv,hs];rfl⟩
 ·exact⟨_,_,hv⟩
theorem aN.fr{S:Nat->Prop}(h:aN k w v xs)(hf:Fr S w w')(hn:∀b,v.ownBlock=some b->¬S b):aN k w' v xs:=by
 refine⟨h.1,?_⟩;rcases h.2 with h|⟨bk,o,c,hv,h1,h2,h3,h4⟩
 ·exact Or.inl h
 ·refine Or.inr ⟨bk,o,c,hv,h1,h2,Nat.lt_of_lt_of_le h3 hf.size,fun j x hj i u hi=>?_⟩;rw[hf.cell (p:=⟨bk,o+j*k+i,none⟩) h3 (hn bk (by rw[hv];rfl))];exact h4 j x hj i u hi
theorem aN.bu(h:aN k w v xs)(hf:Fr ay w w'):aN k w' v xs:=h.fr hf (fun _ _ h=>h)
end
def OwnRows(base:Nat)(e:TypeId)(k:Nat)(w:World)(v:Value)(xs:List (List Value)):Prop :=
 (∀x∈xs,x.length=k/\∀u∈x,u.oneCell'=true)/\w.ownsRow base e k v xs.length xs.flatten
theorem xB:∀ {k:Nat} {xs:List (List Value)} (_:∀x∈xs,x.length=k) {j:Nat} {x:List Value} (_:xs[j]?=some x) {i:Nat} {u:Value} (_:x[i]?=some u),xs.flatten[j*k+i]?=some u
 |k,[],_,j,x,hj,i,u,hi=>by simp at hj
 |k,y :: ys,hl,0,x,hj,i,u,hi=>by
  simp at hj;subst hj;have:=(List.getElem?_eq_some_iff.1 hi).1;simp only[List.flatten_cons,Nat.zero_mul,Nat.zero_add];rw[List.getElem?_append_left this];exact hi
 |k,y :: ys,hl,j+1,x,hj,i,u,hi=>by
  have hy:=hl y (by simp);have ih:=xB (k:=k) (xs:=ys) (fun z hz=>hl z (List.mem_cons_of_mem _ hz)) (j:=j) (by simpa using hj) hi;simp only[List.flatten_cons];rw[List.getElem?_append_right (by rw[hy,Nat.succ_mul];omega),hy,show(j+1)*k+i-k=j*k+i from by rw[Nat.succ_mul];omega];exact ih
theorem eU:∀ {k:Nat} {xs:List (List Value)} (_:∀x∈xs,x.length=k),xs.flatten.length=xs.length*k
 |k,[],_=>by simp
 |k,y :: ys,hl=>by
  have:=eU (k:=k) (xs:=ys) (fun z hz=>hl z (List.mem_cons_of_mem _ hz));simp only[List.flatten_cons,List.length_append,this,hl y (by simp),List.length_cons,Nat.succ_mul];omega
section
variable {base k : Nat} {e : TypeId} {w w' : World} {v : Value} {xs : List (List Value)}
theorem OwnRows.nil(base:Nat)(e:TypeId)(k:Nat)(w:World):OwnRows base e k w (.slice none 0 0) []:=⟨by simp,World.ownsRow_nil _ _ _ _⟩
theorem OwnRows.alloc(h:OwnRows base e k w v xs)(o:Obj):OwnRows base e k (w.alloc o) v xs:=⟨h.1,World.ownsRow.alloc h.2 o⟩
theorem OwnRows.drewN{n:Nat}(h:OwnRows base e k w v xs):OwnRows base e k (w.drewN n) v xs:=h
theorem OwnRows.form(h:OwnRows base e k w v xs):∃a c,v=.slice a xs.length c:=by
 rcases h.2.2 with ⟨hv,hn⟩|⟨g,cap,cur,hv,_⟩
 ·exact⟨none,0,by rw[hv,hn]⟩
 ·exact⟨_,_,hv⟩
theorem OwnRows.up{b':Nat}(h:OwnRows b' e k w v xs)(hb:base<=b'):OwnRows base e k w v xs:=by
 obtain⟨h0,h1,h2⟩:=h;refine⟨h0,h1,?_⟩;rcases h2 with h2|⟨g,cap,cur,hv,hg,r⟩
 ·exact Or.inl h2
 ·exact Or.inr ⟨g,cap,cur,hv,Nat.le_trans hb hg,r⟩
theorem OwnRows.fr{S:Nat->Prop}(h:OwnRows base e k w v xs)(hf:Fr S w w')(hn:∀b,v.ownBlock=some b->¬S b):OwnRows base e k w' v xs:=by
 obtain⟨h0,h1,h2⟩:=h;refine⟨h0,h1,?_⟩;rcases h2 with h2|⟨g,cap,cur,hv,hg,hh,r⟩
 ·exact Or.inl h2
 ·exact Or.inr ⟨g,cap,cur,hv,hg,hf.keep hh (hn g (by rw[hv];rfl)),r⟩
theorem OwnRows.block(h:OwnRows base e k w v xs):∀b,v.ownBlock=some b->base<=b:=by
 intro b hb;rcases h.2.2 with ⟨hv,_⟩|⟨g,cap,cur,hv,hg,_⟩
 ·rw[hv]at hb;simp[Value.ownBlock]at hb
 ·rw[hv]at hb;simp[Value.ownBlock]at hb;omega
theorem OwnRows.lt(h:OwnRows base e k w v xs):∀b,v.ownBlock=some b->b<w.heap.size:=by
 intro b hb;rcases h.2.2 with ⟨hv,_⟩|⟨g,cap,cur,hv,hg,hh,_⟩
 ·rw[hv]at hb;simp[Value.ownBlock]at hb
 ·rw[hv]at hb;simp[Value.ownBlock]at hb;subst hb;exact aj hh
theorem OwnRows.at(h:OwnRows base e k w v xs):aN k w v xs:=by
 obtain⟨h0,h1,h2⟩:=h;refine⟨h0,?_⟩;rcases h2 with ⟨hv,hn⟩|⟨g,cap,cur,hv,hg,hh,h3,h4,h5,h6⟩
 ·exact Or.inl ⟨none,0,hv,List.eq_nil_of_length_eq_zero hn,fun _=>rfl⟩
 ·refine Or.inr ⟨g,0,cap,hv,h3,h4,aj hh,fun j x hj i u hi=>?_⟩;have Ac:=h0 x (List.mem_of_getElem? hj);have NI:j*k+i<xs.length*k:=by
   have Wz:=(List.getElem?_eq_some_iff.1 hj).1;have hi':=(List.getElem?_eq_some_iff.1 hi).1;have:(j+1)*k<=xs.length*k:=Nat.mul_le_mul_right _ Wz;rw[Nat.succ_mul]at this;omega
  have e1:(cur.toList.take (xs.length*k))[j*k+i]?=some u:=by rw[h6];exact xB (fun z hz=>(h0 z hz).1) hj hi
  rw[List.getElem?_take_of_lt NI]at e1;have e2:cur[j*k+i]?=some u:=by simpa using e1
  simp[World.cell?,hh,e2]
end
theorem lR{P:Program}{ops:Array Oper}{rest:List Oper}{o:Oper}{a:Act}{Q:Exit->Act->World->Prop}{w:World}(zM:o.guard=none)(s x:Operand)(t e:TypeId)
  (ho:o.op=.call {callee:=.builtin .append,args:= #[s,x],argTypes:= #[t,t]})(k bytes:Nat)(z:Value)(ht:P.underlying t=some (.slice e))
  (am5:(P.info? e).map (fun i=>(i.zero,i.size,i.bytes))=some (some z,k,bytes))(hz:z.cells.size=k)(hk:0<k)(hb:bytes<=1024)
  (base:Nat)(v:Value)(l:List (List Value))(hs:a.eval s=v)(a_:OwnRows base e k w v l)
  (ad:Nat)(c:Nat)(y:List Value)(hx:a.eval x=.slice (some ⟨ad,0,none⟩) 1 c)(FH:y.length=k)(ze:∀u∈y,u.oneCell'=true)(hy:∀(i:Nat) u,y[i]?=some u->w.cell? ⟨ad,i,none⟩=some u)
  (hlen:l.length<68719476736)(eI:base<=w.heap.size)
  (h:∀v' w',OwnRows base e k w' v' (l++[y])->w.grownBy w' v.ownBlock->wpList P ops Q rest (a.put o.dst v') w'):wpList P ops Q (o :: rest) a w:=by
 obtain⟨i0,hi,oZ,iy,gU⟩:=info_parts am5;refine wpList_append_own w zM s x t ho base e i0 z k bytes ht hi oZ iy gU hz hk v l.length l.flatten hs a_.2 ⟨ad,0,none⟩ 1 c y hx (by rw[FH,Nat.one_mul]) ?_ ze ?_ ?_ eI ?_
 ·intro j u hj;have ea:(Addr.add ⟨ad,0,none⟩ j)=⟨ad,j,none⟩:=by unfold Addr.add;split<;>simp_all
  rw[ea];exact hy j u hj
 ·unfold maxLen;omega
 ·have:(l.length+1)*bytes<=68719476736*1024:=Nat.mul_le_mul (by omega) hb;omega
 ·intro v' w' h1 h2 _;refine h v' w' ⟨?_,?_⟩ h2
  ·intro q hq;rcases List.mem_append.1 hq with g|g
   ·exact a_.1 q g
   ·simp at g;subst g;exact⟨FH,ze⟩
  ·simpa using h1
def WD:Go.Shelf.Ren:=⟨fun|167=>210|240=>157|276=>215|n=>n,fun|70=>158|9=>9|72=>161|37=>159|164=>251|20=>20|75=>56|80=>164|5=>5|79=>247|n=>n,fun|n=>n⟩
theorem Y8:Go.Proofs.Lays.n167 Tryz.prog WD:={
 mixed:=by kernel_rfl
 f167:=Tryz.func210.trans (congrArg some (by kernel_rfl))
 f240:=Tryz.func157.trans (congrArg some (by kernel_rfl))
 f276:=Tryz.func215.trans (congrArg some (by kernel_rfl))
 t0:=Tryz.underlying0
 a0:=Tryz.isAgg0
 z0:=Tryz.sizeOf0
 v0:=Tryz.zeroValue0
 t4:=Tryz.underlying4
 a4:=Tryz.isAgg4
 z4:=Tryz.sizeOf4
 v4:=Tryz.zeroValue4
 t5:=Tryz.underlying5
 a5:=Tryz.isAgg5
 z5:=Tryz.sizeOf5
 v5:=Tryz.zeroValue5
 t9:=Tryz.underlying9
 a9:=Tryz.isAgg9
 z9:=Tryz.sizeOf9
 v9:=Tryz.zeroValue9
 t20:=Tryz.underlying20
 a20:=Tryz.isAgg20
 z20:=Tryz.sizeOf20
 v20:=Tryz.zeroValue20
 t37:=Tryz.underlying159
 a37:=Tryz.isAgg159
 z37:=Tryz.sizeOf159
 v37:=Tryz.zeroValue159
 t70:=Tryz.underlying158
 a70:=Tryz.isAgg158
 z70:=Tryz.sizeOf158
 v70:=Tryz.zeroValue158
 t72:=Tryz.underlying161
 a72:=Tryz.isAgg161
 z72:=Tryz.sizeOf161
 v72:=Tryz.zeroValue161
 t75:=Tryz.underlying56
 a75:=Tryz.isAgg56
 z75:=Tryz.sizeOf56
 v75:=Tryz.zeroValue56
 t164:=Tryz.underlying251
 a164:=Tryz.isAgg251
 z164:=Tryz.sizeOf251
 v164:=Tryz.zeroValue251}
theorem TN:Builder.Extra Tryz.prog WD:={
 sizeBuilder:=by kernel_rfl
 liesBuilder:=by kernel_rfl
 t5:=Tryz.underlying5
 a5:=Tryz.isAgg5
 z5:=Tryz.sizeOf5
 v5:=Tryz.zeroValue5
 infoByte:=by kernel_rfl
 cellsByte:=by kernel_rfl
 sizeByte:=by kernel_rfl
 neB5:=by decide}
def Ah(B b:Nat)(l:List UInt8)(w:World):Prop:=Lib.IsBuilder 161 5 B b (nT l) w
theorem eV(B b:Nat)(l:List UInt8)(c:UInt8)(w:World)(h:Ah B b l w)(hlen:l.length+1<=140737488355328)(Tn:B<=w.heap.size) :
  Calls Tryz.prog 210 #[.pointer (some ⟨b,0,none⟩),.int .u8 c.toNat] w fun e w'=>e=.returned .nilIface/\Ah B b (l++[c]) w'/\Below B w w' :=
 (Any.Builder_WriteByte Y8 TN B b (nT l) c.toNat w h (by rw[rI];exact hlen) Tn).mono fun e w' ⟨he,hb,hw⟩=>⟨he,by unfold Ah;rw[C6];exact Or.inr hb,hw⟩
theorem vS(B b:Nat)(l:List UInt8)(w:World)(h:Ah B b l w)(Tn:B<=w.heap.size) :
  Calls Tryz.prog 97 #[.pointer (some ⟨b,0,none⟩)] w fun e w'=>e=.returned (.string ⟨l.toArray⟩)/\Below B w w' :=
 Tryz.Builder_String_any B b l w h Tn
theorem Fr.gC{S:Nat->Prop}{a w w':World}(h:Fr S a w)(g:Below a.heap.size w w'):Fr S a w' :=
 h.step (Fr.IG (S:=fun k=>a.heap.size<=k) g (fun _ _ h=>h)) (fun k hk hT=>absurd hT (by omega))
theorem Ah.new(w:World):Ah w.heap.size w.heap.size [] (w.alloc (.cells #[.pointer none,.slice none 0 0] 161)) :=
 Or.inl ⟨Nat.le_refl _,_,af w _,World.ownsRow_nil _ _ _ _,by simp[Value.ownBlock]⟩
theorem Ec{P:Program}{W:World}{x:String×DataW Unit}:∀ {laid:List (String×DataW Unit)},laidMet P laid W->x∈laid->∃r,laidMet P (x :: r) W
 |y :: l,h,hm=>by
  rcases List.mem_cons.1 hm with rfl|hm
  ·exact⟨l,h⟩
  ·exact Ec (laidMet.tail h) hm
theorem Ed{P:Program}{W:World}{laid:List (String×DataW Unit)}{name:String}{k:IntKind}{zs:List Int}{g:Nat}{t e:TypeId}{n:Nat}
  (h:laidMet P laid W)(hm:(name,Lib.tabData k zs)∈laid)
  (hg:P.globalNamed name=some g)(MY:(P.globals[g]?).map (·.type)=some t)(ht:P.underlying t=some (.array n e))(he:P.underlying e=some (.int k))(hce:P.cellsOf e=1)(hct:P.cellsOf t=n):Lib.TabIs P W name k zs:=by
 obtain⟨r,hr⟩:=Ec h hm;exact Lib.tabIs_of_head hg MY ht he hce hct hr
def nI(w:World):Prop:=Lib.TabIs Tryz.prog w "internal/strconv.uint64pow10" .u64 Lib.pow10Tab
theorem nI.fr{w w':World}(h:nI w)(hf:Fr ay w w'):nI w':=Go.Joins.tab_stays (g:=5) (by kernel_rfl) h hf.bQ (Nat.le_refl _)
theorem ot{W:World}{laid:List (String×DataW Unit)}(h:laidMet Tryz.prog laid W)(hm:("internal/strconv.uint64pow10",Lib.tabData .u64 Lib.pow10Tab)∈laid/\True):nI W :=
 Ed h hm.1 (g:=5) (by kernel_rfl) (by kernel_rfl) Tryz.underlying286 Tryz.underlying264 (by kernel_rfl) (by kernel_rfl)
def cX(w:World)(v:Value)(ss:List ByteArray):Prop :=
 (∃a c,v=.slice a 0 c/\ss=[]/\(a=none->c=0)) \/
 ∃bk o c,v=.slice (some ⟨bk,o,none⟩) ss.length c/\ss.length<=c/\c<=maxLen/\bk<w.heap.size/\∀(j:Nat) x,ss[j]?=some x->w.cell? ⟨bk,o+j,none⟩=some (.string x)
theorem cX.nil(w:World):cX w (.slice none 0 0) []:=Or.inl ⟨_,_,rfl,rfl,fun _=>rfl⟩
theorem cX.fr{S:Nat->Prop}{w w':World}{v:Value}{ss:List ByteArray}(h:cX w v ss)(hf:Fr S w w')(hn:∀k,v.ownBlock=some k->¬S k):cX w' v ss:=by
 rcases h with h|⟨bk,o,c,hv,h1,h2,h3,h4⟩
 ·exact Or.inl h
 ·refine Or.inr ⟨bk,o,c,hv,h1,h2,Nat.lt_of_lt_of_le h3 hf.size,fun j x hj=>?_⟩;rw[hf.cell (p:=⟨bk,o+j,none⟩) h3 (hn bk (by rw[hv];rfl))];exact h4 j x hj
theorem cX.bu{w w':World}{v:Value}{ss:List ByteArray}(h:cX w v ss)(hf:Fr ay w w'):cX w' v ss:=h.fr hf (fun _ _ h=>h)
theorem cX.form{w:World}{v:Value}{ss:List ByteArray}(h:cX w v ss):∃a c,v=.slice a ss.length c:=by
 rcases h with ⟨a,c,hv,hs,_⟩|⟨bk,o,c,hv,_⟩
 ·exact⟨a,c,by rw[hv,hs];rfl⟩
 ·exact⟨_,_,hv⟩
theorem sQ:(Tryz.prog.info? 9).map (fun i=>(i.zero,i.size,i.bytes))=some (some (.string ⟨#[]⟩),1,16):=by kernel_rfl
def Strs(base:Nat)(w:World)(v:Value)(ss:List ByteArray):Prop:=w.ownsRow base 9 1 v ss.length (ss.map Value.string)
section
variable {base : Nat} {w w' : World} {v : Value} {ss : List ByteArray}
theorem Strs.nil(base:Nat)(w:World):Strs base w (.slice none 0 0) []:=World.ownsRow_nil _ _ _ _
theorem Strs.alloc(h:Strs base w v ss)(o:Obj):Strs base (w.alloc o) v ss:=World.ownsRow.alloc h o
theorem Strs.drew(h:Strs base w v ss):Strs base w.drew v ss:=h
theorem Strs.form(h:Strs base w v ss):∃a c,v=.slice a ss.length c:=by
 rcases h.2 with ⟨hv,hn⟩|⟨g,cap,cur,hv,_⟩
 ·exact⟨none,0,by rw[hv,hn]⟩
 ·exact⟨_,_,hv⟩
theorem Strs.fr{S:Nat->Prop}(h:Strs base w v ss)(hf:Fr S w w')(hS:∀k,S k->k<base):Strs base w' v ss:=by
 obtain⟨h1,h2⟩:=h;refine⟨h1,?_⟩;rcases h2 with h2|⟨g,cap,cur,hv,hg,hh,r⟩
 ·exact Or.inl h2
 ·exact Or.inr ⟨g,cap,cur,hv,hg,hf.keep hh (fun hs=>absurd (hS g hs) (by omega)),r⟩
theorem Strs.block(h:Strs base w v ss):∀k,v.ownBlock=some k->base<=k:=by
 intro k hk;rcases h.2 with ⟨hv,_⟩|⟨g,cap,cur,hv,hg,_⟩
 ·rw[hv]at hk;simp[Value.ownBlock]at hk
 ·rw[hv]at hk;simp[Value.ownBlock]at hk;omega
theorem Strs.at(h:Strs base w v ss):cX w v ss:=by
 obtain⟨h1,h2⟩:=h;rcases h2 with ⟨hv,hn⟩|⟨g,cap,cur,hv,hg,hh,h3,h4,h5,h6⟩
 ·exact Or.inl ⟨none,0,hv,List.eq_nil_of_length_eq_zero hn,fun _=>rfl⟩
 ·refine Or.inr ⟨g,0,cap,hv,h3,h4,aj hh,fun j x hj=>?_⟩;have hl:=(List.getElem?_eq_some_iff.1 hj).1;have e:(cur.toList.take (ss.length*1))[j]?=some (.string x):=by rw[h6];simp[hj]
  rw[List.getElem?_take_of_lt (by omega)]at e;have e2:cur[j]?=some (.string x):=by simpa using e
  simp[World.cell?,hh,e2]
end
theorem jb{ops:Array Oper}{rest:List Oper}{o:Oper}{a:Act}{Q:Exit->Act->World->Prop}{w:World}(zM:o.guard=none)(s x:Operand)
  (ho:o.op=.call {callee:=.builtin .append,args:= #[s,x],argTypes:= #[45,45]})(base:Nat)(v:Value)(l:List ByteArray)(hs:a.eval s=v)(a_:Strs base w v l)
  (ad:Addr)(c:Nat)(y:ByteArray)(hx:a.eval x=.slice (some ad) 1 c)(hy:w.cell? ad=some (.string y))(hlen:l.length<4398046511104)(eI:base<=w.heap.size)
  (h:∀v' w',Strs base w' v' (l++[y])->w.grownBy w' v.ownBlock->wpList Tryz.prog ops Q rest (a.put o.dst v') w'):wpList Tryz.prog ops Q (o :: rest) a w:=by
 obtain⟨i0,hi,oZ,iy,gU⟩:=info_parts sQ;refine wpList_append_own w zM s x 45 ho base 9 i0 (.string ⟨#[]⟩) 1 16 Tryz.underlying45 hi oZ iy gU rfl (by decide) v l.length (l.map Value.string) hs a_ ad 1 c [.string y] hx rfl ?_ ?_ ?_ ?_ eI ?_
 ·intro j u hj
  match j,hj with
  |0,hj=>simp at hj;subst hj;simpa[Addr.add]using hy
 ·intro u hu;simp at hu;subst hu;rfl
 ·unfold maxLen;omega
 ·omega
 ·intro v' w' h1 h2 _;exact h v' w' (by unfold Strs;simpa using h1) h2
end Go.Proofs.YtjdmjbdkdmbaiaaGreatDoor
