/- Lemmas for the law's walk. -/
import Derived.Test.YtnckmcnffadjoaaGreatDoorPm1
import Derived.Shelf.Strings.SlTrimAscii
import Derived.Shelf.SlicesQ.Load
import Derived.Stop.LaidErr
import Derived.Lib.SmallJoins
import Derived.Lib.AppendIntMem
import Derived.Lib.Atoi
import Derived.Deep.MidRow
set_option maxRecDepth 100000
set_option maxHeartbeats 16000000
set_option linter.unusedSimpArgs false
namespace Go.Proofs.YtnckmcnffadjoaaGreatDoor
open Go.Proofs.Tryz
open Go.RowKit
variable {p:UInt8->Bool} {l a:aI} {i b k n j g base cap:Nat} {c x y:UInt8} {w w':World} {s:aj} {S:dC} {v:Value} {ss:List aj} {P:Program} {ops:Array Oper} {Q:Exit->Act->World->Prop} {e:TypeId} {xs:cZ}
def cM(p:UInt8->Bool)(l:aI)(i:Nat):Nat:=i+((l.drop i).takeWhile p).length
theorem oG(h:l[i]?=some c)(hp:p c=true):cM p l i=cM p l (i+1):=by
 have hi:i<l.length:=by
  rcases fH i l.length with g|g
  ·exact g
  ·simp[List.getElem?_eq_none g]at h
 unfold cM;have e:l.drop i=c :: l.drop (i+1):=by
  rw[cU hi];rw[List.getElem?_eq_getElem hi]at h;simp at h;rw[h]
 rw[e,List.takeWhile_cons_of_pos hp];simp;omega
theorem lG(h:∀c,l[i]?=some c->p c=false):cM p l i=i:=by
 unfold cM;rcases fH i l.length with g|g
 ·rw[cU g,List.takeWhile_cons_of_neg]
  ·rfl
  ·have:=h l[i] (List.getElem?_eq_getElem g);simp[this]
 ·simp[cQ g]
theorem ib(h:i<=l.length):cM p l i<=l.length:=by
 unfold cM;have:=(List.takeWhile_prefix p (l:=l.drop i)).length_le;simp at this;omega
theorem lH:i<=cM p l i:=by unfold cM;omega
def pD(w:World)(b:Nat):Nat:=match w.cell? ⟨b,1,none⟩with|some (.int _ n)=>n.toNat|_=>0
theorem dx.pos(h:dx w b s i):pD w b=i:=by simp[pD,h.h_]
theorem Hh(h:dx w b s (k+1))(hk:k<s.size):s.size-pD w b<s.size-k:=by rw[h.pos];omega
def dN(c:UInt8):Bool:=c==32||c==9
theorem uU(n:Nat)(hn:n<256):((c.toNat:Int)==(n:Int))=(c==n.toUInt8):=by
 rw[fc,dW,dW, <-iW];have:(n.toUInt8).toNat=n:=bI;rw[this];omega
theorem mB(b:Nat)(s:aj)(i:Nat)(w:World)(h:dx w b s i)(hs:s.size<=maxLen)(hi:i<=s.size) :
  aB 163 #[.pointer (some ⟨b,0,none⟩)] w fun e w'=>e=.returned (.bool (decide (i<cM dN s.data.toList i)))/\dx w' b s (cM dN s.data.toList i)/\Fr (one b) w w':=by
 have h0:=h.cell0;have h1:=h.h_;unfold maxLen at hs;go_enter func163,ntmps163;go_wp2;clear h0 h1;go_loopw[] (fun wr=>∃k,i<=k/\k<=s.size/\dx wr b s k/\cM dN s.data.toList k=cM dN s.data.toList i/\Fr (one b) w wr) (fun wr=>s.size-pD wr b)
 case atStart=>exact⟨i,ay _,hi,h,rfl,ae _ _⟩
 case round =>
  obtain⟨k,MK,fo,hc,qx,cL⟩:=hrel;have xN:=O qx;clear qx;have h0:=hc.cell0;have h1:=hc.h_;have hf:=hc.free 1;have p_:=O hc.pos;by_cases hk:k<s.size
  ·have hd:decide (k<s.size)=true:=by simp[hk]
   have dT:=O (byte_at s k hk);generalize hx:s[k]=x at dT;have go:dN x=true->cM dN s.data.toList (k+1)=cM dN s.data.toList i:=fun hb=>(oG dT.o hb).symm.trans xN.o;have GO:=O go;clear go;cases e1:x==32
   ·have n1:((x.toNat:Int)==32)=false:=by rw[<-e1];exact uU 32 ag
    cases e2:x==9
    ·have n2:((x.toNat:Int)==9)=false:=by rw[<-e2];exact uU 9 ag
     have yR:=O (lG (p:=dN) (l:=s.data.toList) (i:=k) (fun c TV=>by rw[dT.o]at TV;cases TV;simp[dN,e1,e2]));clear e1 e2;go_wp2;go_quiet (fail);go_wp2;go_ret;rw[<-xN.o,yR.o];exact⟨rfl,hc,by repeat(first|exact cL|apply dD)⟩
    ·have n2:((x.toNat:Int)==9)=true:=by rw[<-e2];exact uU 9 ag
     have hn:=O (GO.o (by simp[dN,e2]));clear e1 e2;go_wp2;go_quiet (fail);go_wp2;go_roundw
     case rel=>exact⟨k+1,ab,ab,(hc.setCell (j:=k+1)).drewN _,hn.o,cL.trans (mz wr b _ _)⟩
     case measure=>rw[p_.o];exact Hh (hc.setCell (j:=k+1)) hk
   ·have n1:((x.toNat:Int)==32)=true:=by rw[<-e1];exact uU 32 ag
    have hn:=O (GO.o (by simp[dN,e1]));clear e1;go_wp2;go_quiet (fail);go_wp2;go_roundw
    case rel=>exact⟨k+1,ab,ab,(hc.setCell (j:=k+1)).drewN _,hn.o,cL.trans (mz wr b _ _)⟩
    case measure=>rw[p_.o];exact Hh (hc.setCell (j:=k+1)) hk
  ·have hd:decide (k<s.size)=false:=bI;have yR:=O (lG (p:=dN) (l:=s.data.toList) (i:=k) (fun c TV=>by rw[tL s k hk]at TV;cases TV));go_wp2;go_quiet (fail);go_wp2;go_ret;rw[<-xN.o,yR.o];exact⟨rfl,hc,by repeat(first|exact cL|apply dD)⟩
theorem vB(b:Nat)(s:aj)(i:Nat)(w:World)(h:dx w b s i)(hs:s.size<=maxLen)(hi:i<=s.size) :
  aB 166 #[.pointer (some ⟨b,0,none⟩)] w fun e w'=>e=.returned (.string (s.extract i (cM fW s.data.toList i)))/\dx w' b s (cM fW s.data.toList i)/\Fr (one b) w w':=by
 have h0:=h.cell0;have h1:=h.h_;unfold maxLen at hs;go_enter func166,ntmps166;go_wp2;clear h0 h1;go_loopw[] (fun wr=>∃k,i<=k/\k<=s.size/\dx wr b s k/\cM fW s.data.toList k=cM fW s.data.toList i/\Fr (one b) w wr) (fun wr=>s.size-pD wr b)
 case atStart=>exact⟨i,ay _,hi,h,rfl,ae _ _⟩
 case round =>
  obtain⟨k,MK,fo,hc,qx,cL⟩:=hrel;have xN:=O qx;clear qx;have h0:=hc.cell0;have h1:=hc.h_;have hf:=hc.free 1;have p_:=O hc.pos;by_cases hk:k<s.size
  ·have hd:decide (k<s.size)=true:=by simp[hk]
   have dT:=O (byte_at s k hk);generalize hx:s[k]=x at dT;have go:fW x=true->cM fW s.data.toList (k+1)=cM fW s.data.toList i:=fun hb=>(oG dT.o hb).symm.trans xN.o;have GO:=O go;clear go;cases e1:fW x
   ·have yR:=O (lG (p:=fW) (l:=s.data.toList) (i:=k) (fun c TV=>by rw[dT.o]at TV;cases TV;exact e1));go_wp2;go_quiet ((go_at_call 152;exact tK (yQ _ _)));go_wp2;go_quiet (fail);go_wp2;go_ret;rw[<-xN.o,yR.o];exact⟨rfl,hc,by repeat(first|exact cL|apply dD)⟩
   ·have hn:=O (GO.o e1);go_wp2;go_quiet ((go_at_call 152;exact tK (yQ _ _)));go_wp2;go_roundw
    case rel=>exact⟨k+1,ab,ab,(hc.setCell (j:=k+1)).drewN _,hn.o,cL.trans (mz wr b _ _)⟩
    case measure=>rw[p_.o];exact Hh (hc.setCell (j:=k+1)) hk
  ·have hd:decide (k<s.size)=false:=bI;have yR:=O (lG (p:=fW) (l:=s.data.toList) (i:=k) (fun c TV=>by rw[tL s k hk]at TV;cases TV));go_wp2;go_quiet (fail);go_wp2;go_quiet (fail);go_wp2;go_ret;rw[<-xN.o,yR.o];exact⟨rfl,hc,by repeat(first|exact cL|apply dD)⟩
theorem dropWhile_nil{α:Type}{p:α->Bool}:∀ {l:List α},l.dropWhile p=[]↔l.all p=true
 |[]=>aR
 |a :: l=>by
  rw[List.dropWhile_cons,List.all_cons];cases h:p a
  ·simp
  ·simp only[ef,Bool.true_and];exact dropWhile_nil
theorem wQ(l cs:aI):Lib.trimS l cs=[]↔l.all (cs.contains ·)=true:=by
 unfold Lib.trimS Lib.trimLeftS Lib.trimRightS;rw[dropWhile_nil];constructor
 ·intro h;have h2:l.reverse.dropWhile (cs.contains ·)=[]:=by
   cases hq:l.reverse.dropWhile (cs.contains ·)with
   |nil=>rfl
   |cons a r =>
    exfalso;have hh:=List.head?_dropWhile_not (p:=(cs.contains ·)) l.reverse;rw[hq]at h hh;simp only[List.head?_cons,List.reverse_cons,j5,List.all_cons,List.all_nil,Bool.and_true,cF]at h hh;rw[h.2]at hh;simp at hh
  rw[dropWhile_nil]at h2;simpa using h2
 ·intro h;rw[gB]at h ⊢;intro x hx;refine h x ?_;have h1:=(List.dropWhile_sublist (cs.contains ·) (l:=l.reverse)).subset (List.mem_reverse.1 hx);exact List.mem_reverse.1 h1
theorem gX:s.data.toList=[]↔s.size=0:=by
 constructor
 ·intro h;have:s.data.toList.length=0:=by rw[h];rfl
  simpa using this
 ·intro h;apply cj;simpa using h
theorem sy(s cs:aj)(w:World)(hs:s.size<=9223372036854775807)(h2:2<=cs.size)(hcs:cs.size<4294967281)(M8:∀b∈cs.data.toList,b.toNat<128) :
  aB 128 #[.string s,.string cs] w fun e w'=>e=.returned (.string ⟨(Lib.trimS s.data.toList cs.data.toList).toArray⟩)/\Fr aS w w':=by
 by_cases h0:s.size=0
 ·refine(Any.strings_Trim_empty Pg s cs w (Or.inl h0)).mono fun e w' ⟨he,hw⟩=>⟨?_,hw▸ae _ _⟩;have e0:=gX.2 h0;rw[he,e0]
  congr 2
  rw[show Lib.trimS [] cs.data.toList=[]from rfl];cases s with
  |mk d=>simp at e0;rw[e0]
 ·refine(Any.strings_Trim_set Pg (fun w=>af) af s cs w h2 ab hs hcs (fun j b hj=>M8 b (cq hj))).mono fun e w' ⟨he,q,hw⟩=>⟨he,?_⟩;rw[hw];exact(((ae aS w).alloc _).alloc _).drewN q
def dY(k:Nat)(w:World)(v:Value)(xs:cZ):Prop :=
 (∀x∈xs,x.length=k/\∀u∈x,u.oneCell'=true) /\
 ((∃a c,v=.slice a 0 c/\xs=[]/\(a=none->c=0)) \/
  ∃bk o c,v=.slice (some ⟨bk,o,none⟩) xs.length c/\xs.length<=c/\c<=maxLen/\bk<w.heap.size /\
   ∀(j:Nat) x,xs[j]?=some x->∀(i:Nat) u,x[i]?=some u->w.cell? ⟨bk,o+j*k+i,none⟩=some u)
section
variable {k : Nat} {w w' : World} {v : Value} {xs : List (List Value)}
theorem dY.nil(k:Nat)(w:World):dY k w (.slice none 0 0) []:=⟨aR,Or.inl ⟨_,_,rfl,rfl,fun _=>rfl⟩⟩
theorem dY.form(h:dY k w v xs):∃a c,v=.slice a xs.length c:=by
 rcases h.2 with ⟨a,c,hv,hs,_⟩|⟨bk,o,c,hv,_⟩
 ·exact⟨a,c,by rw[hv,hs];rfl⟩
 ·exact⟨_,_,hv⟩
theorem dY.fr(h:dY k w v xs)(hf:Fr S w w')(hn:∀b,v.ownBlock=some b->¬S b):dY k w' v xs:=by
 refine⟨h.1,?_⟩;rcases h.2 with h|⟨bk,o,c,hv,h1,h2,h3,h4⟩
 ·exact Or.inl h
 ·refine Or.inr ⟨bk,o,c,hv,h1,h2,cP h3 hf.size,fun j x hj i u hi=>?_⟩;rw[hf.cell (p:=⟨bk,o+j*k+i,none⟩) h3 (hn bk (by rw[hv];rfl))];exact h4 j x hj i u hi
theorem dY.fI(h:dY k w v xs)(hf:Fr aS w w'):dY k w' v xs:=h.fr hf (fun _ _ h=>h)
end
def OwnRows(base:Nat)(e:TypeId)(k:Nat)(w:World)(v:Value)(xs:cZ):Prop :=
 (∀x∈xs,x.length=k/\∀u∈x,u.oneCell'=true)/\w.ownsRow base e k v xs.length xs.flatten
theorem rD:∀ {k:Nat} {xs:cZ} (_:∀x∈xs,x.length=k) {j:Nat} {x:aX} (_:xs[j]?=some x) {i:Nat} {u:Value} (_:x[i]?=some u),xs.flatten[j*k+i]?=some u
 |k,[],_,j,x,hj,i,u,hi=>by simp at hj
 |k,y :: ys,hl,0,x,hj,i,u,hi=>by
  simp at hj;subst hj;have:=(List.getElem?_eq_some_iff.1 hi).1;simp only[List.flatten_cons,il,bw];rw[List.getElem?_append_left this];exact hi
 |k,y :: ys,hl,j+1,x,hj,i,u,hi=>by
  have hy:=hl y aR;have ih:=rD (k:=k) (xs:=ys) (fun z hz=>hl z (bQ _ hz)) (j:=j) (by simpa using hj) hi;simp only[List.flatten_cons];rw[List.getElem?_append_right (by rw[hy,im];omega),hy,show(j+1)*k+i-k=j*k+i from by rw[im];omega];exact ih
theorem gD:∀ {k:Nat} {xs:cZ} (_:∀x∈xs,x.length=k),xs.flatten.length=xs.length*k
 |k,[],_=>aR
 |k,y :: ys,hl=>by
  have:=gD (k:=k) (xs:=ys) (fun z hz=>hl z (bQ _ hz));simp only[List.flatten_cons,aN,this,hl y aR,List.length_cons,im];omega
section
variable {base k : Nat} {e : TypeId} {w w' : World} {v : Value} {xs : List (List Value)}
theorem OwnRows.nil(base:Nat)(e:TypeId)(k:Nat)(w:World):OwnRows base e k w (.slice none 0 0) []:=⟨aR,World.ownsRow_nil _ _ _ _⟩
theorem OwnRows.alloc(h:OwnRows base e k w v xs)(o:Obj):OwnRows base e k (w.alloc o) v xs:=⟨h.1,World.ownsRow.alloc h.2 o⟩
theorem OwnRows.drewN(h:OwnRows base e k w v xs):OwnRows base e k (w.drewN n) v xs:=h
theorem OwnRows.form(h:OwnRows base e k w v xs):∃a c,v=.slice a xs.length c:=by
 rcases h.2.2 with ⟨hv,hn⟩|⟨g,cap,cur,hv,_⟩
 ·exact⟨none,0,by rw[hv,hn]⟩
 ·exact⟨_,_,hv⟩
theorem OwnRows.up{b':Nat}(h:OwnRows b' e k w v xs)(hb:base<=b'):OwnRows base e k w v xs:=by
 obtain⟨h0,h1,h2⟩:=h;refine⟨h0,h1,?_⟩;rcases h2 with h2|⟨g,cap,cur,hv,hg,r⟩
 ·exact Or.inl h2
 ·exact Or.inr ⟨g,cap,cur,hv,aG hb hg,r⟩
theorem OwnRows.fr(h:OwnRows base e k w v xs)(hf:Fr S w w')(hn:∀b,v.ownBlock=some b->¬S b):OwnRows base e k w' v xs:=by
 obtain⟨h0,h1,h2⟩:=h;refine⟨h0,h1,?_⟩;rcases h2 with h2|⟨g,cap,cur,hv,hg,hh,r⟩
 ·exact Or.inl h2
 ·exact Or.inr ⟨g,cap,cur,hv,hg,hf.keep hh (hn g (by rw[hv];rfl)),r⟩
theorem OwnRows.block(h:OwnRows base e k w v xs):∀b,v.ownBlock=some b->base<=b:=by
 intro b hb;rcases h.2.2 with ⟨hv,_⟩|⟨g,cap,cur,hv,hg,_⟩
 ·rw[hv]at hb;simp[Value.ownBlock]at hb
 ·rw[hv]at hb;simp[Value.ownBlock]at hb;omega
theorem OwnRows.lt(h:OwnRows base e k w v xs):∀b,v.ownBlock=some b->b<w.heap.size:=by
 intro b hb;rcases h.2.2 with ⟨hv,_⟩|⟨g,cap,cur,hv,hg,hh,_⟩
 ·rw[hv]at hb;simp[Value.ownBlock]at hb
 ·rw[hv]at hb;simp[Value.ownBlock]at hb;subst hb;exact bj hh
theorem OwnRows.at(h:OwnRows base e k w v xs):dY k w v xs:=by
 obtain⟨h0,h1,h2⟩:=h;refine⟨h0,?_⟩;rcases h2 with ⟨hv,hn⟩|⟨g,cap,cur,hv,hg,hh,h3,h4,h5,h6⟩
 ·exact Or.inl ⟨none,0,hv,cj hn,fun _=>rfl⟩
 ·refine Or.inr ⟨g,0,cap,hv,h3,h4,bj hh,fun j x hj i u hi=>?_⟩;have FT:=h0 x (cq hj);have FU:j*k+i<xs.length*k:=by
   have hj':=(List.getElem?_eq_some_iff.1 hj).1;have hi':=(List.getElem?_eq_some_iff.1 hi).1;have:(j+1)*k<=xs.length*k:=bP _ hj';rw[im]at this;omega
  have e1:(cur.toList.take (xs.length*k))[j*k+i]?=some u:=by rw[h6];exact rD (fun z hz=>(h0 z hz).1) hj hi
  rw[List.getElem?_take_of_lt FU]at e1;have e2:cur[j*k+i]?=some u:=by simpa using e1
  simp[World.cell?,hh,e2]
end
theorem nQ{P:Program}{ops:Array Oper}{rest:List Oper}{o:Oper}{a:Act}{Q:Exit->Act->World->Prop}{w:World}(yN:o.guard=none)(s x:Operand)(t e:TypeId)
  (ho:o.op=.call {callee:=.builtin .append,args:= #[s,x],argTypes:= #[t,t]})(k bytes:Nat)(z:Value)(ht:P.underlying t=some (.slice e))
  (am9:(P.info? e).map (fun i=>(i.zero,i.size,i.bytes))=some (some z,k,bytes))(hz:z.cells.size=k)(hk:0<k)(hb:bytes<=1024)
  (base:Nat)(v:Value)(l:cZ)(hs:a.eval s=v)(cR:OwnRows base e k w v l)
  (ad:Nat)(c:Nat)(y:aX)(hx:a.eval x=.slice (some ⟨ad,0,none⟩) 1 c)(C7:y.length=k)(EP:∀u∈y,u.oneCell'=true)(hy:∀(i:Nat) u,y[i]?=some u->w.cell? ⟨ad,i,none⟩=some u)
  (hlen:l.length<68719476736)(iE:base<=w.heap.size)
  (h:∀v' w',OwnRows base e k w' v' (l++[y])->w.grownBy w' v.ownBlock->wpList P ops Q rest (a.put o.dst v') w'):wpList P ops Q (o :: rest) a w:=by
 obtain⟨i0,hi,po,k_,lp⟩:=info_parts am9;refine wpList_append_own w yN s x t ho base e i0 z k bytes ht hi po k_ lp hz hk v l.length l.flatten hs cR.2 ⟨ad,0,none⟩ 1 c y hx (by rw[C7,Nat.one_mul]) ?_ EP ?_ ?_ iE ?_
 ·intro j u hj;have ea:(Addr.add ⟨ad,0,none⟩ j)=⟨ad,j,none⟩:=by unfold Addr.add;split<;>simp_all
  rw[ea];exact hy j u hj
 ·unfold maxLen;omega
 ·have:(l.length+1)*bytes<=68719476736*1024:=Nat.mul_le_mul ab hb;omega
 ·intro v' w' h1 h2 _;refine h v' w' ⟨?_,?_⟩ h2
  ·intro q hq;rcases bR.1 hq with g|g
   ·exact cR.1 q g
   ·simp at g;subst g;exact⟨C7,EP⟩
  ·simpa using h1
abbrev bh := @dY.fI
abbrev dy := @OwnRows.nil
abbrev dK := @dY.form
def aby:Go.Shelf.Ren:=⟨fun|167=>156|240=>157|276=>206|n=>n,fun|70=>176|9=>9|72=>179|37=>177|164=>275|20=>20|75=>56|80=>187|5=>5|79=>238|n=>n,fun|n=>n⟩
theorem adf:Go.Proofs.Lays.n167 prog aby:={
 mixed:=af
 f167:=func156.trans (ar some af)
 f240:=func157.trans (ar some af)
 f276:=func206.trans (ar some af)
 t0:=underlying0
 a0:=isAgg0
 z0:=sizeOf0
 v0:=zeroValue0
 t4:=underlying4
 a4:=isAgg4
 z4:=sizeOf4
 v4:=zeroValue4
 t5:=underlying5
 a5:=isAgg5
 z5:=sizeOf5
 v5:=zeroValue5
 t9:=underlying9
 a9:=isAgg9
 z9:=sizeOf9
 v9:=zeroValue9
 t20:=underlying20
 a20:=isAgg20
 z20:=sizeOf20
 v20:=zeroValue20
 t37:=underlying177
 a37:=isAgg177
 z37:=sizeOf177
 v37:=zeroValue177
 t70:=underlying176
 a70:=isAgg176
 z70:=sizeOf176
 v70:=zeroValue176
 t72:=underlying179
 a72:=isAgg179
 z72:=sizeOf179
 v72:=zeroValue179
 t75:=underlying56
 a75:=isAgg56
 z75:=sizeOf56
 v75:=zeroValue56
 t164:=underlying275
 a164:=isAgg275
 z164:=sizeOf275
 v164:=zeroValue275}
theorem YT:Builder.Extra prog aby:={
 sizeBuilder:=af
 liesBuilder:=af
 t5:=underlying5
 a5:=isAgg5
 z5:=sizeOf5
 v5:=zeroValue5
 infoByte:=af
 cellsByte:=af
 sizeByte:=af
 neB5:=ag}
def FY(B b:Nat)(l:aI)(w:World):Prop:=Lib.IsBuilder 179 5 B b (ue l) w
theorem ko(B b:Nat)(l:aI)(c:UInt8)(w:World)(h:FY B b l w)(hlen:l.length+1<=140737488355328)(Yv:B<=w.heap.size) :
  aB 156 #[.pointer (some ⟨b,0,none⟩),.int .u8 c.toNat] w fun e w'=>e=.returned .nilIface/\FY B b (l++[c]) w'/\Below B w w' :=
 (Any.Builder_WriteByte adf YT B b (ue l) c.toNat w h (by rw[xM];exact hlen) Yv).mono fun e w' ⟨he,hb,hw⟩=>⟨he,by unfold FY;rw[JI];exact Or.inr hb,hw⟩
theorem BK(B b:Nat)(l:aI)(w:World)(h:FY B b l w)(Yv:B<=w.heap.size) :
  aB 105 #[.pointer (some ⟨b,0,none⟩)] w fun e w'=>e=.returned (.string ⟨l.toArray⟩)/\Below B w w' :=
 Builder_String_any B b l w h Yv
theorem Fr.lX{a:World}(h:Fr S a w)(g:Below a.heap.size w w'):Fr S a w' :=
 h.step (Fr.Pc (S:=fun k=>a.heap.size<=k) g (fun _ _ h=>h)) (fun k hk hT=>absurd hT ab)
theorem FY.new(w:World):FY w.heap.size w.heap.size [] (w.alloc (.cells #[.pointer none,.slice none 0 0] 179)) :=
 Or.inl ⟨ay _,_,aC w _,World.ownsRow_nil _ _ _ _,by simp[Value.ownBlock]⟩
theorem KV{P:Program}{W:World}{x:String×DataW Unit}:∀ {laid:List (String×DataW Unit)},laidMet P laid W->x∈laid->∃r,laidMet P (x :: r) W
 |y :: l,h,hm=>by
  rcases bB.1 hm with rfl|hm
  ·exact⟨l,h⟩
  ·exact KV (laidMet.tail h) hm
theorem KW{P:Program}{W:World}{laid:List (String×DataW Unit)}{name:String}{k:IntKind}{zs:List Int}{g:Nat}{t e:TypeId}{n:Nat}
  (h:laidMet P laid W)(hm:(name,Lib.tabData k zs)∈laid)
  (hg:P.globalNamed name=some g)(Tq:(P.globals[g]?).map (·.type)=some t)(ht:P.underlying t=some (.array n e))(he:P.underlying e=some (.int k))(hce:P.cellsOf e=1)(hct:P.cellsOf t=n):Lib.TabIs P W name k zs:=by
 obtain⟨r,hr⟩:=KV h hm;exact Lib.tabIs_of_head hg Tq ht he hce hct hr
def xz(w:World):Prop:=Lib.TabIs prog w "internal/strconv.uint64pow10" .u64 Lib.pow10Tab
theorem xz.fr(h:xz w)(hf:Fr aS w w'):xz w':=Go.Joins.tab_stays (g:=5) af h hf.pz (ay _)
theorem NF{W:World}{laid:List (String×DataW Unit)}(h:laidMet prog laid W)(hm:("internal/strconv.uint64pow10",Lib.tabData .u64 Lib.pow10Tab)∈laid/\True):xz W :=
 KW h hm.1 (g:=5) af af underlying322 underlying301 af af
def EL(a n:Int):Int:=(a%18446744073709551616)%n
theorem Ce(a n:Int)(hn:0<n):0<=EL a n/\EL a n<n:=⟨Int.emod_nonneg _ ab,Int.emod_lt_of_pos _ hn⟩
theorem XL(a n:Int)(hn:0<n)(AU:n<4611686018427387904):wrap64 ((IntKind.u64.wrap a).tmod n)=EL a n:=by
 have e:IntKind.u64.wrap a=a%18446744073709551616:=by simp[IntKind.wrap,IntKind.signed,IntKind.bits]
 rw[e,Int.tmod_eq_emod_of_nonneg (Int.emod_nonneg _ ag)];have h:=Ce a n hn;unfold EL at h ⊢;exact IntWalk.wrap64_in _ ⟨ab,ab⟩
theorem XM(a n:Int)(w:World)(hn:0<n)(AU:n<4611686018427387904) :
  aB 18 #[.int .i64 a,.int .i64 n] w fun e w'=>e=.returned (.int .i64 (EL a n))/\w=w':=by
 go_enter func18,ntmps18;go_wp2;go_ret;exact⟨Ys (XL a n hn AU),rfl⟩
def fP(w:World)(v:Value)(ss:List aj):Prop :=
 (∃a c,v=.slice a 0 c/\ss=[]/\(a=none->c=0)) \/
 ∃bk o c,v=.slice (some ⟨bk,o,none⟩) ss.length c/\ss.length<=c/\c<=maxLen/\bk<w.heap.size/\∀(j:Nat) x,ss[j]?=some x->w.cell? ⟨bk,o+j,none⟩=some (.string x)
theorem fP.nil(w:World):fP w (.slice none 0 0) []:=Or.inl ⟨_,_,rfl,rfl,fun _=>rfl⟩
theorem fP.fr(h:fP w v ss)(hf:Fr S w w')(hn:∀k,v.ownBlock=some k->¬S k):fP w' v ss:=by
 rcases h with h|⟨bk,o,c,hv,h1,h2,h3,h4⟩
 ·exact Or.inl h
 ·refine Or.inr ⟨bk,o,c,hv,h1,h2,cP h3 hf.size,fun j x hj=>?_⟩;rw[hf.cell (p:=⟨bk,o+j,none⟩) h3 (hn bk (by rw[hv];rfl))];exact h4 j x hj
theorem fP.fI(h:fP w v ss)(hf:Fr aS w w'):fP w' v ss:=h.fr hf (fun _ _ h=>h)
theorem fP.form(h:fP w v ss):∃a c,v=.slice a ss.length c:=by
 rcases h with ⟨a,c,hv,hs,_⟩|⟨bk,o,c,hv,_⟩
 ·exact⟨a,c,by rw[hv,hs];rfl⟩
 ·exact⟨_,_,hv⟩
theorem yP:(prog.info? 9).map (fun i=>(i.zero,i.size,i.bytes))=some (some (.string ⟨#[]⟩),1,16):=af
def Strs(base:Nat)(w:World)(v:Value)(ss:List aj):Prop:=w.ownsRow base 9 1 v ss.length (ss.map Value.string)
section
variable {base : Nat} {w w' : World} {v : Value} {ss : List ByteArray}
theorem Strs.nil(base:Nat)(w:World):Strs base w (.slice none 0 0) []:=World.ownsRow_nil _ _ _ _
theorem Strs.alloc(h:Strs base w v ss)(o:Obj):Strs base (w.alloc o) v ss:=World.ownsRow.alloc h o
theorem Strs.drew(h:Strs base w v ss):Strs base w.drew v ss:=h
theorem Strs.form(h:Strs base w v ss):∃a c,v=.slice a ss.length c:=by
 rcases h.2 with ⟨hv,hn⟩|⟨g,cap,cur,hv,_⟩
 ·exact⟨none,0,by rw[hv,hn]⟩
 ·exact⟨_,_,hv⟩
theorem Strs.fr(h:Strs base w v ss)(hf:Fr S w w')(hS:∀k,S k->k<base):Strs base w' v ss:=by
 obtain⟨h1,h2⟩:=h;refine⟨h1,?_⟩;rcases h2 with h2|⟨g,cap,cur,hv,hg,hh,r⟩
 ·exact Or.inl h2
 ·exact Or.inr ⟨g,cap,cur,hv,hg,hf.keep hh (fun hs=>absurd (hS g hs) ab),r⟩
theorem Strs.block(h:Strs base w v ss):∀k,v.ownBlock=some k->base<=k:=by
 intro k hk;rcases h.2 with ⟨hv,_⟩|⟨g,cap,cur,hv,hg,_⟩
 ·rw[hv]at hk;simp[Value.ownBlock]at hk
 ·rw[hv]at hk;simp[Value.ownBlock]at hk;omega
theorem Strs.at(h:Strs base w v ss):fP w v ss:=by
 obtain⟨h1,h2⟩:=h;rcases h2 with ⟨hv,hn⟩|⟨g,cap,cur,hv,hg,hh,h3,h4,h5,h6⟩
 ·exact Or.inl ⟨none,0,hv,cj hn,fun _=>rfl⟩
 ·refine Or.inr ⟨g,0,cap,hv,h3,h4,bj hh,fun j x hj=>?_⟩;have hl:=(List.getElem?_eq_some_iff.1 hj).1;have e:(cur.toList.take (ss.length*1))[j]?=some (.string x):=by rw[h6];simp[hj]
  rw[List.getElem?_take_of_lt ab]at e;have e2:cur[j]?=some (.string x):=by simpa using e
  simp[World.cell?,hh,e2]
end
theorem nO{ops:Array Oper}{rest:List Oper}{o:Oper}{a:Act}{Q:Exit->Act->World->Prop}{w:World}(yN:o.guard=none)(s x:Operand)
  (ho:o.op=.call {callee:=.builtin .append,args:= #[s,x],argTypes:= #[110,110]})(base:Nat)(v:Value)(l:List aj)(hs:a.eval s=v)(cR:Strs base w v l)
  (ad:Addr)(c:Nat)(y:aj)(hx:a.eval x=.slice (some ad) 1 c)(hy:w.cell? ad=some (.string y))(hlen:l.length<4398046511104)(iE:base<=w.heap.size)
  (h:∀v' w',Strs base w' v' (l++[y])->w.grownBy w' v.ownBlock->wpList prog ops Q rest (a.put o.dst v') w'):wpList prog ops Q (o :: rest) a w:=by
 obtain⟨i0,hi,po,k_,lp⟩:=info_parts yP;refine wpList_append_own w yN s x 110 ho base 9 i0 (.string ⟨#[]⟩) 1 16 underlying110 hi po k_ lp rfl ag v l.length (l.map Value.string) hs cR ad 1 c [.string y] hx rfl ?_ ?_ ?_ ?_ iE ?_
 ·intro j u hj
  match j,hj with
  |0,hj=>simp at hj;subst hj;simpa[Addr.add]using hy
 ·intro u hu;simp at hu;subst hu;rfl
 ·unfold maxLen;omega
 ·omega
 ·intro v' w' h1 h2 _;exact h v' w' (by unfold Strs;simpa using h1) h2
abbrev kU := @Strs.nil
abbrev iG := @Strs.alloc
def vy:aI->Option (aI×aI)
 |[]=>none
 |x :: r =>
  if x==34 then some ([],r)
  else if x==92 then
   match r with
   |[]=>none
   |y :: r'=>if nw y then(vy r').map (fun p=>(y :: p.1,p.2))else none
  else if nw x then(vy r).map (fun p=>(x :: p.1,p.2))else none
def sY(l:aI)(k:Nat)(a:aI):Option (aI×Nat):=(vy (l.drop k)).map (fun p=>(a++p.1,l.length-p.2.length))
theorem TW(h:l[k]?=none):sY l k a=none:=by
 unfold sY;rw[JH h];simp[vy]
theorem QC(h:l[k]?=some 34):sY l k a=some (a,k+1):=by
 have hk:=(List.getElem?_eq_some_iff.1 h).1;unfold sY;rw[drop_at h,vy.eq_def];simp;omega
theorem QD(h:l[k]?=some x)(h1:(x==34)=false)(h2:(x==92)=false)(h3:nw x=true):sY l k a=sY l (k+1) (a++[x]):=by
 unfold sY;rw[drop_at h];rw[vy.eq_def];simp only[h1,h2,h3,cJ,eW,ef];cases vy (l.drop (k+1))<;>simp
theorem TY(h:l[k]?=some x)(h1:(x==34)=false)(h2:(x==92)=false)(h3:nw x=false):sY l k a=none:=by
 unfold sY;rw[drop_at h];rw[vy.eq_def];simp only[h1,h2,h3,cJ,eW,Option.map_none]
theorem QE(h:l[k]?=some 92)(h1:l[k+1]?=none):sY l k a=none:=by
 unfold sY;rw[drop_at h,JH h1,vy.eq_def];simp
theorem TZ(h:l[k]?=some 92)(h1:l[k+1]?=some y)(h3:nw y=true):sY l k a=sY l (k+2) (a++[y]):=by
 unfold sY;rw[drop_at h,drop_at h1];rw[vy.eq_def];simp only[show((92:UInt8)==34)=false from rfl,show((92:UInt8)==92)=true from rfl,h3,cJ,eW,ef];cases vy (l.drop (k+1+1))<;>simp
theorem J1(h:l[k]?=some 92)(h1:l[k+1]?=some y)(h3:nw y=false):sY l k a=none:=by
 unfold sY;rw[drop_at h,drop_at h1];rw[vy.eq_def];simp only[show((92:UInt8)==34)=false from rfl,show((92:UInt8)==92)=true from rfl,h3,cJ,eW,ef,Option.map_none]
def gN(l:aI)(i:Nat):Option (aI×Nat):=if l[i]?=some 34 then sY l (i+1) []else none
def pE(l:aI)(i:Nat):Nat:=match gN l i with|some p=>p.2|none=>i
def nP(l:aI)(i:Nat):aI:=match gN l i with|some p=>p.1|none=>[]
def ic(b:Nat)(s:aj)(i:Nat)(w:World)(e:Ending)(w':World):Prop :=
 e=.returned (.tuple #[.string ⟨(nP s.data.toList i).toArray⟩,.bool (gN s.data.toList i).isSome])/\dx w' b s (pE s.data.toList i)/\Fr (one b) w w'
theorem ic.none(h:gN s.data.toList i=none)(hc:dx w' b s i)(hf:Fr (one b) w w') :
  ic b s i w (.returned (.tuple #[.string ⟨#[]⟩,.bool false])) w':=by
 refine⟨?_,?_,hf⟩
 ·simp[nP,h]
 ·simpa[pE,h]using hc
theorem ic.some(h:gN s.data.toList i=some (a,j))(hc:dx w' b s j)(hf:Fr (one b) w w') :
  ic b s i w (.returned (.tuple #[.string ⟨a.toArray⟩,.bool true])) w':=by
 refine⟨?_,?_,hf⟩
 ·simp[nP,h]
 ·simpa[pE,h]using hc
def ag0(b:Nat)(s:aj)(i:Nat)(w:World)(v:Value)(wr:World):Prop :=
 ∃k a,k<=s.size/\a.length<=k/\dx wr b s k/\Bytes w.heap.size wr v a/\Fr (one b) w wr/\gN s.data.toList i=sY s.data.toList k a
theorem T3{b i k j:Nat}{s:aj}{w wr wx w2:World}{v v':Value}{a l:aI}(uf:b<w.heap.size)(hcx:dx wx b s j)(J2:Fr (one b) w wx)(hg:wx.grownBy w2 v.ownBlock)
  (cR:Bytes w.heap.size wr v a)(fC:Bytes w.heap.size w2 v' l)(hj:j<=s.size)(hl:l.length<=j)(u_:gN s.data.toList i=sY s.data.toList j l)(hkj:k<j)(p_:pD wr b=k) :
  ag0 b s i w v' w2/\s.size-pD w2 b<s.size-pD wr b:=by
 have hv:=cR.block;have sr:dx w2 b s j:=by
  unfold dx at hcx ⊢;rw[hg.block b (bj hcx) (fun e=>by have:=hv b e.symm;omega)];exact hcx
 refine⟨⟨j,l,hj,hl,sr,fC,J2.grown hg (fun k hk hs=>by have:=hv k hk;omega),u_⟩,?_⟩;rw[p_,sr.pos];omega
theorem M3(b:Nat)(s:aj)(i:Nat)(w:World)(h:dx w b s i)(hs:s.size<70368744177664) :
  aB 215 #[.pointer (some ⟨b,0,none⟩)] w (ic b s i w):=by
 have h0:=h.cell0;have h1:=h.h_;have hm:s.size<=maxLen:=fx;cases e1:km s i 34
 ·have hq:=O (show gN s.data.toList i=none by unfold gN;rw[aq (by simpa[km]using e1)]);go_enter func215,ntmps215;go_wp2_with fail
  refine(p9 b s i 34 w h hm).mono ?_;rintro e w1⟨rfl,pA,dr⟩;rw[pC e1]at pA;rw[e1];clear e1 h0 h1;have c0:=pA.cell0;have c1:=pA.h_;have cf:=pA.free 1;have YK:=pA.eL;go_wp2;refine wp_loop_rounds 1 ?_;rw[rounds_succ];go_wp2;go_quiet (fail);go_wp2;go_ret2;exact ic.none hq.o (kn (j:=i) (by repeat(first|exact YK|apply jx|apply ij))) (by repeat(first|exact dr|apply dD|apply iZ))
 ·have hq:=O (show gN s.data.toList i=sY s.data.toList (i+1) []by unfold gN;rw[az (by simpa[km]using e1)]);have M4:i+1<=s.size:=by
   have:s.data.toList[i]?=some 34:=by simpa[km]using e1
   have:=(List.getElem?_eq_some_iff.1 this).1;have h2:i<s.size:=by simpa using this
   omega
  go_enter func215,ntmps215;go_wp2_with fail
  refine(p9 b s i 34 w h hm).mono ?_;rintro e w1⟨rfl,pA,dr⟩;rw[pB e1]at pA;rw[e1];clear e1 h0 h1;go_wp2;go_loopw[5] (ag0 b s i w) (fun _ wr=>s.size-pD wr b)
  case atStart=>exact⟨i+1,[],M4,aR,pA,Bytes.nil _ _,dr,hq.o⟩
  case round =>
   rename_i v wr;obtain⟨k,a,hk,ha,hc,cR,cL,u_⟩:=hrel;have gK:=O u_;clear u_;have c0:=hc.cell0;have c1:=hc.h_;have cf:=hc.free 1;have YK:=hc.eL;have p_:=O hc.pos;obtain⟨av,cv,hv⟩:=cR.form;subst hv;have hbB:b<w.heap.size:=h.lt;have Bx:∀n u,(convert 177 9 (.slice av a.length cv)).run prog ((wr.drewN n).setCell ⟨b,1,none⟩ u)=.ok (.string ⟨a.toArray⟩) ((wr.drewN n).setCell ⟨b,1,none⟩ u):=fun n u =>
    Bytes.text (oF (p:=⟨b,1,none⟩) hbB (Bytes.drewN cR))
   have uf:b<w.heap.size:=h.lt;have iE:w.heap.size<=wr.heap.size:=cL.size;by_cases fo:k<s.size
   ·have hd:decide (k<s.size)=true:=by simp[fo]
    have dT:=O (byte_at s k fo);generalize hx:s[k]=x at dT;cases e1:x==34
    ·have n1:((x.toNat:Int)==34)=false:=by rw[<-e1];exact uU 34 ag
     cases e2:x==92
     ·have n2:((x.toNat:Int)==92)=false:=by rw[<-e2];exact uU 92 ag
      cases e3:nw x
      ·have fg:=O (show gN s.data.toList i=none by rw[gK.o,TY dT.o e1 e2 e3]);clear e1 e2;go_wp2;go_quiet (fail);go_wp2;go_quiet (fail);go_wp2;go_quiet (fail);go_wp2_with (go_at_call 158;refine(pZ _ _).mono ?_;rintro e w' ⟨rfl,rfl⟩)
       go_ret2;exact ic.none fg.o (kn (j:=i) (by repeat(first|exact YK|apply jx|apply ij))) (by repeat(first|exact cL|apply dD|apply iZ))
      ·have qe:=O (gK.o.trans (QD (a:=a) dT.o e1 e2 e3));clear e1 e2;go_wp2;go_quiet (fail);go_wp2;go_quiet (fail);go_wp2;go_quiet (fail)
       go_wp2_with (first|(at_builtin;refine kl rfl _ _ rfl w.heap.size (.slice av a.length cv) a rfl (by repeat(first|exact cR|apply gG|apply oF (p:=⟨b,1,none⟩) hbB|apply Bytes.drewN|apply Bytes.drew)) ⟨wr.heap.size,0,none⟩ 1 x rfl (by rw[World.cell?_alloc_at _ _ _ _ aR];rfl) ab bI ?_;intro v' w2 fC xk)|(go_at_call 158;refine(pZ _ _).mono ?_;rintro e w' ⟨rfl,rfl⟩))
       exact T3 uf (by repeat(first|exact kn (j:=k+1) (by repeat(first|exact YK|apply jx|apply ij))|apply dx.alloc|apply dx.drewN)) (by repeat(first|exact cL|apply dD|apply iZ|apply bz)) xk cR fC ab bI qe.o (Nat.lt_succ_self k) p_.o
     ·have am3:x=92:=by simpa using e2
      clear e1 e2;subst am3;by_cases mf:k+1<s.size
      ·have yS:decide ((k:Int)+1<(s.size:Int))=true:=bI;have acZ:=O (byte_at s (k+1) mf);generalize hy:s[k+1]=y at acZ;cases e3:nw y
       ·have fg:=O (show gN s.data.toList i=none by rw[gK.o,J1 dT.o acZ.o e3]);go_wp2;go_quiet (fail);go_wp2;go_quiet (fail);go_wp2;go_quiet (fail);go_wp2;go_quiet (fail);go_wp2_with (go_at_call 158;refine(pZ _ _).mono ?_;rintro e w' ⟨rfl,rfl⟩)
        go_ret2;exact ic.none fg.o (kn (j:=i) (by repeat(first|exact YK|apply jx|apply ij))) (by repeat(first|exact cL|apply dD|apply iZ|apply bz))
       ·have qe:=O (gK.o.trans (TZ (a:=a) dT.o acZ.o e3));go_wp2;go_quiet (fail);go_wp2;go_quiet (fail);go_wp2;go_quiet (fail);go_wp2;go_quiet (fail)
        go_wp2_with (first|(at_builtin;refine kl rfl _ _ rfl w.heap.size (.slice av a.length cv) a rfl (by repeat(first|exact cR|apply gG|apply oF (p:=⟨b,1,none⟩) hbB|apply Bytes.drewN|apply Bytes.drew)) ⟨wr.heap.size,0,none⟩ 1 y rfl (by rw[World.cell?_alloc_at _ _ _ _ aR];rfl) ab bI ?_;intro v' w2 fC xk)|(go_at_call 158;refine(pZ _ _).mono ?_;rintro e w' ⟨rfl,rfl⟩))
        exact T3 uf (by repeat(first|exact kn (j:=k+1+1) (by repeat(first|exact YK|apply jx|apply ij))|apply dx.alloc|apply dx.drewN)) (by repeat(first|exact cL|apply dD|apply iZ|apply bz)) xk cR fC ab bI qe.o ab p_.o
      ·have yS:decide ((k:Int)+1<(s.size:Int))=false:=bI;have fg:=O (show gN s.data.toList i=none by rw[gK.o,QE dT.o (tL s (k+1) mf)]);go_wp2;go_quiet (fail);go_wp2;go_quiet (fail);go_wp2;go_quiet (fail);go_wp2;go_ret2;exact ic.none fg.o (kn (j:=i) (by repeat(first|exact YK|apply jx|apply ij))) (by repeat(first|exact cL|apply dD|apply iZ|apply bz))
    ·have n1:((x.toNat:Int)==34)=true:=by rw[<-e1];exact uU 34 ag
     have fg:=O (show gN s.data.toList i=some (a,k+1)by rw[gK.o,QC (by rw[dT.o];simpa using e1)]);clear e1;go_wp2;go_quiet (fail);go_wp2;go_quiet (fail);go_wp2;go_ret2;exact ic.some fg.o (kn (j:=k+1) (by repeat(first|exact YK|apply jx|apply ij))) (by repeat(first|exact cL|apply dD|apply iZ))
   ·have hd:decide (k<s.size)=false:=bI;have fg:=O (show gN s.data.toList i=none by rw[gK.o,TW (tL s k fo)]);go_wp2;go_quiet (fail);go_wp2;go_ret2;exact ic.none fg.o (kn (j:=i) (by repeat(first|exact YK|apply jx|apply ij))) (by repeat(first|exact cL|apply dD|apply iZ))
def mE(c:UInt8):aI->aI×aI×Bool
 |[]=>([],[],false)
 |x :: l=>if x=c then([],l,true)else(x :: (mE c l).1,(mE c l).2.1,(mE c l).2.2)
theorem J9(c:UInt8):∀(a b:aI),c∉a->mE c (a++c :: b)=(a,b,true)
 |[],b,_=>by simp[mE]
 |x :: a,b,h=>by
  have hx:¬x=c:=fun e=>h (by rw[e];exact cY ..);rw[List.cons_append,mE,aq hx,J9 c a b (fun e=>h (bQ _ e))]
theorem FN(c:UInt8):∀(a:aI),c∉a->mE c a=(a,[],false)
 |[],_=>rfl
 |x :: a,h=>by
  have hx:¬x=c:=fun e=>h (by rw[e];exact cY ..);rw[mE,aq hx,FN c a (fun e=>h (bQ _ e))]
theorem Pt(c:UInt8):∀l:aI,c∉(mE c l).1/\(((mE c l).2.2=true/\l=(mE c l).1++c :: (mE c l).2.1)\/((mE c l).2.2=false/\l=(mE c l).1/\(mE c l).2.1=[]))
 |[]=>⟨by simp[mE],Or.inr ⟨rfl,rfl,rfl⟩⟩
 |x :: l=>by
  have ih:=Pt c l;unfold mE;split
  ·rename_i h;exact⟨aR,Or.inl ⟨rfl,by rw[h];rfl⟩⟩
  ·rename_i h;refine⟨fun e=>?_,?_⟩
   ·rcases bB.1 e with e|e
    ·exact h e.symm
    ·exact ih.1 e
   ·rcases ih.2 with ⟨h1,h2⟩|⟨h1,h2,h3⟩
    ·exact Or.inl ⟨h1,by rw[List.cons_append, <-h2]⟩
    ·exact Or.inr ⟨h1,by rw[<-h2],h3⟩
def J_(c:UInt8):Bool:=decide (97<=c.toNat/\c.toNat<=122)||decide (48<=c.toNat/\c.toNat<=57)||decide (c.toNat=45)
def C4(l:aI):Bool:=!l.isEmpty&&!(l.head?==some 45)&&!(l.getLast?==some 45)&&l.all J_
def Pu(l:aI):Bool:=decide (l.length<=60)&&(ec 46 l).all C4
def C5(s:Bool):Int:=if s then 443 else 80
structure ac4 where
 aE:Bool
 host:aI
 port:Int
def ac5(o:ac4):Bool:=Pu o.host&&(decide (1<=o.port)&&decide (o.port<=65535))
def ag7:aI:=[104,116,116,112,58,47,47]
def ac6:aI:=[104,116,116,112,115,58,47,47]
def abo(s:Bool):aI:=if s then ac6 else ag7
def FO(o:ac4):aI:=abo o.aE++o.host++(if o.port=C5 o.aE then []else 58 :: Lib.itoa o.port)
def abz:Go.Shelf.Ren:=⟨fun|166=>98|240=>157|276=>206|n=>n,fun|70=>176|9=>9|72=>179|37=>177|164=>275|20=>20|75=>56|80=>187|5=>5|3=>3|n=>n,fun|n=>n⟩
theorem adg:Go.Proofs.Lays.n166 prog abz:={
 mixed:=af
 f166:=func98.trans (ar some af)
 f240:=func157.trans (ar some af)
 f276:=func206.trans (ar some af)
 t0:=underlying0
 a0:=isAgg0
 z0:=sizeOf0
 v0:=zeroValue0
 t3:=underlying3
 a3:=isAgg3
 z3:=sizeOf3
 v3:=zeroValue3
 t4:=underlying4
 a4:=isAgg4
 z4:=sizeOf4
 v4:=zeroValue4
 t9:=underlying9
 a9:=isAgg9
 z9:=sizeOf9
 v9:=zeroValue9
 t20:=underlying20
 a20:=isAgg20
 z20:=sizeOf20
 v20:=zeroValue20
 t37:=underlying177
 a37:=isAgg177
 z37:=sizeOf177
 v37:=zeroValue177
 t70:=underlying176
 a70:=isAgg176
 z70:=sizeOf176
 v70:=zeroValue176
 t72:=underlying179
 a72:=isAgg179
 z72:=sizeOf179
 v72:=zeroValue179
 t75:=underlying56
 a75:=isAgg56
 z75:=sizeOf56
 v75:=zeroValue56
 t164:=underlying275
 a164:=isAgg275
 z164:=sizeOf275
 v164:=zeroValue275}
theorem YU:Builder.Extra prog abz:={
 sizeBuilder:=af
 liesBuilder:=af
 t5:=underlying5
 a5:=isAgg5
 z5:=sizeOf5
 v5:=zeroValue5
 infoByte:=af
 cellsByte:=af
 sizeByte:=af
 neB5:=ag}
def vK(B b:Nat)(l:aI)(w:World):Prop:=Lib.IsBuilderF 179 5 B b (ue l) w
abbrev ahe(b:Nat)(w w':World):Prop:=Lib.OthersKept 5 (some b) w w'
theorem Hx(s:aj):Lib.strCells s=ue s.data.toList:=by
 unfold Lib.strCells ue;rfl
theorem YV(a b:aI):ue (a++b)=ue a++ue b:=by unfold ue;simp
theorem eh(B b:Nat)(l:aI)(s:aj)(w:World)(h:vK B b l w)(hlen:l.length+s.size<=140737488355328)(Yv:B<=w.heap.size) :
  aB 98 #[.pointer (some ⟨b,0,none⟩),.string s] w fun e w'=>e=.returned (.tuple #[.int .i64 s.size,.nilIface])/\vK B b (l++s.data.toList) w'/\Below B w w'/\ahe b w w':=by
 refine(Any.Builder_WriteString_k adg YU B b (ue l) s w h (by rw[xM];exact hlen) Yv).mono ?_;rintro e w'⟨he,hb,hw,ho⟩;refine⟨he,?_,hw,ho⟩;unfold vK;rw[YV, <-Hx];exact Or.inr hb
theorem vL(B b:Nat)(l:aI)(w:World)(h:vK B b l w) :
  aB 101 #[.pointer (some ⟨b,0,none⟩)] w fun e w'=>e=.returned (.int .i64 l.length)/\w=w':=by
 refine(Builder_Len_f B b (ue l) w h).mono ?_;rintro e w'⟨rfl,rfl⟩;exact⟨by rw[xM],rfl⟩
theorem jn{rest:List Oper}{a:Act}(o:Oper)(h:wpList P ops Q (o :: rest) a w):wpList P ops Q (o :: rest) a w:=h
theorem mP{a:Act}{K:Act->World->Prop}{E:Prop}(o:Oper)(h:if Region.wanted o (yielded ops a.tmps)=true then Oper.wp P o a w K Q else E):if Region.wanted o (yielded ops a.tmps)=true then Oper.wp P o a w K Q else E:=h
theorem AM{P:Program}{ops:Array Oper}{a:Act}{w:World}{K:Act->World->Prop}{Q:Exit->Act->World->Prop}{E:Prop}{o:Oper}(yN:o.guard=none)(f:FuncId)(args:bS)(anc:(execOp a.eval o).run P w=.ok (.enter f args) w){Un:Ending->World->Prop}(hc:Calls P f args w Un)
  (h:∀e w',Un e w'->∃v,e=.returned v/\K (a.put o.dst v) w'):if Region.wanted o (yielded ops a.tmps)=true then Oper.wp P o a w K Q else E:=by
 have hw:Region.wanted o (yielded ops a.tmps)=true:=by simp[Region.wanted,yN]
 rw[az hw];unfold Oper.wp;rw[anc,Oper.upon_enter];refine hc.mono fun e w' hh=>?_;obtain⟨v,rfl,hk⟩:=h e w' hh;exact hk
theorem zh(w:World)(old cells:bS)(t:TypeId):(w.alloc (.cells old t)).setRow w.heap.size cells=w.alloc (.cells cells t):=by
 unfold World.setRow World.alloc
 congr 1
 apply Array.ext
 ·simp
 ·intro k h1 h2;simp only[Array.getElem_modify];by_cases hk:w.heap.size=k
  ·subst hk;simp
  ·have:k<w.heap.size:=by simp at h2;omega
   simp[hk,Array.getElem_push,this]
theorem pM{P:Program}{ops:Array Oper}{rest:List Oper}{o:Oper}{a:Act}{w:World}{Q:Exit->Act->World->Prop}(yN:o.guard=none)(ty:TypeId)(x y:Operand)(ho:o.op=.store ty x y)(old:bS)
  (cells:bS)(hx:a.eval x=.pointer (some ⟨w.heap.size,0,none⟩))(hy:a.eval y=.agg cells)
  (hi:(P.info? ty).map (·.size)=some cells.size)(hold:old.size=cells.size)(h1:cells.all (·.oneCell')=true)
  (h:wpList P ops Q rest (a.put o.dst undef) (w.alloc (.cells cells ty))):wpList P ops Q (o :: rest) a (w.alloc (.cells old ty)):=by
 refine aF yN ty x y ho w.heap.size cells hx hy ty old (aC w _) hi hold h1 ?_;rw[zh];exact h
theorem run_storeCells_new(w:World)(t:TypeId)(old:bS)(x:aX)(hold:old.size=x.length)(h1:∀u∈x,u.oneCell'=true) :
  Sem.run P (storeCells ⟨w.heap.size,0,none⟩ x 0) (w.alloc (.cells old t))=.ok () (w.alloc (.cells x.toArray t)):=by
 have h:=run_storeCells_from (P:=P) w.heap.size t x 0 old (w.alloc (.cells old t)) (aC w _) ab h1;rw[h,List.take_zero,List.nil_append,zh]
theorem cg{cur:bS}{t:TypeId}{f:Nat×Nat}(h:w.heap[b]?=some (.cells cur t f))(o:Nat)(v:Value):(w.setCell ⟨b,o,none⟩ v).heap[b]?=some (.cells (cur.setIfInBounds o v) t f):=by
 simp[World.setCell,Array.getElem?_modify,h]
theorem tj(hg:g≠b)(o:Nat)(v:Value):(w.setCell ⟨b,o,none⟩ v).heap[g]?=w.heap[g]?:=Below.heap_setCell _ _ _ _ hg
theorem pU{b:Nat}{t:TypeId}{f:Nat×Nat}:∀(vs:aX) (o:Nat) (w:World) (cur:bS),w.heap[b]?=some (.cells cur t f)->o+vs.length<=cur.size ->
  (w.setCells b o vs).heap[b]?=some (.cells (cur.toList.take o++vs++cur.toList.drop (o+vs.length)).toArray t f)
 |[],o,w,cur,h,hl=>by
  rw[World.setCells,h];simp
 |v :: r,o,w,cur,h,hl=>by
  simp only[List.length_cons]at hl;rw[World.setCells,pU r (o+1) _ _ (cg h o v) bI]
  congr 3
  simp only[Array.toList_setIfInBounds,List.length_cons];have h1:(cur.toList.set o v).take (o+1)=cur.toList.take o++[v]:=by
   have uf:o<cur.toList.length:=bI;rw[cC,List.getElem?_set_self uf,gl (ay o)];rfl
  have h2:(cur.toList.set o v).drop (o+1+r.length)=cur.toList.drop (o+(r.length+1)):=by
   rw[gq ab]
   congr 1;omega
  rw[h1,h2];simp
theorem Fr.setCells{S:dC}{a w:World}(h:Fr S a w){b:Nat}(hb:b<a.heap.size->S b):∀(vs:aX) (o:Nat),Fr S a (w.setCells b o vs):=by
 intro vs
 induction vs generalizing w with
 |nil=>intro o;exact h
 |cons v r ih=>intro o;exact ih (h.setCell (p:=⟨b,o,none⟩) hb v) (o+1)
theorem xp:∀(y:aX) (i:Nat) (z:bS),i+y.length<=z.size->List.foldl (fun cs x=>cs.setIfInBounds x.snd x.fst) z (y.zipIdx i)=(z.toList.take i++y++z.toList.drop (i+y.length)).toArray
 |[],i,z,_=>aR
 |v :: r,i,z,hl=>by
  simp only[List.length_cons]at hl;rw[List.zipIdx_cons,List.foldl_cons,xp r (i+1) _ bI]
  congr 1
  simp only[Array.toList_setIfInBounds,List.length_cons];have h1:(z.toList.set i v).take (i+1)=z.toList.take i++[v]:=by
   have uf:i<z.toList.length:=bI;rw[cC,List.getElem?_set_self uf,gl (ay i)];rfl
  have h2:(z.toList.set i v).drop (i+1+r.length)=z.toList.drop (i+(r.length+1)):=by
   rw[gq ab]
   congr 1;omega
  rw[h1,h2];simp
theorem vN(y:aX)(z:bS)(h:z.size=y.length):List.foldl (fun cs x=>cs.setIfInBounds x.snd x.fst) z y.zipIdx=y.toArray:=by
 rw[xp y 0 z ab,List.take_zero,List.nil_append,cQ bI,dV]
theorem BL{k:Nat}:∀ {xs:cZ} (_:∀x∈xs,x.length=k) {i:Nat} {y:aX} (_:i<xs.length),(xs.set i y).flatten=xs.flatten.take (i*k)++y++xs.flatten.drop (i*k+k)
 |[],_,i,y,hi=>absurd hi (ct _)
 |x :: xs,hl,0,y,hi=>by
  have hx:=hl x aR;simp only[List.set_cons_zero,List.flatten_cons,il,List.take_zero,List.nil_append,bw];rw[List.drop_append_of_le_length ab,cQ ab];simp
 |x :: xs,hl,i+1,y,hi=>by
  have hx:=hl x aR;have ih:=BL (k:=k) (xs:=xs) (fun z hz=>hl z (bQ _ hz)) (i:=i) (y:=y) (by simpa using hi);have e1:(i+1)*k=x.length+i*k:=by rw[im,hx];omega
  simp only[List.set_cons_succ,List.flatten_cons,ih,e1];rw[List.take_length_add_append,show x.length+i*k+k=x.length+(i*k+k)from ab,List.drop_length_add_append];simp
theorem zi{k:Nat}:∀ {xs:cZ} (_:∀x∈xs,x.length=k) (i:Nat),(xs.take i).flatten=xs.flatten.take (i*k)
 |[],_,i=>aR
 |x :: xs,hl,0=>aR
 |x :: xs,hl,i+1=>by
  have hx:=hl x aR;have ih:=zi (k:=k) (xs:=xs) (fun z hz=>hl z (bQ _ hz)) i;rw[List.take_succ_cons,List.flatten_cons,ih,List.flatten_cons,show(i+1)*k=x.length+i*k from by rw[im,hx];omega,List.take_length_add_append]
theorem Ko(L:aX)(a n:Nat)(y:aX)(ham:a+y.length<=n)(hn:n<=L.length):(L.take a++y++L.drop (a+y.length)).take n=(L.take n).take a++y++(L.take n).drop (a+y.length):=by
 have hA:(L.take a++y).length=a+y.length:=by rw[aN,aM];omega
 rw[List.take_append,aD ab,hA,kz,dP ab,List.drop_take]
theorem Hy(L:aX)(a:Nat)(y:aX)(ham:a+y.length<=L.length):(L.take a++y++L.drop (a+y.length)).take (a+y.length)=L.take a++y:=by
 have hA:(L.take a++y).length=a+y.length:=by rw[aN,aM];omega
 rw[List.take_append_of_le_length ab,aD ab]
theorem OwnRows.open(h:OwnRows base e k w v xs)(hg:v.ownBlock=some g) :
  ∃cap cur,v=.slice (some ⟨g,0,none⟩) xs.length cap/\base<=g/\w.heap[g]?=some (.cells cur e (0,0))/\xs.length<=cap/\cap<=maxLen/\cur.size=cap*k/\cur.toList.take (xs.length*k)=xs.flatten:=by
 rcases h.2.2 with ⟨hv,_⟩|⟨g',cap,cur,hv,h1,h2,h3,h4,h5,h6⟩
 ·rw[hv]at hg;simp[Value.ownBlock]at hg
 ·rw[hv]at hg;simp[Value.ownBlock]at hg;subst hg;exact⟨cap,cur,hv,h1,h2,h3,h4,h5,h6⟩
theorem OwnRows.store(h:OwnRows base e k w v xs){y:aX}(hi:i<xs.length)(hy:y.length=k)(EP:∀u∈y,u.oneCell'=true)(hg:v.ownBlock=some g) :
  OwnRows base e k (w.setCells g (i*k) y) v (xs.set i y):=by
 obtain⟨cap,cur,hv,h1,h2,h3,h4,h5,h6⟩:=h.open hg;have MK:i*k+k<=xs.length*k:=by have:(i+1)*k<=xs.length*k:=bP _ hi;rw[im]at this;exact this
 have hck:xs.length*k<=cap*k:=bP _ h3;have hxs:∀x∈xs,x.length=k:=fun x hx=>(h.1 x hx).1;have hh:=pU y (i*k) w cur h2 ab;have hA:(cur.toList.take (i*k)).length=i*k:=by rw[aM];simp;omega
 have Kp:(xs.set i y).flatten=(cur.toList.take (i*k)++y++cur.toList.drop (i*k+y.length)).take (xs.length*k):=by
  rw[BL hxs hi, <-h6,Ko _ _ _ _ ab bI,hy]
 refine⟨?_,?_,Or.inr ⟨g,cap,_,by rw[ed];exact hv,h1,hh,by rw[ed];exact h3,h4,?_,?_⟩⟩
 ·intro x hx;rcases List.mem_or_eq_of_mem_set hx with hx|rfl
  ·exact h.1 x hx
  ·exact⟨hy,EP⟩
 ·rw[Kp,ed,aM,dP];simp;omega
 ·simp;omega
 ·rw[ed,Kp]
theorem OwnRows.De{base k:Nat}{e:TypeId}{w:World}{v:Value}{xs:cZ}(h:OwnRows base e k w v xs){i:Nat}{ys:cZ}(hi:i<=xs.length)(hy:∀y∈ys,y.length=k/\∀u∈y,u.oneCell'=true){g cap:Nat}
  (hg:v=.slice (some ⟨g,0,none⟩) xs.length cap)(hc:i+ys.length<=cap):OwnRows base e k (w.setCells g (i*k) ys.flatten) (.slice (some ⟨g,0,none⟩) (i+ys.length) cap) (xs.take i++ys):=by
 obtain⟨Cj,cur,hv,h1,h2,h3,h4,h5,h6⟩:=h.open (g:=g) (by rw[hg];rfl);rw[hg]at hv;cases hv;have Kq:ys.flatten.length=ys.length*k:=gD (fun y hm=>(hy y hm).1);have xr:cur.toList.length=cur.size:=aR;have MK:i*k+ys.length*k<=cap*k:=by rw[<-dF];exact bP _ hc
 have vz:i*k<=xs.length*k:=bP _ hi;have hh:=pU ys.flatten (i*k) w cur h2 ab;have hlen:(xs.take i++ys).length=i+ys.length:=by rw[aN,aM];omega
 have hxs:∀x∈xs,x.length=k:=fun x hx=>(h.1 x hx).1;have Kp:(xs.take i++ys).flatten=(cur.toList.take (i*k)++ys.flatten++cur.toList.drop (i*k+ys.flatten.length)).take ((i+ys.length)*k):=by
  rw[dF, <-Kq,Hy _ _ _ (by rw[Kq];omega),en,zi hxs, <-h6,kz,dP vz]
 refine⟨?_,?_,Or.inr ⟨g,cap,_,by rw[hlen],h1,hh,by rw[hlen];exact hc,h4,?_,?_⟩⟩
 ·intro x hx;rcases bR.1 hx with hx|hx
  ·exact h.1 x (eC hx)
  ·exact hy x hx
 ·rw[Kp,hlen,aM,dP];rw[aN,aN,aM,bK,Kq,dF];omega
 ·rw[aZ,aN,aN,aM,bK,Kq];omega
 ·rw[hlen,Kp]
theorem OwnRows.cut(h:OwnRows base e k w v xs)(hi:i<=xs.length)(hg:v=.slice (some ⟨g,0,none⟩) xs.length cap):OwnRows base e k w (.slice (some ⟨g,0,none⟩) i cap) (xs.take i):=by
 obtain⟨Cj,cur,hv,h1,h2,h3,h4,h5,h6⟩:=h.open (g:=g) (by rw[hg];rfl);have hc:cap=Cj:=by rw[hg]at hv;cases hv;rfl
 have:=h.De (i:=i) (ys:=[]) hi (fun y hy=>by cases hy) hg bI;simpa[World.setCells]using this
theorem OwnRows.behind{base k:Nat}{e:TypeId}{w:World}{v:Value}{xs:cZ}(h:OwnRows base e k w v xs){o:Nat}{vs:aX}(ho:xs.length*k<=o){g cap:Nat}
  (hg:v=.slice (some ⟨g,0,none⟩) xs.length cap)(hc:o+vs.length<=cap*k):OwnRows base e k (w.setCells g o vs) v xs:=by
 obtain⟨Cj,cur,hv,h1,h2,h3,h4,h5,h6⟩:=h.open (g:=g) (by rw[hg];rfl);rw[hg]at hv;cases hv;have hh:=pU vs o w cur h2 ab;refine⟨h.1,h.2.1,Or.inr ⟨g,cap,_,hg,h1,hh,h3,h4,bI,?_⟩⟩;have hA:xs.length*k<=(cur.toList.take o).length:=by rw[aM];simp;omega
 rw[cK];show List.take (xs.length*k) (List.take o cur.toList++(vs++List.drop (o+vs.length) cur.toList))=_;rw[List.take_append_of_le_length hA,kz,dP ho,h6]
theorem OwnRows.there(h:OwnRows base e k w v xs)(hg:v=.slice (some ⟨g,0,none⟩) xs.length cap){o:Nat}(hn:o+n<=cap*k):w.there g o n:=by
 obtain⟨Cj,cur,hv,h1,h2,h3,h4,h5,h6⟩:=h.open (g:=g) (by rw[hg];rfl);rw[hg]at hv;cases hv;intro j hj;constructor
 ·simp only[World.cell?,h2];rw[Array.getElem?_eq_getElem ab];rfl
 ·simp[World.frozen?,h2]
theorem results_cell_tmp{P:Program}{fn:Func}{p q:Tmp}{ty:TypeId}(h:fn.results= #[.cell p ty,.tmp q])(tmps:bS)(w:World)(g:Nat)(t:TypeId)(cs:bS)(fr:Nat×Nat)(d:TypeDesc)
  (hp:tmps.getD p undef=.pointer (some ⟨g,0,none⟩))(hg:w.heap[g]?=some (.cells cs t fr))
  (hu:P.underlying ty=some d)(hd:(match d with| .struct _| .array _ _=>true|_=>false)=true)(hi:(P.info? ty).map (·.size)=some cs.size) :
  (results fn tmps).run P w=.ok (.tuple #[.agg cs,tmps.getD q undef]) w:=by
 have hp':tmps[p]?.getD undef=.pointer (some ⟨g,0,none⟩):=by simpa using hp
 simp[results,h,hp',asAddr,run_loadVar_row w g t ty cs fr d hg hu hd hi]
theorem kR(w:World)(y:aX)(t:TypeId):∀j u,y[j]?=some u->(w.alloc (.cells y.toArray t)).cell? ((⟨w.heap.size,0,none⟩:Addr).add j)=some u:=by
 intro j u hj;have ea:(Addr.add ⟨w.heap.size,0,none⟩ j)=⟨w.heap.size,j,none⟩:=by unfold Addr.add;split<;>simp_all
 rw[ea,World.cell?_alloc_mark];simpa using hj
abbrev fG := @Fr.setCells
def Dl(n:UInt8):UInt8:=if n<10 then n+48 else n+87
def x_(l:aI):aI:=l.flatMap fun(c:UInt8)=>[Dl (c >>> 4),Dl (c &&& 15)]
theorem Dm(l:aI):(x_ l).length=2*l.length:=by
 unfold x_
 induction l with
 |nil=>rfl
 |cons c l ih=>simp at ih ⊢; omega
theorem Uz(l m:aI):x_ (l++m)=x_ l++x_ m:=by unfold x_;exact List.flatMap_append
theorem Q4(s:aj)(k:Nat)(hk:k<s.size):x_ (s.data.toList.take (k+1))=x_ (s.data.toList.take k)++[Dl (s[k] >>> 4),Dl (s[k] &&& 15)]:=by
 rw[cC,byte_at s k hk,Uz];rfl
theorem PK:∀n (h:n<16),(⟨#[48,49,50,51,52,53,54,55,56,57,97,98,99,100,101,102]⟩:aj)[n]'h=Dl n.toUInt8:=ag
theorem anq(c:UInt8):(c.toNat/16).toUInt8=c >>> 4:=by
 apply iW.1;have:=c.toNat_lt;simp[UInt8.toNat_shiftRight,Nat.shiftRight_eq_div_pow];omega
theorem ahn(c:UInt8):(c.toNat%16).toUInt8=c &&& 15:=by
 apply iW.1;have:=c.toNat_lt;have h:=Nat.and_two_pow_sub_one_eq_mod c.toNat 4;simp[UInt8.toNat_and]at h ⊢;omega
def adq(w:World)(s:aj)(i:Value)(wr:World):Prop :=
 ∃k:Nat,k<=s.size/\i=.int .i64 k/\FY w.heap.size w.heap.size (x_ (s.data.toList.take k)) wr/\Fr aS w wr/\w.heap.size<=wr.heap.size
theorem PL(s:aj)(w:World)(hs:s.size<4398046511104) :
  aB 269 #[.string s] w fun e w'=>e=.returned (.string ⟨(x_ s.data.toList).toArray⟩)/\Fr aS w w':=by
 go_enter func269,ntmps269;go_wp2;go_loopw[7] (adq w s) (fun i _=>s.size-(intOf i).toNat)
 case atStart=>exact⟨0,aQ _,rfl,FY.new w,(ae _ _).alloc _,aR⟩
 case round =>
  obtain⟨k,hk,rfl,hb,hf,hz⟩:=hrel;by_cases fo:k<s.size
  ·have pq:(k:Int)<(s.size:Int):=ab;have hq1:0<=(s[k].toNat:Int)/16/\(s[k].toNat:Int)/16<16:=by have:=s[k].toNat_lt;omega
   have hlen:(x_ (s.data.toList.take k)).length<=2*k:=by rw[Dm,aM];omega
   go_wp2_with fail
   rw[PK,anq];refine(ko _ _ _ _ wr hb ab hz).mono ?_;rintro e w1⟨rfl,qf,dr⟩;have k_:=dr.size;go_wp2_with fail
   rw[PK,ahn];refine(ko _ _ _ _ w1 qf (by rw[aN];simp;omega) ab).mono ?_;rintro e w2⟨rfl,kB,dB⟩;have lp:=dB.size;have Jp:=O (Q4 s k fo);rw[cK]at kB;have pV:FY w.heap.size w.heap.size (x_ (s.data.toList.take (k+1))) w2:=by rw[Jp.o];exact kB
   clear hb qf kB;go_wp2;go_roundw
   case rel=>exact⟨k+1,ab,bg,pV,(hf.lX dr).lX dB,ab⟩
   case measure=>simp[intOf];omega
  ·have pq:¬(k:Int)<(s.size:Int):=ab;have rZ:k=s.size:=ab;have fg:=O (show s.data.toList.take k=s.data.toList from aD (by rw[rZ];exact ay _));go_wp2_with fail
   refine(BK _ _ _ wr hb hz).mono ?_;rintro e w1⟨rfl,dr⟩;rw[fg.o];go_wp2;go_ret;exact⟨rfl,hf.lX dr⟩
def PM(a b c d:UInt8):Int:=bits .or .u32 (bits .or .u32 (bits .or .u32 ((a.toNat:Int)%4294967296) ((b.toNat:Int)%4294967296*256%4294967296)) ((c.toNat:Int)%4294967296*65536%4294967296)) ((d.toNat:Int)%4294967296*16777216%4294967296)
def Fa(l:aI)(i:Nat):UInt8:=l.getD i 0
def qL(dQ:Bool)(l:aI):Int:=if dQ then PM (Fa l 0) (Fa l 1) (Fa l 2) (Fa l 3)else PM (Fa l 3) (Fa l 2) (Fa l 1) (Fa l 0)
theorem sJ(s:aj)(i:Nat)(h:i<s.size):Fa s.data.toList i=s[i]:=by
 unfold Fa;rw[List.getD_eq_getElem?_getD,byte_at s i h];rfl
theorem PN{a b:Int}(h:a=b):Ending.returned (.int .u32 a)=.returned (.int .u32 b):=by rw[h]
theorem vT(s:aj)(dQ:Bool)(w:World)(hs:4<=s.size)(ML:s.size<17592186044416) :
  aB 239 #[.string s,.bool dQ] w fun e w'=>e=.returned (.int .u32 (qL dQ s.data.toList))/\∃n,w'=w.drewN n:=by
 have h0:0<s.size:=ab;have h1:1<s.size:=ab;have h2:2<s.size:=ab;have h3:3<s.size:=ab
 have HWF:=O (show qL false s.data.toList=bits .or .u32 (bits .or .u32 (bits .or .u32 ((s[3].toNat:Int)%4294967296) ((s[2].toNat:Int)%4294967296*256%4294967296)) ((s[1].toNat:Int)%4294967296*65536%4294967296)) ((s[0].toNat:Int)%4294967296*16777216%4294967296)by rw[<-sJ s 0 h0, <-sJ s 1 h1, <-sJ s 2 h2, <-sJ s 3 h3];unfold qL PM;rw[aq ag])
 have HWT:=O (show qL true s.data.toList=bits .or .u32 (bits .or .u32 (bits .or .u32 ((s[0].toNat:Int)%4294967296) ((s[1].toNat:Int)%4294967296*256%4294967296)) ((s[2].toNat:Int)%4294967296*65536%4294967296)) ((s[3].toNat:Int)%4294967296*16777216%4294967296)by rw[<-sJ s 0 h0, <-sJ s 1 h1, <-sJ s 2 h2, <-sJ s 3 h3];unfold qL PM;rw[az rfl]);cases dQ
 ·go_enter func239,ntmps239;go_wp2;have i0:(0:Int)<(s.size:Int):=ab;have i1:(1:Int)<(s.size:Int):=ab;have i2:(2:Int)<(s.size:Int):=ab;have i3:(3:Int)<(s.size:Int):=ab;go_quiet (fail);go_wp2;go_ret;exact⟨PN HWF.o.symm,_,rfl⟩
 ·go_enter func239,ntmps239;go_wp2;have i0:(0:Int)<(s.size:Int):=ab;have i1:(1:Int)<(s.size:Int):=ab;have i2:(2:Int)<(s.size:Int):=ab;have i3:(3:Int)<(s.size:Int):=ab;go_quiet (fail);go_wp2;go_ret;exact⟨PN HWT.o.symm,_,rfl⟩
def l_(x:Int)(n:Nat):Int:=bits .or .u32 (x*2^n%4294967296) (x/2^(32-n))
theorem CC(x k:Int)(n:Nat)(w:World)(hk:0<=k)(rZ:k<32)(hb:bits .and .u64 k 31=(n:Int))(hn:n<32) :
  aB 240 #[.int .u32 x,.int .i64 k] w fun e w'=>e=.returned (.int .u32 (l_ x n))/\w=w':=by
 go_enter func240,ntmps240;go_wp2;go_ret;exact⟨rfl,rfl⟩
theorem Ze(x k:Int)(n:Nat)(w:World)(hk: -32<k)(rZ:k<0)(hb:bits .and .u64 (k+18446744073709551616) 31=(n:Int))(hn:n<32) :
  aB 240 #[.int .u32 x,.int .i64 k] w fun e w'=>e=.returned (.int .u32 (l_ x n))/\w=w':=by
 have hw:IntKind.u64.wrap k=k+18446744073709551616:=by
  have e:IntKind.u64.wrap k=k%18446744073709551616:=by simp[IntKind.wrap,IntKind.signed,IntKind.bits]
  rw[e];omega
 go_enter func240,ntmps240;go_wp2;go_ret;exact⟨rfl,rfl⟩
def uy(dQ:Bool)(n i:Nat):UInt8:=if dQ then(n/2^(8*i)%256).toUInt8 else(n/2^(56-8*i)%256).toUInt8
def yb(dQ:Bool)(n:Nat):aI:=(List.range 8).map (uy dQ n)
def vg(dQ:Bool)(l:aI):aI:=l++[128]++List.replicate ((55-(l.length:Int)%64+64)%64).toNat 0++yb dQ (l.length*8)
theorem ahp(w:World):(Instr.makeSlice 177 (.int .i64 8) (.int .i64 8)).run prog w=.ok (.slice (some ⟨w.heap.size,0,none⟩) 8 8) (w.alloc (.cells (ue (List.replicate 8 0)).toArray 5)):=by
 obtain⟨i0,hi,po,k_,lp⟩:=info_parts Pd;have h:=run_makeSlice w 177 5 i0 (.int .u8 0) underlying177 hi po .i64 .i64 8 8 ag ag (by rw[k_];decide) (by rw[lp];decide) ag;rw[k_]at h;have e:madeCells (Value.int .u8 0).cells (Int.toNat 8*1)=(ue (List.replicate 8 0)).toArray:=af;rw[e]at h;exact h
def yc(w:World)(g:Nat)(l:aI):Prop:=w.heap[g]?=some (.cells (ue l).toArray 5 (0,0))
theorem yc.cell(h:yc w g l)(hj:l[j]?=some c):w.cell? ⟨g,j,none⟩=some (.int .u8 (c.toNat:Int)):=by
 obtain⟨hl,he⟩:=List.getElem?_eq_some_iff.1 hj;unfold yc at h;simp only[World.cell?,h];simp[ue,hl,he]
theorem yc.free(h:yc w g l)(j:Nat):w.frozen? ⟨g,j,none⟩=false:=by
 unfold yc at h;simp[World.frozen?,h]
theorem yc.set(h:yc w g l)(j:Nat)(c:UInt8):yc (w.setCell ⟨g,j,none⟩ (.int .u8 (c.toNat:Int))) g (l.set j c):=by
 unfold yc at h ⊢;simp only[World.setCell,Array.getElem?_modify,h];simp[ue,List.map_set]
theorem yc.text(h:yc w g l)(n c:Nat)(hn:n=l.length) :
  (convert 177 9 (.slice (some ⟨g,0,none⟩) n c)).run prog w=.ok (.string ⟨l.toArray⟩) w:=by
 subst hn;refine run_convert_bytes_back (P:=prog) w 177 9 5 ⟨g,0,none⟩ c l underlying177 underlying5 underlying9 ?_;intro j hj;have ea:(Addr.add ⟨g,0,none⟩ j)=⟨g,j,none⟩:=by unfold Addr.add;split<;>simp_all
 rw[ea];exact h.cell (List.getElem?_eq_getElem hj)
theorem ny(dQ:Bool)(n:Nat):(yb dQ n).length=8:=by simp[yb]
def tS(dQ:Bool)(n k:Nat):aI:=(yb dQ n).take k++List.replicate (8-k) 0
theorem Ds(dQ:Bool)(n k:Nat)(hk:k<8):tS dQ n (k+1)=(tS dQ n k).set k (uy dQ n k):=by
 have hg:(yb dQ n)[k]?=some (uy dQ n k):=by simp[yb,hk]
 unfold tS;rw[cC,hg];have e:List.replicate (8-k) (0:UInt8)=0 :: List.replicate (8-(k+1)) 0:=by
  rw[show 8-k=(8-(k+1))+1 from ab,List.replicate_succ]
 rw[e,List.set_append,aq (by rw[aM,ny];omega)];rw[show k-((yb dQ n).take k).length=0 from by rw[aM,ny];omega];simp
theorem F_(dQ:Bool)(n:Nat):tS dQ n 8=yb dQ n:=by
 unfold tS;rw[aD (by rw[ny];omega)];simp
theorem Dt:∀(k:Nat),(Lib.repeatL [0] k).length=k
 |0=>rfl
 |k+1=>by
  show(([0]:aI)++Lib.repeatL [0] k).length=k+1;rw[aN,Dt k];simp;omega
theorem F':∀(k:Nat),Lib.repeatL [0] k=List.replicate k (0:UInt8)
 |0=>rfl
 |k+1=>by
  show([0]:aI)++Lib.repeatL [0] k=_;rw[F' k,List.replicate_succ];rfl
theorem Ga(n e:Nat):(((n/2^e%256).toUInt8.toNat:Nat):Int)=(n:Int)/2^e%256:=by
 rw[show(n/2^e%256).toUInt8.toNat=n/2^e%256 from by simp[Nat.toUInt8]];rw[Int.natCast_emod,Int.natCast_ediv,Int.natCast_pow];rfl
def UD(dQ:Bool)(n g:Nat)(w:World)(i:Value)(wr:World):Prop:=∃k:Nat,k<=8/\i=.int .i64 k/\yc wr g (tS dQ n k)/\Fr aS w wr
theorem PO(s:aj)(dQ:Bool)(w:World)(hs:s.size<17592186044416) :
  aB 238 #[.string s,.bool dQ] w fun e w'=>e=.returned (.string ⟨(vg dQ s.data.toList).toArray⟩)/\Fr aS w w':=by
 obtain⟨q,hq⟩:∃q:Nat,(55-(s.size:Int))%64=(q:Int):=⟨((55-(s.size:Int))%64).toNat,ab⟩;have auK:q<64:=ab;have ahq:=O (show vg dQ s.data.toList=s.data.toList++[128]++Lib.repeatL [0] q++yb dQ (s.size*8)by
  unfold vg;rw[F',show s.data.toList.length=s.size from aR,show((55-(s.size:Int)%64+64)%64).toNat=q from ab])
 have ve:=Dt q;have Pw:=fun W=>ahp W;go_enter func238,ntmps238;go_wp2_with fail
 refine(strings_Repeat ⟨#[0]⟩ q w ab (by show 1*q<=_;omega)).mono ?_;rintro e w1⟨rfl,qf⟩;have Zf:¬9223372036854775807<s.size+1+(Lib.repeatL [0] q).length:=ab;have dr:=fk qf;have HL:=O ve;clear ve qf;have abN:yc (w1.alloc (.cells (ue (List.replicate 8 0)).toArray 5)) w1.heap.size (tS dQ (s.size*8) 0):=by
  unfold yc;rw[aC];rfl
 have HR0:=O abN;have Cf:=dr.size;clear abN;cases dQ
 ·go_wp2;clear Pw;go_loopw[26] (UD false (s.size*8) w1.heap.size w) (fun i _=>8-(intOf i).toNat)
  case atStart=>exact⟨0,ab,rfl,HR0.o,dr.alloc _⟩
  case round =>
   obtain⟨k,hk,rfl,lY,cL⟩:=hrel;by_cases fo:k<8
   ·have hlen:(tS false (s.size*8) k).length=8:=by unfold tS;rw[aN,aM,ny,fj];omega
    have hc:=lY.cell (List.getElem?_eq_getElem (show k<(tS false (s.size*8) k).length from ab));have hf:=lY.free k;have pq:(k:Int)<8:=ab;have qR:=O (lY.set k (uy false (s.size*8) k));have hsc:=O (Ds false (s.size*8) k fo);have Yt:=O (show((uy false (s.size*8) k).toNat:Int)=(s.size:Int)*8/2^(56-8*k)%256 from(Ga (s.size*8) (56-8*k)).trans (by rw[Int.natCast_mul];rfl));go_wp2;go_roundw
    case rel=>exact⟨k+1,ab,bg,by rw[hsc.o];have h:=qR.o;rw[Yt.o]at h;exact h,cL.gJ (p:=⟨w1.heap.size,k,none⟩) Cf _⟩
    case measure=>simp[intOf];omega
   ·have hk8:k=8:=ab;subst hk8;rw[F_]at lY;have Bx:=lY.text 8 8 (by rw[ny]);have MP:(yb false (s.size*8)).length=8:=ny _ _;have ahr:¬9223372036854775807<s.size+1+(Lib.repeatL [0] q).length+(yb false (s.size*8)).length:=by have:=HL.o;omega
    have fg:=O (show(s++⟨#[128]⟩++⟨(Lib.repeatL [0] q).toArray⟩++⟨(yb false (s.size*8)).toArray⟩:aj)=⟨(vg false s.data.toList).toArray⟩from by
     apply Go.WideShapes.bytes_inj;rw[ahq.o];simp[gO])
    go_wp2;go_ret;exact⟨by rw[<-fg.o];rfl,cL⟩
 ·go_wp2;clear Pw;go_loopw[26] (UD true (s.size*8) w1.heap.size w) (fun i _=>8-(intOf i).toNat)
  case atStart=>exact⟨0,ab,rfl,HR0.o,dr.alloc _⟩
  case round =>
   obtain⟨k,hk,rfl,lY,cL⟩:=hrel;by_cases fo:k<8
   ·have hlen:(tS true (s.size*8) k).length=8:=by unfold tS;rw[aN,aM,ny,fj];omega
    have hc:=lY.cell (List.getElem?_eq_getElem (show k<(tS true (s.size*8) k).length from ab));have hf:=lY.free k;have pq:(k:Int)<8:=ab;have qR:=O (lY.set k (uy true (s.size*8) k));have hsc:=O (Ds true (s.size*8) k fo);have Yt:=O (show((uy true (s.size*8) k).toNat:Int)=(s.size:Int)*8/2^(8*k)%256 from(Ga (s.size*8) (8*k)).trans (by rw[Int.natCast_mul];rfl));go_wp2;go_roundw
    case rel=>exact⟨k+1,ab,bg,by rw[hsc.o];have h:=qR.o;rw[Yt.o]at h;exact h,cL.gJ (p:=⟨w1.heap.size,k,none⟩) Cf _⟩
    case measure=>simp[intOf];omega
   ·have hk8:k=8:=ab;subst hk8;rw[F_]at lY;have Bx:=lY.text 8 8 (by rw[ny]);have MP:(yb true (s.size*8)).length=8:=ny _ _;have ahr:¬9223372036854775807<s.size+1+(Lib.repeatL [0] q).length+(yb true (s.size*8)).length:=by have:=HL.o;omega
    have fg:=O (show(s++⟨#[128]⟩++⟨(Lib.repeatL [0] q).toArray⟩++⟨(yb true (s.size*8)).toArray⟩:aj)=⟨(vg true s.data.toList).toArray⟩from by
     apply Go.WideShapes.bytes_inj;rw[ahq.o];simp[gO])
    go_wp2;go_ret;exact⟨by rw[<-fg.o];rfl,cL⟩
