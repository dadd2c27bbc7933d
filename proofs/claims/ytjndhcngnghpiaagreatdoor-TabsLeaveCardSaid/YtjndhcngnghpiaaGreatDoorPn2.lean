/- Lemmas for the law's walk. -/
import Derived.Test.YtjndhcngnghpiaaGreatDoorPn1
import Derived.Shelf.Strings.SlTrimAscii
import Derived.Shelf.SlicesQ.Load
import Derived.Stop.LaidErr
import Derived.Lib.SmallJoins
import Derived.Lib.AppendIntMem
import Derived.Lib.Atoi
import Derived.Deep.MidRow
set_option maxRecDepth 100000
set_option maxHeartbeats 16000000
set_option linter.unusedSimpArgs false
namespace Go.Proofs.YtjndhcngnghpiaaGreatDoor
open Go.Proofs.Tryz
open Go.RowKit
variable {p:UInt8->Bool} {l a:aH} {i b k n j g base cap:Nat} {c x y:UInt8} {w w':World} {s:aj} {S:dB} {v:Value} {ss:List aj} {P:Program} {ops:Array Oper} {Q:Exit->Act->World->Prop} {e:TypeId} {xs:cY}
def cM(p:UInt8->Bool)(l:aH)(i:Nat):Nat:=i+((l.drop i).takeWhile p).length
theorem oy(h:l[i]?=some c)(hp:p c=true):cM p l i=cM p l (i+1):=by
 have hi:i<l.length:=by
  rcases fF i l.length with g|g
  ·exact g
  ·simp[List.getElem?_eq_none g]at h
 unfold cM;have e:l.drop i=c :: l.drop (i+1):=by
  rw[cR hi];rw[List.getElem?_eq_getElem hi]at h;simp at h;rw[h]
 rw[e,List.takeWhile_cons_of_pos hp];simp;omega
theorem lz(h:∀c,l[i]?=some c->p c=false):cM p l i=i:=by
 unfold cM;rcases fF i l.length with g|g
 ·rw[cR g,List.takeWhile_cons_of_neg]
  ·rfl
  ·have:=h l[i] (List.getElem?_eq_getElem g);simp[this]
 ·simp[cP g]
theorem gZ(h:i<=l.length):cM p l i<=l.length:=by
 unfold cM;have:=(List.takeWhile_prefix p (l:=l.drop i)).length_le;simp at this;omega
theorem lA:i<=cM p l i:=by unfold cM;omega
def pq(w:World)(b:Nat):Nat:=match w.cell? ⟨b,1,none⟩with|some (.int _ n)=>n.toNat|_=>0
theorem dw.pos(h:dw w b s i):pq w b=i:=by simp[pq,h.gW]
theorem GV(h:dw w b s (k+1))(hk:k<s.size):s.size-pq w b<s.size-k:=by rw[h.pos];omega
def dK(c:UInt8):Bool:=c==32||c==9
theorem uJ(n:Nat)(hn:n<256):((c.toNat:Int)==(n:Int))=(c==n.toUInt8):=by
 rw[fb,dT,dT, <-iK];have:(n.toUInt8).toNat=n:=bH;rw[this];omega
theorem mo(b:Nat)(s:aj)(i:Nat)(w:World)(h:dw w b s i)(hs:s.size<=maxLen)(hi:i<=s.size) :
  aB 164 #[.pointer (some ⟨b,0,none⟩)] w fun e w'=>e=.returned (.bool (decide (i<cM dK s.data.toList i)))/\dw w' b s (cM dK s.data.toList i)/\Fr (one b) w w':=by
 have h0:=h.cell0;have h1:=h.gW;unfold maxLen at hs;go_enter func164,ntmps164;go_wp2;clear h0 h1;go_loopw[] (fun wr=>∃k,i<=k/\k<=s.size/\dw wr b s k/\cM dK s.data.toList k=cM dK s.data.toList i/\Fr (one b) w wr) (fun wr=>s.size-pq wr b)
 case atStart=>exact⟨i,ay _,hi,h,rfl,ae _ _⟩
 case round =>
  obtain⟨k,Mm,fk,hc,ql,cL⟩:=hrel;have xF:=O ql;clear ql;have h0:=hc.cell0;have h1:=hc.gW;have hf:=hc.free 1;have pU:=O hc.pos;by_cases hk:k<s.size
  ·have hd:decide (k<s.size)=true:=by simp[hk]
   have dP:=O (byte_at s k hk);generalize hx:s[k]=x at dP;have go:dK x=true->cM dK s.data.toList (k+1)=cM dK s.data.toList i:=fun hb=>(oy dP.o hb).symm.trans xF.o;have GO:=O go;clear go;cases e1:x==32
   ·have n1:((x.toNat:Int)==32)=false:=by rw[<-e1];exact uJ 32 ag
    cases e2:x==9
    ·have n2:((x.toNat:Int)==9)=false:=by rw[<-e2];exact uJ 9 ag
     have yI:=O (lz (p:=dK) (l:=s.data.toList) (i:=k) (fun c Ty=>by rw[dP.o]at Ty;cases Ty;simp[dK,e1,e2]));clear e1 e2;go_wp2;go_quiet (fail);go_wp2;go_ret;rw[<-xF.o,yI.o];exact⟨rfl,hc,by repeat(first|exact cL|apply dC)⟩
    ·have n2:((x.toNat:Int)==9)=true:=by rw[<-e2];exact uJ 9 ag
     have hn:=O (GO.o (by simp[dK,e2]));clear e1 e2;go_wp2;go_quiet (fail);go_wp2;go_roundw
     case rel=>exact⟨k+1,ab,ab,(hc.setCell (j:=k+1)).drewN _,hn.o,cL.trans (mj wr b _ _)⟩
     case measure=>rw[pU.o];exact GV (hc.setCell (j:=k+1)) hk
   ·have n1:((x.toNat:Int)==32)=true:=by rw[<-e1];exact uJ 32 ag
    have hn:=O (GO.o (by simp[dK,e1]));clear e1;go_wp2;go_quiet (fail);go_wp2;go_roundw
    case rel=>exact⟨k+1,ab,ab,(hc.setCell (j:=k+1)).drewN _,hn.o,cL.trans (mj wr b _ _)⟩
    case measure=>rw[pU.o];exact GV (hc.setCell (j:=k+1)) hk
  ·have hd:decide (k<s.size)=false:=bH;have yI:=O (lz (p:=dK) (l:=s.data.toList) (i:=k) (fun c Ty=>by rw[tB s k hk]at Ty;cases Ty));go_wp2;go_quiet (fail);go_wp2;go_ret;rw[<-xF.o,yI.o];exact⟨rfl,hc,by repeat(first|exact cL|apply dC)⟩
theorem vo(b:Nat)(s:aj)(i:Nat)(w:World)(h:dw w b s i)(hs:s.size<=maxLen)(hi:i<=s.size) :
  aB 167 #[.pointer (some ⟨b,0,none⟩)] w fun e w'=>e=.returned (.string (s.extract i (cM fV s.data.toList i)))/\dw w' b s (cM fV s.data.toList i)/\Fr (one b) w w':=by
 have h0:=h.cell0;have h1:=h.gW;unfold maxLen at hs;go_enter func167,ntmps167;go_wp2;clear h0 h1;go_loopw[] (fun wr=>∃k,i<=k/\k<=s.size/\dw wr b s k/\cM fV s.data.toList k=cM fV s.data.toList i/\Fr (one b) w wr) (fun wr=>s.size-pq wr b)
 case atStart=>exact⟨i,ay _,hi,h,rfl,ae _ _⟩
 case round =>
  obtain⟨k,Mm,fk,hc,ql,cL⟩:=hrel;have xF:=O ql;clear ql;have h0:=hc.cell0;have h1:=hc.gW;have hf:=hc.free 1;have pU:=O hc.pos;by_cases hk:k<s.size
  ·have hd:decide (k<s.size)=true:=by simp[hk]
   have dP:=O (byte_at s k hk);generalize hx:s[k]=x at dP;have go:fV x=true->cM fV s.data.toList (k+1)=cM fV s.data.toList i:=fun hb=>(oy dP.o hb).symm.trans xF.o;have GO:=O go;clear go;cases e1:fV x
   ·have yI:=O (lz (p:=fV) (l:=s.data.toList) (i:=k) (fun c Ty=>by rw[dP.o]at Ty;cases Ty;exact e1));go_wp2;go_quiet ((go_at_call 153;exact tA (yH _ _)));go_wp2;go_quiet (fail);go_wp2;go_ret;rw[<-xF.o,yI.o];exact⟨rfl,hc,by repeat(first|exact cL|apply dC)⟩
   ·have hn:=O (GO.o e1);go_wp2;go_quiet ((go_at_call 153;exact tA (yH _ _)));go_wp2;go_roundw
    case rel=>exact⟨k+1,ab,ab,(hc.setCell (j:=k+1)).drewN _,hn.o,cL.trans (mj wr b _ _)⟩
    case measure=>rw[pU.o];exact GV (hc.setCell (j:=k+1)) hk
  ·have hd:decide (k<s.size)=false:=bH;have yI:=O (lz (p:=fV) (l:=s.data.toList) (i:=k) (fun c Ty=>by rw[tB s k hk]at Ty;cases Ty));go_wp2;go_quiet (fail);go_wp2;go_quiet (fail);go_wp2;go_ret;rw[<-xF.o,yI.o];exact⟨rfl,hc,by repeat(first|exact cL|apply dC)⟩
theorem dropWhile_nil{α:Type}{p:α->Bool}:∀ {l:List α},l.dropWhile p=[]↔l.all p=true
 |[]=>aR
 |a :: l=>by
  rw[List.dropWhile_cons,List.all_cons];cases h:p a
  ·simp
  ·simp only[eb,Bool.true_and];exact dropWhile_nil
theorem wE(l cs:aH):Lib.trimS l cs=[]↔l.all (cs.contains ·)=true:=by
 unfold Lib.trimS Lib.trimLeftS Lib.trimRightS;rw[dropWhile_nil];constructor
 ·intro h;have h2:l.reverse.dropWhile (cs.contains ·)=[]:=by
   cases hq:l.reverse.dropWhile (cs.contains ·)with
   |nil=>rfl
   |cons a r =>
    exfalso;have hh:=List.head?_dropWhile_not (p:=(cs.contains ·)) l.reverse;rw[hq]at h hh;simp only[List.head?_cons,List.reverse_cons,jP,List.all_cons,List.all_nil,Bool.and_true,cF]at h hh;rw[h.2]at hh;simp at hh
  rw[dropWhile_nil]at h2;simpa using h2
 ·intro h;rw[gu]at h ⊢;intro x hx;refine h x ?_;have h1:=(List.dropWhile_sublist (cs.contains ·) (l:=l.reverse)).subset (List.mem_reverse.1 hx);exact List.mem_reverse.1 h1
theorem gS:s.data.toList=[]↔s.size=0:=by
 constructor
 ·intro h;have:s.data.toList.length=0:=by rw[h];rfl
  simpa using this
 ·intro h;apply cg;simpa using h
theorem sj(s cs:aj)(w:World)(hs:s.size<=9223372036854775807)(h2:2<=cs.size)(hcs:cs.size<4294967281)(MK:∀b∈cs.data.toList,b.toNat<128) :
  aB 134 #[.string s,.string cs] w fun e w'=>e=.returned (.string ⟨(Lib.trimS s.data.toList cs.data.toList).toArray⟩)/\Fr aS w w':=by
 by_cases h0:s.size=0
 ·refine(Any.strings_Trim_empty OU s cs w (Or.inl h0)).mono fun e w' ⟨he,hw⟩=>⟨?_,hw▸ae _ _⟩;have e0:=gS.2 h0;rw[he,e0]
  congr 2
  rw[show Lib.trimS [] cs.data.toList=[]from rfl];cases s with
  |mk d=>simp at e0;rw[e0]
 ·refine(Any.strings_Trim_set OU (fun w=>af) af s cs w h2 ab hs hcs (fun j b hj=>MK b (cj hj))).mono fun e w' ⟨he,q,hw⟩=>⟨he,?_⟩;rw[hw];exact(((ae aS w).alloc _).alloc _).drewN q
def dV(k:Nat)(w:World)(v:Value)(xs:cY):Prop :=
 (∀x∈xs,x.length=k/\∀u∈x,u.oneCell'=true) /\
 ((∃a c,v=.slice a 0 c/\xs=[]/\(a=none->c=0)) \/
  ∃bk o c,v=.slice (some ⟨bk,o,none⟩) xs.length c/\xs.length<=c/\c<=maxLen/\bk<w.heap.size /\
   ∀(j:Nat) x,xs[j]?=some x->∀(i:Nat) u,x[i]?=some u->w.cell? ⟨bk,o+j*k+i,none⟩=some u)
section
variable {k : Nat} {w w' : World} {v : Value} {xs : List (List Value)}
theorem dV.nil(k:Nat)(w:World):dV k w (.slice none 0 0) []:=⟨aR,Or.inl ⟨_,_,rfl,rfl,fun _=>rfl⟩⟩
theorem dV.form(h:dV k w v xs):∃a c,v=.slice a xs.length c:=by
 rcases h.2 with ⟨a,c,hv,hs,_⟩|⟨bk,o,c,hv,_⟩
 ·exact⟨a,c,by rw[hv,hs];rfl⟩
 ·exact⟨_,_,hv⟩
theorem dV.fr(h:dV k w v xs)(hf:Fr S w w')(hn:∀b,v.ownBlock=some b->¬S b):dV k w' v xs:=by
 refine⟨h.1,?_⟩;rcases h.2 with h|⟨bk,o,c,hv,h1,h2,h3,h4⟩
 ·exact Or.inl h
 ·refine Or.inr ⟨bk,o,c,hv,h1,h2,cO h3 hf.size,fun j x hj i u hi=>?_⟩;rw[hf.cell (p:=⟨bk,o+j*k+i,none⟩) h3 (hn bk (by rw[hv];rfl))];exact h4 j x hj i u hi
theorem dV.fG(h:dV k w v xs)(hf:Fr aS w w'):dV k w' v xs:=h.fr hf (fun _ _ h=>h)
end
def OwnRows(base:Nat)(e:TypeId)(k:Nat)(w:World)(v:Value)(xs:cY):Prop :=
 (∀x∈xs,x.length=k/\∀u∈x,u.oneCell'=true)/\w.ownsRow base e k v xs.length xs.flatten
theorem rm:∀ {k:Nat} {xs:cY} (_:∀x∈xs,x.length=k) {j:Nat} {x:aX} (_:xs[j]?=some x) {i:Nat} {u:Value} (_:x[i]?=some u),xs.flatten[j*k+i]?=some u
 |k,[],_,j,x,hj,i,u,hi=>by simp at hj
 |k,y :: ys,hl,0,x,hj,i,u,hi=>by
  simp at hj;subst hj;have:=(List.getElem?_eq_some_iff.1 hi).1;simp only[List.flatten_cons,ia,bw];rw[List.getElem?_append_left this];exact hi
 |k,y :: ys,hl,j+1,x,hj,i,u,hi=>by
  have hy:=hl y aR;have ih:=rm (k:=k) (xs:=ys) (fun z hz=>hl z (bP _ hz)) (j:=j) (by simpa using hj) hi;simp only[List.flatten_cons];rw[List.getElem?_append_right (by rw[hy,ib];omega),hy,show(j+1)*k+i-k=j*k+i from by rw[ib];omega];exact ih
theorem gz:∀ {k:Nat} {xs:cY} (_:∀x∈xs,x.length=k),xs.flatten.length=xs.length*k
 |k,[],_=>aR
 |k,y :: ys,hl=>by
  have:=gz (k:=k) (xs:=ys) (fun z hz=>hl z (bP _ hz));simp only[List.flatten_cons,aN,this,hl y aR,List.length_cons,ib];omega
section
variable {base k : Nat} {e : TypeId} {w w' : World} {v : Value} {xs : List (List Value)}
theorem OwnRows.nil(base:Nat)(e:TypeId)(k:Nat)(w:World):OwnRows base e k w (.slice none 0 0) []:=⟨aR,World.ownsRow_nil _ _ _ _⟩
theorem OwnRows.alloc(h:OwnRows base e k w v xs)(o:Obj):OwnRows base e k (w.alloc o) v xs:=⟨h.1,World.ownsRow.alloc h.2 o⟩
theorem OwnRows.drewN(h:OwnRows base e k w v xs):OwnRows base e k (w.drewN n) v xs:=h
theorem OwnRows.form(h:OwnRows base e k w v xs):∃a c,v=.slice a xs.length c:=by
 rcases h.2.2 with ⟨hv,hn⟩|⟨g,cap,cur,hv,_⟩
 ·exact⟨none,0,by rw[hv,hn]⟩
 ·exact⟨_,_,hv⟩
theorem OwnRows.up{b':Nat}(h:OwnRows b' e k w v xs)(hb:base<=b'):OwnRows base e k w v xs:=by
 obtain⟨h0,h1,h2⟩:=h;refine⟨h0,h1,?_⟩;rcases h2 with h2|⟨g,cap,cur,hv,hg,r⟩
 ·exact Or.inl h2
 ·exact Or.inr ⟨g,cap,cur,hv,aF hb hg,r⟩
theorem OwnRows.fr(h:OwnRows base e k w v xs)(hf:Fr S w w')(hn:∀b,v.ownBlock=some b->¬S b):OwnRows base e k w' v xs:=by
 obtain⟨h0,h1,h2⟩:=h;refine⟨h0,h1,?_⟩;rcases h2 with h2|⟨g,cap,cur,hv,hg,hh,r⟩
 ·exact Or.inl h2
 ·exact Or.inr ⟨g,cap,cur,hv,hg,hf.keep hh (hn g (by rw[hv];rfl)),r⟩
theorem OwnRows.block(h:OwnRows base e k w v xs):∀b,v.ownBlock=some b->base<=b:=by
 intro b hb;rcases h.2.2 with ⟨hv,_⟩|⟨g,cap,cur,hv,hg,_⟩
 ·rw[hv]at hb;simp[Value.ownBlock]at hb
 ·rw[hv]at hb;simp[Value.ownBlock]at hb;omega
theorem OwnRows.lt(h:OwnRows base e k w v xs):∀b,v.ownBlock=some b->b<w.heap.size:=by
 intro b hb;rcases h.2.2 with ⟨hv,_⟩|⟨g,cap,cur,hv,hg,hh,_⟩
 ·rw[hv]at hb;simp[Value.ownBlock]at hb
 ·rw[hv]at hb;simp[Value.ownBlock]at hb;subst hb;exact bj hh
theorem OwnRows.at(h:OwnRows base e k w v xs):dV k w v xs:=by
 obtain⟨h0,h1,h2⟩:=h;refine⟨h0,?_⟩;rcases h2 with ⟨hv,hn⟩|⟨g,cap,cur,hv,hg,hh,h3,h4,h5,h6⟩
 ·exact Or.inl ⟨none,0,hv,cg hn,fun _=>rfl⟩
 ·refine Or.inr ⟨g,0,cap,hv,h3,h4,bj hh,fun j x hj i u hi=>?_⟩;have Fv:=h0 x (cj hj);have Fw:j*k+i<xs.length*k:=by
   have hj':=(List.getElem?_eq_some_iff.1 hj).1;have hi':=(List.getElem?_eq_some_iff.1 hi).1;have:(j+1)*k<=xs.length*k:=bO _ hj';rw[ib]at this;omega
  have e1:(cur.toList.take (xs.length*k))[j*k+i]?=some u:=by rw[h6];exact rm (fun z hz=>(h0 z hz).1) hj hi
  rw[List.getElem?_take_of_lt Fw]at e1;have e2:cur[j*k+i]?=some u:=by simpa using e1
  simp[World.cell?,hh,e2]
end
theorem nJ{P:Program}{ops:Array Oper}{rest:List Oper}{o:Oper}{a:Act}{Q:Exit->Act->World->Prop}{w:World}(yE:o.guard=none)(s x:Operand)(t e:TypeId)
  (ho:o.op=.call {callee:=.builtin .append,args:= #[s,x],argTypes:= #[t,t]})(k bytes:Nat)(z:Value)(ht:P.underlying t=some (.slice e))
  (amr:(P.info? e).map (fun i=>(i.zero,i.size,i.bytes))=some (some z,k,bytes))(hz:z.cells.size=k)(hk:0<k)(hb:bytes<=1024)
  (base:Nat)(v:Value)(l:cY)(hs:a.eval s=v)(cQ:OwnRows base e k w v l)
  (ad:Nat)(c:Nat)(y:aX)(hx:a.eval x=.slice (some ⟨ad,0,none⟩) 1 c)(CP:y.length=k)(Ex:∀u∈y,u.oneCell'=true)(hy:∀(i:Nat) u,y[i]?=some u->w.cell? ⟨ad,i,none⟩=some u)
  (hlen:l.length<68719476736)(ix:base<=w.heap.size)
  (h:∀v' w',OwnRows base e k w' v' (l++[y])->w.grownBy w' v.ownBlock->wpList P ops Q rest (a.put o.dst v') w'):wpList P ops Q (o :: rest) a w:=by
 obtain⟨i0,hi,o9,kQ,ld⟩:=info_parts amr;refine wpList_append_own w yE s x t ho base e i0 z k bytes ht hi o9 kQ ld hz hk v l.length l.flatten hs cQ.2 ⟨ad,0,none⟩ 1 c y hx (by rw[CP,Nat.one_mul]) ?_ Ex ?_ ?_ ix ?_
 ·intro j u hj;have ea:(Addr.add ⟨ad,0,none⟩ j)=⟨ad,j,none⟩:=by unfold Addr.add;split<;>simp_all
  rw[ea];exact hy j u hj
 ·unfold maxLen;omega
 ·have:(l.length+1)*bytes<=68719476736*1024:=Nat.mul_le_mul ab hb;omega
 ·intro v' w' h1 h2 _;refine h v' w' ⟨?_,?_⟩ h2
  ·intro q hq;rcases bQ.1 hq with g|g
   ·exact cQ.1 q g
   ·simp at g;subst g;exact⟨CP,Ex⟩
  ·simpa using h1
abbrev bh := @dV.fG
abbrev dx := @OwnRows.nil
abbrev dI := @dV.form
def aaZ:Go.Shelf.Ren:=⟨fun|167=>157|240=>158|276=>205|n=>n,fun|70=>186|9=>9|72=>189|37=>187|164=>277|20=>20|75=>43|80=>197|5=>5|79=>242|n=>n,fun|n=>n⟩
theorem acK:Go.Proofs.Lays.n167 prog aaZ:={
 mixed:=af
 f167:=func157.trans (aq some af)
 f240:=func158.trans (aq some af)
 f276:=func205.trans (aq some af)
 t0:=underlying0
 a0:=isAgg0
 z0:=sizeOf0
 v0:=zeroValue0
 t4:=underlying4
 a4:=isAgg4
 z4:=sizeOf4
 v4:=zeroValue4
 t5:=underlying5
 a5:=isAgg5
 z5:=sizeOf5
 v5:=zeroValue5
 t9:=underlying9
 a9:=isAgg9
 z9:=sizeOf9
 v9:=zeroValue9
 t20:=underlying20
 a20:=isAgg20
 z20:=sizeOf20
 v20:=zeroValue20
 t37:=underlying187
 a37:=isAgg187
 z37:=sizeOf187
 v37:=zeroValue187
 t70:=underlying186
 a70:=isAgg186
 z70:=sizeOf186
 v70:=zeroValue186
 t72:=underlying189
 a72:=isAgg189
 z72:=sizeOf189
 v72:=zeroValue189
 t75:=underlying43
 a75:=isAgg43
 z75:=sizeOf43
 v75:=zeroValue43
 t164:=underlying277
 a164:=isAgg277
 z164:=sizeOf277
 v164:=zeroValue277}
theorem Yo:Builder.Extra prog aaZ:={
 sizeBuilder:=af
 liesBuilder:=af
 t5:=underlying5
 a5:=isAgg5
 z5:=sizeOf5
 v5:=zeroValue5
 infoByte:=af
 cellsByte:=af
 sizeByte:=af
 neB5:=ag}
def FA(B b:Nat)(l:aH)(w:World):Prop:=Lib.IsBuilder 189 5 B b (tU l) w
theorem j9(B b:Nat)(l:aH)(c:UInt8)(w:World)(h:FA B b l w)(hlen:l.length+1<=140737488355328)(X0:B<=w.heap.size) :
  aB 157 #[.pointer (some ⟨b,0,none⟩),.int .u8 c.toNat] w fun e w'=>e=.returned .nilIface/\FA B b (l++[c]) w'/\Below B w w' :=
 (Any.Builder_WriteByte acK Yo B b (tU l) c.toNat w h (by rw[xE];exact hlen) X0).mono fun e w' ⟨he,hb,hw⟩=>⟨he,by unfold FA;rw[Jp];exact Or.inr hb,hw⟩
theorem Bq(B b:Nat)(l:aH)(w:World)(h:FA B b l w)(X0:B<=w.heap.size) :
  aB 112 #[.pointer (some ⟨b,0,none⟩)] w fun e w'=>e=.returned (.string ⟨l.toArray⟩)/\Below B w w' :=
 Builder_String_any B b l w h X0
theorem Fr.lR{a:World}(h:Fr S a w)(g:Below a.heap.size w w'):Fr S a w' :=
 h.step (Fr.OP (S:=fun k=>a.heap.size<=k) g (fun _ _ h=>h)) (fun k hk hT=>absurd hT ab)
theorem FA.new(w:World):FA w.heap.size w.heap.size [] (w.alloc (.cells #[.pointer none,.slice none 0 0] 189)) :=
 Or.inl ⟨ay _,_,aC w _,World.ownsRow_nil _ _ _ _,by simp[Value.ownBlock]⟩
theorem Kz{P:Program}{W:World}{x:String×DataW Unit}:∀ {laid:List (String×DataW Unit)},laidMet P laid W->x∈laid->∃r,laidMet P (x :: r) W
 |y :: l,h,hm=>by
  rcases bB.1 hm with rfl|hm
  ·exact⟨l,h⟩
  ·exact Kz (laidMet.tail h) hm
theorem KA{P:Program}{W:World}{laid:List (String×DataW Unit)}{name:String}{k:IntKind}{zs:List Int}{g:Nat}{t e:TypeId}{n:Nat}
  (h:laidMet P laid W)(hm:(name,Lib.tabData k zs)∈laid)
  (hg:P.globalNamed name=some g)(SX:(P.globals[g]?).map (·.type)=some t)(ht:P.underlying t=some (.array n e))(he:P.underlying e=some (.int k))(hce:P.cellsOf e=1)(hct:P.cellsOf t=n):Lib.TabIs P W name k zs:=by
 obtain⟨r,hr⟩:=Kz h hm;exact Lib.tabIs_of_head hg SX ht he hce hct hr
def xn(w:World):Prop:=Lib.TabIs prog w "internal/strconv.uint64pow10" .u64 Lib.pow10Tab
theorem xn.fr(h:xn w)(hf:Fr aS w w'):xn w':=Go.Joins.tab_stays (g:=5) af h hf.pj (ay _)
theorem Ni{W:World}{laid:List (String×DataW Unit)}(h:laidMet prog laid W)(hm:("internal/strconv.uint64pow10",Lib.tabData .u64 Lib.pow10Tab)∈laid/\True):xn W :=
 KA h hm.1 (g:=5) af af underlying324 underlying303 af af
def Ah(a n:Int):Int:=(a%18446744073709551616)%n
theorem wA(a n:Int)(hn:0<n):0<=Ah a n/\Ah a n<n:=⟨Int.emod_nonneg _ ab,Int.emod_lt_of_pos _ hn⟩
theorem Xe(a n:Int)(hn:0<n)(AE:n<4611686018427387904):wrap64 ((IntKind.u64.wrap a).tmod n)=Ah a n:=by
 have e:IntKind.u64.wrap a=a%18446744073709551616:=by simp[IntKind.wrap,IntKind.signed,IntKind.bits]
 rw[e,Int.tmod_eq_emod_of_nonneg (Int.emod_nonneg _ ag)];have h:=wA a n hn;unfold Ah at h ⊢;exact IntWalk.wrap64_in _ ⟨ab,ab⟩
theorem Ml(a n:Int)(w:World)(hn:0<n)(AE:n<4611686018427387904) :
  aB 9 #[.int .i64 a,.int .i64 n] w fun e w'=>e=.returned (.int .i64 (Ah a n))/\w=w':=by
 go_enter func9,ntmps9;go_wp2;go_ret;exact⟨XX (Xe a n hn AE),rfl⟩
def fM(w:World)(v:Value)(ss:List aj):Prop :=
 (∃a c,v=.slice a 0 c/\ss=[]/\(a=none->c=0)) \/
 ∃bk o c,v=.slice (some ⟨bk,o,none⟩) ss.length c/\ss.length<=c/\c<=maxLen/\bk<w.heap.size/\∀(j:Nat) x,ss[j]?=some x->w.cell? ⟨bk,o+j,none⟩=some (.string x)
theorem fM.nil(w:World):fM w (.slice none 0 0) []:=Or.inl ⟨_,_,rfl,rfl,fun _=>rfl⟩
theorem fM.fr(h:fM w v ss)(hf:Fr S w w')(hn:∀k,v.ownBlock=some k->¬S k):fM w' v ss:=by
 rcases h with h|⟨bk,o,c,hv,h1,h2,h3,h4⟩
 ·exact Or.inl h
 ·refine Or.inr ⟨bk,o,c,hv,h1,h2,cO h3 hf.size,fun j x hj=>?_⟩;rw[hf.cell (p:=⟨bk,o+j,none⟩) h3 (hn bk (by rw[hv];rfl))];exact h4 j x hj
theorem fM.fG(h:fM w v ss)(hf:Fr aS w w'):fM w' v ss:=h.fr hf (fun _ _ h=>h)
theorem fM.form(h:fM w v ss):∃a c,v=.slice a ss.length c:=by
 rcases h with ⟨a,c,hv,hs,_⟩|⟨bk,o,c,hv,_⟩
 ·exact⟨a,c,by rw[hv,hs];rfl⟩
 ·exact⟨_,_,hv⟩
theorem yG:(prog.info? 9).map (fun i=>(i.zero,i.size,i.bytes))=some (some (.string ⟨#[]⟩),1,16):=af
def Strs(base:Nat)(w:World)(v:Value)(ss:List aj):Prop:=w.ownsRow base 9 1 v ss.length (ss.map Value.string)
section
variable {base : Nat} {w w' : World} {v : Value} {ss : List ByteArray}
theorem Strs.nil(base:Nat)(w:World):Strs base w (.slice none 0 0) []:=World.ownsRow_nil _ _ _ _
theorem Strs.alloc(h:Strs base w v ss)(o:Obj):Strs base (w.alloc o) v ss:=World.ownsRow.alloc h o
theorem Strs.drew(h:Strs base w v ss):Strs base w.drew v ss:=h
theorem Strs.form(h:Strs base w v ss):∃a c,v=.slice a ss.length c:=by
 rcases h.2 with ⟨hv,hn⟩|⟨g,cap,cur,hv,_⟩
 ·exact⟨none,0,by rw[hv,hn]⟩
 ·exact⟨_,_,hv⟩
theorem Strs.fr(h:Strs base w v ss)(hf:Fr S w w')(hS:∀k,S k->k<base):Strs base w' v ss:=by
 obtain⟨h1,h2⟩:=h;refine⟨h1,?_⟩;rcases h2 with h2|⟨g,cap,cur,hv,hg,hh,r⟩
 ·exact Or.inl h2
 ·exact Or.inr ⟨g,cap,cur,hv,hg,hf.keep hh (fun hs=>absurd (hS g hs) ab),r⟩
theorem Strs.block(h:Strs base w v ss):∀k,v.ownBlock=some k->base<=k:=by
 intro k hk;rcases h.2 with ⟨hv,_⟩|⟨g,cap,cur,hv,hg,_⟩
 ·rw[hv]at hk;simp[Value.ownBlock]at hk
 ·rw[hv]at hk;simp[Value.ownBlock]at hk;omega
theorem Strs.at(h:Strs base w v ss):fM w v ss:=by
 obtain⟨h1,h2⟩:=h;rcases h2 with ⟨hv,hn⟩|⟨g,cap,cur,hv,hg,hh,h3,h4,h5,h6⟩
 ·exact Or.inl ⟨none,0,hv,cg hn,fun _=>rfl⟩
 ·refine Or.inr ⟨g,0,cap,hv,h3,h4,bj hh,fun j x hj=>?_⟩;have hl:=(List.getElem?_eq_some_iff.1 hj).1;have e:(cur.toList.take (ss.length*1))[j]?=some (.string x):=by rw[h6];simp[hj]
  rw[List.getElem?_take_of_lt ab]at e;have e2:cur[j]?=some (.string x):=by simpa using e
  simp[World.cell?,hh,e2]
end
theorem nH{ops:Array Oper}{rest:List Oper}{o:Oper}{a:Act}{Q:Exit->Act->World->Prop}{w:World}(yE:o.guard=none)(s x:Operand)
  (ho:o.op=.call {callee:=.builtin .append,args:= #[s,x],argTypes:= #[125,125]})(base:Nat)(v:Value)(l:List aj)(hs:a.eval s=v)(cQ:Strs base w v l)
  (ad:Addr)(c:Nat)(y:aj)(hx:a.eval x=.slice (some ad) 1 c)(hy:w.cell? ad=some (.string y))(hlen:l.length<4398046511104)(ix:base<=w.heap.size)
  (h:∀v' w',Strs base w' v' (l++[y])->w.grownBy w' v.ownBlock->wpList prog ops Q rest (a.put o.dst v') w'):wpList prog ops Q (o :: rest) a w:=by
 obtain⟨i0,hi,o9,kQ,ld⟩:=info_parts yG;refine wpList_append_own w yE s x 125 ho base 9 i0 (.string ⟨#[]⟩) 1 16 underlying125 hi o9 kQ ld rfl ag v l.length (l.map Value.string) hs cQ ad 1 c [.string y] hx rfl ?_ ?_ ?_ ?_ ix ?_
 ·intro j u hj
  match j,hj with
  |0,hj=>simp at hj;subst hj;simpa[Addr.add]using hy
 ·intro u hu;simp at hu;subst hu;rfl
 ·unfold maxLen;omega
 ·omega
 ·intro v' w' h1 h2 _;exact h v' w' (by unfold Strs;simpa using h1) h2
abbrev kI := @Strs.nil
abbrev iy := @Strs.alloc
def vg:aH->Option (aH×aH)
 |[]=>none
 |x :: r =>
  if x==34 then some ([],r)
  else if x==92 then
   match r with
   |[]=>none
   |y :: r'=>if np y then(vg r').map (fun p=>(y :: p.1,p.2))else none
  else if np x then(vg r).map (fun p=>(x :: p.1,p.2))else none
def sP(l:aH)(k:Nat)(a:aH):Option (aH×Nat):=(vg (l.drop k)).map (fun p=>(a++p.1,l.length-p.2.length))
theorem Tz(h:l[k]?=none):sP l k a=none:=by
 unfold sP;rw[Jo h];simp[vg]
theorem Ql(h:l[k]?=some 34):sP l k a=some (a,k+1):=by
 have hk:=(List.getElem?_eq_some_iff.1 h).1;unfold sP;rw[drop_at h,vg.eq_def];simp;omega
theorem Qm(h:l[k]?=some x)(h1:(x==34)=false)(h2:(x==92)=false)(h3:np x=true):sP l k a=sP l (k+1) (a++[x]):=by
 unfold sP;rw[drop_at h];rw[vg.eq_def];simp only[h1,h2,h3,cJ,eV,eb];cases vg (l.drop (k+1))<;>simp
theorem TA(h:l[k]?=some x)(h1:(x==34)=false)(h2:(x==92)=false)(h3:np x=false):sP l k a=none:=by
 unfold sP;rw[drop_at h];rw[vg.eq_def];simp only[h1,h2,h3,cJ,eV,Option.map_none]
theorem Qn(h:l[k]?=some 92)(h1:l[k+1]?=none):sP l k a=none:=by
 unfold sP;rw[drop_at h,Jo h1,vg.eq_def];simp
theorem TB(h:l[k]?=some 92)(h1:l[k+1]?=some y)(h3:np y=true):sP l k a=sP l (k+2) (a++[y]):=by
 unfold sP;rw[drop_at h,drop_at h1];rw[vg.eq_def];simp only[show((92:UInt8)==34)=false from rfl,show((92:UInt8)==92)=true from rfl,h3,cJ,eV,eb];cases vg (l.drop (k+1+1))<;>simp
theorem JJ(h:l[k]?=some 92)(h1:l[k+1]?=some y)(h3:np y=false):sP l k a=none:=by
 unfold sP;rw[drop_at h,drop_at h1];rw[vg.eq_def];simp only[show((92:UInt8)==34)=false from rfl,show((92:UInt8)==92)=true from rfl,h3,cJ,eV,eb,Option.map_none]
def gJ(l:aH)(i:Nat):Option (aH×Nat):=if l[i]?=some 34 then sP l (i+1) []else none
def px(l:aH)(i:Nat):Nat:=match gJ l i with|some p=>p.2|none=>i
def nI(l:aH)(i:Nat):aH:=match gJ l i with|some p=>p.1|none=>[]
def g_(b:Nat)(s:aj)(i:Nat)(w:World)(e:Ending)(w':World):Prop :=
 e=.returned (.tuple #[.string ⟨(nI s.data.toList i).toArray⟩,.bool (gJ s.data.toList i).isSome])/\dw w' b s (px s.data.toList i)/\Fr (one b) w w'
theorem g_.none(h:gJ s.data.toList i=none)(hc:dw w' b s i)(hf:Fr (one b) w w') :
  g_ b s i w (.returned (.tuple #[.string ⟨#[]⟩,.bool false])) w':=by
 refine⟨?_,?_,hf⟩
 ·simp[nI,h]
 ·simpa[px,h]using hc
theorem g_.some(h:gJ s.data.toList i=some (a,j))(hc:dw w' b s j)(hf:Fr (one b) w w') :
  g_ b s i w (.returned (.tuple #[.string ⟨a.toArray⟩,.bool true])) w':=by
 refine⟨?_,?_,hf⟩
 ·simp[nI,h]
 ·simpa[px,h]using hc
def agq(b:Nat)(s:aj)(i:Nat)(w:World)(v:Value)(wr:World):Prop :=
 ∃k a,k<=s.size/\a.length<=k/\dw wr b s k/\Bytes w.heap.size wr v a/\Fr (one b) w wr/\gJ s.data.toList i=sP s.data.toList k a
theorem TC{b i k j:Nat}{s:aj}{w wr wx w2:World}{v v':Value}{a l:aH}(tV:b<w.heap.size)(hcx:dw wx b s j)(JK:Fr (one b) w wx)(hg:wx.grownBy w2 v.ownBlock)
  (cQ:Bytes w.heap.size wr v a)(fA:Bytes w.heap.size w2 v' l)(hj:j<=s.size)(hl:l.length<=j)(uR:gJ s.data.toList i=sP s.data.toList j l)(hkj:k<j)(pU:pq wr b=k) :
  agq b s i w v' w2/\s.size-pq w2 b<s.size-pq wr b:=by
 have hv:=cQ.block;have se:dw w2 b s j:=by
  unfold dw at hcx ⊢;rw[hg.block b (bj hcx) (fun e=>by have:=hv b e.symm;omega)];exact hcx
 refine⟨⟨j,l,hj,hl,se,fA,JK.grown hg (fun k hk hs=>by have:=hv k hk;omega),uR⟩,?_⟩;rw[pU,se.pos];omega
theorem MF(b:Nat)(s:aj)(i:Nat)(w:World)(h:dw w b s i)(hs:s.size<70368744177664) :
  aB 214 #[.pointer (some ⟨b,0,none⟩)] w (g_ b s i w):=by
 have h0:=h.cell0;have h1:=h.gW;have hm:s.size<=maxLen:=ft;cases e1:j6 s i 34
 ·have hq:=O (show gJ s.data.toList i=none by unfold gJ;rw[ar (by simpa[j6]using e1)]);go_enter func214,ntmps214;go_wp2_with fail
  refine(pT b s i 34 w h hm).mono ?_;rintro e w1⟨rfl,pk,dn⟩;rw[po e1]at pk;rw[e1];clear e1 h0 h1;have c0:=pk.cell0;have c1:=pk.gW;have cf:=pk.free 1;have Ye:=pk.eJ;go_wp2;refine wp_loop_rounds 1 ?_;rw[rounds_succ];go_wp2;go_quiet (fail);go_wp2;go_ret2;exact g_.none hq.o (j8 (j:=i) (by repeat(first|exact Ye|apply jl|apply hZ))) (by repeat(first|exact dn|apply dC|apply iM))
 ·have hq:=O (show gJ s.data.toList i=sP s.data.toList (i+1) []by unfold gJ;rw[aA (by simpa[j6]using e1)]);have MG:i+1<=s.size:=by
   have:s.data.toList[i]?=some 34:=by simpa[j6]using e1
   have:=(List.getElem?_eq_some_iff.1 this).1;have h2:i<s.size:=by simpa using this
   omega
  go_enter func214,ntmps214;go_wp2_with fail
  refine(pT b s i 34 w h hm).mono ?_;rintro e w1⟨rfl,pk,dn⟩;rw[pn e1]at pk;rw[e1];clear e1 h0 h1;go_wp2;go_loopw[5] (agq b s i w) (fun _ wr=>s.size-pq wr b)
  case atStart=>exact⟨i+1,[],MG,aR,pk,Bytes.nil _ _,dn,hq.o⟩
  case round =>
   rename_i v wr;obtain⟨k,a,hk,ha,hc,cQ,cL,uR⟩:=hrel;have gG:=O uR;clear uR;have c0:=hc.cell0;have c1:=hc.gW;have cf:=hc.free 1;have Ye:=hc.eJ;have pU:=O hc.pos;obtain⟨av,cv,hv⟩:=cQ.form;subst hv;have hbB:b<w.heap.size:=h.lt;have Bf:∀n u,(convert 187 9 (.slice av a.length cv)).run prog ((wr.drewN n).setCell ⟨b,1,none⟩ u)=.ok (.string ⟨a.toArray⟩) ((wr.drewN n).setCell ⟨b,1,none⟩ u):=fun n u =>
    Bytes.text (ox (p:=⟨b,1,none⟩) hbB (Bytes.drewN cQ))
   have tV:b<w.heap.size:=h.lt;have ix:w.heap.size<=wr.heap.size:=cL.size;by_cases fk:k<s.size
   ·have hd:decide (k<s.size)=true:=by simp[fk]
    have dP:=O (byte_at s k fk);generalize hx:s[k]=x at dP;cases e1:x==34
    ·have n1:((x.toNat:Int)==34)=false:=by rw[<-e1];exact uJ 34 ag
     cases e2:x==92
     ·have n2:((x.toNat:Int)==92)=false:=by rw[<-e2];exact uJ 92 ag
      cases e3:np x
      ·have fe:=O (show gJ s.data.toList i=none by rw[gG.o,TA dP.o e1 e2 e3]);clear e1 e2;go_wp2;go_quiet (fail);go_wp2;go_quiet (fail);go_wp2;go_quiet (fail);go_wp2_with (go_at_call 159;refine(pS _ _).mono ?_;rintro e w' ⟨rfl,rfl⟩)
       go_ret2;exact g_.none fe.o (j8 (j:=i) (by repeat(first|exact Ye|apply jl|apply hZ))) (by repeat(first|exact cL|apply dC|apply iM))
      ·have pV:=O (gG.o.trans (Qm (a:=a) dP.o e1 e2 e3));clear e1 e2;go_wp2;go_quiet (fail);go_wp2;go_quiet (fail);go_wp2;go_quiet (fail)
       go_wp2_with (first|(at_builtin;refine j5 rfl _ _ rfl w.heap.size (.slice av a.length cv) a rfl (by repeat(first|exact cQ|apply gC|apply ox (p:=⟨b,1,none⟩) hbB|apply Bytes.drewN|apply Bytes.drew)) ⟨wr.heap.size,0,none⟩ 1 x rfl (by rw[World.cell?_alloc_at _ _ _ _ aR];rfl) ab bH ?_;intro v' w2 fA xb)|(go_at_call 159;refine(pS _ _).mono ?_;rintro e w' ⟨rfl,rfl⟩))
       exact TC tV (by repeat(first|exact j8 (j:=k+1) (by repeat(first|exact Ye|apply jl|apply hZ))|apply dw.alloc|apply dw.drewN)) (by repeat(first|exact cL|apply dC|apply iM|apply bz)) xb cQ fA ab bH pV.o (Nat.lt_succ_self k) pU.o
     ·have aml:x=92:=by simpa using e2
      clear e1 e2;subst aml;by_cases lW:k+1<s.size
      ·have yJ:decide ((k:Int)+1<(s.size:Int))=true:=bH;have acv:=O (byte_at s (k+1) lW);generalize hy:s[k+1]=y at acv;cases e3:np y
       ·have fe:=O (show gJ s.data.toList i=none by rw[gG.o,JJ dP.o acv.o e3]);go_wp2;go_quiet (fail);go_wp2;go_quiet (fail);go_wp2;go_quiet (fail);go_wp2;go_quiet (fail);go_wp2_with (go_at_call 159;refine(pS _ _).mono ?_;rintro e w' ⟨rfl,rfl⟩)
        go_ret2;exact g_.none fe.o (j8 (j:=i) (by repeat(first|exact Ye|apply jl|apply hZ))) (by repeat(first|exact cL|apply dC|apply iM|apply bz))
       ·have pV:=O (gG.o.trans (TB (a:=a) dP.o acv.o e3));go_wp2;go_quiet (fail);go_wp2;go_quiet (fail);go_wp2;go_quiet (fail);go_wp2;go_quiet (fail)
        go_wp2_with (first|(at_builtin;refine j5 rfl _ _ rfl w.heap.size (.slice av a.length cv) a rfl (by repeat(first|exact cQ|apply gC|apply ox (p:=⟨b,1,none⟩) hbB|apply Bytes.drewN|apply Bytes.drew)) ⟨wr.heap.size,0,none⟩ 1 y rfl (by rw[World.cell?_alloc_at _ _ _ _ aR];rfl) ab bH ?_;intro v' w2 fA xb)|(go_at_call 159;refine(pS _ _).mono ?_;rintro e w' ⟨rfl,rfl⟩))
        exact TC tV (by repeat(first|exact j8 (j:=k+1+1) (by repeat(first|exact Ye|apply jl|apply hZ))|apply dw.alloc|apply dw.drewN)) (by repeat(first|exact cL|apply dC|apply iM|apply bz)) xb cQ fA ab bH pV.o ab pU.o
      ·have yJ:decide ((k:Int)+1<(s.size:Int))=false:=bH;have fe:=O (show gJ s.data.toList i=none by rw[gG.o,Qn dP.o (tB s (k+1) lW)]);go_wp2;go_quiet (fail);go_wp2;go_quiet (fail);go_wp2;go_quiet (fail);go_wp2;go_ret2;exact g_.none fe.o (j8 (j:=i) (by repeat(first|exact Ye|apply jl|apply hZ))) (by repeat(first|exact cL|apply dC|apply iM|apply bz))
    ·have n1:((x.toNat:Int)==34)=true:=by rw[<-e1];exact uJ 34 ag
     have fe:=O (show gJ s.data.toList i=some (a,k+1)by rw[gG.o,Ql (by rw[dP.o];simpa using e1)]);clear e1;go_wp2;go_quiet (fail);go_wp2;go_quiet (fail);go_wp2;go_ret2;exact g_.some fe.o (j8 (j:=k+1) (by repeat(first|exact Ye|apply jl|apply hZ))) (by repeat(first|exact cL|apply dC|apply iM))
   ·have hd:decide (k<s.size)=false:=bH;have fe:=O (show gJ s.data.toList i=none by rw[gG.o,Tz (tB s k fk)]);go_wp2;go_quiet (fail);go_wp2;go_ret2;exact g_.none fe.o (j8 (j:=i) (by repeat(first|exact Ye|apply jl|apply hZ))) (by repeat(first|exact cL|apply dC|apply iM))
def mz(c:UInt8):aH->aH×aH×Bool
 |[]=>([],[],false)
 |x :: l=>if x=c then([],l,true)else(x :: (mz c l).1,(mz c l).2.1,(mz c l).2.2)
theorem JR(c:UInt8):∀(a b:aH),c∉a->mz c (a++c :: b)=(a,b,true)
 |[],b,_=>by simp[mz]
 |x :: a,b,h=>by
  have hx:¬x=c:=fun e=>h (by rw[e];exact cX ..);rw[List.cons_append,mz,ar hx,JR c a b (fun e=>h (bP _ e))]
theorem Fp(c:UInt8):∀(a:aH),c∉a->mz c a=(a,[],false)
 |[],_=>rfl
 |x :: a,h=>by
  have hx:¬x=c:=fun e=>h (by rw[e];exact cX ..);rw[mz,ar hx,Fp c a (fun e=>h (bP _ e))]
theorem O9(c:UInt8):∀l:aH,c∉(mz c l).1/\(((mz c l).2.2=true/\l=(mz c l).1++c :: (mz c l).2.1)\/((mz c l).2.2=false/\l=(mz c l).1/\(mz c l).2.1=[]))
 |[]=>⟨by simp[mz],Or.inr ⟨rfl,rfl,rfl⟩⟩
 |x :: l=>by
  have ih:=O9 c l;unfold mz;split
  ·rename_i h;exact⟨aR,Or.inl ⟨rfl,by rw[h];rfl⟩⟩
  ·rename_i h;refine⟨fun e=>?_,?_⟩
   ·rcases bB.1 e with e|e
    ·exact h e.symm
    ·exact ih.1 e
   ·rcases ih.2 with ⟨h1,h2⟩|⟨h1,h2,h3⟩
    ·exact Or.inl ⟨h1,by rw[List.cons_append, <-h2]⟩
    ·exact Or.inr ⟨h1,by rw[<-h2],h3⟩
def JS(c:UInt8):Bool:=decide (97<=c.toNat/\c.toNat<=122)||decide (48<=c.toNat/\c.toNat<=57)||decide (c.toNat=45)
def CM(l:aH):Bool:=!l.isEmpty&&!(l.head?==some 45)&&!(l.getLast?==some 45)&&l.all JS
def O_(l:aH):Bool:=decide (l.length<=60)&&(dY 46 l).all CM
def CN(s:Bool):Int:=if s then 443 else 80
structure acA where
 aE:Bool
 host:aH
 port:Int
def acB(o:acA):Bool:=O_ o.host&&(decide (1<=o.port)&&decide (o.port<=65535))
def agx:aH:=[104,116,116,112,58,47,47]
def acC:aH:=[104,116,116,112,115,58,47,47]
def aaP(s:Bool):aH:=if s then acC else agx
def Fq(o:acA):aH:=aaP o.aE++o.host++(if o.port=CN o.aE then []else 58 :: Lib.itoa o.port)
def aa0:Go.Shelf.Ren:=⟨fun|166=>105|240=>158|276=>205|n=>n,fun|70=>186|9=>9|72=>189|37=>187|164=>277|20=>20|75=>43|80=>197|5=>5|3=>3|n=>n,fun|n=>n⟩
theorem acL:Go.Proofs.Lays.n166 prog aa0:={
 mixed:=af
 f166:=func105.trans (aq some af)
 f240:=func158.trans (aq some af)
 f276:=func205.trans (aq some af)
 t0:=underlying0
 a0:=isAgg0
 z0:=sizeOf0
 v0:=zeroValue0
 t3:=underlying3
 a3:=isAgg3
 z3:=sizeOf3
 v3:=zeroValue3
 t4:=underlying4
 a4:=isAgg4
 z4:=sizeOf4
 v4:=zeroValue4
 t9:=underlying9
 a9:=isAgg9
 z9:=sizeOf9
 v9:=zeroValue9
 t20:=underlying20
 a20:=isAgg20
 z20:=sizeOf20
 v20:=zeroValue20
 t37:=underlying187
 a37:=isAgg187
 z37:=sizeOf187
 v37:=zeroValue187
 t70:=underlying186
 a70:=isAgg186
 z70:=sizeOf186
 v70:=zeroValue186
 t72:=underlying189
 a72:=isAgg189
 z72:=sizeOf189
 v72:=zeroValue189
 t75:=underlying43
 a75:=isAgg43
 z75:=sizeOf43
 v75:=zeroValue43
 t164:=underlying277
 a164:=isAgg277
 z164:=sizeOf277
 v164:=zeroValue277}
theorem Yp:Builder.Extra prog aa0:={
 sizeBuilder:=af
 liesBuilder:=af
 t5:=underlying5
 a5:=isAgg5
 z5:=sizeOf5
 v5:=zeroValue5
 infoByte:=af
 cellsByte:=af
 sizeByte:=af
 neB5:=ag}
def vA(B b:Nat)(l:aH)(w:World):Prop:=Lib.IsBuilderF 189 5 B b (tU l) w
abbrev agG(b:Nat)(w w':World):Prop:=Lib.OthersKept 5 (some b) w w'
theorem Hb(s:aj):Lib.strCells s=tU s.data.toList:=by
 unfold Lib.strCells tU;rfl
theorem Yq(a b:aH):tU (a++b)=tU a++tU b:=by unfold tU;simp
theorem ec(B b:Nat)(l:aH)(s:aj)(w:World)(h:vA B b l w)(hlen:l.length+s.size<=140737488355328)(X0:B<=w.heap.size) :
  aB 105 #[.pointer (some ⟨b,0,none⟩),.string s] w fun e w'=>e=.returned (.tuple #[.int .i64 s.size,.nilIface])/\vA B b (l++s.data.toList) w'/\Below B w w'/\agG b w w':=by
 refine(Any.Builder_WriteString_k acL Yp B b (tU l) s w h (by rw[xE];exact hlen) X0).mono ?_;rintro e w'⟨he,hb,hw,ho⟩;refine⟨he,?_,hw,ho⟩;unfold vA;rw[Yq, <-Hb];exact Or.inr hb
theorem vB(B b:Nat)(l:aH)(w:World)(h:vA B b l w) :
  aB 108 #[.pointer (some ⟨b,0,none⟩)] w fun e w'=>e=.returned (.int .i64 l.length)/\w=w':=by
 refine(Builder_Len_f B b (tU l) w h).mono ?_;rintro e w'⟨rfl,rfl⟩;exact⟨by rw[xE],rfl⟩
theorem kE{rest:List Oper}{a:Act}(o:Oper)(h:wpList P ops Q (o :: rest) a w):wpList P ops Q (o :: rest) a w:=h
theorem mL{a:Act}{K:Act->World->Prop}{E:Prop}(o:Oper)(h:if Region.wanted o (yielded ops a.tmps)=true then Oper.wp P o a w K Q else E):if Region.wanted o (yielded ops a.tmps)=true then Oper.wp P o a w K Q else E:=h
theorem Ay{P:Program}{ops:Array Oper}{a:Act}{w:World}{K:Act->World->Prop}{Q:Exit->Act->World->Prop}{E:Prop}{o:Oper}(yE:o.guard=none)(f:FuncId)(args:bS)(amv:(execOp a.eval o).run P w=.ok (.enter f args) w){T3:Ending->World->Prop}(hc:Calls P f args w T3)
  (h:∀e w',T3 e w'->∃v,e=.returned v/\K (a.put o.dst v) w'):if Region.wanted o (yielded ops a.tmps)=true then Oper.wp P o a w K Q else E:=by
 have hw:Region.wanted o (yielded ops a.tmps)=true:=by simp[Region.wanted,yE]
 rw[aA hw];unfold Oper.wp;rw[amv,Oper.upon_enter];refine hc.mono fun e w' hh=>?_;obtain⟨v,rfl,hk⟩:=h e w' hh;exact hk
theorem yY(w:World)(old cells:bS)(t:TypeId):(w.alloc (.cells old t)).setRow w.heap.size cells=w.alloc (.cells cells t):=by
 unfold World.setRow World.alloc
 congr 1
 apply Array.ext
 ·simp
 ·intro k h1 h2;simp only[Array.getElem_modify];by_cases hk:w.heap.size=k
  ·subst hk;simp
  ·have:k<w.heap.size:=by simp at h2;omega
   simp[hk,Array.getElem_push,this]
theorem pF{P:Program}{ops:Array Oper}{rest:List Oper}{o:Oper}{a:Act}{w:World}{Q:Exit->Act->World->Prop}(yE:o.guard=none)(ty:TypeId)(x y:Operand)(ho:o.op=.store ty x y)(old:bS)
  (cells:bS)(hx:a.eval x=.pointer (some ⟨w.heap.size,0,none⟩))(hy:a.eval y=.agg cells)
  (hi:(P.info? ty).map (·.size)=some cells.size)(hold:old.size=cells.size)(h1:cells.all (·.oneCell')=true)
  (h:wpList P ops Q rest (a.put o.dst undef) (w.alloc (.cells cells ty))):wpList P ops Q (o :: rest) a (w.alloc (.cells old ty)):=by
 refine aG yE ty x y ho w.heap.size cells hx hy ty old (aC w _) hi hold h1 ?_;rw[yY];exact h
theorem run_storeCells_new(w:World)(t:TypeId)(old:bS)(x:aX)(hold:old.size=x.length)(h1:∀u∈x,u.oneCell'=true) :
  Sem.run P (storeCells ⟨w.heap.size,0,none⟩ x 0) (w.alloc (.cells old t))=.ok () (w.alloc (.cells x.toArray t)):=by
 have h:=run_storeCells_from (P:=P) w.heap.size t x 0 old (w.alloc (.cells old t)) (aC w _) ab h1;rw[h,List.take_zero,List.nil_append,yY]
theorem b_{cur:bS}{t:TypeId}{f:Nat×Nat}(h:w.heap[b]?=some (.cells cur t f))(o:Nat)(v:Value):(w.setCell ⟨b,o,none⟩ v).heap[b]?=some (.cells (cur.setIfInBounds o v) t f):=by
 simp[World.setCell,Array.getElem?_modify,h]
theorem sT(hg:g≠b)(o:Nat)(v:Value):(w.setCell ⟨b,o,none⟩ v).heap[g]?=w.heap[g]?:=Below.heap_setCell _ _ _ _ hg
theorem pM{b:Nat}{t:TypeId}{f:Nat×Nat}:∀(vs:aX) (o:Nat) (w:World) (cur:bS),w.heap[b]?=some (.cells cur t f)->o+vs.length<=cur.size ->
  (w.setCells b o vs).heap[b]?=some (.cells (cur.toList.take o++vs++cur.toList.drop (o+vs.length)).toArray t f)
 |[],o,w,cur,h,hl=>by
  rw[World.setCells,h];simp
 |v :: r,o,w,cur,h,hl=>by
  simp only[List.length_cons]at hl;rw[World.setCells,pM r (o+1) _ _ (b_ h o v) bH]
  congr 3
  simp only[Array.toList_setIfInBounds,List.length_cons];have h1:(cur.toList.set o v).take (o+1)=cur.toList.take o++[v]:=by
   have tV:o<cur.toList.length:=bH;rw[cC,List.getElem?_set_self tV,gi (ay o)];rfl
  have h2:(cur.toList.set o v).drop (o+1+r.length)=cur.toList.drop (o+(r.length+1)):=by
   rw[gj ab]
   congr 1;omega
  rw[h1,h2];simp
theorem Fr.setCells{S:dB}{a w:World}(h:Fr S a w){b:Nat}(hb:b<a.heap.size->S b):∀(vs:aX) (o:Nat),Fr S a (w.setCells b o vs):=by
 intro vs
 induction vs generalizing w with
 |nil=>intro o;exact h
 |cons v r ih=>intro o;exact ih (h.setCell (p:=⟨b,o,none⟩) hb v) (o+1)
theorem xg:∀(y:aX) (i:Nat) (z:bS),i+y.length<=z.size->List.foldl (fun cs x=>cs.setIfInBounds x.snd x.fst) z (y.zipIdx i)=(z.toList.take i++y++z.toList.drop (i+y.length)).toArray
 |[],i,z,_=>aR
 |v :: r,i,z,hl=>by
  simp only[List.length_cons]at hl;rw[List.zipIdx_cons,List.foldl_cons,xg r (i+1) _ bH]
  congr 1
  simp only[Array.toList_setIfInBounds,List.length_cons];have h1:(z.toList.set i v).take (i+1)=z.toList.take i++[v]:=by
   have tV:i<z.toList.length:=bH;rw[cC,List.getElem?_set_self tV,gi (ay i)];rfl
  have h2:(z.toList.set i v).drop (i+1+r.length)=z.toList.drop (i+(r.length+1)):=by
   rw[gj ab]
   congr 1;omega
  rw[h1,h2];simp
theorem vD(y:aX)(z:bS)(h:z.size=y.length):List.foldl (fun cs x=>cs.setIfInBounds x.snd x.fst) z y.zipIdx=y.toArray:=by
 rw[xg y 0 z ab,List.take_zero,List.nil_append,cP bH,dR]
theorem Br{k:Nat}:∀ {xs:cY} (_:∀x∈xs,x.length=k) {i:Nat} {y:aX} (_:i<xs.length),(xs.set i y).flatten=xs.flatten.take (i*k)++y++xs.flatten.drop (i*k+k)
 |[],_,i,y,hi=>absurd hi (cq _)
 |x :: xs,hl,0,y,hi=>by
  have hx:=hl x aR;simp only[List.set_cons_zero,List.flatten_cons,ia,List.take_zero,List.nil_append,bw];rw[List.drop_append_of_le_length ab,cP ab];simp
 |x :: xs,hl,i+1,y,hi=>by
  have hx:=hl x aR;have ih:=Br (k:=k) (xs:=xs) (fun z hz=>hl z (bP _ hz)) (i:=i) (y:=y) (by simpa using hi);have e1:(i+1)*k=x.length+i*k:=by rw[ib,hx];omega
  simp only[List.set_cons_succ,List.flatten_cons,ih,e1];rw[List.take_length_add_append,show x.length+i*k+k=x.length+(i*k+k)from ab,List.drop_length_add_append];simp
theorem yZ{k:Nat}:∀ {xs:cY} (_:∀x∈xs,x.length=k) (i:Nat),(xs.take i).flatten=xs.flatten.take (i*k)
 |[],_,i=>aR
 |x :: xs,hl,0=>aR
 |x :: xs,hl,i+1=>by
  have hx:=hl x aR;have ih:=yZ (k:=k) (xs:=xs) (fun z hz=>hl z (bP _ hz)) i;rw[List.take_succ_cons,List.flatten_cons,ih,List.flatten_cons,show(i+1)*k=x.length+i*k from by rw[ib,hx];omega,List.take_length_add_append]
theorem J8(L:aX)(a n:Nat)(y:aX)(ham:a+y.length<=n)(hn:n<=L.length):(L.take a++y++L.drop (a+y.length)).take n=(L.take n).take a++y++(L.take n).drop (a+y.length):=by
 have hA:(L.take a++y).length=a+y.length:=by rw[aN,aM];omega
 rw[List.take_append,aD ab,hA,km,dL ab,List.drop_take]
theorem Hc(L:aX)(a:Nat)(y:aX)(ham:a+y.length<=L.length):(L.take a++y++L.drop (a+y.length)).take (a+y.length)=L.take a++y:=by
 have hA:(L.take a++y).length=a+y.length:=by rw[aN,aM];omega
 rw[List.take_append_of_le_length ab,aD ab]
theorem OwnRows.open(h:OwnRows base e k w v xs)(hg:v.ownBlock=some g) :
  ∃cap cur,v=.slice (some ⟨g,0,none⟩) xs.length cap/\base<=g/\w.heap[g]?=some (.cells cur e (0,0))/\xs.length<=cap/\cap<=maxLen/\cur.size=cap*k/\cur.toList.take (xs.length*k)=xs.flatten:=by
 rcases h.2.2 with ⟨hv,_⟩|⟨g',cap,cur,hv,h1,h2,h3,h4,h5,h6⟩
 ·rw[hv]at hg;simp[Value.ownBlock]at hg
 ·rw[hv]at hg;simp[Value.ownBlock]at hg;subst hg;exact⟨cap,cur,hv,h1,h2,h3,h4,h5,h6⟩
theorem OwnRows.store(h:OwnRows base e k w v xs){y:aX}(hi:i<xs.length)(hy:y.length=k)(Ex:∀u∈y,u.oneCell'=true)(hg:v.ownBlock=some g) :
  OwnRows base e k (w.setCells g (i*k) y) v (xs.set i y):=by
 obtain⟨cap,cur,hv,h1,h2,h3,h4,h5,h6⟩:=h.open hg;have Mm:i*k+k<=xs.length*k:=by have:(i+1)*k<=xs.length*k:=bO _ hi;rw[ib]at this;exact this
 have hck:xs.length*k<=cap*k:=bO _ h3;have hxs:∀x∈xs,x.length=k:=fun x hx=>(h.1 x hx).1;have hh:=pM y (i*k) w cur h2 ab;have hA:(cur.toList.take (i*k)).length=i*k:=by rw[aM];simp;omega
 have J9:(xs.set i y).flatten=(cur.toList.take (i*k)++y++cur.toList.drop (i*k+y.length)).take (xs.length*k):=by
  rw[Br hxs hi, <-h6,J8 _ _ _ _ ab bH,hy]
 refine⟨?_,?_,Or.inr ⟨g,cap,_,by rw[d_];exact hv,h1,hh,by rw[d_];exact h3,h4,?_,?_⟩⟩
 ·intro x hx;rcases List.mem_or_eq_of_mem_set hx with hx|rfl
  ·exact h.1 x hx
  ·exact⟨hy,Ex⟩
 ·rw[J9,d_,aM,dL];simp;omega
 ·simp;omega
 ·rw[d_,J9]
theorem OwnRows.CY{base k:Nat}{e:TypeId}{w:World}{v:Value}{xs:cY}(h:OwnRows base e k w v xs){i:Nat}{ys:cY}(hi:i<=xs.length)(hy:∀y∈ys,y.length=k/\∀u∈y,u.oneCell'=true){g cap:Nat}
  (hg:v=.slice (some ⟨g,0,none⟩) xs.length cap)(hc:i+ys.length<=cap):OwnRows base e k (w.setCells g (i*k) ys.flatten) (.slice (some ⟨g,0,none⟩) (i+ys.length) cap) (xs.take i++ys):=by
 obtain⟨BV,cur,hv,h1,h2,h3,h4,h5,h6⟩:=h.open (g:=g) (by rw[hg];rfl);rw[hg]at hv;cases hv;have J_:ys.flatten.length=ys.length*k:=gz (fun y hm=>(hy y hm).1);have xh:cur.toList.length=cur.size:=aR;have Mm:i*k+ys.length*k<=cap*k:=by rw[<-dE];exact bO _ hc
 have vh:i*k<=xs.length*k:=bO _ hi;have hh:=pM ys.flatten (i*k) w cur h2 ab;have hlen:(xs.take i++ys).length=i+ys.length:=by rw[aN,aM];omega
 have hxs:∀x∈xs,x.length=k:=fun x hx=>(h.1 x hx).1;have J9:(xs.take i++ys).flatten=(cur.toList.take (i*k)++ys.flatten++cur.toList.drop (i*k+ys.flatten.length)).take ((i+ys.length)*k):=by
  rw[dE, <-J_,Hc _ _ _ (by rw[J_];omega),ed,yZ hxs, <-h6,km,dL vh]
 refine⟨?_,?_,Or.inr ⟨g,cap,_,by rw[hlen],h1,hh,by rw[hlen];exact hc,h4,?_,?_⟩⟩
 ·intro x hx;rcases bQ.1 hx with hx|hx
  ·exact h.1 x (ey hx)
  ·exact hy x hx
 ·rw[J9,hlen,aM,dL];rw[aN,aN,aM,bJ,J_,dE];omega
 ·rw[aZ,aN,aN,aM,bJ,J_];omega
 ·rw[hlen,J9]
theorem OwnRows.cut(h:OwnRows base e k w v xs)(hi:i<=xs.length)(hg:v=.slice (some ⟨g,0,none⟩) xs.length cap):OwnRows base e k w (.slice (some ⟨g,0,none⟩) i cap) (xs.take i):=by
 obtain⟨BV,cur,hv,h1,h2,h3,h4,h5,h6⟩:=h.open (g:=g) (by rw[hg];rfl);have hc:cap=BV:=by rw[hg]at hv;cases hv;rfl
 have:=h.CY (i:=i) (ys:=[]) hi (fun y hy=>by cases hy) hg bH;simpa[World.setCells]using this
theorem OwnRows.behind{base k:Nat}{e:TypeId}{w:World}{v:Value}{xs:cY}(h:OwnRows base e k w v xs){o:Nat}{vs:aX}(ho:xs.length*k<=o){g cap:Nat}
  (hg:v=.slice (some ⟨g,0,none⟩) xs.length cap)(hc:o+vs.length<=cap*k):OwnRows base e k (w.setCells g o vs) v xs:=by
 obtain⟨BV,cur,hv,h1,h2,h3,h4,h5,h6⟩:=h.open (g:=g) (by rw[hg];rfl);rw[hg]at hv;cases hv;have hh:=pM vs o w cur h2 ab;refine⟨h.1,h.2.1,Or.inr ⟨g,cap,_,hg,h1,hh,h3,h4,bH,?_⟩⟩;have hA:xs.length*k<=(cur.toList.take o).length:=by rw[aM];simp;omega
 rw[cK];show List.take (xs.length*k) (List.take o cur.toList++(vs++List.drop (o+vs.length) cur.toList))=_;rw[List.take_append_of_le_length hA,km,dL ho,h6]
theorem OwnRows.there(h:OwnRows base e k w v xs)(hg:v=.slice (some ⟨g,0,none⟩) xs.length cap){o:Nat}(hn:o+n<=cap*k):w.there g o n:=by
 obtain⟨BV,cur,hv,h1,h2,h3,h4,h5,h6⟩:=h.open (g:=g) (by rw[hg];rfl);rw[hg]at hv;cases hv;intro j hj;constructor
 ·simp only[World.cell?,h2];rw[Array.getElem?_eq_getElem ab];rfl
 ·simp[World.frozen?,h2]
theorem results_cell_tmp{P:Program}{fn:Func}{p q:Tmp}{ty:TypeId}(h:fn.results= #[.cell p ty,.tmp q])(tmps:bS)(w:World)(g:Nat)(t:TypeId)(cs:bS)(fr:Nat×Nat)(d:TypeDesc)
  (hp:tmps.getD p undef=.pointer (some ⟨g,0,none⟩))(hg:w.heap[g]?=some (.cells cs t fr))
  (hu:P.underlying ty=some d)(hd:(match d with| .struct _| .array _ _=>true|_=>false)=true)(hi:(P.info? ty).map (·.size)=some cs.size) :
  (results fn tmps).run P w=.ok (.tuple #[.agg cs,tmps.getD q undef]) w:=by
 have hp':tmps[p]?.getD undef=.pointer (some ⟨g,0,none⟩):=by simpa using hp
 simp[results,h,hp',asAddr,run_loadVar_row w g t ty cs fr d hg hu hd hi]
theorem kF(w:World)(y:aX)(t:TypeId):∀j u,y[j]?=some u->(w.alloc (.cells y.toArray t)).cell? ((⟨w.heap.size,0,none⟩:Addr).add j)=some u:=by
 intro j u hj;have ea:(Addr.add ⟨w.heap.size,0,none⟩ j)=⟨w.heap.size,j,none⟩:=by unfold Addr.add;split<;>simp_all
 rw[ea,World.cell?_alloc_mark];simpa using hj
abbrev fE := @Fr.setCells
def C7(n:UInt8):UInt8:=if n<10 then n+48 else n+87
def xS(l:aH):aH:=l.flatMap fun(c:UInt8)=>[C7 (c >>> 4),C7 (c &&& 15)]
theorem C8(l:aH):(xS l).length=2*l.length:=by
 unfold xS
 induction l with
 |nil=>rfl
 |cons c l ih=>simp at ih ⊢; omega
theorem Ud(l m:aH):xS (l++m)=xS l++xS m:=by unfold xS;exact List.flatMap_append
theorem QK(s:aj)(k:Nat)(hk:k<s.size):xS (s.data.toList.take (k+1))=xS (s.data.toList.take k)++[C7 (s[k] >>> 4),C7 (s[k] &&& 15)]:=by
 rw[cC,byte_at s k hk,Ud];rfl
theorem Pr:∀n (h:n<16),(⟨#[48,49,50,51,52,53,54,55,56,57,97,98,99,100,101,102]⟩:aj)[n]'h=C7 n.toUInt8:=ag
theorem amI(c:UInt8):(c.toNat/16).toUInt8=c >>> 4:=by
 apply iK.1;have:=c.toNat_lt;simp[UInt8.toNat_shiftRight,Nat.shiftRight_eq_div_pow];omega
theorem agO(c:UInt8):(c.toNat%16).toUInt8=c &&& 15:=by
 apply iK.1;have:=c.toNat_lt;have h:=Nat.and_two_pow_sub_one_eq_mod c.toNat 4;simp[UInt8.toNat_and]at h ⊢;omega
def acV(w:World)(s:aj)(i:Value)(wr:World):Prop :=
 ∃k:Nat,k<=s.size/\i=.int .i64 k/\FA w.heap.size w.heap.size (xS (s.data.toList.take k)) wr/\Fr aS w wr/\w.heap.size<=wr.heap.size
theorem Ps(s:aj)(w:World)(hs:s.size<4398046511104) :
  aB 268 #[.string s] w fun e w'=>e=.returned (.string ⟨(xS s.data.toList).toArray⟩)/\Fr aS w w':=by
 go_enter func268,ntmps268;go_wp2;go_loopw[7] (acV w s) (fun i _=>s.size-(intOf i).toNat)
 case atStart=>exact⟨0,aQ _,rfl,FA.new w,(ae _ _).alloc _,aR⟩
 case round =>
  obtain⟨k,hk,rfl,hb,hf,hz⟩:=hrel;by_cases fk:k<s.size
  ·have o_:(k:Int)<(s.size:Int):=ab;have hq1:0<=(s[k].toNat:Int)/16/\(s[k].toNat:Int)/16<16:=by have:=s[k].toNat_lt;omega
   have hlen:(xS (s.data.toList.take k)).length<=2*k:=by rw[C8,aM];omega
   go_wp2_with fail
   rw[Pr,amI];refine(j9 _ _ _ _ wr hb ab hz).mono ?_;rintro e w1⟨rfl,pW,dn⟩;have kQ:=dn.size;go_wp2_with fail
   rw[Pr,agO];refine(j9 _ _ _ _ w1 pW (by rw[aN];simp;omega) ab).mono ?_;rintro e w2⟨rfl,ko,dz⟩;have ld:=dz.size;have I9:=O (QK s k fk);rw[cK]at ko;have pN:FA w.heap.size w.heap.size (xS (s.data.toList.take (k+1))) w2:=by rw[I9.o];exact ko
   clear hb pW ko;go_wp2;go_roundw
   case rel=>exact⟨k+1,ab,bg,pN,(hf.lR dn).lR dz,ab⟩
   case measure=>simp[intOf];omega
  ·have o_:¬(k:Int)<(s.size:Int):=ab;have rS:k=s.size:=ab;have fe:=O (show s.data.toList.take k=s.data.toList from aD (by rw[rS];exact ay _));go_wp2_with fail
   refine(Bq _ _ _ wr hb hz).mono ?_;rintro e w1⟨rfl,dn⟩;rw[fe.o];go_wp2;go_ret;exact⟨rfl,hf.lR dn⟩
def Pt(a b c d:UInt8):Int:=bits .or .u32 (bits .or .u32 (bits .or .u32 ((a.toNat:Int)%4294967296) ((b.toNat:Int)%4294967296*256%4294967296)) ((c.toNat:Int)%4294967296*65536%4294967296)) ((d.toNat:Int)%4294967296*16777216%4294967296)
def EK(l:aH)(i:Nat):UInt8:=l.getD i 0
def qD(dM:Bool)(l:aH):Int:=if dM then Pt (EK l 0) (EK l 1) (EK l 2) (EK l 3)else Pt (EK l 3) (EK l 2) (EK l 1) (EK l 0)
theorem sx(s:aj)(i:Nat)(h:i<s.size):EK s.data.toList i=s[i]:=by
 unfold EK;rw[List.getD_eq_getElem?_getD,byte_at s i h];rfl
theorem Pu{a b:Int}(h:a=b):Ending.returned (.int .u32 a)=.returned (.int .u32 b):=by rw[h]
theorem vJ(s:aj)(dM:Bool)(w:World)(hs:4<=s.size)(Mo:s.size<17592186044416) :
  aB 238 #[.string s,.bool dM] w fun e w'=>e=.returned (.int .u32 (qD dM s.data.toList))/\∃n,w'=w.drewN n:=by
 have h0:0<s.size:=ab;have h1:1<s.size:=ab;have h2:2<s.size:=ab;have h3:3<s.size:=ab
 have HWF:=O (show qD false s.data.toList=bits .or .u32 (bits .or .u32 (bits .or .u32 ((s[3].toNat:Int)%4294967296) ((s[2].toNat:Int)%4294967296*256%4294967296)) ((s[1].toNat:Int)%4294967296*65536%4294967296)) ((s[0].toNat:Int)%4294967296*16777216%4294967296)by rw[<-sx s 0 h0, <-sx s 1 h1, <-sx s 2 h2, <-sx s 3 h3];unfold qD Pt;rw[ar ag])
 have HWT:=O (show qD true s.data.toList=bits .or .u32 (bits .or .u32 (bits .or .u32 ((s[0].toNat:Int)%4294967296) ((s[1].toNat:Int)%4294967296*256%4294967296)) ((s[2].toNat:Int)%4294967296*65536%4294967296)) ((s[3].toNat:Int)%4294967296*16777216%4294967296)by rw[<-sx s 0 h0, <-sx s 1 h1, <-sx s 2 h2, <-sx s 3 h3];unfold qD Pt;rw[aA rfl]);cases dM
 ·go_enter func238,ntmps238;go_wp2;have i0:(0:Int)<(s.size:Int):=ab;have i1:(1:Int)<(s.size:Int):=ab;have i2:(2:Int)<(s.size:Int):=ab;have i3:(3:Int)<(s.size:Int):=ab;go_quiet (fail);go_wp2;go_ret;exact⟨Pu HWF.o.symm,_,rfl⟩
 ·go_enter func238,ntmps238;go_wp2;have i0:(0:Int)<(s.size:Int):=ab;have i1:(1:Int)<(s.size:Int):=ab;have i2:(2:Int)<(s.size:Int):=ab;have i3:(3:Int)<(s.size:Int):=ab;go_quiet (fail);go_wp2;go_ret;exact⟨Pu HWT.o.symm,_,rfl⟩
def lV(x:Int)(n:Nat):Int:=bits .or .u32 (x*2^n%4294967296) (x/2^(32-n))
theorem Cl(x k:Int)(n:Nat)(w:World)(hk:0<=k)(rS:k<32)(hb:bits .and .u64 k 31=(n:Int))(hn:n<32) :
  aB 239 #[.int .u32 x,.int .i64 k] w fun e w'=>e=.returned (.int .u32 (lV x n))/\w=w':=by
 go_enter func239,ntmps239;go_wp2;go_ret;exact⟨rfl,rfl⟩
theorem YL(x k:Int)(n:Nat)(w:World)(hk: -32<k)(rS:k<0)(hb:bits .and .u64 (k+18446744073709551616) 31=(n:Int))(hn:n<32) :
  aB 239 #[.int .u32 x,.int .i64 k] w fun e w'=>e=.returned (.int .u32 (lV x n))/\w=w':=by
 have hw:IntKind.u64.wrap k=k+18446744073709551616:=by
  have e:IntKind.u64.wrap k=k%18446744073709551616:=by simp[IntKind.wrap,IntKind.signed,IntKind.bits]
  rw[e];omega
 go_enter func239,ntmps239;go_wp2;go_ret;exact⟨rfl,rfl⟩
def ui(dM:Bool)(n i:Nat):UInt8:=if dM then(n/2^(8*i)%256).toUInt8 else(n/2^(56-8*i)%256).toUInt8
def xU(dM:Bool)(n:Nat):aH:=(List.range 8).map (ui dM n)
def uU(dM:Bool)(l:aH):aH:=l++[128]++List.replicate ((55-(l.length:Int)%64+64)%64).toNat 0++xU dM (l.length*8)
theorem agQ(w:World):(Instr.makeSlice 187 (.int .i64 8) (.int .i64 8)).run prog w=.ok (.slice (some ⟨w.heap.size,0,none⟩) 8 8) (w.alloc (.cells (tU (List.replicate 8 0)).toArray 5)):=by
 obtain⟨i0,hi,o9,kQ,ld⟩:=info_parts OQ;have h:=run_makeSlice w 187 5 i0 (.int .u8 0) underlying187 hi o9 .i64 .i64 8 8 ag ag (by rw[kQ];decide) (by rw[ld];decide) ag;rw[kQ]at h;have e:madeCells (Value.int .u8 0).cells (Int.toNat 8*1)=(tU (List.replicate 8 0)).toArray:=af;rw[e]at h;exact h
def xV(w:World)(g:Nat)(l:aH):Prop:=w.heap[g]?=some (.cells (tU l).toArray 5 (0,0))
theorem xV.cell(h:xV w g l)(hj:l[j]?=some c):w.cell? ⟨g,j,none⟩=some (.int .u8 (c.toNat:Int)):=by
 obtain⟨hl,he⟩:=List.getElem?_eq_some_iff.1 hj;unfold xV at h;simp only[World.cell?,h];simp[tU,hl,he]
theorem xV.free(h:xV w g l)(j:Nat):w.frozen? ⟨g,j,none⟩=false:=by
 unfold xV at h;simp[World.frozen?,h]
theorem xV.set(h:xV w g l)(j:Nat)(c:UInt8):xV (w.setCell ⟨g,j,none⟩ (.int .u8 (c.toNat:Int))) g (l.set j c):=by
 unfold xV at h ⊢;simp only[World.setCell,Array.getElem?_modify,h];simp[tU,List.map_set]
theorem xV.text(h:xV w g l)(n c:Nat)(hn:n=l.length) :
  (convert 187 9 (.slice (some ⟨g,0,none⟩) n c)).run prog w=.ok (.string ⟨l.toArray⟩) w:=by
 subst hn;refine run_convert_bytes_back (P:=prog) w 187 9 5 ⟨g,0,none⟩ c l underlying187 underlying5 underlying9 ?_;intro j hj;have ea:(Addr.add ⟨g,0,none⟩ j)=⟨g,j,none⟩:=by unfold Addr.add;split<;>simp_all
 rw[ea];exact h.cell (List.getElem?_eq_getElem hj)
theorem nt(dM:Bool)(n:Nat):(xU dM n).length=8:=by simp[xU]
def tH(dM:Bool)(n k:Nat):aH:=(xU dM n).take k++List.replicate (8-k) 0
theorem Db(dM:Bool)(n k:Nat)(hk:k<8):tH dM n (k+1)=(tH dM n k).set k (ui dM n k):=by
 have hg:(xU dM n)[k]?=some (ui dM n k):=by simp[xU,hk]
 unfold tH;rw[cC,hg];have e:List.replicate (8-k) (0:UInt8)=0 :: List.replicate (8-(k+1)) 0:=by
  rw[show 8-k=(8-(k+1))+1 from ab,List.replicate_succ]
 rw[e,List.set_append,ar (by rw[aM,nt];omega)];rw[show k-((xU dM n).take k).length=0 from by rw[aM,nt];omega];simp
theorem FH(dM:Bool)(n:Nat):tH dM n 8=xU dM n:=by
 unfold tH;rw[aD (by rw[nt];omega)];simp
theorem Dc:∀(k:Nat),(Lib.repeatL [0] k).length=k
 |0=>rfl
 |k+1=>by
  show(([0]:aH)++Lib.repeatL [0] k).length=k+1;rw[aN,Dc k];simp;omega
theorem FI:∀(k:Nat),Lib.repeatL [0] k=List.replicate k (0:UInt8)
 |0=>rfl
 |k+1=>by
  show([0]:aH)++Lib.repeatL [0] k=_;rw[FI k,List.replicate_succ];rfl
theorem FJ(n e:Nat):(((n/2^e%256).toUInt8.toNat:Nat):Int)=(n:Int)/2^e%256:=by
 rw[show(n/2^e%256).toUInt8.toNat=n/2^e%256 from by simp[Nat.toUInt8]];rw[Int.natCast_emod,Int.natCast_ediv,Int.natCast_pow];rfl
def Uh(dM:Bool)(n g:Nat)(w:World)(i:Value)(wr:World):Prop:=∃k:Nat,k<=8/\i=.int .i64 k/\xV wr g (tH dM n k)/\Fr aS w wr
theorem Pv(s:aj)(dM:Bool)(w:World)(hs:s.size<17592186044416) :
  aB 237 #[.string s,.bool dM] w fun e w'=>e=.returned (.string ⟨(uU dM s.data.toList).toArray⟩)/\Fr aS w w':=by
 obtain⟨q,hq⟩:∃q:Nat,(55-(s.size:Int))%64=(q:Int):=⟨((55-(s.size:Int))%64).toNat,ab⟩;have at0:q<64:=ab;have agR:=O (show uU dM s.data.toList=s.data.toList++[128]++Lib.repeatL [0] q++xU dM (s.size*8)by
  unfold uU;rw[FI,show s.data.toList.length=s.size from aR,show((55-(s.size:Int)%64+64)%64).toNat=q from ab])
 have uT:=Dc q;have Pc:=fun W=>agQ W;go_enter func237,ntmps237;go_wp2_with fail
 refine(strings_Repeat ⟨#[0]⟩ q w ab (by show 1*q<=_;omega)).mono ?_;rintro e w1⟨rfl,pW⟩;have YM:¬9223372036854775807<s.size+1+(Lib.repeatL [0] q).length:=ab;have dn:=fj pW;have HL:=O uT;clear uT pW;have abg:xV (w1.alloc (.cells (tU (List.replicate 8 0)).toArray 5)) w1.heap.size (tH dM (s.size*8) 0):=by
  unfold xV;rw[aC];rfl
 have HR0:=O abg;have BQ:=dn.size;clear abg;cases dM
 ·go_wp2;clear Pc;go_loopw[26] (Uh false (s.size*8) w1.heap.size w) (fun i _=>8-(intOf i).toNat)
  case atStart=>exact⟨0,ab,rfl,HR0.o,dn.alloc _⟩
  case round =>
   obtain⟨k,hk,rfl,lT,cL⟩:=hrel;by_cases fk:k<8
   ·have hlen:(tH false (s.size*8) k).length=8:=by unfold tH;rw[aN,aM,nt,fi];omega
    have hc:=lT.cell (List.getElem?_eq_getElem (show k<(tH false (s.size*8) k).length from ab));have hf:=lT.free k;have o_:(k:Int)<8:=ab;have qH:=O (lT.set k (ui false (s.size*8) k));have hsc:=O (Db false (s.size*8) k fk);have XY:=O (show((ui false (s.size*8) k).toNat:Int)=(s.size:Int)*8/2^(56-8*k)%256 from(FJ (s.size*8) (56-8*k)).trans (by rw[Int.natCast_mul];rfl));go_wp2;go_roundw
    case rel=>exact⟨k+1,ab,bg,by rw[hsc.o];have h:=qH.o;rw[XY.o]at h;exact h,cL.gF (p:=⟨w1.heap.size,k,none⟩) BQ _⟩
    case measure=>simp[intOf];omega
   ·have hk8:k=8:=ab;subst hk8;rw[FH]at lT;have Bf:=lT.text 8 8 (by rw[nt]);have Ms:(xU false (s.size*8)).length=8:=nt _ _;have agS:¬9223372036854775807<s.size+1+(Lib.repeatL [0] q).length+(xU false (s.size*8)).length:=by have:=HL.o;omega
    have fe:=O (show(s++⟨#[128]⟩++⟨(Lib.repeatL [0] q).toArray⟩++⟨(xU false (s.size*8)).toArray⟩:aj)=⟨(uU false s.data.toList).toArray⟩from by
     apply Go.WideShapes.bytes_inj;rw[agR.o];simp[gK])
    go_wp2;go_ret;exact⟨by rw[<-fe.o];rfl,cL⟩
 ·go_wp2;clear Pc;go_loopw[26] (Uh true (s.size*8) w1.heap.size w) (fun i _=>8-(intOf i).toNat)
  case atStart=>exact⟨0,ab,rfl,HR0.o,dn.alloc _⟩
  case round =>
   obtain⟨k,hk,rfl,lT,cL⟩:=hrel;by_cases fk:k<8
   ·have hlen:(tH true (s.size*8) k).length=8:=by unfold tH;rw[aN,aM,nt,fi];omega
    have hc:=lT.cell (List.getElem?_eq_getElem (show k<(tH true (s.size*8) k).length from ab));have hf:=lT.free k;have o_:(k:Int)<8:=ab;have qH:=O (lT.set k (ui true (s.size*8) k));have hsc:=O (Db true (s.size*8) k fk);have XY:=O (show((ui true (s.size*8) k).toNat:Int)=(s.size:Int)*8/2^(8*k)%256 from(FJ (s.size*8) (8*k)).trans (by rw[Int.natCast_mul];rfl));go_wp2;go_roundw
    case rel=>exact⟨k+1,ab,bg,by rw[hsc.o];have h:=qH.o;rw[XY.o]at h;exact h,cL.gF (p:=⟨w1.heap.size,k,none⟩) BQ _⟩
    case measure=>simp[intOf];omega
   ·have hk8:k=8:=ab;subst hk8;rw[FH]at lT;have Bf:=lT.text 8 8 (by rw[nt]);have Ms:(xU true (s.size*8)).length=8:=nt _ _;have agS:¬9223372036854775807<s.size+1+(Lib.repeatL [0] q).length+(xU true (s.size*8)).length:=by have:=HL.o;omega
    have fe:=O (show(s++⟨#[128]⟩++⟨(Lib.repeatL [0] q).toArray⟩++⟨(xU true (s.size*8)).toArray⟩:aj)=⟨(uU true s.data.toList).toArray⟩from by
     apply Go.WideShapes.bytes_inj;rw[agR.o];simp[gK])
    go_wp2;go_ret;exact⟨by rw[<-fe.o];rfl,cL⟩
