/- Lemmas for the law's walk. -/
import Derived.Test.YtjndhcngnghpiaaGreatDoorPo1
import Derived.Shelf.Strings.SlTrimAscii
import Derived.Shelf.SlicesQ.Load
import Derived.Stop.LaidErr
import Derived.Lib.SmallJoins
import Derived.Lib.AppendIntMem
import Derived.Lib.Atoi
import Derived.Deep.MidRow
set_option maxRecDepth 100000
set_option maxHeartbeats 16000000
set_option linter.unusedSimpArgs false
namespace Go.Proofs.YtjndhcngnghpiaaGreatDoor
open Go.Proofs.Tryz
open Go.RowKit
variable {w w':World} {g j k i b n base cap:Nat} {l a:aH} {c x y:UInt8} {p:UInt8->Bool} {s:ai} {S:dz} {v:Value} {ss:List ai} {P:Program} {ops:Array Oper} {Q:Exit->Act->World->Prop} {e:TypeId} {xs:cU}
def Ge(c:UInt8):UInt8:=if 65<=c.toNat/\c.toNat<=90 then c+32 else c
def nd(l:aH):aH:=l.map Ge
theorem LC(c:UInt8):(Ge c).toNat=if 65<=c.toNat/\c.toNat<=90 then c.toNat+32 else c.toNat:=by
 unfold Ge;split
 ·rename_i h;rw[UInt8.toNat_add];have:(32:UInt8).toNat=32:=rfl;rw[this];omega
 ·rfl
def sZ(w:World)(g:Nat)(l:aH):Prop:=∃t:aX,w.heap[g]?=some (.cells (tK l++t).toArray 5 ((tK l++t).length,(tK l++t).length+1))
theorem sZ.cell(h:sZ w g l)(hj:l[j]?=some c):w.cell? ⟨g,j,none⟩=some (.int .u8 (c.toNat:Int)):=by
 obtain⟨t,h⟩:=h;obtain⟨hl,he⟩:=List.getElem?_eq_some_iff.1 hj;simp only[World.cell?,h];simp[tK,List.getElem?_append_left,hl,he]
theorem sZ.free(h:sZ w g l)(hj:j<l.length):w.frozen? ⟨g,j,none⟩=false:=by
 obtain⟨t,h⟩:=h;simp only[World.frozen?,h];simp[tK];omega
theorem sZ.set(h:sZ w g l)(hj:j<l.length)(c:UInt8):sZ (w.setCell ⟨g,j,none⟩ (.int .u8 (c.toNat:Int))) g (l.set j c):=by
 obtain⟨t,h⟩:=h;refine⟨t,?_⟩;simp only[World.setCell,Array.getElem?_modify,h];simp[tK,hj,List.map_set]
theorem sZ.new(w:World)(s:ai)(cap:Nat):sZ (w.drew.alloc (.cells (bytesRow s cap) 5 ((bytesRow s cap).size,(bytesRow s cap).size+1))) w.heap.size s.data.toList:=by
 refine⟨List.replicate (cap-s.size) (Value.int .u8 0),?_⟩;have e:bytesRow s cap=(tK s.data.toList++List.replicate (cap-s.size) (Value.int .u8 0)).toArray:=by
  apply Array.toList_inj.1;simp[bytesRow,tK]
 have h:=aB w.drew (.cells (bytesRow s cap) 5 ((bytesRow s cap).size,(bytesRow s cap).size+1));have h':(w.drew.alloc (.cells (bytesRow s cap) 5 ((bytesRow s cap).size,(bytesRow s cap).size+1))).heap[w.heap.size]?=some (.cells (bytesRow s cap) 5 ((bytesRow s cap).size,(bytesRow s cap).size+1)):=h;rw[h',e];simp
theorem sZ.text(h:sZ w g l)(n c:Nat)(hn:n=l.length) :
  (convert 187 9 (.slice (some ⟨g,0,none⟩) n c)).run prog w=.ok (.string ⟨l.toArray⟩) w:=by
 subst hn;refine run_convert_bytes_back (P:=prog) w 187 9 5 ⟨g,0,none⟩ c l underlying187 underlying5 underlying9 ?_;intro j hj;have ea:(Addr.add ⟨g,0,none⟩ j)=⟨g,j,none⟩:=by unfold Addr.add;split<;>simp_all
 rw[ea];exact h.cell (List.getElem?_eq_getElem hj)
def uE(l:aH)(k:Nat):aH:=nd (l.take k)++l.drop k
theorem zV(l:aH)(k:Nat):(uE l k).length=l.length:=by simp[uE,nd];omega
theorem Iv(h:l[k]?=some x):(uE l k)[k]?=some x:=by
 have hk:=(List.getElem?_eq_some_iff.1 h).1;unfold uE;rw[List.getElem?_append_right (by simp[nd];omega)];have e:k-(nd (l.take k)).length=0:=by simp[nd];omega
 rw[e,drop_at h];rfl
theorem Cd(h:l[k]?=some x):uE l (k+1)=(uE l k).set k (Ge x):=by
 have hk:=(List.getElem?_eq_some_iff.1 h).1;have el:(nd (l.take k)).length=k:=by simp[nd];omega
 unfold uE;rw[drop_at h,ct,h,List.set_append];rw[ar ab,show k-(nd (l.take k)).length=0 from ab];simp[nd]
theorem Ce(h:l[k]?=some x)(hx:Ge x=x):uE l (k+1)=uE l k:=by
 rw[Cd h,hx];apply iT;intro j;by_cases hj:k=j
 ·subst hj;rw[Iv h,List.getElem?_set_self (by rw[zV];exact(List.getElem?_eq_some_iff.1 h).1)]
 ·rw[List.getElem?_set_ne hj]
theorem Pe(l:aH)(k:Nat)(h:l.length<=k):uE l k=nd l:=by
 unfold uE;rw[aD h,cL h];simp
def aa8(s:ai)(w:World)(i:Value)(wr:World):Prop :=
 ∃k:Nat,k<=s.size/\i=.int .i64 k/\sZ wr w.heap.size (uE s.data.toList k)/\Fr aW w wr
theorem qO(s:ai)(w:World)(hs:s.size<17592186044416) :
  aC 137 #[.string s] w fun e w'=>e=.returned (.string ⟨(nd s.data.toList).toArray⟩)/\Fr aW w w':=by
 have kc:=fun(wx:World)=>run_bytes_of_string (P:=prog) wx 9 187 5 s underlying9 underlying187 underlying5;go_enter func137,ntmps137;go_wp2;go_loopw[10] (aa8 s w) (fun i _=>s.size-(intOf i).toNat)
 case atStart=>exact⟨0,aS _,rfl,sZ.new w s _,((ae _ w).drew).alloc _⟩
 case round =>
  obtain⟨k,hk,rfl,lL,cN⟩:=hrel;by_cases fx:k<s.size
  ·have dL:=O (byte_at s k fx);generalize hx:s[k]=x at dL;have hc:=lL.cell (Iv dL.o);have hf:=lL.free (j:=k) (by rw[zV];simpa using fx);by_cases h1:65<=x.toNat
   ·by_cases h2:x.toNat<=90
    ·have qz:=O (lL.set (j:=k) (by rw[zV];simpa using fx) (Ge x));have hsc:=O (Cd dL.o);have WE:=O (show((Ge x).toNat:Int)=(x.toNat:Int)+32 by rw[LC,aA ⟨h1,h2⟩];omega);go_wp2;go_roundw
     case rel=>exact⟨k+1,ab,bf,by rw[hsc.o];have h:=qz.o;rw[WE.o]at h;exact h,cN.gI (p:=⟨w.heap.size,k,none⟩) (ay _) _⟩
     case measure=>simp[intOf];omega
    ·have nv:=O (Ce dL.o (by unfold Ge;rw[ar ab]));go_wp2;go_roundw
     case rel=>exact⟨k+1,ab,bf,by rw[nv.o];exact lL,cN⟩
     case measure=>simp[intOf];omega
   ·have nv:=O (Ce dL.o (by unfold Ge;rw[ar ab]));go_wp2;go_roundw
    case rel=>exact⟨k+1,ab,bf,by rw[nv.o];exact lL,cN⟩
    case measure=>simp[intOf];omega
  ·have Zw:=lL;rw[Pe s.data.toList k bF]at Zw;have AJ:=fun c=>Zw.text s.size c (by simp[nd]);go_wp2;go_ret;exact⟨rfl,cN⟩
def dG(a b:aH):Bool:=nd a==nd b
theorem ma(a b:ai)(w:World)(ha:a.size<17592186044416)(hb:b.size<17592186044416) :
  aC 113 #[.string a,.string b] w fun e w'=>e=.returned (.bool (dG a.data.toList b.data.toList))/\Fr aW w w':=by
 go_enter func113,ntmps113;go_wp2_with fail
 refine(qO a w ha).mono ?_;rintro e w1⟨rfl,dn⟩;go_wp2_with fail
 refine(qO b w1 hb).mono ?_;rintro e w2⟨rfl,dD⟩;go_wp2;go_ret;exact⟨ft (by simp[dG]),dn.trans dD⟩
def cJ(p:UInt8->Bool)(l:aH)(i:Nat):Nat:=i+((l.drop i).takeWhile p).length
theorem oq(h:l[i]?=some c)(hp:p c=true):cJ p l i=cJ p l (i+1):=by
 have hi:i<l.length:=by
  rcases fC i l.length with g|g
  ·exact g
  ·simp[List.getElem?_eq_none g]at h
 unfold cJ;have e:l.drop i=c :: l.drop (i+1):=by
  rw[cM hi];rw[List.getElem?_eq_getElem hi]at h;simp at h;rw[h]
 rw[e,List.takeWhile_cons_of_pos hp];simp;omega
theorem lj(h:∀c,l[i]?=some c->p c=false):cJ p l i=i:=by
 unfold cJ;rcases fC i l.length with g|g
 ·rw[cM g,List.takeWhile_cons_of_neg]
  ·rfl
  ·have:=h l[i] (List.getElem?_eq_getElem g);simp[this]
 ·simp[cL g]
theorem gS(h:i<=l.length):cJ p l i<=l.length:=by
 unfold cJ;have:=(List.takeWhile_prefix p (l:=l.drop i)).length_le;simp at this;omega
theorem ll:i<=cJ p l i:=by unfold cJ;omega
def pg(w:World)(b:Nat):Nat:=match w.cell? ⟨b,1,none⟩with|some (.int _ n)=>n.toNat|_=>0
theorem dk.pos(h:dk w b s i):pg w b=i:=by simp[pg,h.gV]
theorem Gh(h:dk w b s (k+1))(hk:k<s.size):s.size-pg w b<s.size-k:=by rw[h.pos];omega
def dH(c:UInt8):Bool:=c==32||c==9
theorem uF(n:Nat)(hn:n<256):((c.toNat:Int)==(n:Int))=(c==n.toUInt8):=by
 rw[eV,dQ,dQ, <-iD];have:(n.toUInt8).toNat=n:=bF;rw[this];omega
theorem mf(b:Nat)(s:ai)(i:Nat)(w:World)(h:dk w b s i)(hs:s.size<=maxLen)(hi:i<=s.size) :
  aC 164 #[.pointer (some ⟨b,0,none⟩)] w fun e w'=>e=.returned (.bool (decide (i<cJ dH s.data.toList i)))/\dk w' b s (cJ dH s.data.toList i)/\Fr (one b) w w':=by
 have h0:=h.cell0;have h1:=h.gV;unfold maxLen at hs;go_enter func164,ntmps164;go_wp2;clear h0 h1;go_loopw[] (fun wr=>∃k,i<=k/\k<=s.size/\dk wr b s k/\cJ dH s.data.toList k=cJ dH s.data.toList i/\Fr (one b) w wr) (fun wr=>s.size-pg wr b)
 case atStart=>exact⟨i,ay _,hi,h,rfl,ae _ _⟩
 case round =>
  obtain⟨k,Lp,fx,hc,p9,cN⟩:=hrel;have xy:=O p9;clear p9;have h0:=hc.cell0;have h1:=hc.gV;have hf:=hc.free 1;have pM:=O hc.pos;by_cases hk:k<s.size
  ·have hd:decide (k<s.size)=true:=by simp[hk]
   have dL:=O (byte_at s k hk);generalize hx:s[k]=x at dL;have go:dH x=true->cJ dH s.data.toList (k+1)=cJ dH s.data.toList i:=fun hb=>(oq dL.o hb).symm.trans xy.o;have GO:=O go;clear go;cases e1:x==32
   ·have n1:((x.toNat:Int)==32)=false:=by rw[<-e1];exact uF 32 ag
    cases e2:x==9
    ·have n2:((x.toNat:Int)==9)=false:=by rw[<-e2];exact uF 9 ag
     have yq:=O (lj (p:=dH) (l:=s.data.toList) (i:=k) (fun c Se=>by rw[dL.o]at Se;cases Se;simp[dH,e1,e2]));clear e1 e2;go_wp2;go_quiet (fail);go_wp2;go_ret;rw[<-xy.o,yq.o];exact⟨rfl,hc,by repeat(first|exact cN|apply dE)⟩
    ·have n2:((x.toNat:Int)==9)=true:=by rw[<-e2];exact uF 9 ag
     have hn:=O (GO.o (by simp[dH,e2]));clear e1 e2;go_wp2;go_quiet (fail);go_wp2;go_roundw
     case rel=>exact⟨k+1,ab,ab,(hc.setCell (j:=k+1)).drewN _,hn.o,cN.trans (l_ wr b _ _)⟩
     case measure=>rw[pM.o];exact Gh (hc.setCell (j:=k+1)) hk
   ·have n1:((x.toNat:Int)==32)=true:=by rw[<-e1];exact uF 32 ag
    have hn:=O (GO.o (by simp[dH,e1]));clear e1;go_wp2;go_quiet (fail);go_wp2;go_roundw
    case rel=>exact⟨k+1,ab,ab,(hc.setCell (j:=k+1)).drewN _,hn.o,cN.trans (l_ wr b _ _)⟩
    case measure=>rw[pM.o];exact Gh (hc.setCell (j:=k+1)) hk
  ·have hd:decide (k<s.size)=false:=bF;have yq:=O (lj (p:=dH) (l:=s.data.toList) (i:=k) (fun c Se=>by rw[sY s k hk]at Se;cases Se));go_wp2;go_quiet (fail);go_wp2;go_ret;rw[<-xy.o,yq.o];exact⟨rfl,hc,by repeat(first|exact cN|apply dE)⟩
theorem vn(b:Nat)(s:ai)(i:Nat)(w:World)(h:dk w b s i)(hs:s.size<=maxLen)(hi:i<=s.size) :
  aC 167 #[.pointer (some ⟨b,0,none⟩)] w fun e w'=>e=.returned (.string (s.extract i (cJ fM s.data.toList i)))/\dk w' b s (cJ fM s.data.toList i)/\Fr (one b) w w':=by
 have h0:=h.cell0;have h1:=h.gV;unfold maxLen at hs;go_enter func167,ntmps167;go_wp2;clear h0 h1;go_loopw[] (fun wr=>∃k,i<=k/\k<=s.size/\dk wr b s k/\cJ fM s.data.toList k=cJ fM s.data.toList i/\Fr (one b) w wr) (fun wr=>s.size-pg wr b)
 case atStart=>exact⟨i,ay _,hi,h,rfl,ae _ _⟩
 case round =>
  obtain⟨k,Lp,fx,hc,p9,cN⟩:=hrel;have xy:=O p9;clear p9;have h0:=hc.cell0;have h1:=hc.gV;have hf:=hc.free 1;have pM:=O hc.pos;by_cases hk:k<s.size
  ·have hd:decide (k<s.size)=true:=by simp[hk]
   have dL:=O (byte_at s k hk);generalize hx:s[k]=x at dL;have go:fM x=true->cJ fM s.data.toList (k+1)=cJ fM s.data.toList i:=fun hb=>(oq dL.o hb).symm.trans xy.o;have GO:=O go;clear go;cases e1:fM x
   ·have yq:=O (lj (p:=fM) (l:=s.data.toList) (i:=k) (fun c Se=>by rw[dL.o]at Se;cases Se;exact e1));go_wp2;go_quiet ((go_at_call 153;exact sX (yp _ _)));go_wp2;go_quiet (fail);go_wp2;go_ret;rw[<-xy.o,yq.o];exact⟨rfl,hc,by repeat(first|exact cN|apply dE)⟩
   ·have hn:=O (GO.o e1);go_wp2;go_quiet ((go_at_call 153;exact sX (yp _ _)));go_wp2;go_roundw
    case rel=>exact⟨k+1,ab,ab,(hc.setCell (j:=k+1)).drewN _,hn.o,cN.trans (l_ wr b _ _)⟩
    case measure=>rw[pM.o];exact Gh (hc.setCell (j:=k+1)) hk
  ·have hd:decide (k<s.size)=false:=bF;have yq:=O (lj (p:=fM) (l:=s.data.toList) (i:=k) (fun c Se=>by rw[sY s k hk]at Se;cases Se));go_wp2;go_quiet (fail);go_wp2;go_quiet (fail);go_wp2;go_ret;rw[<-xy.o,yq.o];exact⟨rfl,hc,by repeat(first|exact cN|apply dE)⟩
theorem dropWhile_nil{α:Type}{p:α->Bool}:∀ {l:List α},l.dropWhile p=[]↔l.all p=true
 |[]=>aQ
 |a :: l=>by
  rw[List.dropWhile_cons,List.all_cons];cases h:p a
  ·simp
  ·simp only[dY,Bool.true_and];exact dropWhile_nil
theorem wm(l cs:aH):Lib.trimS l cs=[]↔l.all (cs.contains ·)=true:=by
 unfold Lib.trimS Lib.trimLeftS Lib.trimRightS;rw[dropWhile_nil];constructor
 ·intro h;have h2:l.reverse.dropWhile (cs.contains ·)=[]:=by
   cases hq:l.reverse.dropWhile (cs.contains ·)with
   |nil=>rfl
   |cons a r =>
    exfalso;have hh:=List.head?_dropWhile_not (p:=(cs.contains ·)) l.reverse;rw[hq]at h hh;simp only[List.head?_cons,List.reverse_cons,jI,List.all_cons,List.all_nil,Bool.and_true,cy]at h hh;rw[h.2]at hh;simp at hh
  rw[dropWhile_nil]at h2;simpa using h2
 ·intro h;rw[fZ]at h ⊢;intro x hx;refine h x ?_;have h1:=(List.dropWhile_sublist (cs.contains ·) (l:=l.reverse)).subset (List.mem_reverse.1 hx);exact List.mem_reverse.1 h1
theorem gN:s.data.toList=[]↔s.size=0:=by
 constructor
 ·intro h;have:s.data.toList.length=0:=by rw[h];rfl
  simpa using this
 ·intro h;apply bZ;simpa using h
theorem rW(s cs:ai)(w:World)(hs:s.size<=9223372036854775807)(h2:2<=cs.size)(hcs:cs.size<4294967281)(LM:∀b∈cs.data.toList,b.toNat<128) :
  aC 134 #[.string s,.string cs] w fun e w'=>e=.returned (.string ⟨(Lib.trimS s.data.toList cs.data.toList).toArray⟩)/\Fr aW w w':=by
 by_cases h0:s.size=0
 ·refine(Any.strings_Trim_empty NX s cs w (Or.inl h0)).mono fun e w' ⟨he,hw⟩=>⟨?_,hw▸ae _ _⟩;have e0:=gN.2 h0;rw[he,e0]
  congr 2
  rw[show Lib.trimS [] cs.data.toList=[]from rfl];cases s with
  |mk d=>simp at e0;rw[e0]
 ·refine(Any.strings_Trim_set NX (fun w=>af) af s cs w h2 ab hs hcs (fun j b hj=>LM b (cA hj))).mono fun e w' ⟨he,q,hw⟩=>⟨he,?_⟩;rw[hw];exact(((ae aW w).alloc _).alloc _).drewN q
def eb(k:Nat)(w:World)(v:Value)(xs:cU):Prop :=
 (∀x∈xs,x.length=k/\∀u∈x,u.oneCell'=true) /\
 ((∃a c,v=.slice a 0 c/\xs=[]/\(a=none->c=0)) \/
  ∃bk o c,v=.slice (some ⟨bk,o,none⟩) xs.length c/\xs.length<=c/\c<=maxLen/\bk<w.heap.size /\
   ∀(j:Nat) x,xs[j]?=some x->∀(i:Nat) u,x[i]?=some u->w.cell? ⟨bk,o+j*k+i,none⟩=some u)
section
variable {k : Nat} {w w' : World} {v : Value} {xs : List (List Value)}
theorem eb.nil(k:Nat)(w:World):eb k w (.slice none 0 0) []:=⟨aQ,Or.inl ⟨_,_,rfl,rfl,fun _=>rfl⟩⟩
theorem eb.form(h:eb k w v xs):∃a c,v=.slice a xs.length c:=by
 rcases h.2 with ⟨a,c,hv,hs,_⟩|⟨bk,o,c,hv,_⟩
 ·exact⟨a,c,by rw[hv,hs];rfl⟩
 ·exact⟨_,_,hv⟩
theorem eb.fr(h:eb k w v xs)(hf:Fr S w w')(hn:∀b,v.ownBlock=some b->¬S b):eb k w' v xs:=by
 refine⟨h.1,?_⟩;rcases h.2 with h|⟨bk,o,c,hv,h1,h2,h3,h4⟩
 ·exact Or.inl h
 ·refine Or.inr ⟨bk,o,c,hv,h1,h2,cK h3 hf.size,fun j x hj i u hi=>?_⟩;rw[hf.cell (p:=⟨bk,o+j*k+i,none⟩) h3 (hn bk (by rw[hv];rfl))];exact h4 j x hj i u hi
theorem eb.iY(h:eb k w v xs)(hf:Fr aW w w'):eb k w' v xs:=h.fr hf (fun _ _ h=>h)
end
def OwnRows(base:Nat)(e:TypeId)(k:Nat)(w:World)(v:Value)(xs:cU):Prop :=
 (∀x∈xs,x.length=k/\∀u∈x,u.oneCell'=true)/\w.ownsRow base e k v xs.length xs.flatten
theorem ra:∀ {k:Nat} {xs:cU} (_:∀x∈xs,x.length=k) {j:Nat} {x:aX} (_:xs[j]?=some x) {i:Nat} {u:Value} (_:x[i]?=some u),xs.flatten[j*k+i]?=some u
 |k,[],_,j,x,hj,i,u,hi=>by simp at hj
 |k,y :: ys,hl,0,x,hj,i,u,hi=>by
  simp at hj;subst hj;have:=(List.getElem?_eq_some_iff.1 hi).1;simp only[List.flatten_cons,gY,bj];rw[List.getElem?_append_left this];exact hi
 |k,y :: ys,hl,j+1,x,hj,i,u,hi=>by
  have hy:=hl y aQ;have ih:=ra (k:=k) (xs:=ys) (fun z hz=>hl z (bO _ hz)) (j:=j) (by simpa using hj) hi;simp only[List.flatten_cons];rw[List.getElem?_append_right (by rw[hy,gZ];omega),hy,show(j+1)*k+i-k=j*k+i from by rw[gZ];omega];exact ih
theorem gi:∀ {k:Nat} {xs:cU} (_:∀x∈xs,x.length=k),xs.flatten.length=xs.length*k
 |k,[],_=>aQ
 |k,y :: ys,hl=>by
  have:=gi (k:=k) (xs:=ys) (fun z hz=>hl z (bO _ hz));simp only[List.flatten_cons,aM,this,hl y aQ,List.length_cons,gZ];omega
section
variable {base k : Nat} {e : TypeId} {w w' : World} {v : Value} {xs : List (List Value)}
theorem OwnRows.nil(base:Nat)(e:TypeId)(k:Nat)(w:World):OwnRows base e k w (.slice none 0 0) []:=⟨aQ,World.ownsRow_nil _ _ _ _⟩
theorem OwnRows.alloc(h:OwnRows base e k w v xs)(o:Obj):OwnRows base e k (w.alloc o) v xs:=⟨h.1,World.ownsRow.alloc h.2 o⟩
theorem OwnRows.drewN(h:OwnRows base e k w v xs):OwnRows base e k (w.drewN n) v xs:=h
theorem OwnRows.form(h:OwnRows base e k w v xs):∃a c,v=.slice a xs.length c:=by
 rcases h.2.2 with ⟨hv,hn⟩|⟨g,cap,cur,hv,_⟩
 ·exact⟨none,0,by rw[hv,hn]⟩
 ·exact⟨_,_,hv⟩
theorem OwnRows.up{b':Nat}(h:OwnRows b' e k w v xs)(hb:base<=b'):OwnRows base e k w v xs:=by
 obtain⟨h0,h1,h2⟩:=h;refine⟨h0,h1,?_⟩;rcases h2 with h2|⟨g,cap,cur,hv,hg,r⟩
 ·exact Or.inl h2
 ·exact Or.inr ⟨g,cap,cur,hv,aE hb hg,r⟩
theorem OwnRows.fr(h:OwnRows base e k w v xs)(hf:Fr S w w')(hn:∀b,v.ownBlock=some b->¬S b):OwnRows base e k w' v xs:=by
 obtain⟨h0,h1,h2⟩:=h;refine⟨h0,h1,?_⟩;rcases h2 with h2|⟨g,cap,cur,hv,hg,hh,r⟩
 ·exact Or.inl h2
 ·exact Or.inr ⟨g,cap,cur,hv,hg,hf.keep hh (hn g (by rw[hv];rfl)),r⟩
theorem OwnRows.block(h:OwnRows base e k w v xs):∀b,v.ownBlock=some b->base<=b:=by
 intro b hb;rcases h.2.2 with ⟨hv,_⟩|⟨g,cap,cur,hv,hg,_⟩
 ·rw[hv]at hb;simp[Value.ownBlock]at hb
 ·rw[hv]at hb;simp[Value.ownBlock]at hb;omega
theorem OwnRows.lt(h:OwnRows base e k w v xs):∀b,v.ownBlock=some b->b<w.heap.size:=by
 intro b hb;rcases h.2.2 with ⟨hv,_⟩|⟨g,cap,cur,hv,hg,hh,_⟩
 ·rw[hv]at hb;simp[Value.ownBlock]at hb
 ·rw[hv]at hb;simp[Value.ownBlock]at hb;subst hb;exact bg hh
theorem OwnRows.at(h:OwnRows base e k w v xs):eb k w v xs:=by
 obtain⟨h0,h1,h2⟩:=h;refine⟨h0,?_⟩;rcases h2 with ⟨hv,hn⟩|⟨g,cap,cur,hv,hg,hh,h3,h4,h5,h6⟩
 ·exact Or.inl ⟨none,0,hv,bZ hn,fun _=>rfl⟩
 ·refine Or.inr ⟨g,0,cap,hv,h3,h4,bg hh,fun j x hj i u hi=>?_⟩;have ES:=h0 x (cA hj);have Ib:j*k+i<xs.length*k:=by
   have hj':=(List.getElem?_eq_some_iff.1 hj).1;have hi':=(List.getElem?_eq_some_iff.1 hi).1;have:(j+1)*k<=xs.length*k:=bN _ hj';rw[gZ]at this;omega
  have e1:(cur.toList.take (xs.length*k))[j*k+i]?=some u:=by rw[h6];exact ra (fun z hz=>(h0 z hz).1) hj hi
  rw[List.getElem?_take_of_lt Ib]at e1;have e2:cur[j*k+i]?=some u:=by simpa using e1
  simp[World.cell?,hh,e2]
end
theorem nH{P:Program}{ops:Array Oper}{rest:List Oper}{o:Oper}{a:Act}{Q:Exit->Act->World->Prop}{w:World}(ym:o.guard=none)(s x:Operand)(t e:TypeId)
  (ho:o.op=.call {callee:=.builtin .append,args:= #[s,x],argTypes:= #[t,t]})(k bytes:Nat)(z:Value)(ht:P.underlying t=some (.slice e))
  (akR:(P.info? e).map (fun i=>(i.zero,i.size,i.bytes))=some (some z,k,bytes))(hz:z.cells.size=k)(hk:0<k)(hb:bytes<=1024)
  (base:Nat)(v:Value)(l:cU)(hs:a.eval s=v)(cO:OwnRows base e k w v l)
  (ad:Nat)(c:Nat)(y:aX)(hx:a.eval x=.slice (some ⟨ad,0,none⟩) 1 c)(ET:y.length=k)(D9:∀u∈y,u.oneCell'=true)(hy:∀(i:Nat) u,y[i]?=some u->w.cell? ⟨ad,i,none⟩=some u)
  (hlen:l.length<68719476736)(il:base<=w.heap.size)
  (h:∀v' w',OwnRows base e k w' v' (l++[y])->w.grownBy w' v.ownBlock->wpList P ops Q rest (a.put o.dst v') w'):wpList P ops Q (o :: rest) a w:=by
 obtain⟨i0,hi,oZ,kI,kS⟩:=info_parts akR;refine wpList_append_own w ym s x t ho base e i0 z k bytes ht hi oZ kI kS hz hk v l.length l.flatten hs cO.2 ⟨ad,0,none⟩ 1 c y hx (by rw[ET,Nat.one_mul]) ?_ D9 ?_ ?_ il ?_
 ·intro j u hj;have ea:(Addr.add ⟨ad,0,none⟩ j)=⟨ad,j,none⟩:=by unfold Addr.add;split<;>simp_all
  rw[ea];exact hy j u hj
 ·unfold maxLen;omega
 ·have:(l.length+1)*bytes<=68719476736*1024:=Nat.mul_le_mul ab hb;omega
 ·intro v' w' h1 h2 _;refine h v' w' ⟨?_,?_⟩ h2
  ·intro q hq;rcases bP.1 hq with g|g
   ·exact cO.1 q g
   ·simp at g;subst g;exact⟨ET,D9⟩
  ·simpa using h1
abbrev bG := @eb.iY
abbrev dr := @OwnRows.nil
abbrev dN := @eb.form
def ZI:Go.Shelf.Ren:=⟨fun|167=>157|240=>158|276=>205|n=>n,fun|70=>186|9=>9|72=>189|37=>187|164=>277|20=>20|75=>43|80=>197|5=>5|79=>242|n=>n,fun|n=>n⟩
theorem abo:Go.Proofs.Lays.n167 prog ZI:={
 mixed:=af
 f167:=func157.trans (aq some af)
 f240:=func158.trans (aq some af)
 f276:=func205.trans (aq some af)
 t0:=underlying0
 a0:=isAgg0
 z0:=sizeOf0
 v0:=zeroValue0
 t4:=underlying4
 a4:=isAgg4
 z4:=sizeOf4
 v4:=zeroValue4
 t5:=underlying5
 a5:=isAgg5
 z5:=sizeOf5
 v5:=zeroValue5
 t9:=underlying9
 a9:=isAgg9
 z9:=sizeOf9
 v9:=zeroValue9
 t20:=underlying20
 a20:=isAgg20
 z20:=sizeOf20
 v20:=zeroValue20
 t37:=underlying187
 a37:=isAgg187
 z37:=sizeOf187
 v37:=zeroValue187
 t70:=underlying186
 a70:=isAgg186
 z70:=sizeOf186
 v70:=zeroValue186
 t72:=underlying189
 a72:=isAgg189
 z72:=sizeOf189
 v72:=zeroValue189
 t75:=underlying43
 a75:=isAgg43
 z75:=sizeOf43
 v75:=zeroValue43
 t164:=underlying277
 a164:=isAgg277
 z164:=sizeOf277
 v164:=zeroValue277}
theorem Xe:Builder.Extra prog ZI:={
 sizeBuilder:=af
 liesBuilder:=af
 t5:=underlying5
 a5:=isAgg5
 z5:=sizeOf5
 v5:=zeroValue5
 infoByte:=af
 cellsByte:=af
 sizeByte:=af
 neB5:=ag}
def EZ(B b:Nat)(l:aH)(w:World):Prop:=Lib.IsBuilder 189 5 B b (tK l) w
theorem jX(B b:Nat)(l:aH)(c:UInt8)(w:World)(h:EZ B b l w)(hlen:l.length+1<=140737488355328)(WH:B<=w.heap.size) :
  aC 157 #[.pointer (some ⟨b,0,none⟩),.int .u8 c.toNat] w fun e w'=>e=.returned .nilIface/\EZ B b (l++[c]) w'/\Below B w w' :=
 (Any.Builder_WriteByte abo Xe B b (tK l) c.toNat w h (by rw[xv];exact hlen) WH).mono fun e w' ⟨he,hb,hw⟩=>⟨he,by unfold EZ;rw[Iu];exact Or.inr hb,hw⟩
theorem AW(B b:Nat)(l:aH)(w:World)(h:EZ B b l w)(WH:B<=w.heap.size) :
  aC 112 #[.pointer (some ⟨b,0,none⟩)] w fun e w'=>e=.returned (.string ⟨l.toArray⟩)/\Below B w w' :=
 Builder_String_any B b l w h WH
theorem Fr.lJ{a:World}(h:Fr S a w)(g:Below a.heap.size w w'):Fr S a w' :=
 h.step (Fr.NT (S:=fun k=>a.heap.size<=k) g (fun _ _ h=>h)) (fun k hk hT=>absurd hT ab)
theorem EZ.new(w:World):EZ w.heap.size w.heap.size [] (w.alloc (.cells #[.pointer none,.slice none 0 0] 189)) :=
 Or.inl ⟨ay _,_,aB w _,World.ownsRow_nil _ _ _ _,by simp[Value.ownBlock]⟩
theorem JQ{P:Program}{W:World}{x:String×DataW Unit}:∀ {laid:List (String×DataW Unit)},laidMet P laid W->x∈laid->∃r,laidMet P (x :: r) W
 |y :: l,h,hm=>by
  rcases bu.1 hm with rfl|hm
  ·exact⟨l,h⟩
  ·exact JQ (laidMet.tail h) hm
theorem JR{P:Program}{W:World}{laid:List (String×DataW Unit)}{name:String}{k:IntKind}{zs:List Int}{g:Nat}{t e:TypeId}{n:Nat}
  (h:laidMet P laid W)(hm:(name,Lib.tabData k zs)∈laid)
  (hg:P.globalNamed name=some g)(RI:(P.globals[g]?).map (·.type)=some t)(ht:P.underlying t=some (.array n e))(he:P.underlying e=some (.int k))(hce:P.cellsOf e=1)(hct:P.cellsOf t=n):Lib.TabIs P W name k zs:=by
 obtain⟨r,hr⟩:=JQ h hm;exact Lib.tabIs_of_head hg RI ht he hce hct hr
def xh(w:World):Prop:=Lib.TabIs prog w "internal/strconv.uint64pow10" .u64 Lib.pow10Tab
theorem xh.fr(h:xh w)(hf:Fr aW w w'):xh w':=Go.Joins.tab_stays (g:=5) af h hf.nE (ay _)
theorem Mn{W:World}{laid:List (String×DataW Unit)}(h:laidMet prog laid W)(hm:("internal/strconv.uint64pow10",Lib.tabData .u64 Lib.pow10Tab)∈laid/\True):xh W :=
 JR h hm.1 (g:=5) af af underlying324 underlying303 af af
def ib(w:World)(v:Value)(ss:List ai):Prop :=
 (∃a c,v=.slice a 0 c/\ss=[]/\(a=none->c=0)) \/
 ∃bk o c,v=.slice (some ⟨bk,o,none⟩) ss.length c/\ss.length<=c/\c<=maxLen/\bk<w.heap.size/\∀(j:Nat) x,ss[j]?=some x->w.cell? ⟨bk,o+j,none⟩=some (.string x)
theorem ib.nil(w:World):ib w (.slice none 0 0) []:=Or.inl ⟨_,_,rfl,rfl,fun _=>rfl⟩
theorem ib.fr(h:ib w v ss)(hf:Fr S w w')(hn:∀k,v.ownBlock=some k->¬S k):ib w' v ss:=by
 rcases h with h|⟨bk,o,c,hv,h1,h2,h3,h4⟩
 ·exact Or.inl h
 ·refine Or.inr ⟨bk,o,c,hv,h1,h2,cK h3 hf.size,fun j x hj=>?_⟩;rw[hf.cell (p:=⟨bk,o+j,none⟩) h3 (hn bk (by rw[hv];rfl))];exact h4 j x hj
theorem ib.iY(h:ib w v ss)(hf:Fr aW w w'):ib w' v ss:=h.fr hf (fun _ _ h=>h)
theorem ib.form(h:ib w v ss):∃a c,v=.slice a ss.length c:=by
 rcases h with ⟨a,c,hv,hs,_⟩|⟨bk,o,c,hv,_⟩
 ·exact⟨a,c,by rw[hv,hs];rfl⟩
 ·exact⟨_,_,hv⟩
theorem yo:(prog.info? 9).map (fun i=>(i.zero,i.size,i.bytes))=some (some (.string ⟨#[]⟩),1,16):=af
def Strs(base:Nat)(w:World)(v:Value)(ss:List ai):Prop:=w.ownsRow base 9 1 v ss.length (ss.map Value.string)
section
variable {base : Nat} {w w' : World} {v : Value} {ss : List ByteArray}
theorem Strs.nil(base:Nat)(w:World):Strs base w (.slice none 0 0) []:=World.ownsRow_nil _ _ _ _
theorem Strs.alloc(h:Strs base w v ss)(o:Obj):Strs base (w.alloc o) v ss:=World.ownsRow.alloc h o
theorem Strs.drew(h:Strs base w v ss):Strs base w.drew v ss:=h
theorem Strs.form(h:Strs base w v ss):∃a c,v=.slice a ss.length c:=by
 rcases h.2 with ⟨hv,hn⟩|⟨g,cap,cur,hv,_⟩
 ·exact⟨none,0,by rw[hv,hn]⟩
 ·exact⟨_,_,hv⟩
theorem Strs.fr(h:Strs base w v ss)(hf:Fr S w w')(hS:∀k,S k->k<base):Strs base w' v ss:=by
 obtain⟨h1,h2⟩:=h;refine⟨h1,?_⟩;rcases h2 with h2|⟨g,cap,cur,hv,hg,hh,r⟩
 ·exact Or.inl h2
 ·exact Or.inr ⟨g,cap,cur,hv,hg,hf.keep hh (fun hs=>absurd (hS g hs) ab),r⟩
theorem Strs.block(h:Strs base w v ss):∀k,v.ownBlock=some k->base<=k:=by
 intro k hk;rcases h.2 with ⟨hv,_⟩|⟨g,cap,cur,hv,hg,_⟩
 ·rw[hv]at hk;simp[Value.ownBlock]at hk
 ·rw[hv]at hk;simp[Value.ownBlock]at hk;omega
theorem Strs.at(h:Strs base w v ss):ib w v ss:=by
 obtain⟨h1,h2⟩:=h;rcases h2 with ⟨hv,hn⟩|⟨g,cap,cur,hv,hg,hh,h3,h4,h5,h6⟩
 ·exact Or.inl ⟨none,0,hv,bZ hn,fun _=>rfl⟩
 ·refine Or.inr ⟨g,0,cap,hv,h3,h4,bg hh,fun j x hj=>?_⟩;have hl:=(List.getElem?_eq_some_iff.1 hj).1;have e:(cur.toList.take (ss.length*1))[j]?=some (.string x):=by rw[h6];simp[hj]
  rw[List.getElem?_take_of_lt ab]at e;have e2:cur[j]?=some (.string x):=by simpa using e
  simp[World.cell?,hh,e2]
end
theorem nF{ops:Array Oper}{rest:List Oper}{o:Oper}{a:Act}{Q:Exit->Act->World->Prop}{w:World}(ym:o.guard=none)(s x:Operand)
  (ho:o.op=.call {callee:=.builtin .append,args:= #[s,x],argTypes:= #[125,125]})(base:Nat)(v:Value)(l:List ai)(hs:a.eval s=v)(cO:Strs base w v l)
  (ad:Addr)(c:Nat)(y:ai)(hx:a.eval x=.slice (some ad) 1 c)(hy:w.cell? ad=some (.string y))(hlen:l.length<4398046511104)(il:base<=w.heap.size)
  (h:∀v' w',Strs base w' v' (l++[y])->w.grownBy w' v.ownBlock->wpList prog ops Q rest (a.put o.dst v') w'):wpList prog ops Q (o :: rest) a w:=by
 obtain⟨i0,hi,oZ,kI,kS⟩:=info_parts yo;refine wpList_append_own w ym s x 125 ho base 9 i0 (.string ⟨#[]⟩) 1 16 underlying125 hi oZ kI kS rfl ag v l.length (l.map Value.string) hs cO ad 1 c [.string y] hx rfl ?_ ?_ ?_ ?_ il ?_
 ·intro j u hj
  match j,hj with
  |0,hj=>simp at hj;subst hj;simpa[Addr.add]using hy
 ·intro u hu;simp at hu;subst hu;rfl
 ·unfold maxLen;omega
 ·omega
 ·intro v' w' h1 h2 _;exact h v' w' (by unfold Strs;simpa using h1) h2
abbrev kD := @Strs.nil
abbrev im := @Strs.alloc
def ve:aH->Option (aH×aH)
 |[]=>none
 |x :: r =>
  if x==34 then some ([],r)
  else if x==92 then
   match r with
   |[]=>none
   |y :: r'=>if ng y then(ve r').map (fun p=>(y :: p.1,p.2))else none
  else if ng x then(ve r).map (fun p=>(x :: p.1,p.2))else none
def sH(l:aH)(k:Nat)(a:aH):Option (aH×Nat):=(ve (l.drop k)).map (fun p=>(a++p.1,l.length-p.2.length))
theorem Sf(h:l[k]?=none):sH l k a=none:=by
 unfold sH;rw[Ir h];simp[ve]
theorem Pf(h:l[k]?=some 34):sH l k a=some (a,k+1):=by
 have hk:=(List.getElem?_eq_some_iff.1 h).1;unfold sH;rw[drop_at h,ve.eq_def];simp;omega
theorem Pg(h:l[k]?=some x)(h1:(x==34)=false)(h2:(x==92)=false)(h3:ng x=true):sH l k a=sH l (k+1) (a++[x]):=by
 unfold sH;rw[drop_at h];rw[ve.eq_def];simp only[h1,h2,h3,cG,eR,dY];cases ve (l.drop (k+1))<;>simp
theorem Sg(h:l[k]?=some x)(h1:(x==34)=false)(h2:(x==92)=false)(h3:ng x=false):sH l k a=none:=by
 unfold sH;rw[drop_at h];rw[ve.eq_def];simp only[h1,h2,h3,cG,eR,Option.map_none]
theorem Ph(h:l[k]?=some 92)(h1:l[k+1]?=none):sH l k a=none:=by
 unfold sH;rw[drop_at h,Ir h1,ve.eq_def];simp
theorem Si(h:l[k]?=some 92)(h1:l[k+1]?=some y)(h3:ng y=true):sH l k a=sH l (k+2) (a++[y]):=by
 unfold sH;rw[drop_at h,drop_at h1];rw[ve.eq_def];simp only[show((92:UInt8)==34)=false from rfl,show((92:UInt8)==92)=true from rfl,h3,cG,eR,dY];cases ve (l.drop (k+1+1))<;>simp
theorem IQ(h:l[k]?=some 92)(h1:l[k+1]?=some y)(h3:ng y=false):sH l k a=none:=by
 unfold sH;rw[drop_at h,drop_at h1];rw[ve.eq_def];simp only[show((92:UInt8)==34)=false from rfl,show((92:UInt8)==92)=true from rfl,h3,cG,eR,dY,Option.map_none]
def gC(l:aH)(i:Nat):Option (aH×Nat):=if l[i]?=some 34 then sH l (i+1) []else none
def ph(l:aH)(i:Nat):Nat:=match gC l i with|some p=>p.2|none=>i
def nG(l:aH)(i:Nat):aH:=match gC l i with|some p=>p.1|none=>[]
def gT(b:Nat)(s:ai)(i:Nat)(w:World)(e:Ending)(w':World):Prop :=
 e=.returned (.tuple #[.string ⟨(nG s.data.toList i).toArray⟩,.bool (gC s.data.toList i).isSome])/\dk w' b s (ph s.data.toList i)/\Fr (one b) w w'
theorem gT.none(h:gC s.data.toList i=none)(hc:dk w' b s i)(hf:Fr (one b) w w') :
  gT b s i w (.returned (.tuple #[.string ⟨#[]⟩,.bool false])) w':=by
 refine⟨?_,?_,hf⟩
 ·simp[nG,h]
 ·simpa[ph,h]using hc
theorem gT.some(h:gC s.data.toList i=some (a,j))(hc:dk w' b s j)(hf:Fr (one b) w w') :
  gT b s i w (.returned (.tuple #[.string ⟨a.toArray⟩,.bool true])) w':=by
 refine⟨?_,?_,hf⟩
 ·simp[nG,h]
 ·simpa[ph,h]using hc
def ae0(b:Nat)(s:ai)(i:Nat)(w:World)(v:Value)(wr:World):Prop :=
 ∃k a,k<=s.size/\a.length<=k/\dk wr b s k/\Bytes w.heap.size wr v a/\Fr (one b) w wr/\gC s.data.toList i=sH s.data.toList k a
theorem Sj{b i k j:Nat}{s:ai}{w wr wx w2:World}{v v':Value}{a l:aH}(tL:b<w.heap.size)(hcx:dk wx b s j)(IU:Fr (one b) w wx)(hg:wx.grownBy w2 v.ownBlock)
  (cO:Bytes w.heap.size wr v a)(fu:Bytes w.heap.size w2 v' l)(hj:j<=s.size)(hl:l.length<=j)(uO:gC s.data.toList i=sH s.data.toList j l)(hkj:k<j)(pM:pg wr b=k) :
  ae0 b s i w v' w2/\s.size-pg w2 b<s.size-pg wr b:=by
 have hv:=cO.block;have sW:dk w2 b s j:=by
  unfold dk at hcx ⊢;rw[hg.block b (bg hcx) (fun e=>by have:=hv b e.symm;omega)];exact hcx
 refine⟨⟨j,l,hj,hl,sW,fu,IU.grown hg (fun k hk hs=>by have:=hv k hk;omega),uO⟩,?_⟩;rw[pM,sW.pos];omega
theorem LG(b:Nat)(s:ai)(i:Nat)(w:World)(h:dk w b s i)(hs:s.size<70368744177664) :
  aC 214 #[.pointer (some ⟨b,0,none⟩)] w (gT b s i w):=by
 have h0:=h.cell0;have h1:=h.gV;have hm:s.size<=maxLen:=fl;cases e1:jU s i 34
 ·have hq:=O (show gC s.data.toList i=none by unfold gC;rw[ar (by simpa[jU]using e1)]);go_enter func214,ntmps214;go_wp2_with fail
  refine(pL b s i 34 w h hm).mono ?_;rintro e w1⟨rfl,pJ,dn⟩;rw[pd e1]at pJ;rw[e1];clear e1 h0 h1;have c0:=pJ.cell0;have c1:=pJ.gV;have cf:=pJ.free 1;have WX:=pJ.eG;go_wp2;refine wp_loop_rounds 1 ?_;rw[rounds_succ];go_wp2;go_quiet (fail);go_wp2;go_ret2;exact gT.none hq.o (jV (j:=i) (by repeat(first|exact WX|apply jf|apply gW))) (by repeat(first|exact dn|apply dE|apply iG))
 ·have hq:=O (show gC s.data.toList i=sH s.data.toList (i+1) []by unfold gC;rw[aA (by simpa[jU]using e1)]);have Sk:i+1<=s.size:=by
   have:s.data.toList[i]?=some 34:=by simpa[jU]using e1
   have:=(List.getElem?_eq_some_iff.1 this).1;have h2:i<s.size:=by simpa using this
   omega
  go_enter func214,ntmps214;go_wp2_with fail
  refine(pL b s i 34 w h hm).mono ?_;rintro e w1⟨rfl,pJ,dn⟩;rw[o_ e1]at pJ;rw[e1];clear e1 h0 h1;go_wp2;go_loopw[5] (ae0 b s i w) (fun _ wr=>s.size-pg wr b)
  case atStart=>exact⟨i+1,[],Sk,aQ,pJ,Bytes.nil _ _,dn,hq.o⟩
  case round =>
   rename_i v wr;obtain⟨k,a,hk,ha,hc,cO,cN,uO⟩:=hrel;have gu:=O uO;clear uO;have c0:=hc.cell0;have c1:=hc.gV;have cf:=hc.free 1;have WX:=hc.eG;have pM:=O hc.pos;obtain⟨av,cv,hv⟩:=cO.form;subst hv;have hbB:b<w.heap.size:=h.lt;have AJ:∀n u,(convert 187 9 (.slice av a.length cv)).run prog ((wr.drewN n).setCell ⟨b,1,none⟩ u)=.ok (.string ⟨a.toArray⟩) ((wr.drewN n).setCell ⟨b,1,none⟩ u):=fun n u =>
    Bytes.text (oo (p:=⟨b,1,none⟩) hbB (Bytes.drewN cO))
   have tL:b<w.heap.size:=h.lt;have il:w.heap.size<=wr.heap.size:=cN.size;by_cases fx:k<s.size
   ·have hd:decide (k<s.size)=true:=by simp[fx]
    have dL:=O (byte_at s k fx);generalize hx:s[k]=x at dL;cases e1:x==34
    ·have n1:((x.toNat:Int)==34)=false:=by rw[<-e1];exact uF 34 ag
     cases e2:x==92
     ·have n2:((x.toNat:Int)==92)=false:=by rw[<-e2];exact uF 92 ag
      cases e3:ng x
      ·have eX:=O (show gC s.data.toList i=none by rw[gu.o,Sg dL.o e1 e2 e3]);clear e1 e2;go_wp2;go_quiet (fail);go_wp2;go_quiet (fail);go_wp2;go_quiet (fail);go_wp2_with (go_at_call 159;refine(pK _ _).mono ?_;rintro e w' ⟨rfl,rfl⟩)
       go_ret2;exact gT.none eX.o (jV (j:=i) (by repeat(first|exact WX|apply jf|apply gW))) (by repeat(first|exact cN|apply dE|apply iG))
      ·have pN:=O (gu.o.trans (Pg (a:=a) dL.o e1 e2 e3));clear e1 e2;go_wp2;go_quiet (fail);go_wp2;go_quiet (fail);go_wp2;go_quiet (fail)
       go_wp2_with (first|(at_builtin;refine jT rfl _ _ rfl w.heap.size (.slice av a.length cv) a rfl (by repeat(first|exact cO|apply gl|apply oo (p:=⟨b,1,none⟩) hbB|apply Bytes.drewN|apply Bytes.drew)) ⟨wr.heap.size,0,none⟩ 1 x rfl (by rw[World.cell?_alloc_at _ _ _ _ aQ];rfl) ab bF ?_;intro v' w2 fu yr)|(go_at_call 159;refine(pK _ _).mono ?_;rintro e w' ⟨rfl,rfl⟩))
       exact Sj tL (by repeat(first|exact jV (j:=k+1) (by repeat(first|exact WX|apply jf|apply gW))|apply dk.alloc|apply dk.drewN)) (by repeat(first|exact cN|apply dE|apply iG|apply bq)) yr cO fu ab bF pN.o (Nat.lt_succ_self k) pM.o
     ·have akL:x=92:=by simpa using e2
      clear e1 e2;subst akL;by_cases lI:k+1<s.size
      ·have Bo:decide ((k:Int)+1<(s.size:Int))=true:=bF;have aa':=O (byte_at s (k+1) lI);generalize hy:s[k+1]=y at aa';cases e3:ng y
       ·have eX:=O (show gC s.data.toList i=none by rw[gu.o,IQ dL.o aa'.o e3]);go_wp2;go_quiet (fail);go_wp2;go_quiet (fail);go_wp2;go_quiet (fail);go_wp2;go_quiet (fail);go_wp2_with (go_at_call 159;refine(pK _ _).mono ?_;rintro e w' ⟨rfl,rfl⟩)
        go_ret2;exact gT.none eX.o (jV (j:=i) (by repeat(first|exact WX|apply jf|apply gW))) (by repeat(first|exact cN|apply dE|apply iG|apply bq))
       ·have pN:=O (gu.o.trans (Si (a:=a) dL.o aa'.o e3));go_wp2;go_quiet (fail);go_wp2;go_quiet (fail);go_wp2;go_quiet (fail);go_wp2;go_quiet (fail)
        go_wp2_with (first|(at_builtin;refine jT rfl _ _ rfl w.heap.size (.slice av a.length cv) a rfl (by repeat(first|exact cO|apply gl|apply oo (p:=⟨b,1,none⟩) hbB|apply Bytes.drewN|apply Bytes.drew)) ⟨wr.heap.size,0,none⟩ 1 y rfl (by rw[World.cell?_alloc_at _ _ _ _ aQ];rfl) ab bF ?_;intro v' w2 fu yr)|(go_at_call 159;refine(pK _ _).mono ?_;rintro e w' ⟨rfl,rfl⟩))
        exact Sj tL (by repeat(first|exact jV (j:=k+1+1) (by repeat(first|exact WX|apply jf|apply gW))|apply dk.alloc|apply dk.drewN)) (by repeat(first|exact cN|apply dE|apply iG|apply bq)) yr cO fu ab bF pN.o ab pM.o
      ·have Bo:decide ((k:Int)+1<(s.size:Int))=false:=bF;have eX:=O (show gC s.data.toList i=none by rw[gu.o,Ph dL.o (sY s (k+1) lI)]);go_wp2;go_quiet (fail);go_wp2;go_quiet (fail);go_wp2;go_quiet (fail);go_wp2;go_ret2;exact gT.none eX.o (jV (j:=i) (by repeat(first|exact WX|apply jf|apply gW))) (by repeat(first|exact cN|apply dE|apply iG|apply bq))
    ·have n1:((x.toNat:Int)==34)=true:=by rw[<-e1];exact uF 34 ag
     have eX:=O (show gC s.data.toList i=some (a,k+1)by rw[gu.o,Pf (by rw[dL.o];simpa using e1)]);clear e1;go_wp2;go_quiet (fail);go_wp2;go_quiet (fail);go_wp2;go_ret2;exact gT.some eX.o (jV (j:=k+1) (by repeat(first|exact WX|apply jf|apply gW))) (by repeat(first|exact cN|apply dE|apply iG))
   ·have hd:decide (k<s.size)=false:=bF;have eX:=O (show gC s.data.toList i=none by rw[gu.o,Sf (sY s k fx)]);go_wp2;go_quiet (fail);go_wp2;go_ret2;exact gT.none eX.o (jV (j:=i) (by repeat(first|exact WX|apply jf|apply gW))) (by repeat(first|exact cN|apply dE|apply iG))
def mi(c:UInt8):aH->aH×aH×Bool
 |[]=>([],[],false)
 |x :: l=>if x=c then([],l,true)else(x :: (mi c l).1,(mi c l).2.1,(mi c l).2.2)
theorem I8(c:UInt8):∀(a b:aH),c∉a->mi c (a++c :: b)=(a,b,true)
 |[],b,_=>by simp[mi]
 |x :: a,b,h=>by
  have hx:¬x=c:=fun e=>h (by rw[e];exact cR ..);rw[List.cons_append,mi,ar hx,I8 c a b (fun e=>h (bO _ e))]
theorem EM(c:UInt8):∀(a:aH),c∉a->mi c a=(a,[],false)
 |[],_=>rfl
 |x :: a,h=>by
  have hx:¬x=c:=fun e=>h (by rw[e];exact cR ..);rw[mi,ar hx,EM c a (fun e=>h (bO _ e))]
theorem N6(c:UInt8):∀l:aH,c∉(mi c l).1/\(((mi c l).2.2=true/\l=(mi c l).1++c :: (mi c l).2.1)\/((mi c l).2.2=false/\l=(mi c l).1/\(mi c l).2.1=[]))
 |[]=>⟨by simp[mi],Or.inr ⟨rfl,rfl,rfl⟩⟩
 |x :: l=>by
  have ih:=N6 c l;unfold mi;split
  ·rename_i h;exact⟨aQ,Or.inl ⟨rfl,by rw[h];rfl⟩⟩
  ·rename_i h;refine⟨fun e=>?_,?_⟩
   ·rcases bu.1 e with e|e
    ·exact h e.symm
    ·exact ih.1 e
   ·rcases ih.2 with ⟨h1,h2⟩|⟨h1,h2,h3⟩
    ·exact Or.inl ⟨h1,by rw[List.cons_append, <-h2]⟩
    ·exact Or.inr ⟨h1,by rw[<-h2],h3⟩
def I9(c:UInt8):Bool:=decide (97<=c.toNat/\c.toNat<=122)||decide (48<=c.toNat/\c.toNat<=57)||decide (c.toNat=45)
def Cq(l:aH):Bool:=!l.isEmpty&&!(l.head?==some 45)&&!(l.getLast?==some 45)&&l.all I9
def N7(l:aH):Bool:=decide (l.length<=60)&&(dU 46 l).all Cq
def Cr(s:Bool):Int:=if s then 443 else 80
structure abe where
 aG:Bool
 host:aH
 port:Int
def abf(o:abe):Bool:=N7 o.host&&(decide (1<=o.port)&&decide (o.port<=65535))
def ae7:aH:=[104,116,116,112,58,47,47]
def abg:aH:=[104,116,116,112,115,58,47,47]
def ZB(s:Bool):aH:=if s then abg else ae7
def EN(o:abe):aH:=ZB o.aG++o.host++(if o.port=Cr o.aG then []else 58 :: Lib.itoa o.port)
def ZJ:Go.Shelf.Ren:=⟨fun|166=>105|240=>158|276=>205|n=>n,fun|70=>186|9=>9|72=>189|37=>187|164=>277|20=>20|75=>43|80=>197|5=>5|3=>3|n=>n,fun|n=>n⟩
theorem abp:Go.Proofs.Lays.n166 prog ZJ:={
 mixed:=af
 f166:=func105.trans (aq some af)
 f240:=func158.trans (aq some af)
 f276:=func205.trans (aq some af)
 t0:=underlying0
 a0:=isAgg0
 z0:=sizeOf0
 v0:=zeroValue0
 t3:=underlying3
 a3:=isAgg3
 z3:=sizeOf3
 v3:=zeroValue3
 t4:=underlying4
 a4:=isAgg4
 z4:=sizeOf4
 v4:=zeroValue4
 t9:=underlying9
 a9:=isAgg9
 z9:=sizeOf9
 v9:=zeroValue9
 t20:=underlying20
 a20:=isAgg20
 z20:=sizeOf20
 v20:=zeroValue20
 t37:=underlying187
 a37:=isAgg187
 z37:=sizeOf187
 v37:=zeroValue187
 t70:=underlying186
 a70:=isAgg186
 z70:=sizeOf186
 v70:=zeroValue186
 t72:=underlying189
 a72:=isAgg189
 z72:=sizeOf189
 v72:=zeroValue189
 t75:=underlying43
 a75:=isAgg43
 z75:=sizeOf43
 v75:=zeroValue43
 t164:=underlying277
 a164:=isAgg277
 z164:=sizeOf277
 v164:=zeroValue277}
theorem Xf:Builder.Extra prog ZJ:={
 sizeBuilder:=af
 liesBuilder:=af
 t5:=underlying5
 a5:=isAgg5
 z5:=sizeOf5
 v5:=zeroValue5
 infoByte:=af
 cellsByte:=af
 sizeByte:=af
 neB5:=ag}
def vz(B b:Nat)(l:aH)(w:World):Prop:=Lib.IsBuilderF 189 5 B b (tK l) w
abbrev afe(b:Nat)(w w':World):Prop:=Lib.OthersKept 5 (some b) w w'
theorem Gx(s:ai):Lib.strCells s=tK s.data.toList:=by
 unfold Lib.strCells tK;rfl
theorem Xg(a b:aH):tK (a++b)=tK a++tK b:=by unfold tK;simp
theorem dZ(B b:Nat)(l:aH)(s:ai)(w:World)(h:vz B b l w)(hlen:l.length+s.size<=140737488355328)(WH:B<=w.heap.size) :
  aC 105 #[.pointer (some ⟨b,0,none⟩),.string s] w fun e w'=>e=.returned (.tuple #[.int .i64 s.size,.nilIface])/\vz B b (l++s.data.toList) w'/\Below B w w'/\afe b w w':=by
 refine(Any.Builder_WriteString_k abp Xf B b (tK l) s w h (by rw[xv];exact hlen) WH).mono ?_;rintro e w'⟨he,hb,hw,ho⟩;refine⟨he,?_,hw,ho⟩;unfold vz;rw[Xg, <-Gx];exact Or.inr hb
theorem vA(B b:Nat)(l:aH)(w:World)(h:vz B b l w) :
  aC 108 #[.pointer (some ⟨b,0,none⟩)] w fun e w'=>e=.returned (.int .i64 l.length)/\w=w':=by
 refine(Builder_Len_f B b (tK l) w h).mono ?_;rintro e w'⟨rfl,rfl⟩;exact⟨by rw[xv],rfl⟩
theorem kA{rest:List Oper}{a:Act}(o:Oper)(h:wpList P ops Q (o :: rest) a w):wpList P ops Q (o :: rest) a w:=h
theorem mG{a:Act}{K:Act->World->Prop}{E:Prop}(o:Oper)(h:if Region.wanted o (yielded ops a.tmps)=true then Oper.wp P o a w K Q else E):if Region.wanted o (yielded ops a.tmps)=true then Oper.wp P o a w K Q else E:=h
theorem wB{P:Program}{ops:Array Oper}{a:Act}{w:World}{K:Act->World->Prop}{Q:Exit->Act->World->Prop}{E:Prop}{o:Oper}(ym:o.guard=none)(f:FuncId)(args:bS)(akV:(execOp a.eval o).run P w=.ok (.enter f args) w){SI:Ending->World->Prop}(hc:Calls P f args w SI)
  (h:∀e w',SI e w'->∃v,e=.returned v/\K (a.put o.dst v) w'):if Region.wanted o (yielded ops a.tmps)=true then Oper.wp P o a w K Q else E:=by
 have hw:Region.wanted o (yielded ops a.tmps)=true:=by simp[Region.wanted,ym]
 rw[aA hw];unfold Oper.wp;rw[akV,Oper.upon_enter];refine hc.mono fun e w' hh=>?_;obtain⟨v,rfl,hk⟩:=h e w' hh;exact hk
theorem yI(w:World)(old cells:bS)(t:TypeId):(w.alloc (.cells old t)).setRow w.heap.size cells=w.alloc (.cells cells t):=by
 unfold World.setRow World.alloc
 congr 1
 apply Array.ext
 ·simp
 ·intro k h1 h2;simp only[Array.getElem_modify];by_cases hk:w.heap.size=k
  ·subst hk;simp
  ·have:k<w.heap.size:=by simp at h2;omega
   simp[hk,Array.getElem_push,this]
theorem tj{P:Program}{ops:Array Oper}{rest:List Oper}{o:Oper}{a:Act}{w:World}{Q:Exit->Act->World->Prop}(ym:o.guard=none)(ty:TypeId)(x y:Operand)(ho:o.op=.store ty x y)(old:bS)
  (cells:bS)(hx:a.eval x=.pointer (some ⟨w.heap.size,0,none⟩))(hy:a.eval y=.agg cells)
  (hi:(P.info? ty).map (·.size)=some cells.size)(hold:old.size=cells.size)(h1:cells.all (·.oneCell')=true)
  (h:wpList P ops Q rest (a.put o.dst undef) (w.alloc (.cells cells ty))):wpList P ops Q (o :: rest) a (w.alloc (.cells old ty)):=by
 refine aF ym ty x y ho w.heap.size cells hx hy ty old (aB w _) hi hold h1 ?_;rw[yI];exact h
theorem run_storeCells_new(w:World)(t:TypeId)(old:bS)(x:aX)(hold:old.size=x.length)(h1:∀u∈x,u.oneCell'=true) :
  Sem.run P (storeCells ⟨w.heap.size,0,none⟩ x 0) (w.alloc (.cells old t))=.ok () (w.alloc (.cells x.toArray t)):=by
 have h:=run_storeCells_from (P:=P) w.heap.size t x 0 old (w.alloc (.cells old t)) (aB w _) ab h1;rw[h,List.take_zero,List.nil_append,yI]
theorem b_{cur:bS}{t:TypeId}{f:Nat×Nat}(h:w.heap[b]?=some (.cells cur t f))(o:Nat)(v:Value):(w.setCell ⟨b,o,none⟩ v).heap[b]?=some (.cells (cur.setIfInBounds o v) t f):=by
 simp[World.setCell,Array.getElem?_modify,h]
theorem sL(hg:g≠b)(o:Nat)(v:Value):(w.setCell ⟨b,o,none⟩ v).heap[g]?=w.heap[g]?:=Below.heap_setCell _ _ _ _ hg
theorem pF{b:Nat}{t:TypeId}{f:Nat×Nat}:∀(vs:aX) (o:Nat) (w:World) (cur:bS),w.heap[b]?=some (.cells cur t f)->o+vs.length<=cur.size ->
  (w.setCells b o vs).heap[b]?=some (.cells (cur.toList.take o++vs++cur.toList.drop (o+vs.length)).toArray t f)
 |[],o,w,cur,h,hl=>by
  rw[World.setCells,h];simp
 |v :: r,o,w,cur,h,hl=>by
  simp only[List.length_cons]at hl;rw[World.setCells,pF r (o+1) _ _ (b_ h o v) bF]
  congr 3
  simp only[Array.toList_setIfInBounds,List.length_cons];have h1:(cur.toList.set o v).take (o+1)=cur.toList.take o++[v]:=by
   have tL:o<cur.toList.length:=bF;rw[ct,List.getElem?_set_self tL,fV (ay o)];rfl
  have h2:(cur.toList.set o v).drop (o+1+r.length)=cur.toList.drop (o+(r.length+1)):=by
   rw[fW ab]
   congr 1;omega
  rw[h1,h2];simp
theorem Fr.setCells{S:dz}{a w:World}(h:Fr S a w){b:Nat}(hb:b<a.heap.size->S b):∀(vs:aX) (o:Nat),Fr S a (w.setCells b o vs):=by
 intro vs
 induction vs generalizing w with
 |nil=>intro o;exact h
 |cons v r ih=>intro o;exact ih (h.setCell (p:=⟨b,o,none⟩) hb v) (o+1)
theorem xb:∀(y:aX) (i:Nat) (z:bS),i+y.length<=z.size->List.foldl (fun cs x=>cs.setIfInBounds x.snd x.fst) z (y.zipIdx i)=(z.toList.take i++y++z.toList.drop (i+y.length)).toArray
 |[],i,z,_=>aQ
 |v :: r,i,z,hl=>by
  simp only[List.length_cons]at hl;rw[List.zipIdx_cons,List.foldl_cons,xb r (i+1) _ bF]
  congr 1
  simp only[Array.toList_setIfInBounds,List.length_cons];have h1:(z.toList.set i v).take (i+1)=z.toList.take i++[v]:=by
   have tL:i<z.toList.length:=bF;rw[ct,List.getElem?_set_self tL,fV (ay i)];rfl
  have h2:(z.toList.set i v).drop (i+1+r.length)=z.toList.drop (i+(r.length+1)):=by
   rw[fW ab]
   congr 1;omega
  rw[h1,h2];simp
theorem vC(y:aX)(z:bS)(h:z.size=y.length):List.foldl (fun cs x=>cs.setIfInBounds x.snd x.fst) z y.zipIdx=y.toArray:=by
 rw[xb y 0 z ab,List.take_zero,List.nil_append,cL bF,dI]
theorem AX{k:Nat}:∀ {xs:cU} (_:∀x∈xs,x.length=k) {i:Nat} {y:aX} (_:i<xs.length),(xs.set i y).flatten=xs.flatten.take (i*k)++y++xs.flatten.drop (i*k+k)
 |[],_,i,y,hi=>absurd hi (cq _)
 |x :: xs,hl,0,y,hi=>by
  have hx:=hl x aQ;simp only[List.set_cons_zero,List.flatten_cons,gY,List.take_zero,List.nil_append,bj];rw[List.drop_append_of_le_length ab,cL ab];simp
 |x :: xs,hl,i+1,y,hi=>by
  have hx:=hl x aQ;have ih:=AX (k:=k) (xs:=xs) (fun z hz=>hl z (bO _ hz)) (i:=i) (y:=y) (by simpa using hi);have e1:(i+1)*k=x.length+i*k:=by rw[gZ,hx];omega
  simp only[List.set_cons_succ,List.flatten_cons,ih,e1];rw[List.take_length_add_append,show x.length+i*k+k=x.length+(i*k+k)from ab,List.drop_length_add_append];simp
theorem yJ{k:Nat}:∀ {xs:cU} (_:∀x∈xs,x.length=k) (i:Nat),(xs.take i).flatten=xs.flatten.take (i*k)
 |[],_,i=>aQ
 |x :: xs,hl,0=>aQ
 |x :: xs,hl,i+1=>by
  have hx:=hl x aQ;have ih:=yJ (k:=k) (xs:=xs) (fun z hz=>hl z (bO _ hz)) i;rw[List.take_succ_cons,List.flatten_cons,ih,List.flatten_cons,show(i+1)*k=x.length+i*k from by rw[gZ,hx];omega,List.take_length_add_append]
theorem Jn(L:aX)(a n:Nat)(y:aX)(ham:a+y.length<=n)(hn:n<=L.length):(L.take a++y++L.drop (a+y.length)).take n=(L.take n).take a++y++(L.take n).drop (a+y.length):=by
 have hA:(L.take a++y).length=a+y.length:=by rw[aM,aL];omega
 rw[List.take_append,aD ab,hA,ke,dJ ab,List.drop_take]
theorem Gy(L:aX)(a:Nat)(y:aX)(ham:a+y.length<=L.length):(L.take a++y++L.drop (a+y.length)).take (a+y.length)=L.take a++y:=by
 have hA:(L.take a++y).length=a+y.length:=by rw[aM,aL];omega
 rw[List.take_append_of_le_length ab,aD ab]
theorem OwnRows.open(h:OwnRows base e k w v xs)(hg:v.ownBlock=some g) :
  ∃cap cur,v=.slice (some ⟨g,0,none⟩) xs.length cap/\base<=g/\w.heap[g]?=some (.cells cur e (0,0))/\xs.length<=cap/\cap<=maxLen/\cur.size=cap*k/\cur.toList.take (xs.length*k)=xs.flatten:=by
 rcases h.2.2 with ⟨hv,_⟩|⟨g',cap,cur,hv,h1,h2,h3,h4,h5,h6⟩
 ·rw[hv]at hg;simp[Value.ownBlock]at hg
 ·rw[hv]at hg;simp[Value.ownBlock]at hg;subst hg;exact⟨cap,cur,hv,h1,h2,h3,h4,h5,h6⟩
theorem OwnRows.store(h:OwnRows base e k w v xs){y:aX}(hi:i<xs.length)(hy:y.length=k)(D9:∀u∈y,u.oneCell'=true)(hg:v.ownBlock=some g) :
  OwnRows base e k (w.setCells g (i*k) y) v (xs.set i y):=by
 obtain⟨cap,cur,hv,h1,h2,h3,h4,h5,h6⟩:=h.open hg;have Lp:i*k+k<=xs.length*k:=by have:(i+1)*k<=xs.length*k:=bN _ hi;rw[gZ]at this;exact this
 have hck:xs.length*k<=cap*k:=bN _ h3;have ZK:∀x∈xs,x.length=k:=fun x hx=>(h.1 x hx).1;have hh:=pF y (i*k) w cur h2 ab;have hA:(cur.toList.take (i*k)).length=i*k:=by rw[aL];simp;omega
 have Jo:(xs.set i y).flatten=(cur.toList.take (i*k)++y++cur.toList.drop (i*k+y.length)).take (xs.length*k):=by
  rw[AX ZK hi, <-h6,Jn _ _ _ _ ab bF,hy]
 refine⟨?_,?_,Or.inr ⟨g,cap,_,by rw[dW];exact hv,h1,hh,by rw[dW];exact h3,h4,?_,?_⟩⟩
 ·intro x hx;rcases List.mem_or_eq_of_mem_set hx with hx|rfl
  ·exact h.1 x hx
  ·exact⟨hy,D9⟩
 ·rw[Jo,dW,aL,dJ];simp;omega
 ·simp;omega
 ·rw[dW,Jo]
theorem OwnRows.CA{base k:Nat}{e:TypeId}{w:World}{v:Value}{xs:cU}(h:OwnRows base e k w v xs){i:Nat}{ys:cU}(hi:i<=xs.length)(hy:∀y∈ys,y.length=k/\∀u∈y,u.oneCell'=true){g cap:Nat}
  (hg:v=.slice (some ⟨g,0,none⟩) xs.length cap)(hc:i+ys.length<=cap):OwnRows base e k (w.setCells g (i*k) ys.flatten) (.slice (some ⟨g,0,none⟩) (i+ys.length) cap) (xs.take i++ys):=by
 obtain⟨Bu,cur,hv,h1,h2,h3,h4,h5,h6⟩:=h.open (g:=g) (by rw[hg];rfl);rw[hg]at hv;cases hv;have Jp:ys.flatten.length=ys.length*k:=gi (fun y hm=>(hy y hm).1);have xc:cur.toList.length=cur.size:=aQ;have Lp:i*k+ys.length*k<=cap*k:=by rw[<-dC];exact bN _ hc
 have vg:i*k<=xs.length*k:=bN _ hi;have hh:=pF ys.flatten (i*k) w cur h2 ab;have hlen:(xs.take i++ys).length=i+ys.length:=by rw[aM,aL];omega
 have ZK:∀x∈xs,x.length=k:=fun x hx=>(h.1 x hx).1;have Jo:(xs.take i++ys).flatten=(cur.toList.take (i*k)++ys.flatten++cur.toList.drop (i*k+ys.flatten.length)).take ((i+ys.length)*k):=by
  rw[dC, <-Jp,Gy _ _ _ (by rw[Jp];omega),ec,yJ ZK, <-h6,ke,dJ vg]
 refine⟨?_,?_,Or.inr ⟨g,cap,_,by rw[hlen],h1,hh,by rw[hlen];exact hc,h4,?_,?_⟩⟩
 ·intro x hx;rcases bP.1 hx with hx|hx
  ·exact h.1 x (ew hx)
  ·exact hy x hx
 ·rw[Jo,hlen,aL,dJ];rw[aM,aM,aL,bH,Jp,dC];omega
 ·rw[ba,aM,aM,aL,bH,Jp];omega
 ·rw[hlen,Jo]
theorem OwnRows.cut(h:OwnRows base e k w v xs)(hi:i<=xs.length)(hg:v=.slice (some ⟨g,0,none⟩) xs.length cap):OwnRows base e k w (.slice (some ⟨g,0,none⟩) i cap) (xs.take i):=by
 obtain⟨Bu,cur,hv,h1,h2,h3,h4,h5,h6⟩:=h.open (g:=g) (by rw[hg];rfl);have hc:cap=Bu:=by rw[hg]at hv;cases hv;rfl
 have:=h.CA (i:=i) (ys:=[]) hi (fun y hy=>by cases hy) hg bF;simpa[World.setCells]using this
theorem OwnRows.behind{base k:Nat}{e:TypeId}{w:World}{v:Value}{xs:cU}(h:OwnRows base e k w v xs){o:Nat}{vs:aX}(ho:xs.length*k<=o){g cap:Nat}
  (hg:v=.slice (some ⟨g,0,none⟩) xs.length cap)(hc:o+vs.length<=cap*k):OwnRows base e k (w.setCells g o vs) v xs:=by
 obtain⟨Bu,cur,hv,h1,h2,h3,h4,h5,h6⟩:=h.open (g:=g) (by rw[hg];rfl);rw[hg]at hv;cases hv;have hh:=pF vs o w cur h2 ab;refine⟨h.1,h.2.1,Or.inr ⟨g,cap,_,hg,h1,hh,h3,h4,bF,?_⟩⟩;have hA:xs.length*k<=(cur.toList.take o).length:=by rw[aL];simp;omega
 rw[cH];show List.take (xs.length*k) (List.take o cur.toList++(vs++List.drop (o+vs.length) cur.toList))=_;rw[List.take_append_of_le_length hA,ke,dJ ho,h6]
theorem OwnRows.there(h:OwnRows base e k w v xs)(hg:v=.slice (some ⟨g,0,none⟩) xs.length cap){o:Nat}(hn:o+n<=cap*k):w.there g o n:=by
 obtain⟨Bu,cur,hv,h1,h2,h3,h4,h5,h6⟩:=h.open (g:=g) (by rw[hg];rfl);rw[hg]at hv;cases hv;intro j hj;constructor
 ·simp only[World.cell?,h2];rw[Array.getElem?_eq_getElem ab];rfl
 ·simp[World.frozen?,h2]
theorem results_cell_tmp{P:Program}{fn:Func}{p q:Tmp}{ty:TypeId}(h:fn.results= #[.cell p ty,.tmp q])(tmps:bS)(w:World)(g:Nat)(t:TypeId)(cs:bS)(fr:Nat×Nat)(d:TypeDesc)
  (hp:tmps.getD p undef=.pointer (some ⟨g,0,none⟩))(hg:w.heap[g]?=some (.cells cs t fr))
  (hu:P.underlying ty=some d)(hd:(match d with| .struct _| .array _ _=>true|_=>false)=true)(hi:(P.info? ty).map (·.size)=some cs.size) :
  (results fn tmps).run P w=.ok (.tuple #[.agg cs,tmps.getD q undef]) w:=by
 have hp':tmps[p]?.getD undef=.pointer (some ⟨g,0,none⟩):=by simpa using hp
 simp[results,h,hp',asAddr,run_loadVar_row w g t ty cs fr d hg hu hd hi]
theorem kB(w:World)(y:aX)(t:TypeId):∀j u,y[j]?=some u->(w.alloc (.cells y.toArray t)).cell? ((⟨w.heap.size,0,none⟩:Addr).add j)=some u:=by
 intro j u hj;have ea:(Addr.add ⟨w.heap.size,0,none⟩ j)=⟨w.heap.size,j,none⟩:=by unfold Addr.add;split<;>simp_all
 rw[ea,World.cell?_alloc_mark];simpa using hj
abbrev fB := @Fr.setCells
def CH(n:UInt8):UInt8:=if n<10 then n+48 else n+87
def xL(l:aH):aH:=l.flatMap fun(c:UInt8)=>[CH (c >>> 4),CH (c &&& 15)]
theorem CI(l:aH):(xL l).length=2*l.length:=by
 unfold xL
 induction l with
 |nil=>rfl
 |cons c l ih=>simp at ih ⊢; omega
theorem SX(l m:aH):xL (l++m)=xL l++xL m:=by unfold xL;exact List.flatMap_append
theorem PJ(s:ai)(k:Nat)(hk:k<s.size):xL (s.data.toList.take (k+1))=xL (s.data.toList.take k)++[CH (s[k] >>> 4),CH (s[k] &&& 15)]:=by
 rw[ct,byte_at s k hk,SX];rfl
theorem Om:∀n (h:n<16),(⟨#[48,49,50,51,52,53,54,55,56,57,97,98,99,100,101,102]⟩:ai)[n]'h=CH n.toUInt8:=ag
theorem ak8(c:UInt8):(c.toNat/16).toUInt8=c >>> 4:=by
 apply iD.1;have:=c.toNat_lt;simp[UInt8.toNat_shiftRight,Nat.shiftRight_eq_div_pow];omega
theorem afn(c:UInt8):(c.toNat%16).toUInt8=c &&& 15:=by
 apply iD.1;have:=c.toNat_lt;have h:=Nat.and_two_pow_sub_one_eq_mod c.toNat 4;simp[UInt8.toNat_and]at h ⊢;omega
def abA(w:World)(s:ai)(i:Value)(wr:World):Prop :=
 ∃k:Nat,k<=s.size/\i=.int .i64 k/\EZ w.heap.size w.heap.size (xL (s.data.toList.take k)) wr/\Fr aW w wr/\w.heap.size<=wr.heap.size
theorem On(s:ai)(w:World)(hs:s.size<4398046511104) :
  aC 268 #[.string s] w fun e w'=>e=.returned (.string ⟨(xL s.data.toList).toArray⟩)/\Fr aW w w':=by
 go_enter func268,ntmps268;go_wp2;go_loopw[7] (abA w s) (fun i _=>s.size-(intOf i).toNat)
 case atStart=>exact⟨0,aS _,rfl,EZ.new w,(ae _ _).alloc _,aQ⟩
 case round =>
  obtain⟨k,hk,rfl,hb,hf,hz⟩:=hrel;by_cases fx:k<s.size
  ·have qp:(k:Int)<(s.size:Int):=ab;have hq1:0<=(s[k].toNat:Int)/16/\(s[k].toNat:Int)/16<16:=by have:=s[k].toNat_lt;omega
   have hlen:(xL (s.data.toList.take k)).length<=2*k:=by rw[CI,aL];omega
   go_wp2_with fail
   rw[Om,ak8];refine(jX _ _ _ _ wr hb ab hz).mono ?_;rintro e w1⟨rfl,sJ,dn⟩;have kI:=dn.size;go_wp2_with fail
   rw[Om,afn];refine(jX _ _ _ _ w1 sJ (by rw[aM];simp;omega) ab).mono ?_;rintro e w2⟨rfl,kh,dD⟩;have kS:=dD.size;have Ia:=O (PJ s k fx);rw[cH]at kh;have qg:EZ w.heap.size w.heap.size (xL (s.data.toList.take (k+1))) w2:=by rw[Ia.o];exact kh
   clear hb sJ kh;go_wp2;go_roundw
   case rel=>exact⟨k+1,ab,bf,qg,(hf.lJ dn).lJ dD,ab⟩
   case measure=>simp[intOf];omega
  ·have qp:¬(k:Int)<(s.size:Int):=ab;have rM:k=s.size:=ab;have eX:=O (show s.data.toList.take k=s.data.toList from aD (by rw[rM];exact ay _));go_wp2_with fail
   refine(AW _ _ _ wr hb hz).mono ?_;rintro e w1⟨rfl,dn⟩;rw[eX.o];go_wp2;go_ret;exact⟨rfl,hf.lJ dn⟩
