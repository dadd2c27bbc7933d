/- Lemmas for the law's walk. -/
import Derived.Test.YtnckmcnffadjoaaGreatDoorPk1
import Derived.Shelf.Strings.SlTrimAscii
import Derived.Shelf.SlicesQ.Load
import Derived.Stop.LaidErr
import Derived.Lib.SmallJoins
import Derived.Lib.AppendIntMem
import Derived.Lib.Atoi
import Derived.Deep.MidRow
set_option maxRecDepth 100000
set_option maxHeartbeats 16000000
set_option linter.unusedSimpArgs false
namespace Go.Proofs.YtnckmcnffadjoaaGreatDoor
open Go.Proofs.Tryz
open Go.RowKit
variable {w w':World} {g j k i b n base cap:Nat} {l a:aH} {c x y:UInt8} {p:UInt8->Bool} {s:aj} {S:dF} {v:Value} {ss:List aj} {P:Program} {ops:Array Oper} {Q:Exit->Act->World->Prop} {e:TypeId} {xs:dh}
def Ih(c:UInt8):UInt8:=if 65<=c.toNat/\c.toNat<=90 then c+32 else c
def nD(l:aH):aH:=l.map Ih
theorem Nr(c:UInt8):(Ih c).toNat=if 65<=c.toNat/\c.toNat<=90 then c.toNat+32 else c.toNat:=by
 unfold Ih;split
 ·rename_i h;rw[UInt8.toNat_add];have:(32:UInt8).toNat=32:=rfl;rw[this];omega
 ·rfl
def ue(w:World)(g:Nat)(l:aH):Prop:=∃t:aZ,w.heap[g]?=some (.cells (uC l++t).toArray 5 ((uC l++t).length,(uC l++t).length+1))
theorem ue.cell(h:ue w g l)(hj:l[j]?=some c):w.cell? ⟨g,j,none⟩=some (.int .u8 (c.toNat:Int)):=by
 obtain⟨t,h⟩:=h;obtain⟨hl,he⟩:=List.getElem?_eq_some_iff.1 hj;simp only[World.cell?,h];simp[uC,List.getElem?_append_left,hl,he]
theorem ue.free(h:ue w g l)(hj:j<l.length):w.frozen? ⟨g,j,none⟩=false:=by
 obtain⟨t,h⟩:=h;simp only[World.frozen?,h];simp[uC];omega
theorem ue.set(h:ue w g l)(hj:j<l.length)(c:UInt8):ue (w.setCell ⟨g,j,none⟩ (.int .u8 (c.toNat:Int))) g (l.set j c):=by
 obtain⟨t,h⟩:=h;refine⟨t,?_⟩;simp only[World.setCell,Array.getElem?_modify,h];simp[uC,hj,List.map_set]
theorem ue.new(w:World)(s:aj)(cap:Nat):ue (w.drew.alloc (.cells (bytesRow s cap) 5 ((bytesRow s cap).size,(bytesRow s cap).size+1))) w.heap.size s.data.toList:=by
 refine⟨List.replicate (cap-s.size) (Value.int .u8 0),?_⟩;have e:bytesRow s cap=(uC s.data.toList++List.replicate (cap-s.size) (Value.int .u8 0)).toArray:=by
  apply Array.toList_inj.1;simp[bytesRow,uC]
 have h:=aC w.drew (.cells (bytesRow s cap) 5 ((bytesRow s cap).size,(bytesRow s cap).size+1));have h':(w.drew.alloc (.cells (bytesRow s cap) 5 ((bytesRow s cap).size,(bytesRow s cap).size+1))).heap[w.heap.size]?=some (.cells (bytesRow s cap) 5 ((bytesRow s cap).size,(bytesRow s cap).size+1)):=h;rw[h',e];simp
theorem ue.text(h:ue w g l)(n c:Nat)(hn:n=l.length) :
  (convert 177 9 (.slice (some ⟨g,0,none⟩) n c)).run prog w=.ok (.string ⟨l.toArray⟩) w:=by
 subst hn;refine run_convert_bytes_back (P:=prog) w 177 9 5 ⟨g,0,none⟩ c l underlying177 underlying5 underlying9 ?_;intro j hj;have ea:(Addr.add ⟨g,0,none⟩ j)=⟨g,j,none⟩:=by unfold Addr.add;split<;>simp_all
 rw[ea];exact h.cell (List.getElem?_eq_getElem hj)
def vz(l:aH)(k:Nat):aH:=nD (l.take k)++l.drop k
theorem A'(l:aH)(k:Nat):(vz l k).length=l.length:=by simp[vz,nD];omega
theorem Kd(h:l[k]?=some x):(vz l k)[k]?=some x:=by
 have hk:=(List.getElem?_eq_some_iff.1 h).1;unfold vz;rw[List.getElem?_append_right (by simp[nD];omega)];have e:k-(nD (l.take k)).length=0:=by simp[nD];omega
 rw[e,drop_at h];rfl
theorem De(h:l[k]?=some x):vz l (k+1)=(vz l k).set k (Ih x):=by
 have hk:=(List.getElem?_eq_some_iff.1 h).1;have el:(nD (l.take k)).length=k:=by simp[nD];omega
 unfold vz;rw[drop_at h,cj,h,List.set_append];rw[aq ab,show k-(nD (l.take k)).length=0 from ab];simp[nD]
theorem Df(h:l[k]?=some x)(hx:Ih x=x):vz l (k+1)=vz l k:=by
 rw[De h,hx];apply js;intro j;by_cases hj:k=j
 ·subst hj;rw[Kd h,List.getElem?_set_self (by rw[A'];exact(List.getElem?_eq_some_iff.1 h).1)]
 ·rw[List.getElem?_set_ne hj]
theorem Q5(l:aH)(k:Nat)(h:l.length<=k):vz l k=nD l:=by
 unfold vz;rw[aD h,cV h];simp
def adi(s:aj)(w:World)(i:Value)(wr:World):Prop :=
 ∃k:Nat,k<=s.size/\i=.int .i64 k/\ue wr w.heap.size (vz s.data.toList k)/\Fr aS w wr
theorem rD(s:aj)(w:World)(hs:s.size<17592186044416) :
  aB 131 #[.string s] w fun e w'=>e=.returned (.string ⟨(nD s.data.toList).toArray⟩)/\Fr aS w w':=by
 have kc:=fun(wx:World)=>run_bytes_of_string (P:=prog) wx 9 177 5 s underlying9 underlying177 underlying5;go_enter func131,ntmps131;go_wp2;go_loopw[10] (adi s w) (fun i _=>s.size-(intOf i).toNat)
 case atStart=>exact⟨0,aL _,rfl,ue.new w s _,((ae _ w).drew).alloc _⟩
 case round =>
  obtain⟨k,hk,rfl,ml,cP⟩:=hrel;by_cases fe:k<s.size
  ·have dS:=O (byte_at s k fe);generalize hx:s[k]=x at dS;have hc:=ml.cell (Kd dS.o);have hf:=ml.free (j:=k) (by rw[A'];simpa using fe);by_cases h1:65<=x.toNat
   ·by_cases h2:x.toNat<=90
    ·have re:=O (ml.set (j:=k) (by rw[A'];simpa using fe) (Ih x));have hsc:=O (De dS.o);have YS:=O (show((Ih x).toNat:Int)=(x.toNat:Int)+32 by rw[Nr,az ⟨h1,h2⟩];omega);go_wp2;go_roundw
     case rel=>exact⟨k+1,ab,bg,by rw[hsc.o];have h:=re.o;rw[YS.o]at h;exact h,cP.gN (p:=⟨w.heap.size,k,none⟩) (ay _) _⟩
     case measure=>simp[intOf];omega
    ·have pz:=O (Df dS.o (by unfold Ih;rw[aq ab]));go_wp2;go_roundw
     case rel=>exact⟨k+1,ab,bg,by rw[pz.o];exact ml,cP⟩
     case measure=>simp[intOf];omega
   ·have pz:=O (Df dS.o (by unfold Ih;rw[aq ab]));go_wp2;go_roundw
    case rel=>exact⟨k+1,ab,bg,by rw[pz.o];exact ml,cP⟩
    case measure=>simp[intOf];omega
  ·have abH:=ml;rw[Q5 s.data.toList k bH]at abH;have BR:=fun c=>abH.text s.size c (by simp[nD]);go_wp2;go_ret;exact⟨rfl,cP⟩
def dL(a b:aH):Bool:=nD a==nD b
theorem mH(a b:aj)(w:World)(ha:a.size<17592186044416)(hb:b.size<17592186044416) :
  aB 106 #[.string a,.string b] w fun e w'=>e=.returned (.bool (dL a.data.toList b.data.toList))/\Fr aS w w':=by
 go_enter func106,ntmps106;go_wp2_with fail
 refine(rD a w ha).mono ?_;rintro e w1⟨rfl,dk⟩;go_wp2_with fail
 refine(rD b w1 hb).mono ?_;rintro e w2⟨rfl,dE⟩;go_wp2;go_ret;exact⟨fF (by simp[dL]),dk.trans dE⟩
def cQ(p:UInt8->Bool)(l:aH)(i:Nat):Nat:=i+((l.drop i).takeWhile p).length
theorem oQ(h:l[i]?=some c)(hp:p c=true):cQ p l i=cQ p l (i+1):=by
 have hi:i<l.length:=by
  rcases eS i l.length with g|g
  ·exact g
  ·simp[List.getElem?_eq_none g]at h
 unfold cQ;have e:l.drop i=c :: l.drop (i+1):=by
  rw[cX hi];rw[List.getElem?_eq_getElem hi]at h;simp at h;rw[h]
 rw[e,List.takeWhile_cons_of_pos hp];simp;omega
theorem lR(h:∀c,l[i]?=some c->p c=false):cQ p l i=i:=by
 unfold cQ;rcases eS i l.length with g|g
 ·rw[cX g,List.takeWhile_cons_of_neg]
  ·rfl
  ·have:=h l[i] (List.getElem?_eq_getElem g);simp[this]
 ·simp[cV g]
theorem ij(h:i<=l.length):cQ p l i<=l.length:=by
 unfold cQ;have:=(List.takeWhile_prefix p (l:=l.drop i)).length_le;simp at this;omega
theorem lS:i<=cQ p l i:=by unfold cQ;omega
def pN(w:World)(b:Nat):Nat:=match w.cell? ⟨b,1,none⟩with|some (.int _ n)=>n.toNat|_=>0
theorem dz.pos(h:dz w b s i):pN w b=i:=by simp[pN,h.ib]
theorem Ik(h:dz w b s (k+1))(hk:k<s.size):s.size-pN w b<s.size-k:=by rw[h.pos];omega
def dN(c:UInt8):Bool:=c==32||c==9
theorem vA(n:Nat)(hn:n<256):((c.toNat:Int)==(n:Int))=(c==n.toUInt8):=by
 rw[fj,dX,dX, <-jd];have:(n.toUInt8).toNat=n:=bH;rw[this];omega
theorem mI(b:Nat)(s:aj)(i:Nat)(w:World)(h:dz w b s i)(hs:s.size<=maxLen)(hi:i<=s.size) :
  aB 163 #[.pointer (some ⟨b,0,none⟩)] w fun e w'=>e=.returned (.bool (decide (i<cQ dN s.data.toList i)))/\dz w' b s (cQ dN s.data.toList i)/\Fr (one b) w w':=by
 have h0:=h.cell0;have h1:=h.ib;unfold maxLen at hs;go_enter func163,ntmps163;go_wp2;clear h0 h1;go_loopw[] (fun wr=>∃k,i<=k/\k<=s.size/\dz wr b s k/\cQ dN s.data.toList k=cQ dN s.data.toList i/\Fr (one b) w wr) (fun wr=>s.size-pN wr b)
 case atStart=>exact⟨i,ay _,hi,h,rfl,ae _ _⟩
 case round =>
  obtain⟨k,Nd,fe,hc,qI,cP⟩:=hrel;have xn:=O qI;clear qI;have h0:=hc.cell0;have h1:=hc.ib;have hf:=hc.free 1;have qq:=O hc.pos;by_cases hk:k<s.size
  ·have hd:decide (k<s.size)=true:=by simp[hk]
   have dS:=O (byte_at s k hk);generalize hx:s[k]=x at dS;have go:dN x=true->cQ dN s.data.toList (k+1)=cQ dN s.data.toList i:=fun hb=>(oQ dS.o hb).symm.trans xn.o;have GO:=O go;clear go;cases e1:x==32
   ·have n1:((x.toNat:Int)==32)=false:=by rw[<-e1];exact vA 32 ag
    cases e2:x==9
    ·have n2:((x.toNat:Int)==9)=false:=by rw[<-e2];exact vA 9 ag
     have zr:=O (lR (p:=dN) (l:=s.data.toList) (i:=k) (fun c Ul=>by rw[dS.o]at Ul;cases Ul;simp[dN,e1,e2]));clear e1 e2;go_wp2;go_quiet (fail);go_wp2;go_ret;rw[<-xn.o,zr.o];exact⟨rfl,hc,by repeat(first|exact cP|apply dG)⟩
    ·have n2:((x.toNat:Int)==9)=true:=by rw[<-e2];exact vA 9 ag
     have hn:=O (GO.o (by simp[dN,e2]));clear e1 e2;go_wp2;go_quiet (fail);go_wp2;go_roundw
     case rel=>exact⟨k+1,ab,ab,(hc.setCell (j:=k+1)).drewN _,hn.o,cP.trans (mG wr b _ _)⟩
     case measure=>rw[qq.o];exact Ik (hc.setCell (j:=k+1)) hk
   ·have n1:((x.toNat:Int)==32)=true:=by rw[<-e1];exact vA 32 ag
    have hn:=O (GO.o (by simp[dN,e1]));clear e1;go_wp2;go_quiet (fail);go_wp2;go_roundw
    case rel=>exact⟨k+1,ab,ab,(hc.setCell (j:=k+1)).drewN _,hn.o,cP.trans (mG wr b _ _)⟩
    case measure=>rw[qq.o];exact Ik (hc.setCell (j:=k+1)) hk
  ·have hd:decide (k<s.size)=false:=bH;have zr:=O (lR (p:=dN) (l:=s.data.toList) (i:=k) (fun c Ul=>by rw[ud s k hk]at Ul;cases Ul));go_wp2;go_quiet (fail);go_wp2;go_ret;rw[<-xn.o,zr.o];exact⟨rfl,hc,by repeat(first|exact cP|apply dG)⟩
theorem wj(b:Nat)(s:aj)(i:Nat)(w:World)(h:dz w b s i)(hs:s.size<=maxLen)(hi:i<=s.size) :
  aB 166 #[.pointer (some ⟨b,0,none⟩)] w fun e w'=>e=.returned (.string (s.extract i (cQ gq s.data.toList i)))/\dz w' b s (cQ gq s.data.toList i)/\Fr (one b) w w':=by
 have h0:=h.cell0;have h1:=h.ib;unfold maxLen at hs;go_enter func166,ntmps166;go_wp2;clear h0 h1;go_loopw[] (fun wr=>∃k,i<=k/\k<=s.size/\dz wr b s k/\cQ gq s.data.toList k=cQ gq s.data.toList i/\Fr (one b) w wr) (fun wr=>s.size-pN wr b)
 case atStart=>exact⟨i,ay _,hi,h,rfl,ae _ _⟩
 case round =>
  obtain⟨k,Nd,fe,hc,qI,cP⟩:=hrel;have xn:=O qI;clear qI;have h0:=hc.cell0;have h1:=hc.ib;have hf:=hc.free 1;have qq:=O hc.pos;by_cases hk:k<s.size
  ·have hd:decide (k<s.size)=true:=by simp[hk]
   have dS:=O (byte_at s k hk);generalize hx:s[k]=x at dS;have go:gq x=true->cQ gq s.data.toList (k+1)=cQ gq s.data.toList i:=fun hb=>(oQ dS.o hb).symm.trans xn.o;have GO:=O go;clear go;cases e1:gq x
   ·have zr:=O (lR (p:=gq) (l:=s.data.toList) (i:=k) (fun c Ul=>by rw[dS.o]at Ul;cases Ul;exact e1));go_wp2;go_quiet ((go_at_call 152;exact ub (zq _ _)));go_wp2;go_quiet (fail);go_wp2;go_ret;rw[<-xn.o,zr.o];exact⟨rfl,hc,by repeat(first|exact cP|apply dG)⟩
   ·have hn:=O (GO.o e1);go_wp2;go_quiet ((go_at_call 152;exact ub (zq _ _)));go_wp2;go_roundw
    case rel=>exact⟨k+1,ab,ab,(hc.setCell (j:=k+1)).drewN _,hn.o,cP.trans (mG wr b _ _)⟩
    case measure=>rw[qq.o];exact Ik (hc.setCell (j:=k+1)) hk
  ·have hd:decide (k<s.size)=false:=bH;have zr:=O (lR (p:=gq) (l:=s.data.toList) (i:=k) (fun c Ul=>by rw[ud s k hk]at Ul;cases Ul));go_wp2;go_quiet (fail);go_wp2;go_quiet (fail);go_wp2;go_ret;rw[<-xn.o,zr.o];exact⟨rfl,hc,by repeat(first|exact cP|apply dG)⟩
theorem dropWhile_nil{α:Type}{p:α->Bool}:∀ {l:List α},l.dropWhile p=[]↔l.all p=true
 |[]=>aR
 |a :: l=>by
  rw[List.dropWhile_cons,List.all_cons];cases h:p a
  ·simp
  ·simp only[eo,jS];exact dropWhile_nil
theorem xt(l cs:aH):Lib.trimS l cs=[]↔l.all (cs.contains ·)=true:=by
 unfold Lib.trimS Lib.trimLeftS Lib.trimRightS;rw[dropWhile_nil];constructor
 ·intro h;have h2:l.reverse.dropWhile (cs.contains ·)=[]:=by
   cases hq:l.reverse.dropWhile (cs.contains ·)with
   |nil=>rfl
   |cons a r =>
    exfalso;have hh:=List.head?_dropWhile_not (p:=(cs.contains ·)) l.reverse;rw[hq]at h hh;simp only[List.head?_cons,List.reverse_cons,ki,List.all_cons,List.all_nil,Bool.and_true,cy]at h hh;rw[h.2]at hh;simp at hh
  rw[dropWhile_nil]at h2;simpa using h2
 ·intro h;rw[gH]at h ⊢;intro x hx;refine h x ?_;have h1:=(List.dropWhile_sublist (cs.contains ·) (l:=l.reverse)).subset (List.mem_reverse.1 hx);exact List.mem_reverse.1 h1
theorem hZ:s.data.toList=[]↔s.size=0:=by
 constructor
 ·intro h;have:s.data.toList.length=0:=by rw[h];rfl
  simpa using this
 ·intro h;apply ct;simpa using h
theorem sV(s cs:aj)(w:World)(hs:s.size<=9223372036854775807)(h2:2<=cs.size)(hcs:cs.size<4294967281)(NA:∀b∈cs.data.toList,b.toNat<128) :
  aB 128 #[.string s,.string cs] w fun e w'=>e=.returned (.string ⟨(Lib.trimS s.data.toList cs.data.toList).toArray⟩)/\Fr aS w w':=by
 by_cases h0:s.size=0
 ·refine(Any.strings_Trim_empty PR s cs w (Or.inl h0)).mono fun e w' ⟨he,hw⟩=>⟨?_,hw▸ae _ _⟩;have e0:=hZ.2 h0;rw[he,e0]
  congr 2
  rw[show Lib.trimS [] cs.data.toList=[]from rfl];cases s with
  |mk d=>simp at e0;rw[e0]
 ·refine(Any.strings_Trim_set PR (fun w=>af) af s cs w h2 ab hs hcs (fun j b hj=>NA b (bQ hj))).mono fun e w' ⟨he,q,hw⟩=>⟨he,?_⟩;rw[hw];exact(((ae aS w).alloc _).alloc _).drewN q
def dZ(k:Nat)(w:World)(v:Value)(xs:dh):Prop :=
 (∀x∈xs,x.length=k/\∀u∈x,u.oneCell'=true) /\
 ((∃a c,v=.slice a 0 c/\xs=[]/\(a=none->c=0)) \/
  ∃bk o c,v=.slice (some ⟨bk,o,none⟩) xs.length c/\xs.length<=c/\c<=maxLen/\bk<w.heap.size /\
   ∀(j:Nat) x,xs[j]?=some x->∀(i:Nat) u,x[i]?=some u->w.cell? ⟨bk,o+j*k+i,none⟩=some u)
section
variable {k : Nat} {w w' : World} {v : Value} {xs : List (List Value)}
theorem dZ.nil(k:Nat)(w:World):dZ k w (.slice none 0 0) []:=⟨aR,Or.inl ⟨_,_,rfl,rfl,fun _=>rfl⟩⟩
theorem dZ.form(h:dZ k w v xs):∃a c,v=.slice a xs.length c:=by
 rcases h.2 with ⟨a,c,hv,hs,_⟩|⟨bk,o,c,hv,_⟩
 ·exact⟨a,c,by rw[hv,hs];rfl⟩
 ·exact⟨_,_,hv⟩
theorem dZ.fr(h:dZ k w v xs)(hf:Fr S w w')(hn:∀b,v.ownBlock=some b->¬S b):dZ k w' v xs:=by
 refine⟨h.1,?_⟩;rcases h.2 with h|⟨bk,o,c,hv,h1,h2,h3,h4⟩
 ·exact Or.inl h
 ·refine Or.inr ⟨bk,o,c,hv,h1,h2,cK h3 hf.size,fun j x hj i u hi=>?_⟩;rw[hf.cell (p:=⟨bk,o+j*k+i,none⟩) h3 (hn bk (by rw[hv];rfl))];exact h4 j x hj i u hi
theorem dZ.fN(h:dZ k w v xs)(hf:Fr aS w w'):dZ k w' v xs:=h.fr hf (fun _ _ h=>h)
end
def OwnRows(base:Nat)(e:TypeId)(k:Nat)(w:World)(v:Value)(xs:dh):Prop :=
 (∀x∈xs,x.length=k/\∀u∈x,u.oneCell'=true)/\w.ownsRow base e k v xs.length xs.flatten
theorem rN:∀ {k:Nat} {xs:dh} (_:∀x∈xs,x.length=k) {j:Nat} {x:aZ} (_:xs[j]?=some x) {i:Nat} {u:Value} (_:x[i]?=some u),xs.flatten[j*k+i]?=some u
 |k,[],_,j,x,hj,i,u,hi=>by simp at hj
 |k,y :: ys,hl,0,x,hj,i,u,hi=>by
  simp at hj;subst hj;have:=(List.getElem?_eq_some_iff.1 hi).1;simp only[List.flatten_cons,ir,bz];rw[List.getElem?_append_left this];exact hi
 |k,y :: ys,hl,j+1,x,hj,i,u,hi=>by
  have hy:=hl y aR;have ih:=rN (k:=k) (xs:=ys) (fun z hz=>hl z (bN _ hz)) (j:=j) (by simpa using hj) hi;simp only[List.flatten_cons];rw[List.getElem?_append_right (by rw[hy,iu];omega),hy,show(j+1)*k+i-k=j*k+i from by rw[iu];omega];exact ih
theorem gJ:∀ {k:Nat} {xs:dh} (_:∀x∈xs,x.length=k),xs.flatten.length=xs.length*k
 |k,[],_=>aR
 |k,y :: ys,hl=>by
  have:=gJ (k:=k) (xs:=ys) (fun z hz=>hl z (bN _ hz));simp only[List.flatten_cons,aK,this,hl y aR,List.length_cons,iu];omega
section
variable {base k : Nat} {e : TypeId} {w w' : World} {v : Value} {xs : List (List Value)}
theorem OwnRows.nil(base:Nat)(e:TypeId)(k:Nat)(w:World):OwnRows base e k w (.slice none 0 0) []:=⟨aR,World.ownsRow_nil _ _ _ _⟩
theorem OwnRows.alloc(h:OwnRows base e k w v xs)(o:Obj):OwnRows base e k (w.alloc o) v xs:=⟨h.1,World.ownsRow.alloc h.2 o⟩
theorem OwnRows.drewN(h:OwnRows base e k w v xs):OwnRows base e k (w.drewN n) v xs:=h
theorem OwnRows.form(h:OwnRows base e k w v xs):∃a c,v=.slice a xs.length c:=by
 rcases h.2.2 with ⟨hv,hn⟩|⟨g,cap,cur,hv,_⟩
 ·exact⟨none,0,by rw[hv,hn]⟩
 ·exact⟨_,_,hv⟩
theorem OwnRows.up{b':Nat}(h:OwnRows b' e k w v xs)(hb:base<=b'):OwnRows base e k w v xs:=by
 obtain⟨h0,h1,h2⟩:=h;refine⟨h0,h1,?_⟩;rcases h2 with h2|⟨g,cap,cur,hv,hg,r⟩
 ·exact Or.inl h2
 ·exact Or.inr ⟨g,cap,cur,hv,aE hb hg,r⟩
theorem OwnRows.fr(h:OwnRows base e k w v xs)(hf:Fr S w w')(hn:∀b,v.ownBlock=some b->¬S b):OwnRows base e k w' v xs:=by
 obtain⟨h0,h1,h2⟩:=h;refine⟨h0,h1,?_⟩;rcases h2 with h2|⟨g,cap,cur,hv,hg,hh,r⟩
 ·exact Or.inl h2
 ·exact Or.inr ⟨g,cap,cur,hv,hg,hf.keep hh (hn g (by rw[hv];rfl)),r⟩
theorem OwnRows.block(h:OwnRows base e k w v xs):∀b,v.ownBlock=some b->base<=b:=by
 intro b hb;rcases h.2.2 with ⟨hv,_⟩|⟨g,cap,cur,hv,hg,_⟩
 ·rw[hv]at hb;simp[Value.ownBlock]at hb
 ·rw[hv]at hb;simp[Value.ownBlock]at hb;omega
theorem OwnRows.lt(h:OwnRows base e k w v xs):∀b,v.ownBlock=some b->b<w.heap.size:=by
 intro b hb;rcases h.2.2 with ⟨hv,_⟩|⟨g,cap,cur,hv,hg,hh,_⟩
 ·rw[hv]at hb;simp[Value.ownBlock]at hb
 ·rw[hv]at hb;simp[Value.ownBlock]at hb;subst hb;exact bq hh
theorem OwnRows.at(h:OwnRows base e k w v xs):dZ k w v xs:=by
 obtain⟨h0,h1,h2⟩:=h;refine⟨h0,?_⟩;rcases h2 with ⟨hv,hn⟩|⟨g,cap,cur,hv,hg,hh,h3,h4,h5,h6⟩
 ·exact Or.inl ⟨none,0,hv,ct hn,fun _=>rfl⟩
 ·refine Or.inr ⟨g,0,cap,hv,h3,h4,bq hh,fun j x hj i u hi=>?_⟩;have Gr:=h0 x (bQ hj);have Gs:j*k+i<xs.length*k:=by
   have hj':=(List.getElem?_eq_some_iff.1 hj).1;have hi':=(List.getElem?_eq_some_iff.1 hi).1;have:(j+1)*k<=xs.length*k:=bR _ hj';rw[iu]at this;omega
  have e1:(cur.toList.take (xs.length*k))[j*k+i]?=some u:=by rw[h6];exact rN (fun z hz=>(h0 z hz).1) hj hi
  rw[List.getElem?_take_of_lt Gs]at e1;have e2:cur[j*k+i]?=some u:=by simpa using e1
  simp[World.cell?,hh,e2]
end
theorem nY{P:Program}{ops:Array Oper}{rest:List Oper}{o:Oper}{a:Act}{Q:Exit->Act->World->Prop}{w:World}(zm:o.guard=none)(s x:Operand)(t e:TypeId)
  (ho:o.op=.call {callee:=.builtin .append,args:= #[s,x],argTypes:= #[t,t]})(k bytes:Nat)(z:Value)(ht:P.underlying t=some (.slice e))
  (anp:(P.info? e).map (fun i=>(i.zero,i.size,i.bytes))=some (some z,k,bytes))(hz:z.cells.size=k)(hk:0<k)(hb:bytes<=1024)
  (base:Nat)(v:Value)(l:dh)(hs:a.eval s=v)(cW:OwnRows base e k w v l)
  (ad:Nat)(c:Nat)(y:aZ)(hx:a.eval x=.slice (some ⟨ad,0,none⟩) 1 c)(Du:y.length=k)(Fs:∀u∈y,u.oneCell'=true)(hy:∀(i:Nat) u,y[i]?=some u->w.cell? ⟨ad,i,none⟩=some u)
  (hlen:l.length<68719476736)(iL:base<=w.heap.size)
  (h:∀v' w',OwnRows base e k w' v' (l++[y])->w.grownBy w' v.ownBlock->wpList P ops Q rest (a.put o.dst v') w'):wpList P ops Q (o :: rest) a w:=by
 obtain⟨i0,hi,pD,ll,lF⟩:=info_parts anp;refine wpList_append_own w zm s x t ho base e i0 z k bytes ht hi pD ll lF hz hk v l.length l.flatten hs cW.2 ⟨ad,0,none⟩ 1 c y hx (by rw[Du,Nat.one_mul]) ?_ Fs ?_ ?_ iL ?_
 ·intro j u hj;have ea:(Addr.add ⟨ad,0,none⟩ j)=⟨ad,j,none⟩:=by unfold Addr.add;split<;>simp_all
  rw[ea];exact hy j u hj
 ·unfold maxLen;omega
 ·have:(l.length+1)*bytes<=68719476736*1024:=Nat.mul_le_mul ab hb;omega
 ·intro v' w' h1 h2 _;refine h v' w' ⟨?_,?_⟩ h2
  ·intro q hq;rcases bL.1 hq with g|g
   ·exact cW.1 q g
   ·simp at g;subst g;exact⟨Du,Fs⟩
  ·simpa using h1
abbrev bh := @dZ.fN
abbrev dB := @OwnRows.nil
abbrev dU := @dZ.form
def abW:Go.Shelf.Ren:=⟨fun|167=>156|240=>157|276=>206|n=>n,fun|70=>176|9=>9|72=>179|37=>177|164=>275|20=>20|75=>56|80=>187|5=>5|79=>238|n=>n,fun|n=>n⟩
theorem adB:Go.Proofs.Lays.n167 prog abW:={
 mixed:=af
 f167:=func156.trans (ar some af)
 f240:=func157.trans (ar some af)
 f276:=func206.trans (ar some af)
 t0:=underlying0
 a0:=isAgg0
 z0:=sizeOf0
 v0:=zeroValue0
 t4:=underlying4
 a4:=isAgg4
 z4:=sizeOf4
 v4:=zeroValue4
 t5:=underlying5
 a5:=isAgg5
 z5:=sizeOf5
 v5:=zeroValue5
 t9:=underlying9
 a9:=isAgg9
 z9:=sizeOf9
 v9:=zeroValue9
 t20:=underlying20
 a20:=isAgg20
 z20:=sizeOf20
 v20:=zeroValue20
 t37:=underlying177
 a37:=isAgg177
 z37:=sizeOf177
 v37:=zeroValue177
 t70:=underlying176
 a70:=isAgg176
 z70:=sizeOf176
 v70:=zeroValue176
 t72:=underlying179
 a72:=isAgg179
 z72:=sizeOf179
 v72:=zeroValue179
 t75:=underlying56
 a75:=isAgg56
 z75:=sizeOf56
 v75:=zeroValue56
 t164:=underlying275
 a164:=isAgg275
 z164:=sizeOf275
 v164:=zeroValue275}
theorem Zh:Builder.Extra prog abW:={
 sizeBuilder:=af
 liesBuilder:=af
 t5:=underlying5
 a5:=isAgg5
 z5:=sizeOf5
 v5:=zeroValue5
 infoByte:=af
 cellsByte:=af
 sizeByte:=af
 neB5:=ag}
def Gw(B b:Nat)(l:aH)(w:World):Prop:=Lib.IsBuilder 179 5 B b (uC l) w
theorem kz(B b:Nat)(l:aH)(c:UInt8)(w:World)(h:Gw B b l w)(hlen:l.length+1<=140737488355328)(YU:B<=w.heap.size) :
  aB 156 #[.pointer (some ⟨b,0,none⟩),.int .u8 c.toNat] w fun e w'=>e=.returned .nilIface/\Gw B b (l++[c]) w'/\Below B w w' :=
 (Any.Builder_WriteByte adB Zh B b (uC l) c.toNat w h (by rw[yp];exact hlen) YU).mono fun e w' ⟨he,hb,hw⟩=>⟨he,by unfold Gw;rw[Kc];exact Or.inr hb,hw⟩
theorem B9(B b:Nat)(l:aH)(w:World)(h:Gw B b l w)(YU:B<=w.heap.size) :
  aB 105 #[.pointer (some ⟨b,0,none⟩)] w fun e w'=>e=.returned (.string ⟨l.toArray⟩)/\Below B w w' :=
 Builder_String_any B b l w h YU
theorem Fr.mj{a:World}(h:Fr S a w)(g:Below a.heap.size w w'):Fr S a w' :=
 h.step (Fr.PM (S:=fun k=>a.heap.size<=k) g (fun _ _ h=>h)) (fun k hk hT=>absurd hT ab)
theorem Gw.new(w:World):Gw w.heap.size w.heap.size [] (w.alloc (.cells #[.pointer none,.slice none 0 0] 179)) :=
 Or.inl ⟨ay _,_,aC w _,World.ownsRow_nil _ _ _ _,by simp[Value.ownBlock]⟩
theorem Lz{P:Program}{W:World}{x:String×DataW Unit}:∀ {laid:List (String×DataW Unit)},laidMet P laid W->x∈laid->∃r,laidMet P (x :: r) W
 |y :: l,h,hm=>by
  rcases bC.1 hm with rfl|hm
  ·exact⟨l,h⟩
  ·exact Lz (laidMet.tail h) hm
theorem LA{P:Program}{W:World}{laid:List (String×DataW Unit)}{name:String}{k:IntKind}{zs:List Int}{g:Nat}{t e:TypeId}{n:Nat}
  (h:laidMet P laid W)(hm:(name,Lib.tabData k zs)∈laid)
  (hg:P.globalNamed name=some g)(TT:(P.globals[g]?).map (·.type)=some t)(ht:P.underlying t=some (.array n e))(he:P.underlying e=some (.int k))(hce:P.cellsOf e=1)(hct:P.cellsOf t=n):Lib.TabIs P W name k zs:=by
 obtain⟨r,hr⟩:=Lz h hm;exact Lib.tabIs_of_head hg TT ht he hce hct hr
def wU(w:World):Prop:=Lib.TabIs prog w "internal/strconv.uint64pow10" .u64 Lib.pow10Tab
theorem wU.fr(h:wU w)(hf:Fr aS w w'):wU w':=Go.Joins.tab_stays (g:=5) af h hf.pJ (ay _)
theorem Ea{W:World}{laid:List (String×DataW Unit)}(h:laidMet prog laid W)(hm:("internal/strconv.uint64pow10",Lib.tabData .u64 Lib.pow10Tab)∈laid/\True):wU W :=
 LA h hm.1 (g:=5) af af underlying322 underlying301 af af
def fT(w:World)(v:Value)(ss:List aj):Prop :=
 (∃a c,v=.slice a 0 c/\ss=[]/\(a=none->c=0)) \/
 ∃bk o c,v=.slice (some ⟨bk,o,none⟩) ss.length c/\ss.length<=c/\c<=maxLen/\bk<w.heap.size/\∀(j:Nat) x,ss[j]?=some x->w.cell? ⟨bk,o+j,none⟩=some (.string x)
theorem fT.nil(w:World):fT w (.slice none 0 0) []:=Or.inl ⟨_,_,rfl,rfl,fun _=>rfl⟩
theorem fT.fr(h:fT w v ss)(hf:Fr S w w')(hn:∀k,v.ownBlock=some k->¬S k):fT w' v ss:=by
 rcases h with h|⟨bk,o,c,hv,h1,h2,h3,h4⟩
 ·exact Or.inl h
 ·refine Or.inr ⟨bk,o,c,hv,h1,h2,cK h3 hf.size,fun j x hj=>?_⟩;rw[hf.cell (p:=⟨bk,o+j,none⟩) h3 (hn bk (by rw[hv];rfl))];exact h4 j x hj
theorem fT.fN(h:fT w v ss)(hf:Fr aS w w'):fT w' v ss:=h.fr hf (fun _ _ h=>h)
theorem fT.form(h:fT w v ss):∃a c,v=.slice a ss.length c:=by
 rcases h with ⟨a,c,hv,hs,_⟩|⟨bk,o,c,hv,_⟩
 ·exact⟨a,c,by rw[hv,hs];rfl⟩
 ·exact⟨_,_,hv⟩
theorem zp:(prog.info? 9).map (fun i=>(i.zero,i.size,i.bytes))=some (some (.string ⟨#[]⟩),1,16):=af
def Strs(base:Nat)(w:World)(v:Value)(ss:List aj):Prop:=w.ownsRow base 9 1 v ss.length (ss.map Value.string)
section
variable {base : Nat} {w w' : World} {v : Value} {ss : List ByteArray}
theorem Strs.nil(base:Nat)(w:World):Strs base w (.slice none 0 0) []:=World.ownsRow_nil _ _ _ _
theorem Strs.alloc(h:Strs base w v ss)(o:Obj):Strs base (w.alloc o) v ss:=World.ownsRow.alloc h o
theorem Strs.drew(h:Strs base w v ss):Strs base w.drew v ss:=h
theorem Strs.form(h:Strs base w v ss):∃a c,v=.slice a ss.length c:=by
 rcases h.2 with ⟨hv,hn⟩|⟨g,cap,cur,hv,_⟩
 ·exact⟨none,0,by rw[hv,hn]⟩
 ·exact⟨_,_,hv⟩
theorem Strs.fr(h:Strs base w v ss)(hf:Fr S w w')(hS:∀k,S k->k<base):Strs base w' v ss:=by
 obtain⟨h1,h2⟩:=h;refine⟨h1,?_⟩;rcases h2 with h2|⟨g,cap,cur,hv,hg,hh,r⟩
 ·exact Or.inl h2
 ·exact Or.inr ⟨g,cap,cur,hv,hg,hf.keep hh (fun hs=>absurd (hS g hs) ab),r⟩
theorem Strs.block(h:Strs base w v ss):∀k,v.ownBlock=some k->base<=k:=by
 intro k hk;rcases h.2 with ⟨hv,_⟩|⟨g,cap,cur,hv,hg,_⟩
 ·rw[hv]at hk;simp[Value.ownBlock]at hk
 ·rw[hv]at hk;simp[Value.ownBlock]at hk;omega
theorem Strs.at(h:Strs base w v ss):fT w v ss:=by
 obtain⟨h1,h2⟩:=h;rcases h2 with ⟨hv,hn⟩|⟨g,cap,cur,hv,hg,hh,h3,h4,h5,h6⟩
 ·exact Or.inl ⟨none,0,hv,ct hn,fun _=>rfl⟩
 ·refine Or.inr ⟨g,0,cap,hv,h3,h4,bq hh,fun j x hj=>?_⟩;have hl:=(List.getElem?_eq_some_iff.1 hj).1;have e:(cur.toList.take (ss.length*1))[j]?=some (.string x):=by rw[h6];simp[hj]
  rw[List.getElem?_take_of_lt ab]at e;have e2:cur[j]?=some (.string x):=by simpa using e
  simp[World.cell?,hh,e2]
end
theorem nW{ops:Array Oper}{rest:List Oper}{o:Oper}{a:Act}{Q:Exit->Act->World->Prop}{w:World}(zm:o.guard=none)(s x:Operand)
  (ho:o.op=.call {callee:=.builtin .append,args:= #[s,x],argTypes:= #[110,110]})(base:Nat)(v:Value)(l:List aj)(hs:a.eval s=v)(cW:Strs base w v l)
  (ad:Addr)(c:Nat)(y:aj)(hx:a.eval x=.slice (some ad) 1 c)(hy:w.cell? ad=some (.string y))(hlen:l.length<4398046511104)(iL:base<=w.heap.size)
  (h:∀v' w',Strs base w' v' (l++[y])->w.grownBy w' v.ownBlock->wpList prog ops Q rest (a.put o.dst v') w'):wpList prog ops Q (o :: rest) a w:=by
 obtain⟨i0,hi,pD,ll,lF⟩:=info_parts zp;refine wpList_append_own w zm s x 110 ho base 9 i0 (.string ⟨#[]⟩) 1 16 underlying110 hi pD ll lF rfl ag v l.length (l.map Value.string) hs cW ad 1 c [.string y] hx rfl ?_ ?_ ?_ ?_ iL ?_
 ·intro j u hj
  match j,hj with
  |0,hj=>simp at hj;subst hj;simpa[Addr.add]using hy
 ·intro u hu;simp at hu;subst hu;rfl
 ·unfold maxLen;omega
 ·omega
 ·intro v' w' h1 h2 _;exact h v' w' (by unfold Strs;simpa using h1) h2
abbrev ld := @Strs.nil
abbrev iM := @Strs.alloc
def v8:aH->Option (aH×aH)
 |[]=>none
 |x :: r =>
  if x==34 then some ([],r)
  else if x==92 then
   match r with
   |[]=>none
   |y :: r'=>if nE y then(v8 r').map (fun p=>(y :: p.1,p.2))else none
  else if nE x then(v8 r).map (fun p=>(x :: p.1,p.2))else none
def tI(l:aH)(k:Nat)(a:aH):Option (aH×Nat):=(v8 (l.drop k)).map (fun p=>(a++p.1,l.length-p.2.length))
theorem Um(h:l[k]?=none):tI l k a=none:=by
 unfold tI;rw[Kb h];simp[v8]
theorem Q7(h:l[k]?=some 34):tI l k a=some (a,k+1):=by
 have hk:=(List.getElem?_eq_some_iff.1 h).1;unfold tI;rw[drop_at h,v8.eq_def];simp;omega
theorem Q8(h:l[k]?=some x)(h1:(x==34)=false)(h2:(x==92)=false)(h3:nE x=true):tI l k a=tI l (k+1) (a++[x]):=by
 unfold tI;rw[drop_at h];rw[v8.eq_def];simp only[h1,h2,h3,cL,fa,eo];cases v8 (l.drop (k+1))<;>simp
theorem Un(h:l[k]?=some x)(h1:(x==34)=false)(h2:(x==92)=false)(h3:nE x=false):tI l k a=none:=by
 unfold tI;rw[drop_at h];rw[v8.eq_def];simp only[h1,h2,h3,cL,fa,Option.map_none]
theorem Q9(h:l[k]?=some 92)(h1:l[k+1]?=none):tI l k a=none:=by
 unfold tI;rw[drop_at h,Kb h1,v8.eq_def];simp
theorem Uo(h:l[k]?=some 92)(h1:l[k+1]?=some y)(h3:nE y=true):tI l k a=tI l (k+2) (a++[y]):=by
 unfold tI;rw[drop_at h,drop_at h1];rw[v8.eq_def];simp only[show((92:UInt8)==34)=false from rfl,show((92:UInt8)==92)=true from rfl,h3,cL,fa,eo];cases v8 (l.drop (k+1+1))<;>simp
theorem Kv(h:l[k]?=some 92)(h1:l[k+1]?=some y)(h3:nE y=false):tI l k a=none:=by
 unfold tI;rw[drop_at h,drop_at h1];rw[v8.eq_def];simp only[show((92:UInt8)==34)=false from rfl,show((92:UInt8)==92)=true from rfl,h3,cL,fa,eo,Option.map_none]
def gR(l:aH)(i:Nat):Option (aH×Nat):=if l[i]?=some 34 then tI l (i+1) []else none
def pO(l:aH)(i:Nat):Nat:=match gR l i with|some p=>p.2|none=>i
def nX(l:aH)(i:Nat):aH:=match gR l i with|some p=>p.1|none=>[]
def ik(b:Nat)(s:aj)(i:Nat)(w:World)(e:Ending)(w':World):Prop :=
 e=.returned (.tuple #[.string ⟨(nX s.data.toList i).toArray⟩,.bool (gR s.data.toList i).isSome])/\dz w' b s (pO s.data.toList i)/\Fr (one b) w w'
theorem ik.none(h:gR s.data.toList i=none)(hc:dz w' b s i)(hf:Fr (one b) w w') :
  ik b s i w (.returned (.tuple #[.string ⟨#[]⟩,.bool false])) w':=by
 refine⟨?_,?_,hf⟩
 ·simp[nX,h]
 ·simpa[pO,h]using hc
theorem ik.some(h:gR s.data.toList i=some (a,j))(hc:dz w' b s j)(hf:Fr (one b) w w') :
  ik b s i w (.returned (.tuple #[.string ⟨a.toArray⟩,.bool true])) w':=by
 refine⟨?_,?_,hf⟩
 ·simp[nX,h]
 ·simpa[pO,h]using hc
def aht(b:Nat)(s:aj)(i:Nat)(w:World)(v:Value)(wr:World):Prop :=
 ∃k a,k<=s.size/\a.length<=k/\dz wr b s k/\Bytes w.heap.size wr v a/\Fr (one b) w wr/\gR s.data.toList i=tI s.data.toList k a
theorem Up{b i k j:Nat}{s:aj}{w wr wx w2:World}{v v':Value}{a l:aH}(sS:b<w.heap.size)(hcx:dz wx b s j)(Kw:Fr (one b) w wx)(hg:wx.grownBy w2 v.ownBlock)
  (cW:Bytes w.heap.size wr v a)(fG:Bytes w.heap.size w2 v' l)(hj:j<=s.size)(hl:l.length<=j)(vL:gR s.data.toList i=tI s.data.toList j l)(hkj:k<j)(qq:pN wr b=k) :
  aht b s i w v' w2/\s.size-pN w2 b<s.size-pN wr b:=by
 have hv:=cW.block;have sR:dz w2 b s j:=by
  unfold dz at hcx ⊢;rw[hg.block b (bq hcx) (fun e=>by have:=hv b e.symm;omega)];exact hcx
 refine⟨⟨j,l,hj,hl,sR,fG,Kw.grown hg (fun k hk hs=>by have:=hv k hk;omega),vL⟩,?_⟩;rw[qq,sR.pos];omega
theorem Nv(b:Nat)(s:aj)(i:Nat)(w:World)(h:dz w b s i)(hs:s.size<70368744177664) :
  aB 215 #[.pointer (some ⟨b,0,none⟩)] w (ik b s i w):=by
 have h0:=h.cell0;have h1:=h.ib;have hm:s.size<=maxLen:=ft;cases e1:kx s i 34
 ·have hq:=O (show gR s.data.toList i=none by unfold gR;rw[aq (by simpa[kx]using e1)]);go_enter func215,ntmps215;go_wp2_with fail
  refine(qp b s i 34 w h hm).mono ?_;rintro e w1⟨rfl,pK,dk⟩;rw[pM e1]at pK;rw[e1];clear e1 h0 h1;have c0:=pK.cell0;have c1:=pK.ib;have cf:=pK.free 1;have Y9:=pK.eN;go_wp2;refine wp_loop_rounds 1 ?_;rw[rounds_succ];go_wp2;go_quiet (fail);go_wp2;go_ret2;exact ik.none hq.o (ky (j:=i) (by repeat(first|exact Y9|apply jD|apply im))) (by repeat(first|exact dk|apply dG|apply jf))
 ·have hq:=O (show gR s.data.toList i=tI s.data.toList (i+1) []by unfold gR;rw[az (by simpa[kx]using e1)]);have Nw:i+1<=s.size:=by
   have:s.data.toList[i]?=some 34:=by simpa[kx]using e1
   have:=(List.getElem?_eq_some_iff.1 this).1;have h2:i<s.size:=by simpa using this
   omega
  go_enter func215,ntmps215;go_wp2_with fail
  refine(qp b s i 34 w h hm).mono ?_;rintro e w1⟨rfl,pK,dk⟩;rw[pL e1]at pK;rw[e1];clear e1 h0 h1;go_wp2;go_loopw[5] (aht b s i w) (fun _ wr=>s.size-pN wr b)
  case atStart=>exact⟨i+1,[],Nw,aR,pK,Bytes.nil _ _,dk,hq.o⟩
  case round =>
   rename_i v wr;obtain⟨k,a,hk,ha,hc,cW,cP,vL⟩:=hrel;have gO:=O vL;clear vL;have c0:=hc.cell0;have c1:=hc.ib;have cf:=hc.free 1;have Y9:=hc.eN;have qq:=O hc.pos;obtain⟨av,cv,hv⟩:=cW.form;subst hv;have hbB:b<w.heap.size:=h.lt;have BR:∀n u,(convert 177 9 (.slice av a.length cv)).run prog ((wr.drewN n).setCell ⟨b,1,none⟩ u)=.ok (.string ⟨a.toArray⟩) ((wr.drewN n).setCell ⟨b,1,none⟩ u):=fun n u =>
    Bytes.text (oP (p:=⟨b,1,none⟩) hbB (Bytes.drewN cW))
   have sS:b<w.heap.size:=h.lt;have iL:w.heap.size<=wr.heap.size:=cP.size;by_cases fe:k<s.size
   ·have hd:decide (k<s.size)=true:=by simp[fe]
    have dS:=O (byte_at s k fe);generalize hx:s[k]=x at dS;cases e1:x==34
    ·have n1:((x.toNat:Int)==34)=false:=by rw[<-e1];exact vA 34 ag
     cases e2:x==92
     ·have n2:((x.toNat:Int)==92)=false:=by rw[<-e2];exact vA 92 ag
      cases e3:nE x
      ·have fl:=O (show gR s.data.toList i=none by rw[gO.o,Un dS.o e1 e2 e3]);clear e1 e2;go_wp2;go_quiet (fail);go_wp2;go_quiet (fail);go_wp2;go_quiet (fail);go_wp2_with (go_at_call 158;refine(qo _ _).mono ?_;rintro e w' ⟨rfl,rfl⟩)
       go_ret2;exact ik.none fl.o (ky (j:=i) (by repeat(first|exact Y9|apply jD|apply im))) (by repeat(first|exact cP|apply dG|apply jf))
      ·have qt:=O (gO.o.trans (Q8 (a:=a) dS.o e1 e2 e3));clear e1 e2;go_wp2;go_quiet (fail);go_wp2;go_quiet (fail);go_wp2;go_quiet (fail)
       go_wp2_with (first|(at_builtin;refine ku rfl _ _ rfl w.heap.size (.slice av a.length cv) a rfl (by repeat(first|exact cW|apply gL|apply oP (p:=⟨b,1,none⟩) hbB|apply Bytes.drewN|apply Bytes.drew)) ⟨wr.heap.size,0,none⟩ 1 x rfl (by rw[World.cell?_alloc_at _ _ _ _ aR];rfl) ab bH ?_;intro v' w2 fG xT)|(go_at_call 158;refine(qo _ _).mono ?_;rintro e w' ⟨rfl,rfl⟩))
       exact Up sS (by repeat(first|exact ky (j:=k+1) (by repeat(first|exact Y9|apply jD|apply im))|apply dz.alloc|apply dz.drewN)) (by repeat(first|exact cP|apply dG|apply jf|apply bB)) xT cW fG ab bH qt.o (Nat.lt_succ_self k) qq.o
     ·have ank:x=92:=by simpa using e2
      clear e1 e2;subst ank;by_cases lZ:k+1<s.size
      ·have zt:decide ((k:Int)+1<(s.size:Int))=true:=bH;have adl:=O (byte_at s (k+1) lZ);generalize hy:s[k+1]=y at adl;cases e3:nE y
       ·have fl:=O (show gR s.data.toList i=none by rw[gO.o,Kv dS.o adl.o e3]);go_wp2;go_quiet (fail);go_wp2;go_quiet (fail);go_wp2;go_quiet (fail);go_wp2;go_quiet (fail);go_wp2_with (go_at_call 158;refine(qo _ _).mono ?_;rintro e w' ⟨rfl,rfl⟩)
        go_ret2;exact ik.none fl.o (ky (j:=i) (by repeat(first|exact Y9|apply jD|apply im))) (by repeat(first|exact cP|apply dG|apply jf|apply bB))
       ·have qt:=O (gO.o.trans (Uo (a:=a) dS.o adl.o e3));go_wp2;go_quiet (fail);go_wp2;go_quiet (fail);go_wp2;go_quiet (fail);go_wp2;go_quiet (fail)
        go_wp2_with (first|(at_builtin;refine ku rfl _ _ rfl w.heap.size (.slice av a.length cv) a rfl (by repeat(first|exact cW|apply gL|apply oP (p:=⟨b,1,none⟩) hbB|apply Bytes.drewN|apply Bytes.drew)) ⟨wr.heap.size,0,none⟩ 1 y rfl (by rw[World.cell?_alloc_at _ _ _ _ aR];rfl) ab bH ?_;intro v' w2 fG xT)|(go_at_call 158;refine(qo _ _).mono ?_;rintro e w' ⟨rfl,rfl⟩))
        exact Up sS (by repeat(first|exact ky (j:=k+1+1) (by repeat(first|exact Y9|apply jD|apply im))|apply dz.alloc|apply dz.drewN)) (by repeat(first|exact cP|apply dG|apply jf|apply bB)) xT cW fG ab bH qt.o ab qq.o
      ·have zt:decide ((k:Int)+1<(s.size:Int))=false:=bH;have fl:=O (show gR s.data.toList i=none by rw[gO.o,Q9 dS.o (ud s (k+1) lZ)]);go_wp2;go_quiet (fail);go_wp2;go_quiet (fail);go_wp2;go_quiet (fail);go_wp2;go_ret2;exact ik.none fl.o (ky (j:=i) (by repeat(first|exact Y9|apply jD|apply im))) (by repeat(first|exact cP|apply dG|apply jf|apply bB))
    ·have n1:((x.toNat:Int)==34)=true:=by rw[<-e1];exact vA 34 ag
     have fl:=O (show gR s.data.toList i=some (a,k+1)by rw[gO.o,Q7 (by rw[dS.o];simpa using e1)]);clear e1;go_wp2;go_quiet (fail);go_wp2;go_quiet (fail);go_wp2;go_ret2;exact ik.some fl.o (ky (j:=k+1) (by repeat(first|exact Y9|apply jD|apply im))) (by repeat(first|exact cP|apply dG|apply jf))
   ·have hd:decide (k<s.size)=false:=bH;have fl:=O (show gR s.data.toList i=none by rw[gO.o,Um (ud s k fe)]);go_wp2;go_quiet (fail);go_wp2;go_ret2;exact ik.none fl.o (ky (j:=i) (by repeat(first|exact Y9|apply jD|apply im))) (by repeat(first|exact cP|apply dG|apply jf))
def mL(c:UInt8):aH->aH×aH×Bool
 |[]=>([],[],false)
 |x :: l=>if x=c then([],l,true)else(x :: (mL c l).1,(mL c l).2.1,(mL c l).2.2)
theorem KD(c:UInt8):∀(a b:aH),c∉a->mL c (a++c :: b)=(a,b,true)
 |[],b,_=>by simp[mL]
 |x :: a,b,h=>by
  have hx:¬x=c:=fun e=>h (by rw[e];exact cM ..);rw[List.cons_append,mL,aq hx,KD c a b (fun e=>h (bN _ e))]
theorem Gl(c:UInt8):∀(a:aH),c∉a->mL c a=(a,[],false)
 |[],_=>rfl
 |x :: a,h=>by
  have hx:¬x=c:=fun e=>h (by rw[e];exact cM ..);rw[mL,aq hx,Gl c a (fun e=>h (bN _ e))]
theorem P3(c:UInt8):∀l:aH,c∉(mL c l).1/\(((mL c l).2.2=true/\l=(mL c l).1++c :: (mL c l).2.1)\/((mL c l).2.2=false/\l=(mL c l).1/\(mL c l).2.1=[]))
 |[]=>⟨by simp[mL],Or.inr ⟨rfl,rfl,rfl⟩⟩
 |x :: l=>by
  have ih:=P3 c l;unfold mL;split
  ·rename_i h;exact⟨aR,Or.inl ⟨rfl,by rw[h];rfl⟩⟩
  ·rename_i h;refine⟨fun e=>?_,?_⟩
   ·rcases bC.1 e with e|e
    ·exact h e.symm
    ·exact ih.1 e
   ·rcases ih.2 with ⟨h1,h2⟩|⟨h1,h2,h3⟩
    ·exact Or.inl ⟨h1,by rw[List.cons_append, <-h2]⟩
    ·exact Or.inr ⟨h1,by rw[<-h2],h3⟩
def KE(c:UInt8):Bool:=decide (97<=c.toNat/\c.toNat<=122)||decide (48<=c.toNat/\c.toNat<=57)||decide (c.toNat=45)
def Dr(l:aH):Bool:=!l.isEmpty&&!(l.head?==some 45)&&!(l.getLast?==some 45)&&l.all KE
def P4(l:aH):Bool:=decide (l.length<=60)&&(eh 46 l).all Dr
def Ds(s:Bool):Int:=if s then 443 else 80
structure adq where
 aG:Bool
 host:aH
 port:Int
def adr(o:adq):Bool:=P4 o.host&&(decide (1<=o.port)&&decide (o.port<=65535))
def ahB:aH:=[104,116,116,112,58,47,47]
def ads:aH:=[104,116,116,112,115,58,47,47]
def abM(s:Bool):aH:=if s then ads else ahB
def Gm(o:adq):aH:=abM o.aG++o.host++(if o.port=Ds o.aG then []else 58 :: Lib.itoa o.port)
def abX:Go.Shelf.Ren:=⟨fun|166=>98|240=>157|276=>206|n=>n,fun|70=>176|9=>9|72=>179|37=>177|164=>275|20=>20|75=>56|80=>187|5=>5|3=>3|n=>n,fun|n=>n⟩
theorem adC:Go.Proofs.Lays.n166 prog abX:={
 mixed:=af
 f166:=func98.trans (ar some af)
 f240:=func157.trans (ar some af)
 f276:=func206.trans (ar some af)
 t0:=underlying0
 a0:=isAgg0
 z0:=sizeOf0
 v0:=zeroValue0
 t3:=underlying3
 a3:=isAgg3
 z3:=sizeOf3
 v3:=zeroValue3
 t4:=underlying4
 a4:=isAgg4
 z4:=sizeOf4
 v4:=zeroValue4
 t9:=underlying9
 a9:=isAgg9
 z9:=sizeOf9
 v9:=zeroValue9
 t20:=underlying20
 a20:=isAgg20
 z20:=sizeOf20
 v20:=zeroValue20
 t37:=underlying177
 a37:=isAgg177
 z37:=sizeOf177
 v37:=zeroValue177
 t70:=underlying176
 a70:=isAgg176
 z70:=sizeOf176
 v70:=zeroValue176
 t72:=underlying179
 a72:=isAgg179
 z72:=sizeOf179
 v72:=zeroValue179
 t75:=underlying56
 a75:=isAgg56
 z75:=sizeOf56
 v75:=zeroValue56
 t164:=underlying275
 a164:=isAgg275
 z164:=sizeOf275
 v164:=zeroValue275}
theorem Zi:Builder.Extra prog abX:={
 sizeBuilder:=af
 liesBuilder:=af
 t5:=underlying5
 a5:=isAgg5
 z5:=sizeOf5
 v5:=zeroValue5
 infoByte:=af
 cellsByte:=af
 sizeByte:=af
 neB5:=ag}
def wG(B b:Nat)(l:aH)(w:World):Prop:=Lib.IsBuilderF 179 5 B b (uC l) w
abbrev ahK(b:Nat)(w w':World):Prop:=Lib.OthersKept 5 (some b) w w'
theorem IE(s:aj):Lib.strCells s=uC s.data.toList:=by
 unfold Lib.strCells uC;rfl
theorem Zj(a b:aH):uC (a++b)=uC a++uC b:=by unfold uC;simp
theorem ew(B b:Nat)(l:aH)(s:aj)(w:World)(h:wG B b l w)(hlen:l.length+s.size<=140737488355328)(YU:B<=w.heap.size) :
  aB 98 #[.pointer (some ⟨b,0,none⟩),.string s] w fun e w'=>e=.returned (.tuple #[.int .i64 s.size,.nilIface])/\wG B b (l++s.data.toList) w'/\Below B w w'/\ahK b w w':=by
 refine(Any.Builder_WriteString_k adC Zi B b (uC l) s w h (by rw[yp];exact hlen) YU).mono ?_;rintro e w'⟨he,hb,hw,ho⟩;refine⟨he,?_,hw,ho⟩;unfold wG;rw[Zj, <-IE];exact Or.inr hb
theorem wH(B b:Nat)(l:aH)(w:World)(h:wG B b l w) :
  aB 101 #[.pointer (some ⟨b,0,none⟩)] w fun e w'=>e=.returned (.int .i64 l.length)/\w=w':=by
 refine(Builder_Len_f B b (uC l) w h).mono ?_;rintro e w'⟨rfl,rfl⟩;exact⟨by rw[yp],rfl⟩
theorem kD{rest:List Oper}{a:Act}(o:Oper)(h:wpList P ops Q (o :: rest) a w):wpList P ops Q (o :: rest) a w:=h
theorem mX{a:Act}{K:Act->World->Prop}{E:Prop}(o:Oper)(h:if Region.wanted o (yielded ops a.tmps)=true then Oper.wp P o a w K Q else E):if Region.wanted o (yielded ops a.tmps)=true then Oper.wp P o a w K Q else E:=h
theorem Bh{P:Program}{ops:Array Oper}{a:Act}{w:World}{K:Act->World->Prop}{Q:Exit->Act->World->Prop}{E:Prop}{o:Oper}(zm:o.guard=none)(f:FuncId)(args:bT)(adE:(execOp a.eval o).run P w=.ok (.enter f args) w){UL:Ending->World->Prop}(hc:Calls P f args w UL)
  (h:∀e w',UL e w'->∃v,e=.returned v/\K (a.put o.dst v) w'):if Region.wanted o (yielded ops a.tmps)=true then Oper.wp P o a w K Q else E:=by
 have hw:Region.wanted o (yielded ops a.tmps)=true:=by simp[Region.wanted,zm]
 rw[az hw];unfold Oper.wp;rw[adE,Oper.upon_enter];refine hc.mono fun e w' hh=>?_;obtain⟨v,rfl,hk⟩:=h e w' hh;exact hk
theorem zI(w:World)(old cells:bT)(t:TypeId):(w.alloc (.cells old t)).setRow w.heap.size cells=w.alloc (.cells cells t):=by
 unfold World.setRow World.alloc
 congr 1
 apply Array.ext
 ·simp
 ·intro k h1 h2;simp only[Array.getElem_modify];by_cases hk:w.heap.size=k
  ·subst hk;simp
  ·have:k<w.heap.size:=by simp at h2;omega
   simp[hk,Array.getElem_push,this]
theorem pX{P:Program}{ops:Array Oper}{rest:List Oper}{o:Oper}{a:Act}{w:World}{Q:Exit->Act->World->Prop}(zm:o.guard=none)(ty:TypeId)(x y:Operand)(ho:o.op=.store ty x y)(old:bT)
  (cells:bT)(hx:a.eval x=.pointer (some ⟨w.heap.size,0,none⟩))(hy:a.eval y=.agg cells)
  (hi:(P.info? ty).map (·.size)=some cells.size)(hold:old.size=cells.size)(h1:cells.all (·.oneCell')=true)
  (h:wpList P ops Q rest (a.put o.dst undef) (w.alloc (.cells cells ty))):wpList P ops Q (o :: rest) a (w.alloc (.cells old ty)):=by
 refine aF zm ty x y ho w.heap.size cells hx hy ty old (aC w _) hi hold h1 ?_;rw[zI];exact h
theorem run_storeCells_new(w:World)(t:TypeId)(old:bT)(x:aZ)(hold:old.size=x.length)(h1:∀u∈x,u.oneCell'=true) :
  Sem.run P (storeCells ⟨w.heap.size,0,none⟩ x 0) (w.alloc (.cells old t))=.ok () (w.alloc (.cells x.toArray t)):=by
 have h:=run_storeCells_from (P:=P) w.heap.size t x 0 old (w.alloc (.cells old t)) (aC w _) ab h1;rw[h,List.take_zero,List.nil_append,zI]
theorem cq{cur:bT}{t:TypeId}{f:Nat×Nat}(h:w.heap[b]?=some (.cells cur t f))(o:Nat)(v:Value):(w.setCell ⟨b,o,none⟩ v).heap[b]?=some (.cells (cur.setIfInBounds o v) t f):=by
 simp[World.setCell,Array.getElem?_modify,h]
theorem tL(hg:g≠b)(o:Nat)(v:Value):(w.setCell ⟨b,o,none⟩ v).heap[g]?=w.heap[g]?:=Below.heap_setCell _ _ _ _ hg
theorem qi{b:Nat}{t:TypeId}{f:Nat×Nat}:∀(vs:aZ) (o:Nat) (w:World) (cur:bT),w.heap[b]?=some (.cells cur t f)->o+vs.length<=cur.size ->
  (w.setCells b o vs).heap[b]?=some (.cells (cur.toList.take o++vs++cur.toList.drop (o+vs.length)).toArray t f)
 |[],o,w,cur,h,hl=>by
  rw[World.setCells,h];simp
 |v :: r,o,w,cur,h,hl=>by
  simp only[List.length_cons]at hl;rw[World.setCells,qi r (o+1) _ _ (cq h o v) bH]
  congr 3
  simp only[Array.toList_setIfInBounds,List.length_cons];have h1:(cur.toList.set o v).take (o+1)=cur.toList.take o++[v]:=by
   have sS:o<cur.toList.length:=bH;rw[cj,List.getElem?_set_self sS,gA (ay o)];rfl
  have h2:(cur.toList.set o v).drop (o+1+r.length)=cur.toList.drop (o+(r.length+1)):=by
   rw[gB ab]
   congr 1;omega
  rw[h1,h2];simp
theorem Fr.setCells{S:dF}{a w:World}(h:Fr S a w){b:Nat}(hb:b<a.heap.size->S b):∀(vs:aZ) (o:Nat),Fr S a (w.setCells b o vs):=by
 intro vs
 induction vs generalizing w with
 |nil=>intro o;exact h
 |cons v r ih=>intro o;exact ih (h.setCell (p:=⟨b,o,none⟩) hb v) (o+1)
theorem xX:∀(y:aZ) (i:Nat) (z:bT),i+y.length<=z.size->List.foldl (fun cs x=>cs.setIfInBounds x.snd x.fst) z (y.zipIdx i)=(z.toList.take i++y++z.toList.drop (i+y.length)).toArray
 |[],i,z,_=>aR
 |v :: r,i,z,hl=>by
  simp only[List.length_cons]at hl;rw[List.zipIdx_cons,List.foldl_cons,xX r (i+1) _ bH]
  congr 1
  simp only[Array.toList_setIfInBounds,List.length_cons];have h1:(z.toList.set i v).take (i+1)=z.toList.take i++[v]:=by
   have sS:i<z.toList.length:=bH;rw[cj,List.getElem?_set_self sS,gA (ay i)];rfl
  have h2:(z.toList.set i v).drop (i+1+r.length)=z.toList.drop (i+(r.length+1)):=by
   rw[gB ab]
   congr 1;omega
  rw[h1,h2];simp
theorem wJ(y:aZ)(z:bT)(h:z.size=y.length):List.foldl (fun cs x=>cs.setIfInBounds x.snd x.fst) z y.zipIdx=y.toArray:=by
 rw[xX y 0 z ab,List.take_zero,List.nil_append,cV bH,dV]
theorem B_{k:Nat}:∀ {xs:dh} (_:∀x∈xs,x.length=k) {i:Nat} {y:aZ} (_:i<xs.length),(xs.set i y).flatten=xs.flatten.take (i*k)++y++xs.flatten.drop (i*k+k)
 |[],_,i,y,hi=>absurd hi (bV _)
 |x :: xs,hl,0,y,hi=>by
  have hx:=hl x aR;simp only[List.set_cons_zero,List.flatten_cons,ir,List.take_zero,List.nil_append,bz];rw[List.drop_append_of_le_length ab,cV ab];simp
 |x :: xs,hl,i+1,y,hi=>by
  have hx:=hl x aR;have ih:=B_ (k:=k) (xs:=xs) (fun z hz=>hl z (bN _ hz)) (i:=i) (y:=y) (by simpa using hi);have e1:(i+1)*k=x.length+i*k:=by rw[iu,hx];omega
  simp only[List.set_cons_succ,List.flatten_cons,ih,e1];rw[List.take_length_add_append,show x.length+i*k+k=x.length+(i*k+k)from ab,List.drop_length_add_append];simp
theorem zJ{k:Nat}:∀ {xs:dh} (_:∀x∈xs,x.length=k) (i:Nat),(xs.take i).flatten=xs.flatten.take (i*k)
 |[],_,i=>aR
 |x :: xs,hl,0=>aR
 |x :: xs,hl,i+1=>by
  have hx:=hl x aR;have ih:=zJ (k:=k) (xs:=xs) (fun z hz=>hl z (bN _ hz)) i;rw[List.take_succ_cons,List.flatten_cons,ih,List.flatten_cons,show(i+1)*k=x.length+i*k from by rw[iu,hx];omega,List.take_length_add_append]
theorem KX(L:aZ)(a n:Nat)(y:aZ)(ham:a+y.length<=n)(hn:n<=L.length):(L.take a++y++L.drop (a+y.length)).take n=(L.take n).take a++y++(L.take n).drop (a+y.length):=by
 have hA:(L.take a++y).length=a+y.length:=by rw[aK,aJ];omega
 rw[List.take_append,aD ab,hA,kH,dP ab,List.drop_take]
theorem IG(L:aZ)(a:Nat)(y:aZ)(ham:a+y.length<=L.length):(L.take a++y++L.drop (a+y.length)).take (a+y.length)=L.take a++y:=by
 have hA:(L.take a++y).length=a+y.length:=by rw[aK,aJ];omega
 rw[List.take_append_of_le_length ab,aD ab]
theorem OwnRows.open(h:OwnRows base e k w v xs)(hg:v.ownBlock=some g) :
  ∃cap cur,v=.slice (some ⟨g,0,none⟩) xs.length cap/\base<=g/\w.heap[g]?=some (.cells cur e (0,0))/\xs.length<=cap/\cap<=maxLen/\cur.size=cap*k/\cur.toList.take (xs.length*k)=xs.flatten:=by
 rcases h.2.2 with ⟨hv,_⟩|⟨g',cap,cur,hv,h1,h2,h3,h4,h5,h6⟩
 ·rw[hv]at hg;simp[Value.ownBlock]at hg
 ·rw[hv]at hg;simp[Value.ownBlock]at hg;subst hg;exact⟨cap,cur,hv,h1,h2,h3,h4,h5,h6⟩
theorem OwnRows.store(h:OwnRows base e k w v xs){y:aZ}(hi:i<xs.length)(hy:y.length=k)(Fs:∀u∈y,u.oneCell'=true)(hg:v.ownBlock=some g) :
  OwnRows base e k (w.setCells g (i*k) y) v (xs.set i y):=by
 obtain⟨cap,cur,hv,h1,h2,h3,h4,h5,h6⟩:=h.open hg;have Nd:i*k+k<=xs.length*k:=by have:(i+1)*k<=xs.length*k:=bR _ hi;rw[iu]at this;exact this
 have hck:xs.length*k<=cap*k:=bR _ h3;have hxs:∀x∈xs,x.length=k:=fun x hx=>(h.1 x hx).1;have hh:=qi y (i*k) w cur h2 ab;have hA:(cur.toList.take (i*k)).length=i*k:=by rw[aJ];simp;omega
 have KY:(xs.set i y).flatten=(cur.toList.take (i*k)++y++cur.toList.drop (i*k+y.length)).take (xs.length*k):=by
  rw[B_ hxs hi, <-h6,KX _ _ _ _ ab bH,hy]
 refine⟨?_,?_,Or.inr ⟨g,cap,_,by rw[en];exact hv,h1,hh,by rw[en];exact h3,h4,?_,?_⟩⟩
 ·intro x hx;rcases List.mem_or_eq_of_mem_set hx with hx|rfl
  ·exact h.1 x hx
  ·exact⟨hy,Fs⟩
 ·rw[KY,en,aJ,dP];simp;omega
 ·simp;omega
 ·rw[en,KY]
theorem OwnRows.DD{base k:Nat}{e:TypeId}{w:World}{v:Value}{xs:dh}(h:OwnRows base e k w v xs){i:Nat}{ys:dh}(hi:i<=xs.length)(hy:∀y∈ys,y.length=k/\∀u∈y,u.oneCell'=true){g cap:Nat}
  (hg:v=.slice (some ⟨g,0,none⟩) xs.length cap)(hc:i+ys.length<=cap):OwnRows base e k (w.setCells g (i*k) ys.flatten) (.slice (some ⟨g,0,none⟩) (i+ys.length) cap) (xs.take i++ys):=by
 obtain⟨CD,cur,hv,h1,h2,h3,h4,h5,h6⟩:=h.open (g:=g) (by rw[hg];rfl);rw[hg]at hv;cases hv;have KZ:ys.flatten.length=ys.length*k:=gJ (fun y hm=>(hy y hm).1);have xY:cur.toList.length=cur.size:=aR;have Nd:i*k+ys.length*k<=cap*k:=by rw[<-dI];exact bR _ hc
 have wa:i*k<=xs.length*k:=bR _ hi;have hh:=qi ys.flatten (i*k) w cur h2 ab;have hlen:(xs.take i++ys).length=i+ys.length:=by rw[aK,aJ];omega
 have hxs:∀x∈xs,x.length=k:=fun x hx=>(h.1 x hx).1;have KY:(xs.take i++ys).flatten=(cur.toList.take (i*k)++ys.flatten++cur.toList.drop (i*k+ys.flatten.length)).take ((i+ys.length)*k):=by
  rw[dI, <-KZ,IG _ _ _ (by rw[KZ];omega),ey,zJ hxs, <-h6,kH,dP wa]
 refine⟨?_,?_,Or.inr ⟨g,cap,_,by rw[hlen],h1,hh,by rw[hlen];exact hc,h4,?_,?_⟩⟩
 ·intro x hx;rcases bL.1 hx with hx|hx
  ·exact h.1 x (ed hx)
  ·exact hy x hx
 ·rw[KY,hlen,aJ,dP];rw[aK,aK,aJ,bM,KZ,dI];omega
 ·rw[aX,aK,aK,aJ,bM,KZ];omega
 ·rw[hlen,KY]
theorem OwnRows.cut(h:OwnRows base e k w v xs)(hi:i<=xs.length)(hg:v=.slice (some ⟨g,0,none⟩) xs.length cap):OwnRows base e k w (.slice (some ⟨g,0,none⟩) i cap) (xs.take i):=by
 obtain⟨CD,cur,hv,h1,h2,h3,h4,h5,h6⟩:=h.open (g:=g) (by rw[hg];rfl);have hc:cap=CD:=by rw[hg]at hv;cases hv;rfl
 have:=h.DD (i:=i) (ys:=[]) hi (fun y hy=>by cases hy) hg bH;simpa[World.setCells]using this
theorem OwnRows.behind{base k:Nat}{e:TypeId}{w:World}{v:Value}{xs:dh}(h:OwnRows base e k w v xs){o:Nat}{vs:aZ}(ho:xs.length*k<=o){g cap:Nat}
  (hg:v=.slice (some ⟨g,0,none⟩) xs.length cap)(hc:o+vs.length<=cap*k):OwnRows base e k (w.setCells g o vs) v xs:=by
 obtain⟨CD,cur,hv,h1,h2,h3,h4,h5,h6⟩:=h.open (g:=g) (by rw[hg];rfl);rw[hg]at hv;cases hv;have hh:=qi vs o w cur h2 ab;refine⟨h.1,h.2.1,Or.inr ⟨g,cap,_,hg,h1,hh,h3,h4,bH,?_⟩⟩;have hA:xs.length*k<=(cur.toList.take o).length:=by rw[aJ];simp;omega
 rw[cN];show List.take (xs.length*k) (List.take o cur.toList++(vs++List.drop (o+vs.length) cur.toList))=_;rw[List.take_append_of_le_length hA,kH,dP ho,h6]
theorem OwnRows.there(h:OwnRows base e k w v xs)(hg:v=.slice (some ⟨g,0,none⟩) xs.length cap){o:Nat}(hn:o+n<=cap*k):w.there g o n:=by
 obtain⟨CD,cur,hv,h1,h2,h3,h4,h5,h6⟩:=h.open (g:=g) (by rw[hg];rfl);rw[hg]at hv;cases hv;intro j hj;constructor
 ·simp only[World.cell?,h2];rw[Array.getElem?_eq_getElem ab];rfl
 ·simp[World.frozen?,h2]
theorem results_cell_tmp{P:Program}{fn:Func}{p q:Tmp}{ty:TypeId}(h:fn.results= #[.cell p ty,.tmp q])(tmps:bT)(w:World)(g:Nat)(t:TypeId)(cs:bT)(fr:Nat×Nat)(d:TypeDesc)
  (hp:tmps.getD p undef=.pointer (some ⟨g,0,none⟩))(hg:w.heap[g]?=some (.cells cs t fr))
  (hu:P.underlying ty=some d)(hd:(match d with| .struct _| .array _ _=>true|_=>false)=true)(hi:(P.info? ty).map (·.size)=some cs.size) :
  (results fn tmps).run P w=.ok (.tuple #[.agg cs,tmps.getD q undef]) w:=by
 have hp':tmps[p]?.getD undef=.pointer (some ⟨g,0,none⟩):=by simpa using hp
 simp[results,h,hp',asAddr,run_loadVar_row w g t ty cs fr d hg hu hd hi]
theorem kY(w:World)(y:aZ)(t:TypeId):∀j u,y[j]?=some u->(w.alloc (.cells y.toArray t)).cell? ((⟨w.heap.size,0,none⟩:Addr).add j)=some u:=by
 intro j u hj;have ea:(Addr.add ⟨w.heap.size,0,none⟩ j)=⟨w.heap.size,j,none⟩:=by unfold Addr.add;split<;>simp_all
 rw[ea,World.cell?_alloc_mark];simpa using hj
abbrev fL := @Fr.setCells
def DK(n:UInt8):UInt8:=if n<10 then n+48 else n+87
def yE(l:aH):aH:=l.flatMap fun(c:UInt8)=>[DK (c >>> 4),DK (c &&& 15)]
theorem DL(l:aH):(yE l).length=2*l.length:=by
 unfold yE
 induction l with
 |nil=>rfl
 |cons c l ih=>simp at ih ⊢; omega
theorem UY(l m:aH):yE (l++m)=yE l++yE m:=by unfold yE;exact List.flatMap_append
theorem Rv(s:aj)(k:Nat)(hk:k<s.size):yE (s.data.toList.take (k+1))=yE (s.data.toList.take k)++[DK (s[k] >>> 4),DK (s[k] &&& 15)]:=by
 rw[cj,byte_at s k hk,UY];rfl
theorem Qh:∀n (h:n<16),(⟨#[48,49,50,51,52,53,54,55,56,57,97,98,99,100,101,102]⟩:aj)[n]'h=DK n.toUInt8:=ag
theorem anG(c:UInt8):(c.toNat/16).toUInt8=c >>> 4:=by
 apply jd.1;have:=c.toNat_lt;simp[UInt8.toNat_shiftRight,Nat.shiftRight_eq_div_pow];omega
theorem ahS(c:UInt8):(c.toNat%16).toUInt8=c &&& 15:=by
 apply jd.1;have:=c.toNat_lt;have h:=Nat.and_two_pow_sub_one_eq_mod c.toNat 4;simp[UInt8.toNat_and]at h ⊢;omega
def adN(w:World)(s:aj)(i:Value)(wr:World):Prop :=
 ∃k:Nat,k<=s.size/\i=.int .i64 k/\Gw w.heap.size w.heap.size (yE (s.data.toList.take k)) wr/\Fr aS w wr/\w.heap.size<=wr.heap.size
theorem Qi(s:aj)(w:World)(hs:s.size<4398046511104) :
  aB 269 #[.string s] w fun e w'=>e=.returned (.string ⟨(yE s.data.toList).toArray⟩)/\Fr aS w w':=by
 go_enter func269,ntmps269;go_wp2;go_loopw[7] (adN w s) (fun i _=>s.size-(intOf i).toNat)
 case atStart=>exact⟨0,aL _,rfl,Gw.new w,(ae _ _).alloc _,aR⟩
 case round =>
  obtain⟨k,hk,rfl,hb,hf,hz⟩:=hrel;by_cases fe:k<s.size
  ·have pE:(k:Int)<(s.size:Int):=ab;have hq1:0<=(s[k].toNat:Int)/16/\(s[k].toNat:Int)/16<16:=by have:=s[k].toNat_lt;omega
   have hlen:(yE (s.data.toList.take k)).length<=2*k:=by rw[DL,aJ];omega
   go_wp2_with fail
   rw[Qh,anG];refine(kz _ _ _ _ wr hb ab hz).mono ?_;rintro e w1⟨rfl,qw,dk⟩;have ll:=dk.size;go_wp2_with fail
   rw[Qh,ahS];refine(kz _ _ _ _ w1 qw (by rw[aK];simp;omega) ab).mono ?_;rintro e w2⟨rfl,kJ,dE⟩;have lF:=dE.size;have JX:=O (Rv s k fe);rw[cN]at kJ;have qj:Gw w.heap.size w.heap.size (yE (s.data.toList.take (k+1))) w2:=by rw[JX.o];exact kJ
   clear hb qw kJ;go_wp2;go_roundw
   case rel=>exact⟨k+1,ab,bg,qj,(hf.mj dk).mj dE,ab⟩
   case measure=>simp[intOf];omega
  ·have pE:¬(k:Int)<(s.size:Int):=ab;have sH:k=s.size:=ab;have fl:=O (show s.data.toList.take k=s.data.toList from aD (by rw[sH];exact ay _));go_wp2_with fail
   refine(B9 _ _ _ wr hb hz).mono ?_;rintro e w1⟨rfl,dk⟩;rw[fl.o];go_wp2;go_ret;exact⟨rfl,hf.mj dk⟩
