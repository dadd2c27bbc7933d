/- Lemmas for the law's walk. -/
import Derived.Test.YtjndhcngnghpiaaGreatDoorPp1
import Derived.Shelf.Strings.SlTrimAscii
import Derived.Shelf.SlicesQ.Load
import Derived.Stop.LaidErr
import Derived.Lib.SmallJoins
import Derived.Lib.AppendIntMem
import Derived.Lib.Atoi
import Derived.Deep.MidRow
set_option maxRecDepth 100000
set_option maxHeartbeats 16000000
set_option linter.unusedSimpArgs false
namespace Go.Proofs.YtjndhcngnghpiaaGreatDoor
open Go.Proofs.Tryz
open Go.RowKit
variable {w w':World} {g j k i b n base cap:Nat} {l a:aK} {c x y:UInt8} {p:UInt8->Bool} {s:ai} {S:dB} {v:Value} {ss:List ai} {P:Program} {ops:Array Oper} {Q:Exit->Act->World->Prop} {e:TypeId} {xs:cX}
def FH(c:UInt8):UInt8:=if 65<=c.toNat/\c.toNat<=90 then c+32 else c
def mX(l:aK):aK:=l.map FH
theorem K_(c:UInt8):(FH c).toNat=if 65<=c.toNat/\c.toNat<=90 then c.toNat+32 else c.toNat:=by
 unfold FH;split
 ·rename_i h;rw[UInt8.toNat_add];have:(32:UInt8).toNat=32:=rfl;rw[this];omega
 ·rfl
def sV(w:World)(g:Nat)(l:aK):Prop:=∃t:a_,w.heap[g]?=some (.cells (tJ l++t).toArray 5 ((tJ l++t).length,(tJ l++t).length+1))
theorem sV.cell(h:sV w g l)(hj:l[j]?=some c):w.cell? ⟨g,j,none⟩=some (.int .u8 (c.toNat:Int)):=by
 obtain⟨t,h⟩:=h;obtain⟨hl,he⟩:=List.getElem?_eq_some_iff.1 hj;simp only[World.cell?,h];simp[tJ,List.getElem?_append_left,hl,he]
theorem sV.free(h:sV w g l)(hj:j<l.length):w.frozen? ⟨g,j,none⟩=false:=by
 obtain⟨t,h⟩:=h;simp only[World.frozen?,h];simp[tJ];omega
theorem sV.set(h:sV w g l)(hj:j<l.length)(c:UInt8):sV (w.setCell ⟨g,j,none⟩ (.int .u8 (c.toNat:Int))) g (l.set j c):=by
 obtain⟨t,h⟩:=h;refine⟨t,?_⟩;simp only[World.setCell,Array.getElem?_modify,h];simp[tJ,hj,List.map_set]
theorem sV.new(w:World)(s:ai)(cap:Nat):sV (w.drew.alloc (.cells (bytesRow s cap) 5 ((bytesRow s cap).size,(bytesRow s cap).size+1))) w.heap.size s.data.toList:=by
 refine⟨List.replicate (cap-s.size) (Value.int .u8 0),?_⟩;have e:bytesRow s cap=(tJ s.data.toList++List.replicate (cap-s.size) (Value.int .u8 0)).toArray:=by
  apply Array.toList_inj.1;simp[bytesRow,tJ]
 have h:=aC w.drew (.cells (bytesRow s cap) 5 ((bytesRow s cap).size,(bytesRow s cap).size+1));have h':(w.drew.alloc (.cells (bytesRow s cap) 5 ((bytesRow s cap).size,(bytesRow s cap).size+1))).heap[w.heap.size]?=some (.cells (bytesRow s cap) 5 ((bytesRow s cap).size,(bytesRow s cap).size+1)):=h;rw[h',e];simp
theorem sV.text(h:sV w g l)(n c:Nat)(hn:n=l.length) :
  (convert 187 9 (.slice (some ⟨g,0,none⟩) n c)).run prog w=.ok (.string ⟨l.toArray⟩) w:=by
 subst hn;refine run_convert_bytes_back (P:=prog) w 187 9 5 ⟨g,0,none⟩ c l underlying187 underlying5 underlying9 ?_;intro j hj;have ea:(Addr.add ⟨g,0,none⟩ j)=⟨g,j,none⟩:=by unfold Addr.add;split<;>simp_all
 rw[ea];exact h.cell (List.getElem?_eq_getElem hj)
def uz(l:aK)(k:Nat):aK:=mX (l.take k)++l.drop k
theorem zF(l:aK)(k:Nat):(uz l k).length=l.length:=by simp[uz,mX];omega
theorem Ht(h:l[k]?=some x):(uz l k)[k]?=some x:=by
 have hk:=(List.getElem?_eq_some_iff.1 h).1;unfold uz;rw[List.getElem?_append_right (by simp[mX];omega)];have e:k-(mX (l.take k)).length=0:=by simp[mX];omega
 rw[e,drop_at h];rfl
theorem BN(h:l[k]?=some x):uz l (k+1)=(uz l k).set k (FH x):=by
 have hk:=(List.getElem?_eq_some_iff.1 h).1;have el:(mX (l.take k)).length=k:=by simp[mX];omega
 unfold uz;rw[drop_at h,cD,h,List.set_append];rw[ay ab,show k-(mX (l.take k)).length=0 from ab];simp[mX]
theorem BO(h:l[k]?=some x)(hx:FH x=x):uz l (k+1)=uz l k:=by
 rw[BN h,hx];apply iW;intro j;by_cases hj:k=j
 ·subst hj;rw[Ht h,List.getElem?_set_self (by rw[zF];exact(List.getElem?_eq_some_iff.1 h).1)]
 ·rw[List.getElem?_set_ne hj]
theorem Oy(l:aK)(k:Nat)(h:l.length<=k):uz l k=mX l:=by
 unfold uz;rw[aG h,cO h];simp
def aaL(s:ai)(w:World)(i:Value)(wr:World):Prop :=
 ∃k:Nat,k<=s.size/\i=.int .i64 k/\sV wr w.heap.size (uz s.data.toList k)/\Fr aX w wr
theorem qM(s:ai)(w:World)(hs:s.size<17592186044416) :
  aE 137 #[.string s] w fun e w'=>e=.returned (.string ⟨(mX s.data.toList).toArray⟩)/\Fr aX w w':=by
 have kc:=fun(wx:World)=>run_bytes_of_string (P:=prog) wx 9 187 5 s underlying9 underlying187 underlying5;go_enter func137,ntmps137;go_wp2;go_loopw[10] (aaL s w) (fun i _=>s.size-(intOf i).toNat)
 case atStart=>exact⟨0,aW _,rfl,sV.new w s _,((ae _ w).drew).alloc _⟩
 case round =>
  obtain⟨k,hk,rfl,lJ,cR⟩:=hrel;by_cases fE:k<s.size
  ·have dT:=O (byte_at s k fE);generalize hx:s[k]=x at dT;have hc:=lJ.cell (Ht dT.o);have hf:=lJ.free (j:=k) (by rw[zF];simpa using fE);by_cases h1:65<=x.toNat
   ·by_cases h2:x.toNat<=90
    ·have qy:=O (lJ.set (j:=k) (by rw[zF];simpa using fE) (FH x));have hsc:=O (BN dT.o);have Wc:=O (show((FH x).toNat:Int)=(x.toNat:Int)+32 by rw[K_,aB ⟨h1,h2⟩];omega);go_wp2;go_roundw
     case rel=>exact⟨k+1,ab,bh,by rw[hsc.o];have h:=qy.o;rw[Wc.o]at h;exact h,cR.gI (p:=⟨w.heap.size,k,none⟩) (az _) _⟩
     case measure=>simp[intOf];omega
    ·have oO:=O (BO dT.o (by unfold FH;rw[ay ab]));go_wp2;go_roundw
     case rel=>exact⟨k+1,ab,bh,by rw[oO.o];exact lJ,cR⟩
     case measure=>simp[intOf];omega
   ·have oO:=O (BO dT.o (by unfold FH;rw[ay ab]));go_wp2;go_roundw
    case rel=>exact⟨k+1,ab,bh,by rw[oO.o];exact lJ,cR⟩
    case measure=>simp[intOf];omega
  ·have Zc:=lJ;rw[Oy s.data.toList k bH]at Zc;have Ap:=fun c=>Zc.text s.size c (by simp[mX]);go_wp2;go_ret;exact⟨rfl,cR⟩
def dH(a b:aK):Bool:=mX a==mX b
theorem lY(a b:ai)(w:World)(ha:a.size<17592186044416)(hb:b.size<17592186044416) :
  aE 113 #[.string a,.string b] w fun e w'=>e=.returned (.bool (dH a.data.toList b.data.toList))/\Fr aX w w':=by
 go_enter func113,ntmps113;go_wp2_with fail
 refine(qM a w ha).mono ?_;rintro e w1⟨rfl,dw⟩;go_wp2_with fail
 refine(qM b w1 hb).mono ?_;rintro e w2⟨rfl,dF⟩;go_wp2;go_ret;exact⟨fS (by simp[dH]),dw.trans dF⟩
def cM(p:UInt8->Bool)(l:aK)(i:Nat):Nat:=i+((l.drop i).takeWhile p).length
theorem od(h:l[i]?=some c)(hp:p c=true):cM p l i=cM p l (i+1):=by
 have hi:i<l.length:=by
  rcases fD i l.length with g|g
  ·exact g
  ·simp[List.getElem?_eq_none g]at h
 unfold cM;have e:l.drop i=c :: l.drop (i+1):=by
  rw[cP hi];rw[List.getElem?_eq_getElem hi]at h;simp at h;rw[h]
 rw[e,List.takeWhile_cons_of_pos hp];simp;omega
theorem lh(h:∀c,l[i]?=some c->p c=false):cM p l i=i:=by
 unfold cM;rcases fD i l.length with g|g
 ·rw[cP g,List.takeWhile_cons_of_neg]
  ·rfl
  ·have:=h l[i] (List.getElem?_eq_getElem g);simp[this]
 ·simp[cO g]
theorem gR(h:i<=l.length):cM p l i<=l.length:=by
 unfold cM;have:=(List.takeWhile_prefix p (l:=l.drop i)).length_le;simp at this;omega
theorem lj:i<=cM p l i:=by unfold cM;omega
def o9(w:World)(b:Nat):Nat:=match w.cell? ⟨b,1,none⟩with|some (.int _ n)=>n.toNat|_=>0
theorem dm.pos(h:dm w b s i):o9 w b=i:=by simp[o9,h.gU]
theorem FK(h:dm w b s (k+1))(hk:k<s.size):s.size-o9 w b<s.size-k:=by rw[h.pos];omega
def dI(c:UInt8):Bool:=c==32||c==9
theorem uA(n:Nat)(hn:n<256):((c.toNat:Int)==(n:Int))=(c==n.toUInt8):=by
 rw[eW,dP,dP, <-iE];have:(n.toUInt8).toNat=n:=bH;rw[this];omega
theorem lZ(b:Nat)(s:ai)(i:Nat)(w:World)(h:dm w b s i)(hs:s.size<=maxLen)(hi:i<=s.size) :
  aE 164 #[.pointer (some ⟨b,0,none⟩)] w fun e w'=>e=.returned (.bool (decide (i<cM dI s.data.toList i)))/\dm w' b s (cM dI s.data.toList i)/\Fr (one b) w w':=by
 have h0:=h.cell0;have h1:=h.gU;unfold maxLen at hs;go_enter func164,ntmps164;go_wp2;clear h0 h1;go_loopw[] (fun wr=>∃k,i<=k/\k<=s.size/\dm wr b s k/\cM dI s.data.toList k=cM dI s.data.toList i/\Fr (one b) w wr) (fun wr=>s.size-o9 wr b)
 case atStart=>exact⟨i,az _,hi,h,rfl,ae _ _⟩
 case round =>
  obtain⟨k,KP,fE,hc,pX,cR⟩:=hrel;have xm:=O pX;clear pX;have h0:=hc.cell0;have h1:=hc.gU;have hf:=hc.free 1;have pJ:=O hc.pos;by_cases hk:k<s.size
  ·have hd:decide (k<s.size)=true:=by simp[hk]
   have dT:=O (byte_at s k hk);generalize hx:s[k]=x at dT;have go:dI x=true->cM dI s.data.toList (k+1)=cM dI s.data.toList i:=fun hb=>(od dT.o hb).symm.trans xm.o;have GO:=O go;clear go;cases e1:x==32
   ·have n1:((x.toNat:Int)==32)=false:=by rw[<-e1];exact uA 32 ag
    cases e2:x==9
    ·have n2:((x.toNat:Int)==9)=false:=by rw[<-e2];exact uA 9 ag
     have yg:=O (lh (p:=dI) (l:=s.data.toList) (i:=k) (fun c RG=>by rw[dT.o]at RG;cases RG;simp[dI,e1,e2]));clear e1 e2;go_wp2;go_quiet (fail);go_wp2;go_ret;rw[<-xm.o,yg.o];exact⟨rfl,hc,by repeat(first|exact cR|apply dE)⟩
    ·have n2:((x.toNat:Int)==9)=true:=by rw[<-e2];exact uA 9 ag
     have hn:=O (GO.o (by simp[dI,e2]));clear e1 e2;go_wp2;go_quiet (fail);go_wp2;go_roundw
     case rel=>exact⟨k+1,ab,ab,(hc.setCell (j:=k+1)).drewN _,hn.o,cR.trans (lX wr b _ _)⟩
     case measure=>rw[pJ.o];exact FK (hc.setCell (j:=k+1)) hk
   ·have n1:((x.toNat:Int)==32)=true:=by rw[<-e1];exact uA 32 ag
    have hn:=O (GO.o (by simp[dI,e1]));clear e1;go_wp2;go_quiet (fail);go_wp2;go_roundw
    case rel=>exact⟨k+1,ab,ab,(hc.setCell (j:=k+1)).drewN _,hn.o,cR.trans (lX wr b _ _)⟩
    case measure=>rw[pJ.o];exact FK (hc.setCell (j:=k+1)) hk
  ·have hd:decide (k<s.size)=false:=bH;have yg:=O (lh (p:=dI) (l:=s.data.toList) (i:=k) (fun c RG=>by rw[sU s k hk]at RG;cases RG));go_wp2;go_quiet (fail);go_wp2;go_ret;rw[<-xm.o,yg.o];exact⟨rfl,hc,by repeat(first|exact cR|apply dE)⟩
theorem u_(b:Nat)(s:ai)(i:Nat)(w:World)(h:dm w b s i)(hs:s.size<=maxLen)(hi:i<=s.size) :
  aE 167 #[.pointer (some ⟨b,0,none⟩)] w fun e w'=>e=.returned (.string (s.extract i (cM fO s.data.toList i)))/\dm w' b s (cM fO s.data.toList i)/\Fr (one b) w w':=by
 have h0:=h.cell0;have h1:=h.gU;unfold maxLen at hs;go_enter func167,ntmps167;go_wp2;clear h0 h1;go_loopw[] (fun wr=>∃k,i<=k/\k<=s.size/\dm wr b s k/\cM fO s.data.toList k=cM fO s.data.toList i/\Fr (one b) w wr) (fun wr=>s.size-o9 wr b)
 case atStart=>exact⟨i,az _,hi,h,rfl,ae _ _⟩
 case round =>
  obtain⟨k,KP,fE,hc,pX,cR⟩:=hrel;have xm:=O pX;clear pX;have h0:=hc.cell0;have h1:=hc.gU;have hf:=hc.free 1;have pJ:=O hc.pos;by_cases hk:k<s.size
  ·have hd:decide (k<s.size)=true:=by simp[hk]
   have dT:=O (byte_at s k hk);generalize hx:s[k]=x at dT;have go:fO x=true->cM fO s.data.toList (k+1)=cM fO s.data.toList i:=fun hb=>(od dT.o hb).symm.trans xm.o;have GO:=O go;clear go;cases e1:fO x
   ·have yg:=O (lh (p:=fO) (l:=s.data.toList) (i:=k) (fun c RG=>by rw[dT.o]at RG;cases RG;exact e1));go_wp2;go_quiet ((go_at_call 153;exact sT (yf _ _)));go_wp2;go_quiet (fail);go_wp2;go_ret;rw[<-xm.o,yg.o];exact⟨rfl,hc,by repeat(first|exact cR|apply dE)⟩
   ·have hn:=O (GO.o e1);go_wp2;go_quiet ((go_at_call 153;exact sT (yf _ _)));go_wp2;go_roundw
    case rel=>exact⟨k+1,ab,ab,(hc.setCell (j:=k+1)).drewN _,hn.o,cR.trans (lX wr b _ _)⟩
    case measure=>rw[pJ.o];exact FK (hc.setCell (j:=k+1)) hk
  ·have hd:decide (k<s.size)=false:=bH;have yg:=O (lh (p:=fO) (l:=s.data.toList) (i:=k) (fun c RG=>by rw[sU s k hk]at RG;cases RG));go_wp2;go_quiet (fail);go_wp2;go_quiet (fail);go_wp2;go_ret;rw[<-xm.o,yg.o];exact⟨rfl,hc,by repeat(first|exact cR|apply dE)⟩
theorem dropWhile_nil{α:Type}{p:α->Bool}:∀ {l:List α},l.dropWhile p=[]↔l.all p=true
 |[]=>aS
 |a :: l=>by
  rw[List.dropWhile_cons,List.all_cons];cases h:p a
  ·simp
  ·simp only[d_,Bool.true_and];exact dropWhile_nil
theorem v8(l cs:aK):Lib.trimS l cs=[]↔l.all (cs.contains ·)=true:=by
 unfold Lib.trimS Lib.trimLeftS Lib.trimRightS;rw[dropWhile_nil];constructor
 ·intro h;have h2:l.reverse.dropWhile (cs.contains ·)=[]:=by
   cases hq:l.reverse.dropWhile (cs.contains ·)with
   |nil=>rfl
   |cons a r =>
    exfalso;have hh:=List.head?_dropWhile_not (p:=(cs.contains ·)) l.reverse;rw[hq]at h hh;simp only[List.head?_cons,List.reverse_cons,jO,List.all_cons,List.all_nil,Bool.and_true,cF]at h hh;rw[h.2]at hh;simp at hh
  rw[dropWhile_nil]at h2;simpa using h2
 ·intro h;rw[fY]at h ⊢;intro x hx;refine h x ?_;have h1:=(List.dropWhile_sublist (cs.contains ·) (l:=l.reverse)).subset (List.mem_reverse.1 hx);exact List.mem_reverse.1 h1
theorem gN:s.data.toList=[]↔s.size=0:=by
 constructor
 ·intro h;have:s.data.toList.length=0:=by rw[h];rfl
  simpa using this
 ·intro h;apply b_;simpa using h
theorem rT(s cs:ai)(w:World)(hs:s.size<=9223372036854775807)(h2:2<=cs.size)(hcs:cs.size<4294967281)(Lh:∀b∈cs.data.toList,b.toNat<128) :
  aE 134 #[.string s,.string cs] w fun e w'=>e=.returned (.string ⟨(Lib.trimS s.data.toList cs.data.toList).toArray⟩)/\Fr aX w w':=by
 by_cases h0:s.size=0
 ·refine(Any.strings_Trim_empty Nk s cs w (Or.inl h0)).mono fun e w' ⟨he,hw⟩=>⟨?_,hw▸ae _ _⟩;have e0:=gN.2 h0;rw[he,e0]
  congr 2
  rw[show Lib.trimS [] cs.data.toList=[]from rfl];cases s with
  |mk d=>simp at e0;rw[e0]
 ·refine(Any.strings_Trim_set Nk (fun w=>af) af s cs w h2 ab hs hcs (fun j b hj=>Lh b (cL hj))).mono fun e w' ⟨he,q,hw⟩=>⟨he,?_⟩;rw[hw];exact(((ae aX w).alloc _).alloc _).drewN q
def ez(k:Nat)(w:World)(v:Value)(xs:cX):Prop :=
 (∀x∈xs,x.length=k/\∀u∈x,u.oneCell'=true) /\
 ((∃a c,v=.slice a 0 c/\xs=[]/\(a=none->c=0)) \/
  ∃bk o c,v=.slice (some ⟨bk,o,none⟩) xs.length c/\xs.length<=c/\c<=maxLen/\bk<w.heap.size /\
   ∀(j:Nat) x,xs[j]?=some x->∀(i:Nat) u,x[i]?=some u->w.cell? ⟨bk,o+j*k+i,none⟩=some u)
section
variable {k : Nat} {w w' : World} {v : Value} {xs : List (List Value)}
theorem ez.nil(k:Nat)(w:World):ez k w (.slice none 0 0) []:=⟨aS,Or.inl ⟨_,_,rfl,rfl,fun _=>rfl⟩⟩
theorem ez.form(h:ez k w v xs):∃a c,v=.slice a xs.length c:=by
 rcases h.2 with ⟨a,c,hv,hs,_⟩|⟨bk,o,c,hv,_⟩
 ·exact⟨a,c,by rw[hv,hs];rfl⟩
 ·exact⟨_,_,hv⟩
theorem ez.fr(h:ez k w v xs)(hf:Fr S w w')(hn:∀b,v.ownBlock=some b->¬S b):ez k w' v xs:=by
 refine⟨h.1,?_⟩;rcases h.2 with h|⟨bk,o,c,hv,h1,h2,h3,h4⟩
 ·exact Or.inl h
 ·refine Or.inr ⟨bk,o,c,hv,h1,h2,cN h3 hf.size,fun j x hj i u hi=>?_⟩;rw[hf.cell (p:=⟨bk,o+j*k+i,none⟩) h3 (hn bk (by rw[hv];rfl))];exact h4 j x hj i u hi
theorem ez.i_(h:ez k w v xs)(hf:Fr aX w w'):ez k w' v xs:=h.fr hf (fun _ _ h=>h)
end
def OwnRows(base:Nat)(e:TypeId)(k:Nat)(w:World)(v:Value)(xs:cX):Prop :=
 (∀x∈xs,x.length=k/\∀u∈x,u.oneCell'=true)/\w.ownsRow base e k v xs.length xs.flatten
theorem qZ:∀ {k:Nat} {xs:cX} (_:∀x∈xs,x.length=k) {j:Nat} {x:a_} (_:xs[j]?=some x) {i:Nat} {u:Value} (_:x[i]?=some u),xs.flatten[j*k+i]?=some u
 |k,[],_,j,x,hj,i,u,hi=>by simp at hj
 |k,y :: ys,hl,0,x,hj,i,u,hi=>by
  simp at hj;subst hj;have:=(List.getElem?_eq_some_iff.1 hi).1;simp only[List.flatten_cons,gX,bw];rw[List.getElem?_append_left this];exact hi
 |k,y :: ys,hl,j+1,x,hj,i,u,hi=>by
  have hy:=hl y aS;have ih:=qZ (k:=k) (xs:=ys) (fun z hz=>hl z (bV _ hz)) (j:=j) (by simpa using hj) hi;simp only[List.flatten_cons];rw[List.getElem?_append_right (by rw[hy,gY];omega),hy,show(j+1)*k+i-k=j*k+i from by rw[gY];omega];exact ih
theorem f_:∀ {k:Nat} {xs:cX} (_:∀x∈xs,x.length=k),xs.flatten.length=xs.length*k
 |k,[],_=>aS
 |k,y :: ys,hl=>by
  have:=f_ (k:=k) (xs:=ys) (fun z hz=>hl z (bV _ hz));simp only[List.flatten_cons,aM,this,hl y aS,List.length_cons,gY];omega
section
variable {base k : Nat} {e : TypeId} {w w' : World} {v : Value} {xs : List (List Value)}
theorem OwnRows.nil(base:Nat)(e:TypeId)(k:Nat)(w:World):OwnRows base e k w (.slice none 0 0) []:=⟨aS,World.ownsRow_nil _ _ _ _⟩
theorem OwnRows.alloc(h:OwnRows base e k w v xs)(o:Obj):OwnRows base e k (w.alloc o) v xs:=⟨h.1,World.ownsRow.alloc h.2 o⟩
theorem OwnRows.drewN(h:OwnRows base e k w v xs):OwnRows base e k (w.drewN n) v xs:=h
theorem OwnRows.form(h:OwnRows base e k w v xs):∃a c,v=.slice a xs.length c:=by
 rcases h.2.2 with ⟨hv,hn⟩|⟨g,cap,cur,hv,_⟩
 ·exact⟨none,0,by rw[hv,hn]⟩
 ·exact⟨_,_,hv⟩
theorem OwnRows.up{b':Nat}(h:OwnRows b' e k w v xs)(hb:base<=b'):OwnRows base e k w v xs:=by
 obtain⟨h0,h1,h2⟩:=h;refine⟨h0,h1,?_⟩;rcases h2 with h2|⟨g,cap,cur,hv,hg,r⟩
 ·exact Or.inl h2
 ·exact Or.inr ⟨g,cap,cur,hv,aH hb hg,r⟩
theorem OwnRows.fr(h:OwnRows base e k w v xs)(hf:Fr S w w')(hn:∀b,v.ownBlock=some b->¬S b):OwnRows base e k w' v xs:=by
 obtain⟨h0,h1,h2⟩:=h;refine⟨h0,h1,?_⟩;rcases h2 with h2|⟨g,cap,cur,hv,hg,hh,r⟩
 ·exact Or.inl h2
 ·exact Or.inr ⟨g,cap,cur,hv,hg,hf.keep hh (hn g (by rw[hv];rfl)),r⟩
theorem OwnRows.block(h:OwnRows base e k w v xs):∀b,v.ownBlock=some b->base<=b:=by
 intro b hb;rcases h.2.2 with ⟨hv,_⟩|⟨g,cap,cur,hv,hg,_⟩
 ·rw[hv]at hb;simp[Value.ownBlock]at hb
 ·rw[hv]at hb;simp[Value.ownBlock]at hb;omega
theorem OwnRows.lt(h:OwnRows base e k w v xs):∀b,v.ownBlock=some b->b<w.heap.size:=by
 intro b hb;rcases h.2.2 with ⟨hv,_⟩|⟨g,cap,cur,hv,hg,hh,_⟩
 ·rw[hv]at hb;simp[Value.ownBlock]at hb
 ·rw[hv]at hb;simp[Value.ownBlock]at hb;subst hb;exact bg hh
theorem OwnRows.at(h:OwnRows base e k w v xs):ez k w v xs:=by
 obtain⟨h0,h1,h2⟩:=h;refine⟨h0,?_⟩;rcases h2 with ⟨hv,hn⟩|⟨g,cap,cur,hv,hg,hh,h3,h4,h5,h6⟩
 ·exact Or.inl ⟨none,0,hv,b_ hn,fun _=>rfl⟩
 ·refine Or.inr ⟨g,0,cap,hv,h3,h4,bg hh,fun j x hj i u hi=>?_⟩;have Ev:=h0 x (cL hj);have Hf:j*k+i<xs.length*k:=by
   have hj':=(List.getElem?_eq_some_iff.1 hj).1;have hi':=(List.getElem?_eq_some_iff.1 hi).1;have:(j+1)*k<=xs.length*k:=bN _ hj';rw[gY]at this;omega
  have e1:(cur.toList.take (xs.length*k))[j*k+i]?=some u:=by rw[h6];exact qZ (fun z hz=>(h0 z hz).1) hj hi
  rw[List.getElem?_take_of_lt Hf]at e1;have e2:cur[j*k+i]?=some u:=by simpa using e1
  simp[World.cell?,hh,e2]
end
theorem nA{P:Program}{ops:Array Oper}{rest:List Oper}{o:Oper}{a:Act}{Q:Exit->Act->World->Prop}{w:World}(yc:o.guard=none)(s x:Operand)(t e:TypeId)
  (ho:o.op=.call {callee:=.builtin .append,args:= #[s,x],argTypes:= #[t,t]})(k bytes:Nat)(z:Value)(ht:P.underlying t=some (.slice e))
  (akv:(P.info? e).map (fun i=>(i.zero,i.size,i.bytes))=some (some z,k,bytes))(hz:z.cells.size=k)(hk:0<k)(hb:bytes<=1024)
  (base:Nat)(v:Value)(l:cX)(hs:a.eval s=v)(cQ:OwnRows base e k w v l)
  (ad:Nat)(c:Nat)(y:a_)(hx:a.eval x=.slice (some ⟨ad,0,none⟩) 1 c)(Ew:y.length=k)(DK:∀u∈y,u.oneCell'=true)(hy:∀(i:Nat) u,y[i]?=some u->w.cell? ⟨ad,i,none⟩=some u)
  (hlen:l.length<68719476736)(im:base<=w.heap.size)
  (h:∀v' w',OwnRows base e k w' v' (l++[y])->w.grownBy w' v.ownBlock->wpList P ops Q rest (a.put o.dst v') w'):wpList P ops Q (o :: rest) a w:=by
 obtain⟨i0,hi,pA,kP,kR⟩:=info_parts akv;refine wpList_append_own w yc s x t ho base e i0 z k bytes ht hi pA kP kR hz hk v l.length l.flatten hs cQ.2 ⟨ad,0,none⟩ 1 c y hx (by rw[Ew,Nat.one_mul]) ?_ DK ?_ ?_ im ?_
 ·intro j u hj;have ea:(Addr.add ⟨ad,0,none⟩ j)=⟨ad,j,none⟩:=by unfold Addr.add;split<;>simp_all
  rw[ea];exact hy j u hj
 ·unfold maxLen;omega
 ·have:(l.length+1)*bytes<=68719476736*1024:=Nat.mul_le_mul ab hb;omega
 ·intro v' w' h1 h2 _;refine h v' w' ⟨?_,?_⟩ h2
  ·intro q hq;rcases bO.1 hq with g|g
   ·exact cQ.1 q g
   ·simp at g;subst g;exact⟨Ew,DK⟩
  ·simpa using h1
abbrev bM := @ez.i_
abbrev dp := @OwnRows.nil
abbrev dR := @ez.form
def Zn:Go.Shelf.Ren:=⟨fun|167=>157|240=>158|276=>205|n=>n,fun|70=>186|9=>9|72=>189|37=>187|164=>277|20=>20|75=>43|80=>197|5=>5|79=>242|n=>n,fun|n=>n⟩
theorem aa8:Go.Proofs.Lays.n167 prog Zn:={
 mixed:=af
 f167:=func157.trans (ar some af)
 f240:=func158.trans (ar some af)
 f276:=func205.trans (ar some af)
 t0:=underlying0
 a0:=isAgg0
 z0:=sizeOf0
 v0:=zeroValue0
 t4:=underlying4
 a4:=isAgg4
 z4:=sizeOf4
 v4:=zeroValue4
 t5:=underlying5
 a5:=isAgg5
 z5:=sizeOf5
 v5:=zeroValue5
 t9:=underlying9
 a9:=isAgg9
 z9:=sizeOf9
 v9:=zeroValue9
 t20:=underlying20
 a20:=isAgg20
 z20:=sizeOf20
 v20:=zeroValue20
 t37:=underlying187
 a37:=isAgg187
 z37:=sizeOf187
 v37:=zeroValue187
 t70:=underlying186
 a70:=isAgg186
 z70:=sizeOf186
 v70:=zeroValue186
 t72:=underlying189
 a72:=isAgg189
 z72:=sizeOf189
 v72:=zeroValue189
 t75:=underlying43
 a75:=isAgg43
 z75:=sizeOf43
 v75:=zeroValue43
 t164:=underlying277
 a164:=isAgg277
 z164:=sizeOf277
 v164:=zeroValue277}
theorem WC:Builder.Extra prog Zn:={
 sizeBuilder:=af
 liesBuilder:=af
 t5:=underlying5
 a5:=isAgg5
 z5:=sizeOf5
 v5:=zeroValue5
 infoByte:=af
 cellsByte:=af
 sizeByte:=af
 neB5:=ag}
def EB(B b:Nat)(l:aK)(w:World):Prop:=Lib.IsBuilder 189 5 B b (tJ l) w
theorem j9(B b:Nat)(l:aK)(c:UInt8)(w:World)(h:EB B b l w)(hlen:l.length+1<=140737488355328)(We:B<=w.heap.size) :
  aE 157 #[.pointer (some ⟨b,0,none⟩),.int .u8 c.toNat] w fun e w'=>e=.returned .nilIface/\EB B b (l++[c]) w'/\Below B w w' :=
 (Any.Builder_WriteByte aa8 WC B b (tJ l) c.toNat w h (by rw[xk];exact hlen) We).mono fun e w' ⟨he,hb,hw⟩=>⟨he,by unfold EB;rw[Hs];exact Or.inr hb,hw⟩
theorem AB(B b:Nat)(l:aK)(w:World)(h:EB B b l w)(We:B<=w.heap.size) :
  aE 112 #[.pointer (some ⟨b,0,none⟩)] w fun e w'=>e=.returned (.string ⟨l.toArray⟩)/\Below B w w' :=
 Builder_String_any B b l w h We
theorem Fr.lG{a:World}(h:Fr S a w)(g:Below a.heap.size w w'):Fr S a w' :=
 h.step (Fr.Ng (S:=fun k=>a.heap.size<=k) g (fun _ _ h=>h)) (fun k hk hT=>absurd hT ab)
theorem EB.new(w:World):EB w.heap.size w.heap.size [] (w.alloc (.cells #[.pointer none,.slice none 0 0] 189)) :=
 Or.inl ⟨az _,_,aC w _,World.ownsRow_nil _ _ _ _,by simp[Value.ownBlock]⟩
theorem Jp{P:Program}{W:World}{x:String×DataW Unit}:∀ {laid:List (String×DataW Unit)},laidMet P laid W->x∈laid->∃r,laidMet P (x :: r) W
 |y :: l,h,hm=>by
  rcases bE.1 hm with rfl|hm
  ·exact⟨l,h⟩
  ·exact Jp (laidMet.tail h) hm
theorem Jq{P:Program}{W:World}{laid:List (String×DataW Unit)}{name:String}{k:IntKind}{zs:List Int}{g:Nat}{t e:TypeId}{n:Nat}
  (h:laidMet P laid W)(hm:(name,Lib.tabData k zs)∈laid)
  (hg:P.globalNamed name=some g)(Re:(P.globals[g]?).map (·.type)=some t)(ht:P.underlying t=some (.array n e))(he:P.underlying e=some (.int k))(hce:P.cellsOf e=1)(hct:P.cellsOf t=n):Lib.TabIs P W name k zs:=by
 obtain⟨r,hr⟩:=Jp h hm;exact Lib.tabIs_of_head hg Re ht he hce hct hr
def wZ(w:World):Prop:=Lib.TabIs prog w "internal/strconv.uint64pow10" .u64 Lib.pow10Tab
theorem wZ.fr(h:wZ w)(hf:Fr aX w w'):wZ w':=Go.Joins.tab_stays (g:=5) af h hf.oZ (az _)
theorem LO{W:World}{laid:List (String×DataW Unit)}(h:laidMet prog laid W)(hm:("internal/strconv.uint64pow10",Lib.tabData .u64 Lib.pow10Tab)∈laid/\True):wZ W :=
 Jq h hm.1 (g:=5) af af underlying324 underlying303 af af
def ig(w:World)(v:Value)(ss:List ai):Prop :=
 (∃a c,v=.slice a 0 c/\ss=[]/\(a=none->c=0)) \/
 ∃bk o c,v=.slice (some ⟨bk,o,none⟩) ss.length c/\ss.length<=c/\c<=maxLen/\bk<w.heap.size/\∀(j:Nat) x,ss[j]?=some x->w.cell? ⟨bk,o+j,none⟩=some (.string x)
theorem ig.nil(w:World):ig w (.slice none 0 0) []:=Or.inl ⟨_,_,rfl,rfl,fun _=>rfl⟩
theorem ig.fr(h:ig w v ss)(hf:Fr S w w')(hn:∀k,v.ownBlock=some k->¬S k):ig w' v ss:=by
 rcases h with h|⟨bk,o,c,hv,h1,h2,h3,h4⟩
 ·exact Or.inl h
 ·refine Or.inr ⟨bk,o,c,hv,h1,h2,cN h3 hf.size,fun j x hj=>?_⟩;rw[hf.cell (p:=⟨bk,o+j,none⟩) h3 (hn bk (by rw[hv];rfl))];exact h4 j x hj
theorem ig.i_(h:ig w v ss)(hf:Fr aX w w'):ig w' v ss:=h.fr hf (fun _ _ h=>h)
theorem ig.form(h:ig w v ss):∃a c,v=.slice a ss.length c:=by
 rcases h with ⟨a,c,hv,hs,_⟩|⟨bk,o,c,hv,_⟩
 ·exact⟨a,c,by rw[hv,hs];rfl⟩
 ·exact⟨_,_,hv⟩
theorem ye:(prog.info? 9).map (fun i=>(i.zero,i.size,i.bytes))=some (some (.string ⟨#[]⟩),1,16):=af
def Strs(base:Nat)(w:World)(v:Value)(ss:List ai):Prop:=w.ownsRow base 9 1 v ss.length (ss.map Value.string)
section
variable {base : Nat} {w w' : World} {v : Value} {ss : List ByteArray}
theorem Strs.nil(base:Nat)(w:World):Strs base w (.slice none 0 0) []:=World.ownsRow_nil _ _ _ _
theorem Strs.alloc(h:Strs base w v ss)(o:Obj):Strs base (w.alloc o) v ss:=World.ownsRow.alloc h o
theorem Strs.drew(h:Strs base w v ss):Strs base w.drew v ss:=h
theorem Strs.form(h:Strs base w v ss):∃a c,v=.slice a ss.length c:=by
 rcases h.2 with ⟨hv,hn⟩|⟨g,cap,cur,hv,_⟩
 ·exact⟨none,0,by rw[hv,hn]⟩
 ·exact⟨_,_,hv⟩
theorem Strs.fr(h:Strs base w v ss)(hf:Fr S w w')(hS:∀k,S k->k<base):Strs base w' v ss:=by
 obtain⟨h1,h2⟩:=h;refine⟨h1,?_⟩;rcases h2 with h2|⟨g,cap,cur,hv,hg,hh,r⟩
 ·exact Or.inl h2
 ·exact Or.inr ⟨g,cap,cur,hv,hg,hf.keep hh (fun hs=>absurd (hS g hs) ab),r⟩
theorem Strs.block(h:Strs base w v ss):∀k,v.ownBlock=some k->base<=k:=by
 intro k hk;rcases h.2 with ⟨hv,_⟩|⟨g,cap,cur,hv,hg,_⟩
 ·rw[hv]at hk;simp[Value.ownBlock]at hk
 ·rw[hv]at hk;simp[Value.ownBlock]at hk;omega
theorem Strs.at(h:Strs base w v ss):ig w v ss:=by
 obtain⟨h1,h2⟩:=h;rcases h2 with ⟨hv,hn⟩|⟨g,cap,cur,hv,hg,hh,h3,h4,h5,h6⟩
 ·exact Or.inl ⟨none,0,hv,b_ hn,fun _=>rfl⟩
 ·refine Or.inr ⟨g,0,cap,hv,h3,h4,bg hh,fun j x hj=>?_⟩;have hl:=(List.getElem?_eq_some_iff.1 hj).1;have e:(cur.toList.take (ss.length*1))[j]?=some (.string x):=by rw[h6];simp[hj]
  rw[List.getElem?_take_of_lt ab]at e;have e2:cur[j]?=some (.string x):=by simpa using e
  simp[World.cell?,hh,e2]
end
theorem ny{ops:Array Oper}{rest:List Oper}{o:Oper}{a:Act}{Q:Exit->Act->World->Prop}{w:World}(yc:o.guard=none)(s x:Operand)
  (ho:o.op=.call {callee:=.builtin .append,args:= #[s,x],argTypes:= #[125,125]})(base:Nat)(v:Value)(l:List ai)(hs:a.eval s=v)(cQ:Strs base w v l)
  (ad:Addr)(c:Nat)(y:ai)(hx:a.eval x=.slice (some ad) 1 c)(hy:w.cell? ad=some (.string y))(hlen:l.length<4398046511104)(im:base<=w.heap.size)
  (h:∀v' w',Strs base w' v' (l++[y])->w.grownBy w' v.ownBlock->wpList prog ops Q rest (a.put o.dst v') w'):wpList prog ops Q (o :: rest) a w:=by
 obtain⟨i0,hi,pA,kP,kR⟩:=info_parts ye;refine wpList_append_own w yc s x 125 ho base 9 i0 (.string ⟨#[]⟩) 1 16 underlying125 hi pA kP kR rfl ag v l.length (l.map Value.string) hs cQ ad 1 c [.string y] hx rfl ?_ ?_ ?_ ?_ im ?_
 ·intro j u hj
  match j,hj with
  |0,hj=>simp at hj;subst hj;simpa[Addr.add]using hy
 ·intro u hu;simp at hu;subst hu;rfl
 ·unfold maxLen;omega
 ·omega
 ·intro v' w' h1 h2 _;exact h v' w' (by unfold Strs;simpa using h1) h2
abbrev kA := @Strs.nil
abbrev iq := @Strs.alloc
def uY:aK->Option (aK×aK)
 |[]=>none
 |x :: r =>
  if x==34 then some ([],r)
  else if x==92 then
   match r with
   |[]=>none
   |y :: r'=>if mY y then(uY r').map (fun p=>(y :: p.1,p.2))else none
  else if mY x then(uY r).map (fun p=>(x :: p.1,p.2))else none
def sx(l:aK)(k:Nat)(a:aK):Option (aK×Nat):=(uY (l.drop k)).map (fun p=>(a++p.1,l.length-p.2.length))
theorem RH(h:l[k]?=none):sx l k a=none:=by
 unfold sx;rw[Hr h];simp[uY]
theorem Oz(h:l[k]?=some 34):sx l k a=some (a,k+1):=by
 have hk:=(List.getElem?_eq_some_iff.1 h).1;unfold sx;rw[drop_at h,uY.eq_def];simp;omega
theorem OA(h:l[k]?=some x)(h1:(x==34)=false)(h2:(x==92)=false)(h3:mY x=true):sx l k a=sx l (k+1) (a++[x]):=by
 unfold sx;rw[drop_at h];rw[uY.eq_def];simp only[h1,h2,h3,cJ,eT,d_];cases uY (l.drop (k+1))<;>simp
theorem RI(h:l[k]?=some x)(h1:(x==34)=false)(h2:(x==92)=false)(h3:mY x=false):sx l k a=none:=by
 unfold sx;rw[drop_at h];rw[uY.eq_def];simp only[h1,h2,h3,cJ,eT,Option.map_none]
theorem OB(h:l[k]?=some 92)(h1:l[k+1]?=none):sx l k a=none:=by
 unfold sx;rw[drop_at h,Hr h1,uY.eq_def];simp
theorem RJ(h:l[k]?=some 92)(h1:l[k+1]?=some y)(h3:mY y=true):sx l k a=sx l (k+2) (a++[y]):=by
 unfold sx;rw[drop_at h,drop_at h1];rw[uY.eq_def];simp only[show((92:UInt8)==34)=false from rfl,show((92:UInt8)==92)=true from rfl,h3,cJ,eT,d_];cases uY (l.drop (k+1+1))<;>simp
theorem Ii(h:l[k]?=some 92)(h1:l[k+1]?=some y)(h3:mY y=false):sx l k a=none:=by
 unfold sx;rw[drop_at h,drop_at h1];rw[uY.eq_def];simp only[show((92:UInt8)==34)=false from rfl,show((92:UInt8)==92)=true from rfl,h3,cJ,eT,d_,Option.map_none]
def gD(l:aK)(i:Nat):Option (aK×Nat):=if l[i]?=some 34 then sx l (i+1) []else none
def o_(l:aK)(i:Nat):Nat:=match gD l i with|some p=>p.2|none=>i
def nz(l:aK)(i:Nat):aK:=match gD l i with|some p=>p.1|none=>[]
def gS(b:Nat)(s:ai)(i:Nat)(w:World)(e:Ending)(w':World):Prop :=
 e=.returned (.tuple #[.string ⟨(nz s.data.toList i).toArray⟩,.bool (gD s.data.toList i).isSome])/\dm w' b s (o_ s.data.toList i)/\Fr (one b) w w'
theorem gS.none(h:gD s.data.toList i=none)(hc:dm w' b s i)(hf:Fr (one b) w w') :
  gS b s i w (.returned (.tuple #[.string ⟨#[]⟩,.bool false])) w':=by
 refine⟨?_,?_,hf⟩
 ·simp[nz,h]
 ·simpa[o_,h]using hc
theorem gS.some(h:gD s.data.toList i=some (a,j))(hc:dm w' b s j)(hf:Fr (one b) w w') :
  gS b s i w (.returned (.tuple #[.string ⟨a.toArray⟩,.bool true])) w':=by
 refine⟨?_,?_,hf⟩
 ·simp[nz,h]
 ·simpa[o_,h]using hc
def aeD(b:Nat)(s:ai)(i:Nat)(w:World)(v:Value)(wr:World):Prop :=
 ∃k a,k<=s.size/\a.length<=k/\dm wr b s k/\Bytes w.heap.size wr v a/\Fr (one b) w wr/\gD s.data.toList i=sx s.data.toList k a
theorem RL{b i k j:Nat}{s:ai}{w wr wx w2:World}{v v':Value}{a l:aK}(tK:b<w.heap.size)(hcx:dm wx b s j)(Ij:Fr (one b) w wx)(hg:wx.grownBy w2 v.ownBlock)
  (cQ:Bytes w.heap.size wr v a)(fy:Bytes w.heap.size w2 v' l)(hj:j<=s.size)(hl:l.length<=j)(uJ:gD s.data.toList i=sx s.data.toList j l)(hkj:k<j)(pJ:o9 wr b=k) :
  aeD b s i w v' w2/\s.size-o9 w2 b<s.size-o9 wr b:=by
 have hv:=cQ.block;have rI:dm w2 b s j:=by
  unfold dm at hcx ⊢;rw[hg.block b (bg hcx) (fun e=>by have:=hv b e.symm;omega)];exact hcx
 refine⟨⟨j,l,hj,hl,rI,fy,Ij.grown hg (fun k hk hs=>by have:=hv k hk;omega),uJ⟩,?_⟩;rw[pJ,rI.pos];omega
theorem Lc(b:Nat)(s:ai)(i:Nat)(w:World)(h:dm w b s i)(hs:s.size<70368744177664) :
  aE 214 #[.pointer (some ⟨b,0,none⟩)] w (gS b s i w):=by
 have h0:=h.cell0;have h1:=h.gU;have hm:s.size<=maxLen:=ft;cases e1:j5 s i 34
 ·have hq:=O (show gD s.data.toList i=none by unfold gD;rw[ay (by simpa[j5]using e1)]);go_enter func214,ntmps214;go_wp2_with fail
  refine(pI b s i 34 w h hm).mono ?_;rintro e w1⟨rfl,oP,dw⟩;rw[o8 e1]at oP;rw[e1];clear e1 h0 h1;have c0:=oP.cell0;have c1:=oP.gU;have cf:=oP.free 1;have Wt:=oP.eK;go_wp2;refine wp_loop_rounds 1 ?_;rw[rounds_succ];go_wp2;go_quiet (fail);go_wp2;go_ret2;exact gS.none hq.o (j6 (j:=i) (by repeat(first|exact Wt|apply jl|apply gV))) (by repeat(first|exact dw|apply dE|apply iJ))
 ·have hq:=O (show gD s.data.toList i=sx s.data.toList (i+1) []by unfold gD;rw[aB (by simpa[j5]using e1)]);have RM:i+1<=s.size:=by
   have:s.data.toList[i]?=some 34:=by simpa[j5]using e1
   have:=(List.getElem?_eq_some_iff.1 this).1;have h2:i<s.size:=by simpa using this
   omega
  go_enter func214,ntmps214;go_wp2_with fail
  refine(pI b s i 34 w h hm).mono ?_;rintro e w1⟨rfl,oP,dw⟩;rw[o7 e1]at oP;rw[e1];clear e1 h0 h1;go_wp2;go_loopw[5] (aeD b s i w) (fun _ wr=>s.size-o9 wr b)
  case atStart=>exact⟨i+1,[],RM,aS,oP,Bytes.nil _ _,dw,hq.o⟩
  case round =>
   rename_i v wr;obtain⟨k,a,hk,ha,hc,cQ,cR,uJ⟩:=hrel;have gy:=O uJ;clear uJ;have c0:=hc.cell0;have c1:=hc.gU;have cf:=hc.free 1;have Wt:=hc.eK;have pJ:=O hc.pos;obtain⟨av,cv,hv⟩:=cQ.form;subst hv;have hbB:b<w.heap.size:=h.lt;have Ap:∀n u,(convert 187 9 (.slice av a.length cv)).run prog ((wr.drewN n).setCell ⟨b,1,none⟩ u)=.ok (.string ⟨a.toArray⟩) ((wr.drewN n).setCell ⟨b,1,none⟩ u):=fun n u =>
    Bytes.text (ob (p:=⟨b,1,none⟩) hbB (Bytes.drewN cQ))
   have tK:b<w.heap.size:=h.lt;have im:w.heap.size<=wr.heap.size:=cR.size;by_cases fE:k<s.size
   ·have hd:decide (k<s.size)=true:=by simp[fE]
    have dT:=O (byte_at s k fE);generalize hx:s[k]=x at dT;cases e1:x==34
    ·have n1:((x.toNat:Int)==34)=false:=by rw[<-e1];exact uA 34 ag
     cases e2:x==92
     ·have n2:((x.toNat:Int)==92)=false:=by rw[<-e2];exact uA 92 ag
      cases e3:mY x
      ·have fl:=O (show gD s.data.toList i=none by rw[gy.o,RI dT.o e1 e2 e3]);clear e1 e2;go_wp2;go_quiet (fail);go_wp2;go_quiet (fail);go_wp2;go_quiet (fail);go_wp2_with (go_at_call 159;refine(pH _ _).mono ?_;rintro e w' ⟨rfl,rfl⟩)
       go_ret2;exact gS.none fl.o (j6 (j:=i) (by repeat(first|exact Wt|apply jl|apply gV))) (by repeat(first|exact cR|apply dE|apply iJ))
      ·have p9:=O (gy.o.trans (OA (a:=a) dT.o e1 e2 e3));clear e1 e2;go_wp2;go_quiet (fail);go_wp2;go_quiet (fail);go_wp2;go_quiet (fail)
       go_wp2_with (first|(at_builtin;refine jZ rfl _ _ rfl w.heap.size (.slice av a.length cv) a rfl (by repeat(first|exact cQ|apply gl|apply ob (p:=⟨b,1,none⟩) hbB|apply Bytes.drewN|apply Bytes.drew)) ⟨wr.heap.size,0,none⟩ 1 x rfl (by rw[World.cell?_alloc_at _ _ _ _ aS];rfl) ab bH ?_;intro v' w2 fy yh)|(go_at_call 159;refine(pH _ _).mono ?_;rintro e w' ⟨rfl,rfl⟩))
       exact RL tK (by repeat(first|exact j6 (j:=k+1) (by repeat(first|exact Wt|apply jl|apply gV))|apply dm.alloc|apply dm.drewN)) (by repeat(first|exact cR|apply dE|apply iJ|apply bq)) yh cQ fy ab bH p9.o (Nat.lt_succ_self k) pJ.o
     ·have akp:x=92:=by simpa using e2
      clear e1 e2;subst akp;by_cases l_:k+1<s.size
      ·have AZ:decide ((k:Int)+1<(s.size:Int))=true:=bH;have aaO:=O (byte_at s (k+1) l_);generalize hy:s[k+1]=y at aaO;cases e3:mY y
       ·have fl:=O (show gD s.data.toList i=none by rw[gy.o,Ii dT.o aaO.o e3]);go_wp2;go_quiet (fail);go_wp2;go_quiet (fail);go_wp2;go_quiet (fail);go_wp2;go_quiet (fail);go_wp2_with (go_at_call 159;refine(pH _ _).mono ?_;rintro e w' ⟨rfl,rfl⟩)
        go_ret2;exact gS.none fl.o (j6 (j:=i) (by repeat(first|exact Wt|apply jl|apply gV))) (by repeat(first|exact cR|apply dE|apply iJ|apply bq))
       ·have p9:=O (gy.o.trans (RJ (a:=a) dT.o aaO.o e3));go_wp2;go_quiet (fail);go_wp2;go_quiet (fail);go_wp2;go_quiet (fail);go_wp2;go_quiet (fail)
        go_wp2_with (first|(at_builtin;refine jZ rfl _ _ rfl w.heap.size (.slice av a.length cv) a rfl (by repeat(first|exact cQ|apply gl|apply ob (p:=⟨b,1,none⟩) hbB|apply Bytes.drewN|apply Bytes.drew)) ⟨wr.heap.size,0,none⟩ 1 y rfl (by rw[World.cell?_alloc_at _ _ _ _ aS];rfl) ab bH ?_;intro v' w2 fy yh)|(go_at_call 159;refine(pH _ _).mono ?_;rintro e w' ⟨rfl,rfl⟩))
        exact RL tK (by repeat(first|exact j6 (j:=k+1+1) (by repeat(first|exact Wt|apply jl|apply gV))|apply dm.alloc|apply dm.drewN)) (by repeat(first|exact cR|apply dE|apply iJ|apply bq)) yh cQ fy ab bH p9.o ab pJ.o
      ·have AZ:decide ((k:Int)+1<(s.size:Int))=false:=bH;have fl:=O (show gD s.data.toList i=none by rw[gy.o,OB dT.o (sU s (k+1) l_)]);go_wp2;go_quiet (fail);go_wp2;go_quiet (fail);go_wp2;go_quiet (fail);go_wp2;go_ret2;exact gS.none fl.o (j6 (j:=i) (by repeat(first|exact Wt|apply jl|apply gV))) (by repeat(first|exact cR|apply dE|apply iJ|apply bq))
    ·have n1:((x.toNat:Int)==34)=true:=by rw[<-e1];exact uA 34 ag
     have fl:=O (show gD s.data.toList i=some (a,k+1)by rw[gy.o,Oz (by rw[dT.o];simpa using e1)]);clear e1;go_wp2;go_quiet (fail);go_wp2;go_quiet (fail);go_wp2;go_ret2;exact gS.some fl.o (j6 (j:=k+1) (by repeat(first|exact Wt|apply jl|apply gV))) (by repeat(first|exact cR|apply dE|apply iJ))
   ·have hd:decide (k<s.size)=false:=bH;have fl:=O (show gD s.data.toList i=none by rw[gy.o,RH (sU s k fE)]);go_wp2;go_quiet (fail);go_wp2;go_ret2;exact gS.none fl.o (j6 (j:=i) (by repeat(first|exact Wt|apply jl|apply gV))) (by repeat(first|exact cR|apply dE|apply iJ))
def mg(c:UInt8):aK->aK×aK×Bool
 |[]=>([],[],false)
 |x :: l=>if x=c then([],l,true)else(x :: (mg c l).1,(mg c l).2.1,(mg c l).2.2)
theorem Iv(c:UInt8):∀(a b:aK),c∉a->mg c (a++c :: b)=(a,b,true)
 |[],b,_=>by simp[mg]
 |x :: a,b,h=>by
  have hx:¬x=c:=fun e=>h (by rw[e];exact cY ..);rw[List.cons_append,mg,ay hx,Iv c a b (fun e=>h (bV _ e))]
theorem Ep(c:UInt8):∀(a:aK),c∉a->mg c a=(a,[],false)
 |[],_=>rfl
 |x :: a,h=>by
  have hx:¬x=c:=fun e=>h (by rw[e];exact cY ..);rw[mg,ay hx,Ep c a (fun e=>h (bV _ e))]
theorem Nv(c:UInt8):∀l:aK,c∉(mg c l).1/\(((mg c l).2.2=true/\l=(mg c l).1++c :: (mg c l).2.1)\/((mg c l).2.2=false/\l=(mg c l).1/\(mg c l).2.1=[]))
 |[]=>⟨by simp[mg],Or.inr ⟨rfl,rfl,rfl⟩⟩
 |x :: l=>by
  have ih:=Nv c l;unfold mg;split
  ·rename_i h;exact⟨aS,Or.inl ⟨rfl,by rw[h];rfl⟩⟩
  ·rename_i h;refine⟨fun e=>?_,?_⟩
   ·rcases bE.1 e with e|e
    ·exact h e.symm
    ·exact ih.1 e
   ·rcases ih.2 with ⟨h1,h2⟩|⟨h1,h2,h3⟩
    ·exact Or.inl ⟨h1,by rw[List.cons_append, <-h2]⟩
    ·exact Or.inr ⟨h1,by rw[<-h2],h3⟩
def Iw(c:UInt8):Bool:=decide (97<=c.toNat/\c.toNat<=122)||decide (48<=c.toNat/\c.toNat<=57)||decide (c.toNat=45)
def B4(l:aK):Bool:=!l.isEmpty&&!(l.head?==some 45)&&!(l.getLast?==some 45)&&l.all Iw
def Nw(l:aK):Bool:=decide (l.length<=60)&&(dY 46 l).all B4
def B6(s:Bool):Int:=if s then 443 else 80
structure aaT where
 aD:Bool
 host:aK
 port:Int
def aaU(o:aaT):Bool:=Nw o.host&&(decide (1<=o.port)&&decide (o.port<=65535))
def aeK:aK:=[104,116,116,112,58,47,47]
def aaV:aK:=[104,116,116,112,115,58,47,47]
def Zh(s:Bool):aK:=if s then aaV else aeK
def Er(o:aaT):aK:=Zh o.aD++o.host++(if o.port=B6 o.aD then []else 58 :: Lib.itoa o.port)
def Zo:Go.Shelf.Ren:=⟨fun|166=>105|240=>158|276=>205|n=>n,fun|70=>186|9=>9|72=>189|37=>187|164=>277|20=>20|75=>43|80=>197|5=>5|3=>3|n=>n,fun|n=>n⟩
theorem aa9:Go.Proofs.Lays.n166 prog Zo:={
 mixed:=af
 f166:=func105.trans (ar some af)
 f240:=func158.trans (ar some af)
 f276:=func205.trans (ar some af)
 t0:=underlying0
 a0:=isAgg0
 z0:=sizeOf0
 v0:=zeroValue0
 t3:=underlying3
 a3:=isAgg3
 z3:=sizeOf3
 v3:=zeroValue3
 t4:=underlying4
 a4:=isAgg4
 z4:=sizeOf4
 v4:=zeroValue4
 t9:=underlying9
 a9:=isAgg9
 z9:=sizeOf9
 v9:=zeroValue9
 t20:=underlying20
 a20:=isAgg20
 z20:=sizeOf20
 v20:=zeroValue20
 t37:=underlying187
 a37:=isAgg187
 z37:=sizeOf187
 v37:=zeroValue187
 t70:=underlying186
 a70:=isAgg186
 z70:=sizeOf186
 v70:=zeroValue186
 t72:=underlying189
 a72:=isAgg189
 z72:=sizeOf189
 v72:=zeroValue189
 t75:=underlying43
 a75:=isAgg43
 z75:=sizeOf43
 v75:=zeroValue43
 t164:=underlying277
 a164:=isAgg277
 z164:=sizeOf277
 v164:=zeroValue277}
theorem WD:Builder.Extra prog Zo:={
 sizeBuilder:=af
 liesBuilder:=af
 t5:=underlying5
 a5:=isAgg5
 z5:=sizeOf5
 v5:=zeroValue5
 infoByte:=af
 cellsByte:=af
 sizeByte:=af
 neB5:=ag}
def vr(B b:Nat)(l:aK)(w:World):Prop:=Lib.IsBuilderF 189 5 B b (tJ l) w
abbrev aeT(b:Nat)(w w':World):Prop:=Lib.OthersKept 5 (some b) w w'
theorem F2(s:ai):Lib.strCells s=tJ s.data.toList:=by
 unfold Lib.strCells tJ;rfl
theorem WE(a b:aK):tJ (a++b)=tJ a++tJ b:=by unfold tJ;simp
theorem eb(B b:Nat)(l:aK)(s:ai)(w:World)(h:vr B b l w)(hlen:l.length+s.size<=140737488355328)(We:B<=w.heap.size) :
  aE 105 #[.pointer (some ⟨b,0,none⟩),.string s] w fun e w'=>e=.returned (.tuple #[.int .i64 s.size,.nilIface])/\vr B b (l++s.data.toList) w'/\Below B w w'/\aeT b w w':=by
 refine(Any.Builder_WriteString_k aa9 WD B b (tJ l) s w h (by rw[xk];exact hlen) We).mono ?_;rintro e w'⟨he,hb,hw,ho⟩;refine⟨he,?_,hw,ho⟩;unfold vr;rw[WE, <-F2];exact Or.inr hb
theorem vt(B b:Nat)(l:aK)(w:World)(h:vr B b l w) :
  aE 108 #[.pointer (some ⟨b,0,none⟩)] w fun e w'=>e=.returned (.int .i64 l.length)/\w=w':=by
 refine(Builder_Len_f B b (tJ l) w h).mono ?_;rintro e w'⟨rfl,rfl⟩;exact⟨by rw[xk],rfl⟩
theorem lH{rest:List Oper}{a:Act}(o:Oper)(h:wpList P ops Q (o :: rest) a w):wpList P ops Q (o :: rest) a w:=h
theorem mF{a:Act}{K:Act->World->Prop}{E:Prop}(o:Oper)(h:if Region.wanted o (yielded ops a.tmps)=true then Oper.wp P o a w K Q else E):if Region.wanted o (yielded ops a.tmps)=true then Oper.wp P o a w K Q else E:=h
theorem zN{P:Program}{ops:Array Oper}{a:Act}{w:World}{K:Act->World->Prop}{Q:Exit->Act->World->Prop}{E:Prop}{o:Oper}(yc:o.guard=none)(f:FuncId)(args:bW)(aba:(execOp a.eval o).run P w=.ok (.enter f args) w){Sd:Ending->World->Prop}(hc:Calls P f args w Sd)
  (h:∀e w',Sd e w'->∃v,e=.returned v/\K (a.put o.dst v) w'):if Region.wanted o (yielded ops a.tmps)=true then Oper.wp P o a w K Q else E:=by
 have hw:Region.wanted o (yielded ops a.tmps)=true:=by simp[Region.wanted,yc]
 rw[aB hw];unfold Oper.wp;rw[aba,Oper.upon_enter];refine hc.mono fun e w' hh=>?_;obtain⟨v,rfl,hk⟩:=h e w' hh;exact hk
theorem yy(w:World)(old cells:bW)(t:TypeId):(w.alloc (.cells old t)).setRow w.heap.size cells=w.alloc (.cells cells t):=by
 unfold World.setRow World.alloc
 congr 1
 apply Array.ext
 ·simp
 ·intro k h1 h2;simp only[Array.getElem_modify];by_cases hk:w.heap.size=k
  ·subst hk;simp
  ·have:k<w.heap.size:=by simp at h2;omega
   simp[hk,Array.getElem_push,this]
theorem sY{P:Program}{ops:Array Oper}{rest:List Oper}{o:Oper}{a:Act}{w:World}{Q:Exit->Act->World->Prop}(yc:o.guard=none)(ty:TypeId)(x y:Operand)(ho:o.op=.store ty x y)(old:bW)
  (cells:bW)(hx:a.eval x=.pointer (some ⟨w.heap.size,0,none⟩))(hy:a.eval y=.agg cells)
  (hi:(P.info? ty).map (·.size)=some cells.size)(hold:old.size=cells.size)(h1:cells.all (·.oneCell')=true)
  (h:wpList P ops Q rest (a.put o.dst undef) (w.alloc (.cells cells ty))):wpList P ops Q (o :: rest) a (w.alloc (.cells old ty)):=by
 refine aI yc ty x y ho w.heap.size cells hx hy ty old (aC w _) hi hold h1 ?_;rw[yy];exact h
theorem run_storeCells_new(w:World)(t:TypeId)(old:bW)(x:a_)(hold:old.size=x.length)(h1:∀u∈x,u.oneCell'=true) :
  Sem.run P (storeCells ⟨w.heap.size,0,none⟩ x 0) (w.alloc (.cells old t))=.ok () (w.alloc (.cells x.toArray t)):=by
 have h:=run_storeCells_from (P:=P) w.heap.size t x 0 old (w.alloc (.cells old t)) (aC w _) ab h1;rw[h,List.take_zero,List.nil_append,yy]
theorem cg{cur:bW}{t:TypeId}{f:Nat×Nat}(h:w.heap[b]?=some (.cells cur t f))(o:Nat)(v:Value):(w.setCell ⟨b,o,none⟩ v).heap[b]?=some (.cells (cur.setIfInBounds o v) t f):=by
 simp[World.setCell,Array.getElem?_modify,h]
theorem sG(hg:g≠b)(o:Nat)(v:Value):(w.setCell ⟨b,o,none⟩ v).heap[g]?=w.heap[g]?:=Below.heap_setCell _ _ _ _ hg
theorem pD{b:Nat}{t:TypeId}{f:Nat×Nat}:∀(vs:a_) (o:Nat) (w:World) (cur:bW),w.heap[b]?=some (.cells cur t f)->o+vs.length<=cur.size ->
  (w.setCells b o vs).heap[b]?=some (.cells (cur.toList.take o++vs++cur.toList.drop (o+vs.length)).toArray t f)
 |[],o,w,cur,h,hl=>by
  rw[World.setCells,h];simp
 |v :: r,o,w,cur,h,hl=>by
  simp only[List.length_cons]at hl;rw[World.setCells,pD r (o+1) _ _ (cg h o v) bH]
  congr 3
  simp only[Array.toList_setIfInBounds,List.length_cons];have h1:(cur.toList.set o v).take (o+1)=cur.toList.take o++[v]:=by
   have tK:o<cur.toList.length:=bH;rw[cD,List.getElem?_set_self tK,fU (az o)];rfl
  have h2:(cur.toList.set o v).drop (o+1+r.length)=cur.toList.drop (o+(r.length+1)):=by
   rw[fV ab]
   congr 1;omega
  rw[h1,h2];simp
theorem Fr.setCells{S:dB}{a w:World}(h:Fr S a w){b:Nat}(hb:b<a.heap.size->S b):∀(vs:a_) (o:Nat),Fr S a (w.setCells b o vs):=by
 intro vs
 induction vs generalizing w with
 |nil=>intro o;exact h
 |cons v r ih=>intro o;exact ih (h.setCell (p:=⟨b,o,none⟩) hb v) (o+1)
theorem wT:∀(y:a_) (i:Nat) (z:bW),i+y.length<=z.size->List.foldl (fun cs x=>cs.setIfInBounds x.snd x.fst) z (y.zipIdx i)=(z.toList.take i++y++z.toList.drop (i+y.length)).toArray
 |[],i,z,_=>aS
 |v :: r,i,z,hl=>by
  simp only[List.length_cons]at hl;rw[List.zipIdx_cons,List.foldl_cons,wT r (i+1) _ bH]
  congr 1
  simp only[Array.toList_setIfInBounds,List.length_cons];have h1:(z.toList.set i v).take (i+1)=z.toList.take i++[v]:=by
   have tK:i<z.toList.length:=bH;rw[cD,List.getElem?_set_self tK,fU (az i)];rfl
  have h2:(z.toList.set i v).drop (i+1+r.length)=z.toList.drop (i+(r.length+1)):=by
   rw[fV ab]
   congr 1;omega
  rw[h1,h2];simp
theorem vw(y:a_)(z:bW)(h:z.size=y.length):List.foldl (fun cs x=>cs.setIfInBounds x.snd x.fst) z y.zipIdx=y.toArray:=by
 rw[wT y 0 z ab,List.take_zero,List.nil_append,cO bH,eX]
theorem AD{k:Nat}:∀ {xs:cX} (_:∀x∈xs,x.length=k) {i:Nat} {y:a_} (_:i<xs.length),(xs.set i y).flatten=xs.flatten.take (i*k)++y++xs.flatten.drop (i*k+k)
 |[],_,i,y,hi=>absurd hi (ct _)
 |x :: xs,hl,0,y,hi=>by
  have hx:=hl x aS;simp only[List.set_cons_zero,List.flatten_cons,gX,List.take_zero,List.nil_append,bw];rw[List.drop_append_of_le_length ab,cO ab];simp
 |x :: xs,hl,i+1,y,hi=>by
  have hx:=hl x aS;have ih:=AD (k:=k) (xs:=xs) (fun z hz=>hl z (bV _ hz)) (i:=i) (y:=y) (by simpa using hi);have e1:(i+1)*k=x.length+i*k:=by rw[gY,hx];omega
  simp only[List.set_cons_succ,List.flatten_cons,ih,e1];rw[List.take_length_add_append,show x.length+i*k+k=x.length+(i*k+k)from ab,List.drop_length_add_append];simp
theorem yz{k:Nat}:∀ {xs:cX} (_:∀x∈xs,x.length=k) (i:Nat),(xs.take i).flatten=xs.flatten.take (i*k)
 |[],_,i=>aS
 |x :: xs,hl,0=>aS
 |x :: xs,hl,i+1=>by
  have hx:=hl x aS;have ih:=yz (k:=k) (xs:=xs) (fun z hz=>hl z (bV _ hz)) i;rw[List.take_succ_cons,List.flatten_cons,ih,List.flatten_cons,show(i+1)*k=x.length+i*k from by rw[gY,hx];omega,List.take_length_add_append]
theorem IQ(L:a_)(a n:Nat)(y:a_)(ham:a+y.length<=n)(hn:n<=L.length):(L.take a++y++L.drop (a+y.length)).take n=(L.take n).take a++y++(L.take n).drop (a+y.length):=by
 have hA:(L.take a++y).length=a+y.length:=by rw[aM,aQ];omega
 rw[List.take_append,aG ab,hA,kj,dJ ab,List.drop_take]
theorem F7(L:a_)(a:Nat)(y:a_)(ham:a+y.length<=L.length):(L.take a++y++L.drop (a+y.length)).take (a+y.length)=L.take a++y:=by
 have hA:(L.take a++y).length=a+y.length:=by rw[aM,aQ];omega
 rw[List.take_append_of_le_length ab,aG ab]
theorem OwnRows.open(h:OwnRows base e k w v xs)(hg:v.ownBlock=some g) :
  ∃cap cur,v=.slice (some ⟨g,0,none⟩) xs.length cap/\base<=g/\w.heap[g]?=some (.cells cur e (0,0))/\xs.length<=cap/\cap<=maxLen/\cur.size=cap*k/\cur.toList.take (xs.length*k)=xs.flatten:=by
 rcases h.2.2 with ⟨hv,_⟩|⟨g',cap,cur,hv,h1,h2,h3,h4,h5,h6⟩
 ·rw[hv]at hg;simp[Value.ownBlock]at hg
 ·rw[hv]at hg;simp[Value.ownBlock]at hg;subst hg;exact⟨cap,cur,hv,h1,h2,h3,h4,h5,h6⟩
theorem OwnRows.store(h:OwnRows base e k w v xs){y:a_}(hi:i<xs.length)(hy:y.length=k)(DK:∀u∈y,u.oneCell'=true)(hg:v.ownBlock=some g) :
  OwnRows base e k (w.setCells g (i*k) y) v (xs.set i y):=by
 obtain⟨cap,cur,hv,h1,h2,h3,h4,h5,h6⟩:=h.open hg;have KP:i*k+k<=xs.length*k:=by have:(i+1)*k<=xs.length*k:=bN _ hi;rw[gY]at this;exact this
 have hck:xs.length*k<=cap*k:=bN _ h3;have Zp:∀x∈xs,x.length=k:=fun x hx=>(h.1 x hx).1;have hh:=pD y (i*k) w cur h2 ab;have hA:(cur.toList.take (i*k)).length=i*k:=by rw[aQ];simp;omega
 have IU:(xs.set i y).flatten=(cur.toList.take (i*k)++y++cur.toList.drop (i*k+y.length)).take (xs.length*k):=by
  rw[AD Zp hi, <-h6,IQ _ _ _ _ ab bH,hy]
 refine⟨?_,?_,Or.inr ⟨g,cap,_,by rw[dZ];exact hv,h1,hh,by rw[dZ];exact h3,h4,?_,?_⟩⟩
 ·intro x hx;rcases List.mem_or_eq_of_mem_set hx with hx|rfl
  ·exact h.1 x hx
  ·exact⟨hy,DK⟩
 ·rw[IU,dZ,aQ,dJ];simp;omega
 ·simp;omega
 ·rw[dZ,IU]
theorem OwnRows.Ce{base k:Nat}{e:TypeId}{w:World}{v:Value}{xs:cX}(h:OwnRows base e k w v xs){i:Nat}{ys:cX}(hi:i<=xs.length)(hy:∀y∈ys,y.length=k/\∀u∈y,u.oneCell'=true){g cap:Nat}
  (hg:v=.slice (some ⟨g,0,none⟩) xs.length cap)(hc:i+ys.length<=cap):OwnRows base e k (w.setCells g (i*k) ys.flatten) (.slice (some ⟨g,0,none⟩) (i+ys.length) cap) (xs.take i++ys):=by
 obtain⟨Bb,cur,hv,h1,h2,h3,h4,h5,h6⟩:=h.open (g:=g) (by rw[hg];rfl);rw[hg]at hv;cases hv;have IV:ys.flatten.length=ys.length*k:=f_ (fun y hm=>(hy y hm).1);have wU:cur.toList.length=cur.size:=aS;have KP:i*k+ys.length*k<=cap*k:=by rw[<-dD];exact bN _ hc
 have uZ:i*k<=xs.length*k:=bN _ hi;have hh:=pD ys.flatten (i*k) w cur h2 ab;have hlen:(xs.take i++ys).length=i+ys.length:=by rw[aM,aQ];omega
 have Zp:∀x∈xs,x.length=k:=fun x hx=>(h.1 x hx).1;have IU:(xs.take i++ys).flatten=(cur.toList.take (i*k)++ys.flatten++cur.toList.drop (i*k+ys.flatten.length)).take ((i+ys.length)*k):=by
  rw[dD, <-IV,F7 _ _ _ (by rw[IV];omega),eh,yz Zp, <-h6,kj,dJ uZ]
 refine⟨?_,?_,Or.inr ⟨g,cap,_,by rw[hlen],h1,hh,by rw[hlen];exact hc,h4,?_,?_⟩⟩
 ·intro x hx;rcases bO.1 hx with hx|hx
  ·exact h.1 x (eL hx)
  ·exact hy x hx
 ·rw[IU,hlen,aQ,dJ];rw[aM,aM,aQ,bJ,IV,dD];omega
 ·rw[bd,aM,aM,aQ,bJ,IV];omega
 ·rw[hlen,IU]
theorem OwnRows.cut(h:OwnRows base e k w v xs)(hi:i<=xs.length)(hg:v=.slice (some ⟨g,0,none⟩) xs.length cap):OwnRows base e k w (.slice (some ⟨g,0,none⟩) i cap) (xs.take i):=by
 obtain⟨Bb,cur,hv,h1,h2,h3,h4,h5,h6⟩:=h.open (g:=g) (by rw[hg];rfl);have hc:cap=Bb:=by rw[hg]at hv;cases hv;rfl
 have:=h.Ce (i:=i) (ys:=[]) hi (fun y hy=>by cases hy) hg bH;simpa[World.setCells]using this
theorem OwnRows.behind{base k:Nat}{e:TypeId}{w:World}{v:Value}{xs:cX}(h:OwnRows base e k w v xs){o:Nat}{vs:a_}(ho:xs.length*k<=o){g cap:Nat}
  (hg:v=.slice (some ⟨g,0,none⟩) xs.length cap)(hc:o+vs.length<=cap*k):OwnRows base e k (w.setCells g o vs) v xs:=by
 obtain⟨Bb,cur,hv,h1,h2,h3,h4,h5,h6⟩:=h.open (g:=g) (by rw[hg];rfl);rw[hg]at hv;cases hv;have hh:=pD vs o w cur h2 ab;refine⟨h.1,h.2.1,Or.inr ⟨g,cap,_,hg,h1,hh,h3,h4,bH,?_⟩⟩;have hA:xs.length*k<=(cur.toList.take o).length:=by rw[aQ];simp;omega
 rw[cK];show List.take (xs.length*k) (List.take o cur.toList++(vs++List.drop (o+vs.length) cur.toList))=_;rw[List.take_append_of_le_length hA,kj,dJ ho,h6]
theorem OwnRows.there(h:OwnRows base e k w v xs)(hg:v=.slice (some ⟨g,0,none⟩) xs.length cap){o:Nat}(hn:o+n<=cap*k):w.there g o n:=by
 obtain⟨Bb,cur,hv,h1,h2,h3,h4,h5,h6⟩:=h.open (g:=g) (by rw[hg];rfl);rw[hg]at hv;cases hv;intro j hj;constructor
 ·simp only[World.cell?,h2];rw[Array.getElem?_eq_getElem ab];rfl
 ·simp[World.frozen?,h2]
theorem results_cell_tmp{P:Program}{fn:Func}{p q:Tmp}{ty:TypeId}(h:fn.results= #[.cell p ty,.tmp q])(tmps:bW)(w:World)(g:Nat)(t:TypeId)(cs:bW)(fr:Nat×Nat)(d:TypeDesc)
  (hp:tmps.getD p undef=.pointer (some ⟨g,0,none⟩))(hg:w.heap[g]?=some (.cells cs t fr))
  (hu:P.underlying ty=some d)(hd:(match d with| .struct _| .array _ _=>true|_=>false)=true)(hi:(P.info? ty).map (·.size)=some cs.size) :
  (results fn tmps).run P w=.ok (.tuple #[.agg cs,tmps.getD q undef]) w:=by
 have hp':tmps[p]?.getD undef=.pointer (some ⟨g,0,none⟩):=by simpa using hp
 simp[results,h,hp',asAddr,run_loadVar_row w g t ty cs fr d hg hu hd hi]
theorem ky(w:World)(y:a_)(t:TypeId):∀j u,y[j]?=some u->(w.alloc (.cells y.toArray t)).cell? ((⟨w.heap.size,0,none⟩:Addr).add j)=some u:=by
 intro j u hj;have ea:(Addr.add ⟨w.heap.size,0,none⟩ j)=⟨w.heap.size,j,none⟩:=by unfold Addr.add;split<;>simp_all
 rw[ea,World.cell?_alloc_mark];simpa using hj
abbrev fC := @Fr.setCells
def Ck(n:UInt8):UInt8:=if n<10 then n+48 else n+87
def xC(l:aK):aK:=l.flatMap fun(c:UInt8)=>[Ck (c >>> 4),Ck (c &&& 15)]
theorem Cl(l:aK):(xC l).length=2*l.length:=by
 unfold xC
 induction l with
 |nil=>rfl
 |cons c l ih=>simp at ih ⊢; omega
theorem Sr(l m:aK):xC (l++m)=xC l++xC m:=by unfold xC;exact List.flatMap_append
theorem O7(s:ai)(k:Nat)(hk:k<s.size):xC (s.data.toList.take (k+1))=xC (s.data.toList.take k)++[Ck (s[k] >>> 4),Ck (s[k] &&& 15)]:=by
 rw[cD,byte_at s k hk,Sr];rfl
theorem NL:∀n (h:n<16),(⟨#[48,49,50,51,52,53,54,55,56,57,97,98,99,100,101,102]⟩:ai)[n]'h=Ck n.toUInt8:=ag
theorem akJ(c:UInt8):(c.toNat/16).toUInt8=c >>> 4:=by
 apply iE.1;have:=c.toNat_lt;simp[UInt8.toNat_shiftRight,Nat.shiftRight_eq_div_pow];omega
theorem ae2(c:UInt8):(c.toNat%16).toUInt8=c &&& 15:=by
 apply iE.1;have:=c.toNat_lt;have h:=Nat.and_two_pow_sub_one_eq_mod c.toNat 4;simp[UInt8.toNat_and]at h ⊢;omega
def abi(w:World)(s:ai)(i:Value)(wr:World):Prop :=
 ∃k:Nat,k<=s.size/\i=.int .i64 k/\EB w.heap.size w.heap.size (xC (s.data.toList.take k)) wr/\Fr aX w wr/\w.heap.size<=wr.heap.size
theorem NM(s:ai)(w:World)(hs:s.size<4398046511104) :
  aE 268 #[.string s] w fun e w'=>e=.returned (.string ⟨(xC s.data.toList).toArray⟩)/\Fr aX w w':=by
 go_enter func268,ntmps268;go_wp2;go_loopw[7] (abi w s) (fun i _=>s.size-(intOf i).toNat)
 case atStart=>exact⟨0,aW _,rfl,EB.new w,(ae _ _).alloc _,aS⟩
 case round =>
  obtain⟨k,hk,rfl,hb,hf,hz⟩:=hrel;by_cases fE:k<s.size
  ·have qm:(k:Int)<(s.size:Int):=ab;have hq1:0<=(s[k].toNat:Int)/16/\(s[k].toNat:Int)/16<16:=by have:=s[k].toNat_lt;omega
   have hlen:(xC (s.data.toList.take k)).length<=2*k:=by rw[Cl,aQ];omega
   go_wp2_with fail
   rw[NL,akJ];refine(j9 _ _ _ _ wr hb ab hz).mono ?_;rintro e w1⟨rfl,sD,dw⟩;have kP:=dw.size;go_wp2_with fail
   rw[NL,ae2];refine(j9 _ _ _ _ w1 sD (by rw[aM];simp;omega) ab).mono ?_;rintro e w2⟨rfl,jX,dF⟩;have kR:=dF.size;have He:=O (O7 s k fE);rw[cK]at jX;have qe:EB w.heap.size w.heap.size (xC (s.data.toList.take (k+1))) w2:=by rw[He.o];exact jX
   clear hb sD jX;go_wp2;go_roundw
   case rel=>exact⟨k+1,ab,bh,qe,(hf.lG dw).lG dF,ab⟩
   case measure=>simp[intOf];omega
  ·have qm:¬(k:Int)<(s.size:Int):=ab;have sH:k=s.size:=ab;have fl:=O (show s.data.toList.take k=s.data.toList from aG (by rw[sH];exact az _));go_wp2_with fail
   refine(AB _ _ _ wr hb hz).mono ?_;rintro e w1⟨rfl,dw⟩;rw[fl.o];go_wp2;go_ret;exact⟨rfl,hf.lG dw⟩
