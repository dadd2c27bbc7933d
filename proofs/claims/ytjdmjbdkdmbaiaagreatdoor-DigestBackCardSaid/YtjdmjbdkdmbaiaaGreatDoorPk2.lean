/- Idx, Bytes, Token1, CleanPure, Range, Lower. -/
import Derived.Test.YtjdmjbdkdmbaiaaGreatDoorPk1
import Derived.Test.YtjdmjbdkdmbaiaaGreatDoorRows
import Derived.WalkSpells
import Derived.WalkLawsBesides
import Derived.RangeFuncNested
import Derived.RangeFuncBound
set_option maxRecDepth 100000
set_option maxHeartbeats 16000000
set_option linter.unusedSimpArgs false
namespace Go.Proofs.YtjdmjbdkdmbaiaaGreatDoor
def gT{α:Type}(p:α->Bool):List α->Nat->Int
 |[],_=> -1
 |x :: l,i=>if p x then i else gT p l (i+1)
theorem lX{α:Type}(p:α->Bool):∀(l:List α) (i:Nat),decide (0<=gT p l i)=l.any p
 |[],_=>rfl
 |x :: l,i=>by
  rw[gT,List.any_cons];cases h:p x
  ·simp only[Bool.false_eq_true,if_false,Bool.false_or];exact lX p l (i+1)
  ·simp
theorem kL{α:Type}{p:α->Bool}{l:List α}{k i:Nat}{x:α}(h:l[k]?=some x)(hp:p x=true)(hn:(l.take k).any p=false):gT p l i=((i+k:Nat):Int):=by
 induction l generalizing k i with
 |nil=>simp at h
 |cons a l ih =>
  cases k with
  |zero=>simp at h;subst h;rw[gT,if_pos hp];rfl
  |succ k =>
   simp only[List.getElem?_cons_succ]at h;simp only[List.take_succ_cons,List.any_cons,Bool.or_eq_false_iff]at hn;rw[gT,hn.1];simp only[Bool.false_eq_true,if_false];rw[ih h hn.2];congr 1;omega
theorem fD{α:Type}{p:α->Bool}{l:List α}{i:Nat}(hn:l.any p=false):gT p l i= -1:=by
 induction l generalizing i with
 |nil=>rfl
 |cons a l ih =>
  simp only[List.any_cons,Bool.or_eq_false_iff]at hn;rw[gT,hn.1];simp only[Bool.false_eq_true,if_false];exact ih hn.2
theorem any_take_succ{α:Type}{p:α->Bool}{l:List α}{k:Nat}{x:α}(h:l[k]?=some x)(hn:(l.take k).any p=false)(hp:p x=false):(l.take (k+1)).any p=false:=by
 rw[List.take_add_one,h];simp only[List.any_append,hn,Option.toList_some,List.any_cons,hp,List.any_nil,Bool.or_false]
theorem bz{α:Type}{l:List α}{k:Nat}{x:α}(h:l[k]?=some x):l.take (k+1)=l.take k++[x]:=by rw[List.take_add_one,h];rfl
open Go.RowKit
theorem IH:(Tryz.prog.info? 5).map (fun i=>(i.zero,i.size,i.bytes))=some (some (.int .u8 0),1,1):=by kernel_rfl
def nT(l:List UInt8):List Value:=l.map fun x=>.int .u8 (x.toNat:Int)
theorem C6(l:List UInt8)(c:UInt8):nT (l++[c])=nT l++[.int .u8 (c.toNat:Int)]:=by simp[nT]
theorem rI(l:List UInt8):(nT l).length=l.length:=by simp[nT]
def Bytes(base:Nat)(w:World)(v:Value)(l:List UInt8):Prop:=w.ownsRow base 5 1 v l.length (nT l)
theorem Bytes.nil(base:Nat)(w:World):Bytes base w (.slice none 0 0) []:=World.ownsRow_nil _ _ _ _
theorem Bytes.alloc{base:Nat}{w:World}{v:Value}{l:List UInt8}(h:Bytes base w v l)(o:Obj):Bytes base (w.alloc o) v l:=World.ownsRow.alloc h o
theorem Bytes.drewN{base:Nat}{w:World}{v:Value}{l:List UInt8}{n:Nat}(h:Bytes base w v l):Bytes base (w.drewN n) v l:=h
theorem Bytes.drew{base:Nat}{w:World}{v:Value}{l:List UInt8}(h:Bytes base w v l):Bytes base w.drew v l:=h
theorem Bytes.setCell{base:Nat}{w:World}{v:Value}{l:List UInt8}{p:Addr}{u:Value}(hp:p.block<base)(h:Bytes base w v l):Bytes base (w.setCell p u) v l:=ownsRow_setCell_below h hp u
theorem eo(w:World)(v:Value)(t:TypeId)(f:Nat×Nat):(w.alloc (.cells #[v] t f)).cell? ⟨w.heap.size,0,none⟩=some v:=World.cell?_alloc_mark w #[v] t f 0
theorem af(w:World)(o:Obj):(w.alloc o).heap[w.heap.size]?=some o:=by
 show(w.heap.push o)[w.heap.size]?=_;simp
theorem Bytes.amW(w:World)(x:UInt8):Bytes w.heap.size (w.alloc (.cells #[.int .u8 x.toNat] 5)) (.slice (some ⟨w.heap.size,0,none⟩) 1 1) [x] :=
 ⟨rfl,Or.inr ⟨w.heap.size,1,_,rfl,Nat.le_refl _,af _ _,Nat.le_refl _,by simp[maxLen],rfl,rfl⟩⟩
theorem Bytes.form{base:Nat}{w:World}{v:Value}{l:List UInt8}(h:Bytes base w v l):∃a c,v=.slice a l.length c:=by
 rcases h.2 with ⟨hv,hn⟩|⟨g,cap,cur,hv,_⟩
 ·exact⟨none,0,by rw[hv,hn]⟩
 ·exact⟨_,_,hv⟩
theorem Bytes.block{base:Nat}{w:World}{v:Value}{l:List UInt8}(h:Bytes base w v l):∀k,v.ownBlock=some k->base<=k:=by
 intro k hk;rcases h.2 with ⟨hv,_⟩|⟨g,cap,cur,hv,hg,_⟩
 ·rw[hv]at hk;simp[Value.ownBlock]at hk
 ·rw[hv]at hk;simp[Value.ownBlock]at hk;omega
theorem Bytes.text{base:Nat}{w:World}{a:Option Addr}{n c:Nat}{l:List UInt8}(h:Bytes base w (.slice a n c) l) :
  (convert 159 9 (.slice a n c)).run Tryz.prog w=.ok (.string ⟨l.toArray⟩) w:=by
 obtain⟨h1,h2⟩:=h;rcases h2 with ⟨hv,hn⟩|⟨g,cap,cur,hv,hg,hh,h3,h4,h5,h6⟩
 ·cases hv;have:l=[]:=List.eq_nil_of_length_eq_zero hn;subst this;exact run_convert_bytes_nil (P:=Tryz.prog) w 159 5 Tryz.underlying159 Tryz.underlying5 0 0 9 Tryz.underlying9
 ·cases hv;refine run_convert_bytes_back (P:=Tryz.prog) w 159 9 5 ⟨g,0,none⟩ c l Tryz.underlying159 Tryz.underlying5 Tryz.underlying9 ?_;intro j hj;have hj2:j<l.length*1:=by omega
  have e:(cur.toList.take (l.length*1))[j]?=some (.int .u8 (l[j].toNat:Int)):=by
   rw[h6];simp[nT,hj]
  rw[List.getElem?_take_of_lt hj2]at e;have e2:cur[j]?=some (.int .u8 (l[j].toNat:Int)):=by simpa using e
  have ea:(Addr.add ⟨g,0,none⟩ j)=⟨g,j,none⟩:=by unfold Addr.add;split<;>simp_all
  rw[ea];simp[World.cell?,hh,e2]
theorem eS{ops:Array Oper}{rest:List Oper}{o:Oper}{a:Act}{Q:Exit->Act->World->Prop}{w:World}(zM:o.guard=none)(s x:Operand)
  (ho:o.op=.call {callee:=.builtin .append,args:= #[s,x],argTypes:= #[159,159]})(base:Nat)(v:Value)(l:List UInt8)(hs:a.eval s=v)(a_:Bytes base w v l)
  (ad:Addr)(c:Nat)(y:UInt8)(hx:a.eval x=.slice (some ad) 1 c)(hy:w.cell? ad=some (.int .u8 (y.toNat:Int)))(hlen:l.length<70368744177664)(eI:base<=w.heap.size)
  (h:∀v' w',Bytes base w' v' (l++[y])->w.grownBy w' v.ownBlock->wpList Tryz.prog ops Q rest (a.put o.dst v') w'):wpList Tryz.prog ops Q (o :: rest) a w:=by
 obtain⟨i0,hi,oZ,iy,gU⟩:=info_parts IH;refine wpList_append_own w zM s x 159 ho base 5 i0 (.int .u8 0) 1 1 Tryz.underlying159 hi oZ iy gU rfl (by decide) v l.length (nT l) hs a_ ad 1 c [.int .u8 (y.toNat:Int)] hx rfl ?_ ?_ ?_ ?_ eI ?_
 ·intro j u hj
  match j,hj with
  |0,hj=>simp at hj;subst hj;simpa[Addr.add]using hy
 ·intro u hu;simp at hu;subst hu;rfl
 ·unfold maxLen;omega
 ·omega
 ·intro v' w' h1 h2 _;exact h v' w' (by unfold Bytes;rw[C6];simpa using h1) h2
def Wt(n:Nat):Bool:=n==9||(decide (32<=n)&&n !=127)
def iL(c:UInt8):Bool:=Wt c.toNat
theorem kE(c:UInt8)(w:World) :
  Calls Tryz.prog 156 #[.int .u8 c.toNat] w fun e w'=>e=.returned (.bool (iL c))/\w=w':=by
 go_enter Tryz.func156,Tryz.ntmps156;go_wp2
 all_goals
  go_ret;refine⟨cJ ?_,rfl⟩;rw[Bool.eq_iff_iff];simp[iL,Wt];omega
def marks:List UInt8:=[33,35,36,37,38,39,42,43,45,46,94,95,124,126,96]
def Bt(c:UInt8):Bool:=decide (0<=Lib.indexByte marks c)
theorem Ni(c:UInt8):0<=Lib.indexByte [33,35,36,37,38,39,42,43,45,46,94,95,124,126,96] c↔Bt c=true:=by
 unfold Bt marks;rw[decide_eq_true_iff]
def cP(c:UInt8):Bool:=jG c||Bt c
theorem sR(c:UInt8)(w:World) :
  Calls Tryz.prog 135 #[.int .u8 c.toNat] w fun e w'=>e=.returned (.bool (cP c))/\w=w':=by
 go_enter Tryz.func135,Tryz.ntmps135;go_wp2_with (go_at_call 202;refine(Tryz.strings_IndexByte _ _ _).mono ?_;rintro e w' ⟨rfl,rfl⟩)
 all_goals
  go_ret;refine⟨cJ ?_,rfl⟩;rw[Bool.eq_iff_iff];simp[cP,jG,Ni];cases Bt c<;>simp<;>omega
def aU(w:World)(b:Nat)(s:ByteArray)(i:Nat):Prop:=w.heap[b]?=some (.cells #[.string s,.int .i64 i] 214 (0,0))
theorem aU.cell0{w:World}{b i:Nat}{s:ByteArray}(h:aU w b s i):w.cell? ⟨b,0,none⟩=some (.string s):=by simp[World.cell?,show w.heap[b]?=_ from h]
theorem aU.dM{w:World}{b i:Nat}{s:ByteArray}(h:aU w b s i):w.cell? ⟨b,1,none⟩=some (.int .i64 i):=by simp[World.cell?,show w.heap[b]?=_ from h]
theorem aU.free{w:World}{b i:Nat}{s:ByteArray}(h:aU w b s i)(k:Nat):w.frozen? ⟨b,k,none⟩=false:=by simp[World.frozen?,show w.heap[b]?=_ from h]
theorem Nj(s:ByteArray)(w:World) :
  Calls Tryz.prog 88 #[.string s] w fun e w'=>e=.returned (.pointer (some ⟨w.heap.size,0,none⟩))/\w'=w.alloc (.cells #[.string s,.int .i64 0] 214 (0,0)):=by
 go_enter Tryz.func88,Tryz.ntmps88;go_wp2;go_ret;exact⟨rfl,rfl⟩
theorem uM(b:Nat)(s:ByteArray)(i:Nat)(w:World)(h:aU w b s i) :
  Calls Tryz.prog 91 #[.pointer (some ⟨b,0,none⟩)] w fun e w'=>e=.returned (.int .i64 i)/\w=w':=by
 have h0:=h.cell0;have h1:=h.dM;go_enter Tryz.func91,Tryz.ntmps91;go_wp2;go_ret;exact⟨rfl,rfl⟩
theorem qz(b:Nat)(s:ByteArray)(i:Nat)(w:World)(h:aU w b s i) :
  Calls Tryz.prog 99 #[.pointer (some ⟨b,0,none⟩)] w fun e w'=>e=.returned (.bool (decide (s.size<=i)))/\∃n,w'=w.drewN n:=by
 have h0:=h.cell0;have h1:=h.dM;go_enter Tryz.func99,Tryz.ntmps99;go_wp2;go_quiet (fail);go_wp2;go_ret;exact⟨rfl,_,rfl⟩
theorem aU.setCell{w:World}{b i j:Nat}{s:ByteArray}(h:aU w b s i):aU (w.setCell ⟨b,1,none⟩ (.int .i64 j)) b s j:=by
 unfold aU at *
 simp[World.setCell,Array.getElem?_modify,h]
theorem aU.drewN{w:World}{b i:Nat}{s:ByteArray}(h:aU w b s i)(n:Nat):aU (w.drewN n) b s i:=h
theorem aU.lt{w:World}{b i:Nat}{s:ByteArray}(h:aU w b s i):b<w.heap.size:=aj h
def dt(w:World)(b:Nat)(s:ByteArray):Prop:=∃v,w.heap[b]?=some (.cells #[.string s,v] 214 (0,0))
theorem aU.cR{w:World}{b i:Nat}{s:ByteArray}(h:aU w b s i):dt w b s:=⟨_,h⟩
theorem dt.set{w:World}{b:Nat}{s:ByteArray}{u:Value}(h:dt w b s):dt (w.setCell ⟨b,1,none⟩ u) b s:=by
 obtain⟨v,h⟩:=h;exact⟨u,by simp[World.setCell,Array.getElem?_modify,h]⟩
theorem dt.drewN{w:World}{b n:Nat}{s:ByteArray}(h:dt w b s):dt (w.drewN n) b s:=h
theorem dt.at{w:World}{b j:Nat}{s:ByteArray}(h:dt w b s):aU (w.setCell ⟨b,1,none⟩ (.int .i64 j)) b s j:=by
 obtain⟨v,h⟩:=h;unfold aU;simp[World.setCell,Array.getElem?_modify,h]
theorem aU.alloc{w:World}{b i:Nat}{s:ByteArray}{o:Obj}(h:aU w b s i):aU (w.alloc o) b s i:=by
 have hb:=h.lt;unfold aU at *
 rw[Below.heap_alloc _ _ _ hb];exact h
theorem aU.fr{w w':World}{b i:Nat}{s:ByteArray}{S:Nat->Prop}(h:aU w b s i)(hf:Fr S w w')(hn:¬S b):aU w' b s i:=hf.keep h hn
def eT(s:ByteArray)(i:Nat)(c:UInt8):Bool:=decide (s.data.toList[i]?=some c)
def xn(s:ByteArray)(i:Nat)(c:UInt8):Nat:=if eT s i c then i+1 else i
theorem zN{s:ByteArray}{i:Nat}{c:UInt8}(hi:i<s.size)(hc:s[i]=c):eT s i c=true:=by simp[eT,byte_at s i hi,hc]
theorem Dk{s:ByteArray}{i:Nat}{c:UInt8}(hi:i<s.size)(hc:¬s[i]=c):eT s i c=false:=by simp[eT,byte_at s i hi,hc]
theorem zO{s:ByteArray}{i:Nat}{c:UInt8}(hi:¬i<s.size):eT s i c=false:=by simp[eT,ny s i hi]
theorem kg{s:ByteArray}{i:Nat}{c:UInt8}(h:eT s i c=true):xn s i c=i+1:=by simp[xn,h]
theorem kh{s:ByteArray}{i:Nat}{c:UInt8}(h:eT s i c=false):xn s i c=i:=by simp[xn,h]
theorem TC{a c:UInt8}(h:¬a=c):((a.toNat:Int)==(c.toNat:Int))=false:=by
 rw[beq_eq_false_iff_ne];intro e;exact h (UInt8.toNat_inj.1 (by omega))
theorem kF(b:Nat)(s:ByteArray)(i:Nat)(c:UInt8)(w:World)(h:aU w b s i)(hs:s.size<=maxLen) :
  Calls Tryz.prog 155 #[.pointer (some ⟨b,0,none⟩),.int .u8 c.toNat] w fun e w'=>e=.returned (.bool (eT s i c))/\aU w' b s (xn s i c)/\Fr (one b) w w':=by
 have h0:=h.cell0;have h1:=h.dM;have hf:=h.free 1;unfold maxLen at hs;by_cases hi:i<s.size
 ·have hd:decide (i<s.size)=true:=by simp[hi]
  by_cases hc:s[i]=c
  ·rw[zN hi hc,kg (zN hi hc)];have hn:((s[i].toNat:Int)==(c.toNat:Int))=true:=by simp[hc]
   clear hc;go_enter Tryz.func155,Tryz.ntmps155;go_wp2;go_quiet (fail);go_wp2;go_ret;exact⟨rfl,(h.setCell (j:=i+1)).drewN _,Fr.one_set w b _ _⟩
  ·rw[Dk hi hc,kh (Dk hi hc)];have hn:=TC hc;clear hc;go_enter Tryz.func155,Tryz.ntmps155;go_wp2;go_quiet (fail);go_wp2;go_ret;exact⟨rfl,h.drewN _,(Fr.refl _ _).drewN _⟩
 ·have hd:decide (i<s.size)=false:=by simp;omega
  rw[zO hi,kh (zO hi)];go_enter Tryz.func155,Tryz.ntmps155;go_wp2;go_quiet (fail);go_wp2;go_ret;exact⟨rfl,h,(Fr.refl _ _).drewN _⟩
def bD(c:UInt8):List UInt8->List (List UInt8)
 |[]=>[[]]
 |x :: l=>if x=c then [] :: bD c l else match bD c l with
  |[]=>[[x]]
  |p :: ps=>(x :: p) :: ps
def pG(c:UInt8):List (List UInt8)->List UInt8
 |[]=>[]
 |[p]=>p
 |p :: q :: ps=>p++c :: pG c (q :: ps)
theorem qA(c:UInt8):∀l,bD c l≠ []
 |[]=>by simp[bD]
 |x :: l=>by
  unfold bD;split
  ·simp
  ·split<;>simp
theorem lO(c:UInt8)(l:List UInt8):bD c (c :: l)=[] :: bD c l:=by rw[bD,if_pos rfl]
theorem jm{c x:UInt8}{l p:List UInt8}{ps:List (List UInt8)}(hx:¬x=c)(h:bD c l=p :: ps):bD c (x :: l)=(x :: p) :: ps:=by rw[bD,if_neg hx,h]
theorem xw(c:UInt8):∀(p l:List UInt8),c∉p->bD c (p++c :: l)=p :: bD c l
 |[],l,_=>lO c l
 |x :: p,l,h=>by
  have hx:¬x=c:=fun e=>h (by rw[e];exact List.mem_cons_self ..);exact jm hx (xw c p l (fun e=>h (List.mem_cons_of_mem _ e)))
theorem xx(c:UInt8):∀p:List UInt8,c∉p->bD c p=[p]
 |[],_=>rfl
 |x :: p,h=>by
  have hx:¬x=c:=fun e=>h (by rw[e];exact List.mem_cons_self ..);exact jm hx (xx c p (fun e=>h (List.mem_cons_of_mem _ e)))
def YX:List UInt8:=[46]
def Nz:List UInt8:=[46,46]
def sX(l:List (List UInt8)):List (List UInt8):=if 1<l.length then l.dropLast else l
def dE(l:List (List UInt8))(p:List UInt8)(last:Bool):List (List UInt8) :=
 if p=Nz then(if last then sX l++[[]]else sX l)
 else if p=YX then(if last then l++[[]]else l)
 else l++[p]
def kA:List (List UInt8)->List (List UInt8)->List (List UInt8)
 |l,[]=>l
 |l,p :: ps=>kA (dE l p ps.isEmpty) ps
def vP(s:List UInt8):List UInt8:=if s.head?=some 47 then s else 47 :: s
def hD(s:List UInt8):List (List UInt8):=kA [] (bD 47 (vP s))
def jK(s:List UInt8):List UInt8:=pG 47 (hD s)
def pY(k:Nat)(A B:World):Prop:=∀j,k<=j->j<k+3->B.heap[j]?=A.heap[j]?
theorem pY.trans{k:Nat}{A B C:World}(h:pY k A B)(g:pY k B C):pY k A C:=fun j h1 h2=>(g j h1 h2).trans (h j h1 h2)
def yi(k B:Nat):Nat->Prop:=fun j=>j=k\/j=B\/j=B+1
theorem Fr.putObj{S:Nat->Prop}{a w:World}(h:Fr S a w){l:Nat}(hl:l<a.heap.size->S l)(o:Obj):Fr S a (w.putObj l o) :=
 ⟨h.os,h.tape,h.output,by rw[World.putObj_size];exact h.size,fun j hj hn=>(World.putObj_heap_other (fun e=>hn (by subst e;exact hl hj))).trans (h.block j hj hn)⟩
def Gv{α:Type}(k:Nat)(I Ix:List α->World->Prop)(xs:List α)(W:World):Exit->Act->World->Prop
 | .normal,_,W'=>KeepsOthers W W'/\pY k W W'/\I xs W'
 | .ret,_,W'=>KeepsOthers W W'/\Ix xs W'
 |_,_,_=>False
def Og{α:Type}(F:Fence)(n:Nat)(P:Program)(g:Nat)(lb:Array Value)(enc:α->Value)(k:Nat)(ys:List α)(w:World):Prop :=
 ∀(l:Nat) (J Jx:List α->World->Prop) (W:World),Fr ay w W->(∀xs A B,J xs A->Fr (fun j=>j=k) A B->J xs B)->(∀xs A B,Jx xs A->Fr (fun j=>j=k) A B->Jx xs B) ->
  (∀xs x A,J xs A->xs++[x] <+: ys->YieldAt F (n-1) P l #[enc x] A fun e B=>(e=.returned (.bool true)/\J (xs++[x]) B/\pY k A B)\/(e=.returned (.bool false)/\Jx (xs++[x]) B)) ->
  J [] W ->
  CallsIn F n P g (#[.func (.yield l) #[] #[]]++lb) W fun e B=>(∃v,e=.returned v)/\(J ys B\/∃xs,xs <+: ys/\Jx xs B)
theorem uY{F:Fence}{n:Nat}{P:Program}{α:Type}{g:Operand}{ps:Array Tmp}{assign body:Code}{Q:Exit->Act->World->Prop}{a:Act}{w:World}
  (Ut:F.round=none)(h1:1<=n){gf:Nat}{lb:Array Value}(hg:a.eval g=.func (.func gf) #[] lb)(hFg:F.fn gf)(eg:∀args w,(callFunc gf args).run P w=.ok (.enter gf args) w)
  {enc:α->Value}{k:Nat}{ys:List α}(hk:k+3<=w.heap.size)(anQ:Og F (n-1) P gf lb enc k ys w)(hps:ps.size=1)
  (I Ix:List α->World->Prop)(hI:∀xs A B,I xs A->Fr (yi k w.heap.size) A B->I xs B)(hIx:∀xs A B,Ix xs A->Fr (yi k w.heap.size) A B->Ix xs B)(h0:I [] w)(a₁:α->Act)
  (Uu:∀(l:Nat) (x:α) (W:World) (K:Act->World->Prop),K (a₁ x) W ->
   assign.wpIn (F.inRound l) (n-1-1) P (Exit.then K (fun _ _ _=>False)) {tmps:=(ps.zip #[enc x]).foldl (fun t (p,v)=>t.setIfInBounds p v) a.tmps,defers:=[]} W)
  (agk:∀(l:Nat) (xs:List α) (x:α) (W:World),I xs W->xs++[x] <+: ys->body.wpIn (F.inRound l) (n-1-1) P (Gv k I Ix (xs++[x]) W) (a₁ x) W)
  (agl:∀(D:Nat) (W:World),D=w.heap.size->I ys W->W.heap[D]?=some (.deferred (some []))->Q .normal {a with defers:={target:=.collected D,args:= #[]} :: a.defers} W)
  (sS:∀(D:Nat) (xs:List α) (W:World),D=w.heap.size->xs <+: ys->Ix xs W->W.heap[D]?=some (.deferred (some []))->Code.ret.wpIn F n P Q {a with defers:={target:=.collected D,args:= #[]} :: a.defers} W) :
  (Code.rangeFunc g ps assign body).wpIn F n P Q a w:=by
 refine wpIn_rangeFunc ?_;intro fn vY;rw[Ut];obtain⟨rec,B5⟩:∃rec:LoopState->Option Code->Loop,rec=fun st pe=>{state:=st,pending:=pe,fn,tmps:=a.tmps,params:=ps,assign,body,defers:=w.heap.size}:=⟨_,rfl⟩;obtain⟨W1,pZ⟩:∃W1,(w.alloc (.deferred (some []))).alloc (.loop (rec .ready none))=W1:=⟨_,rfl⟩;have iy:W1.heap.size=w.heap.size+2:=by rw[<-pZ];simp
 have hL1:W1.heap[w.heap.size+1]?=some (.loop (rec .ready none)):=by
  rw[<-pZ];have:=World.alloc_heap_new (w.alloc (.deferred (some []))) (.loop (rec .ready none));rwa [World.size_alloc]at this
 have hK1:W1.heap[w.heap.size]?=some (.deferred (some [])):=by
  rw[<-pZ];exact(Below.heap_alloc _ _ _ (by simp)).trans (World.alloc_heap_new w _)
 have bt:Fr ay w W1:=by rw[<-pZ];exact((Fr.refl ay w).alloc _).alloc _
 have Zy:I [] W1:=hI _ _ _ h0 (bt.mono fun _ _ h=>h.elim);have agm:∀ {A B:World},Fr (fun j=>j=k) A B->Fr (yi k w.heap.size) A B:=fun h=>h.mono fun _ _ e=>Or.inl e;have yj:∀(A:World) (o:Obj),Fr (yi k w.heap.size) A (A.putObj (w.heap.size+1) o):=fun A o=>(Fr.refl _ A).putObj (fun _=>Or.inr (Or.inr rfl)) o
 have JD:∀ {A B:World} {j:Nat} {o:Obj},Fr (fun j=>j=k) A B->w.heap.size<=j->A.heap[j]?=some o->B.heap[j]?=some o:=fun h hj ho=>h.keep ho (fun e=>by omega);refine⟨w.heap.size+1,[{target:=.collected w.heap.size,args:= #[]}],W1,{target:=.fn (.func gf) lb,args:= #[.func (.yield (w.heap.size+1)) #[] #[]]},W1,gf,
  #[.func (.yield (w.heap.size+1)) #[] #[]]++lb,W1,?_,?_,?_,?_,fun _=>h1,?_⟩
 ·rw[<-pZ,B5];exact run_enterLoop_outer _ _ _ _ _
 ·simp only[resolve,hg];simp[go_sem]
 ·intro f' hf';simp[Target.leads]at hf';subst hf';exact hFg
 ·simp[invoke,go_sem,eg]
 refine(anQ (w.heap.size+1)
  (fun xs W=>I xs W/\W.heap[w.heap.size+1]?=some (.loop (rec .ready none))/\W.heap[w.heap.size]?=some (.deferred (some [])))
  (fun xs W=>Ix xs W/\W.heap[w.heap.size+1]?=some (.loop (rec .done (some .ret)))/\W.heap[w.heap.size]?=some (.deferred (some [])))
  W1 bt
  (fun xs A B h f=>⟨hI _ _ _ h.1 (agm f),JD f (by omega) h.2.1,JD f (by omega) h.2.2⟩)
  (fun xs A B h f=>⟨hIx _ _ _ h.1 (agm f),JD f (by omega) h.2.1,JD f (by omega) h.2.2⟩)
  ?_ ⟨Zy,hL1,hK1⟩).mono ?_
 ·rintro xs x W⟨hi,hl,hd⟩hxp;have pD:w.heap.size+1<W.heap.size:=(Array.getElem?_eq_some_iff.1 hl).1;have hy:=run_yield (P:=P) (args:= #[enc x]) hl (by rw[B5,hps];rfl);rw[B5]at hy;refine⟨fn,_,assign,body,hy,roundIn_of_wpIn vY (Uu _ x W _ ⟨_,run_beginRound hl (by rw[B5]),?_⟩)⟩;obtain⟨W2,Wu⟩:∃W2,W.putObj (w.heap.size+1) (.loop {rec .ready none with state:=.busy})=W2:=⟨_,rfl⟩;rw[Wu]
  have si:W2.heap[w.heap.size+1]?=some (.loop {rec .ready none with state:=.busy}):=by rw[<-Wu];exact World.putObj_heap_same pD
  have qE:W2.heap[w.heap.size]?=some (.deferred (some [])):=by rw[<-Wu];exact(World.putObj_heap_other (by omega)).trans hd
  have ng:pY k W W2:=by rw[<-Wu];exact fun j h1 h2=>World.putObj_heap_other (by omega)
  have Oh:I xs W2:=by rw[<-Wu];exact hI _ _ _ hi (yj _ _)
  refine wpIn_mono (agk _ xs x W2 Oh hxp) ?_;have fin:∀(jump:Option Code) (W3:World),KeepsOthers W2 W3 ->
    (Instr.endRound (w.heap.size+1) jump).run P W3=.ok (.bool jump.isNone) (W3.putObj (w.heap.size+1) (.loop (rec (if jump.isNone then .ready else .done) jump))) /\
    (W3.putObj (w.heap.size+1) (.loop (rec (if jump.isNone then .ready else .done) jump))).heap[w.heap.size+1]?=some (.loop (rec (if jump.isNone then .ready else .done) jump)) /\
    (W3.putObj (w.heap.size+1) (.loop (rec (if jump.isNone then .ready else .done) jump))).heap[w.heap.size]?=some (.deferred (some [])):=fun jump W3 BR=>by
   have hl3:=BR.same _ _ si rfl;have hr:=run_endRound (P:=P) jump hl3;rw[B5]at hr ⊢;exact⟨hr,World.putObj_heap_same (Array.getElem?_eq_some_iff.1 hl3).1,(World.putObj_heap_other (by omega)).trans (BR.same _ _ qE rfl)⟩
  rintro e a3 W3 hp;cases e with
  |normal =>
   obtain⟨rR,BR,Lb⟩:=hp;obtain⟨hr,hl4,hd4⟩:=fin none W3 rR;exact⟨_,_,hr,.inl ⟨rfl,⟨hI _ _ _ Lb (yj _ _),hl4,hd4⟩,(ng.trans BR).trans fun j h1 h2=>World.putObj_heap_other (by omega)⟩⟩
  |ret =>
   obtain⟨rR,Lb⟩:=hp;obtain⟨hr,hl4,hd4⟩:=fin (some .ret) W3 rR;exact⟨_,_,hr,.inr ⟨rfl,hIx _ _ _ Lb (yj _ _),hl4,hd4⟩⟩
  |exit id=>exact hp.elim
  |goto t=>exact hp.elim
  |panic ch=>exact hp.elim
  |outgrown=>exact hp.elim
 ·rintro e W2⟨⟨v,rfl⟩,(⟨hi,hl,hd⟩|⟨xs,pn,hi,hl,hd⟩)⟩
  ·exact⟨none,_,by have:=run_endLoop (P:=P) hl (by rw[B5];simp);rw[B5]at this;exact this,agl _ _ rfl (hI _ _ _ hi (yj _ _)) ((World.putObj_heap_other (by omega)).trans hd)⟩
  ·exact⟨some .ret,_,by have:=run_endLoop (P:=P) hl (by rw[B5];simp);rw[B5]at this;exact this,sS _ xs _ rfl pn (hIx _ _ _ hi (yj _ _)) ((World.putObj_heap_other (by omega)).trans hd)⟩
def Bq(c:UInt8):UInt8:=if 65<=c.toNat/\c.toNat<=90 then c+32 else c
def iK(l:List UInt8):List UInt8:=l.map Bq
theorem FV(c:UInt8):(Bq c).toNat=if 65<=c.toNat/\c.toNat<=90 then c.toNat+32 else c.toNat:=by
 unfold Bq;split
 ·rename_i h;rw[UInt8.toNat_add];have:(32:UInt8).toNat=32:=rfl;rw[this];omega
 ·rfl
def nz(w:World)(g:Nat)(l:List UInt8):Prop:=∃t:List Value,w.heap[g]?=some (.cells (nT l++t).toArray 5 ((nT l++t).length,(nT l++t).length+1))
theorem nz.cell{w:World}{g:Nat}{l:List UInt8}(h:nz w g l){j:Nat}{c:UInt8}(hj:l[j]?=some c):w.cell? ⟨g,j,none⟩=some (.int .u8 (c.toNat:Int)):=by
 obtain⟨t,h⟩:=h;obtain⟨hl,he⟩:=List.getElem?_eq_some_iff.1 hj;simp only[World.cell?,h];simp[nT,List.getElem?_append_left,hl,he]
theorem nz.free{w:World}{g:Nat}{l:List UInt8}(h:nz w g l){j:Nat}(hj:j<l.length):w.frozen? ⟨g,j,none⟩=false:=by
 obtain⟨t,h⟩:=h;simp only[World.frozen?,h];simp[nT];omega
theorem nz.set{w:World}{g:Nat}{l:List UInt8}(h:nz w g l){j:Nat}(hj:j<l.length)(c:UInt8):nz (w.setCell ⟨g,j,none⟩ (.int .u8 (c.toNat:Int))) g (l.set j c):=by
 obtain⟨t,h⟩:=h;refine⟨t,?_⟩;simp only[World.setCell,Array.getElem?_modify,h];simp[nT,hj,List.map_set]
theorem nz.new(w:World)(s:ByteArray)(cap:Nat):nz (w.drew.alloc (.cells (bytesRow s cap) 5 ((bytesRow s cap).size,(bytesRow s cap).size+1))) w.heap.size s.data.toList:=by
 refine⟨List.replicate (cap-s.size) (Value.int .u8 0),?_⟩;have e:bytesRow s cap=(nT s.data.toList++List.replicate (cap-s.size) (Value.int .u8 0)).toArray:=by
  apply Array.toList_inj.1;simp[bytesRow,nT]
 have h:=af w.drew (.cells (bytesRow s cap) 5 ((bytesRow s cap).size,(bytesRow s cap).size+1));have h':(w.drew.alloc (.cells (bytesRow s cap) 5 ((bytesRow s cap).size,(bytesRow s cap).size+1))).heap[w.heap.size]?=some (.cells (bytesRow s cap) 5 ((bytesRow s cap).size,(bytesRow s cap).size+1)):=h;rw[h',e];simp
theorem nz.text{w:World}{g:Nat}{l:List UInt8}(h:nz w g l)(n c:Nat)(hn:n=l.length) :
  (convert 159 9 (.slice (some ⟨g,0,none⟩) n c)).run Tryz.prog w=.ok (.string ⟨l.toArray⟩) w:=by
 subst hn;refine run_convert_bytes_back (P:=Tryz.prog) w 159 9 5 ⟨g,0,none⟩ c l Tryz.underlying159 Tryz.underlying5 Tryz.underlying9 ?_;intro j hj;have ea:(Addr.add ⟨g,0,none⟩ j)=⟨g,j,none⟩:=by unfold Addr.add;split<;>simp_all
 rw[ea];exact h.cell (List.getElem?_eq_getElem hj)
def oO(l:List UInt8)(k:Nat):List UInt8:=iK (l.take k)++l.drop k
theorem uJ(l:List UInt8)(k:Nat):(oO l k).length=l.length:=by simp[oO,iK];omega
theorem C7{l:List UInt8}{k:Nat}{x:UInt8}(h:l[k]?=some x):(oO l k)[k]?=some x:=by
 have hk:=(List.getElem?_eq_some_iff.1 h).1;unfold oO;rw[List.getElem?_append_right (by simp[iK];omega)];have e:k-(iK (l.take k)).length=0:=by simp[iK];omega
 rw[e,drop_at h];rfl
theorem xl{l:List UInt8}{k:Nat}{x:UInt8}(h:l[k]?=some x):oO l (k+1)=(oO l k).set k (Bq x):=by
 have hk:=(List.getElem?_eq_some_iff.1 h).1;have el:(iK (l.take k)).length=k:=by simp[iK];omega
 unfold oO;rw[drop_at h,List.take_add_one,h,List.set_append];rw[if_neg (by omega),show k-(iK (l.take k)).length=0 from by omega];simp[iK]
theorem xm{l:List UInt8}{k:Nat}{x:UInt8}(h:l[k]?=some x)(hx:Bq x=x):oO l (k+1)=oO l k:=by
 rw[xl h,hx];apply List.ext_getElem?;intro j;by_cases hj:k=j
 ·subst hj;rw[C7 h,List.getElem?_set_self (by rw[uJ];exact(List.getElem?_eq_some_iff.1 h).1)]
 ·rw[List.getElem?_set_ne hj]
theorem Ki(l:List UInt8)(k:Nat)(h:l.length<=k):oO l k=iK l:=by
 unfold oO;rw[List.take_of_length_le h,List.drop_eq_nil_of_le h];simp
def YO(s:ByteArray)(w:World)(i:Value)(wr:World):Prop :=
 ∃k:Nat,k<=s.size/\i=.int .i64 k/\nz wr w.heap.size (oO s.data.toList k)/\Fr ay w wr
theorem lI(s:ByteArray)(w:World)(hs:s.size<17592186044416) :
  Calls Tryz.prog 128 #[.string s] w fun e w'=>e=.returned (.string ⟨(iK s.data.toList).toArray⟩)/\Fr ay w w':=by
 have kc:=fun(wx:World)=>run_bytes_of_string (P:=Tryz.prog) wx 9 159 5 s Tryz.underlying9 Tryz.underlying159 Tryz.underlying5;go_enter Tryz.func128,Tryz.ntmps128;go_wp2;go_loopw[10] (YO s w) (fun i _=>s.size-(intOf i).toNat)
 case atStart=>exact⟨0,Nat.zero_le _,rfl,nz.new w s _,((Fr.refl _ w).drew).alloc _⟩
 case round =>
  obtain⟨k,hk,rfl,gG,aW⟩:=hrel;by_cases cG:k<s.size
  ·have bC:=O (byte_at s k cG);generalize hx:s[k]=x at bC;have hc:=gG.cell (C7 bC.out);have hf:=gG.free (j:=k) (by rw[uJ];simpa using cG);by_cases h1:65<=x.toNat
   ·by_cases h2:x.toNat<=90
    ·have ln:=O (gG.set (j:=k) (by rw[uJ];simpa using cG) (Bq x));have hsc:=O (xl bC.out);have Tl:=O (show((Bq x).toNat:Int)=(x.toNat:Int)+32 by rw[FV,if_pos ⟨h1,h2⟩];omega);go_wp2;go_roundw
     case rel=>exact⟨k+1,by omega,by go_num,by rw[hsc.out];have h:=ln.out;rw[Tl.out]at h;exact h,aW.dI (p:=⟨w.heap.size,k,none⟩) (Nat.le_refl _) _⟩
     case measure=>simp[intOf];omega
    ·have kz:=O (xm bC.out (by unfold Bq;rw[if_neg (by omega)]));go_wp2;go_roundw
     case rel=>exact⟨k+1,by omega,by go_num,by rw[kz.out];exact gG,aW⟩
     case measure=>simp[intOf];omega
   ·have kz:=O (xm bC.out (by unfold Bq;rw[if_neg (by omega)]));go_wp2;go_roundw
    case rel=>exact⟨k+1,by omega,by go_num,by rw[kz.out];exact gG,aW⟩
    case measure=>simp[intOf];omega
  ·have Wq:=gG;rw[Ki s.data.toList k (by simp;omega)]at Wq;have vH:=fun c=>Wq.text s.size c (by simp[iK]);go_wp2;go_ret;exact⟨rfl,aW⟩
def bf(a b:List UInt8):Bool:=iK a==iK b
theorem gX(a b:ByteArray)(w:World)(ha:a.size<17592186044416)(hb:b.size<17592186044416) :
  Calls Tryz.prog 92 #[.string a,.string b] w fun e w'=>e=.returned (.bool (bf a.data.toList b.data.toList))/\Fr ay w w':=by
 go_enter Tryz.func92,Tryz.ntmps92;go_wp2_with fail
 refine(lI a w ha).mono ?_;rintro e w1⟨rfl,bt⟩;go_wp2_with fail
 refine(lI b w1 hb).mono ?_;rintro e w2⟨rfl,bq⟩;go_wp2;go_ret;exact⟨cJ (by simp[bf]),bt.trans bq⟩
end Go.Proofs.YtjdmjbdkdmbaiaaGreatDoor
