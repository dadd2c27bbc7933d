/- Base, Shelf, Idx, Bytes, Token1, CleanPure, Range, Lower, Token2, Trim, RowK, Hex, Tabs0, Strs, Token3, UrlPure, RowS, CountPure, Sum1, Base64, Token4, Types, Cut1, SortS, Still, Sum2, UnbP, List, QuotePure, Fetch1, Md5, Basic, Split1, Bank1, RowWa, ClonePa, Home, CloneCe, ZOp. -/
import Derived.Test.YtpkkncoddhkfkaaGreatDoorPk0
import Derived.Shelf.Strings.OnBuilder
import Derived.Shelf.Small.Utf8
import Derived.Shelf.Small.Bits
import Derived.Shelf.Strconv.Itoa4
import Derived.Shelf.Strings.Shaped
import Derived.Shelf.Sort.Plain
import Derived.Shelf.Strings.LastIndex
import Derived.Shelf.Strings.SplitShaped
import Derived.Shelf.Strings.Repeat
import Derived.Shelf.Unicode.DecodeAny
import Derived.Shelf.Strings.BuilderCap
import Derived.Shelf.Slices.Turned
import Derived.Shelf.Slices.Clone
import Derived.Shelf.Slices.Cells
import Derived.Shelf.Slices.In.SortNone
import Derived.Shelf.Slices.Empties2
import Derived.Shelf.Path.Small
import Derived.Test.YtpkkncoddhkfkaaGreatDoorRows
import Derived.WalkSpells
import Derived.WalkLawsBesides
import Derived.RangeFuncNested
import Derived.RangeFuncBound
import Derived.Shelf.Strings.SlTrimAscii
import Derived.Shelf.SlicesQ.Load
import Derived.Stop.LaidErr
import Derived.Lib.SmallJoins
import Derived.Lib.AppendIntMem
import Derived.Lib.Atoi
import Derived.Deep.MidRow
set_option maxRecDepth 100000
set_option maxHeartbeats 16000000
set_option linter.unusedSimpArgs false
namespace Go.Proofs.YtpkkncoddhkfkaaGreatDoor
open Go.Proofs.Tryz
open Go.RowKit
variable {k B:Nat} {o:Obj} {p:Addr} {w w':World}
theorem jF{a b:Bool}(h:a=b):Ending.returned (.bool a)=.returned (.bool b):=by rw[h]
structure Fr (S:Nat->Prop) (w w':World):Prop where
 os:w'.os=w.os
 tape:w'.tape=w.tape
 output:w'.output=w.output
 size:w.heap.size<=w'.heap.size
 block:∀k,k<w.heap.size->¬S k->w'.heap[k]?=w.heap[k]?
namespace Fr
variable {S T : Nat → Prop} {a w w' w1 w2 : World}
theorem refl(S:Nat->Prop)(w:World):Fr S w w:=⟨rfl,rfl,rfl,ar _,fun _ _ _=>rfl⟩
theorem mono(h:Fr S w w')(hs:∀k,k<w.heap.size->S k->T k):Fr T w w':=⟨h.os,h.tape,h.output,h.size,fun k hk hn=>h.block k hk (fun hS=>hn (hs k hk hS))⟩
theorem trans(h:Fr S a w)(g:Fr S w w'):Fr S a w' :=
 ⟨g.os.trans h.os,g.tape.trans h.tape,g.output.trans h.output,au h.size g.size,fun k hk hn=>(g.block k (bf hk h.size) hn).trans (h.block k hk hn)⟩
theorem step(h:Fr S a w)(g:Fr T w w')(hs:∀k,k<a.heap.size->T k->S k):Fr S a w' :=
 ⟨g.os.trans h.os,g.tape.trans h.tape,g.output.trans h.output,au h.size g.size,
  fun k hk hn=>(g.block k (bf hk h.size) (fun ht=>hn (hs k hk ht))).trans (h.block k hk hn)⟩
theorem keep(h:Fr S w w')(hk:w.heap[k]?=some o)(hn:¬S k):w'.heap[k]?=some o :=
 (h.block k (by rcases Nat.lt_or_ge k w.heap.size with g|g;exact g;simp[Array.getElem?_eq_none g]at hk) hn).trans hk
theorem cell(h:Fr S w w')(hp:p.block<w.heap.size)(hn:¬S p.block):w'.cell? p=w.cell? p:=World.cell?_of_block (w:=w) (h.block p.block hp hn)
theorem drewN(n:Nat)(h:Fr S a w):Fr S a (w.drewN n):=⟨h.os,h.tape,h.output,h.size,h.block⟩
theorem drew(h:Fr S a w):Fr S a w.drew:=⟨h.os,h.tape,h.output,h.size,h.block⟩
theorem setCell(h:Fr S a w)(hp:p.block<a.heap.size->S p.block)(u:Value):Fr S a (w.setCell p u) :=
 ⟨h.os,h.tape,h.output,by simpa[World.setCell]using h.size,fun k hk hn=>(Below.heap_setCell _ _ _ _ (fun e=>by subst e;exact hn (hp hk))).trans (h.block k hk hn)⟩
theorem alloc(h:Fr S a w)(o:Obj):Fr S a (w.alloc o) :=
 ⟨h.os,h.tape,h.output,au h.size aK,fun k hk hn=>(Below.heap_alloc _ _ _ (bf hk h.size)).trans (h.block k hk hn)⟩
theorem grown{row:Option Nat}(h:Fr S a w)(hg:w.grownBy w' row)(hr:∀k,row=some k->k<a.heap.size->S k):Fr S a w' :=
 ⟨hg.os.trans h.os,hg.tape.trans h.tape,hg.output.trans h.output,au h.size hg.size,
  fun k hk hn=>(hg.block k (bf hk h.size) (fun e=>hn (hr k e.symm hk))).trans (h.block k hk hn)⟩
theorem below(h:Fr S w w')(hB:B<=w.heap.size)(hS:∀k,k<B->¬S k):Below B w w' :=
 ⟨h.os,h.tape,h.output,h.size,fun k hk=>h.block k (bf hk hB) (hS k hk)⟩
theorem uT(h:Below B w w')(hS:∀k,k<w.heap.size->B<=k->S k):Fr S w w' :=
 ⟨h.os,h.tape,h.output,h.size,fun k hk hn=>h.block k (Nat.lt_of_not_le (fun hB=>hn (hS k hk hB)))⟩
end Fr
def aU:Nat->Prop:=fun _=>False
theorem Fr.e8(h:Fr aU w w'):Below w.heap.size w w':=h.below (ar _) (fun _ _ h=>h)
theorem Fr.ia(h:Below w.heap.size w w'):Fr aU w w':=Fr.uT h (fun _ hk hB=>absurd hk ab)
theorem Fr.eC{S:Nat->Prop}{a:World}(h:Fr S a w)(hp:a.heap.size<=p.block)(u:Value):Fr S a (w.setCell p u):=h.setCell (fun hl=>absurd hl ab) u
theorem byte_at(s:ai)(i:Nat)(h:i<s.size):s.data.toList[i]?=some s[i]:=by
 have h':i<s.data.toList.length:=by simpa using h
 rw[List.getElem?_eq_getElem h'];rfl
theorem aJ(h:w.heap[k]?=some o):k<w.heap.size:=by
 rcases Nat.lt_or_ge k w.heap.size with g|g
 ·exact g
 ·simp[Array.getElem?_eq_none g]at h
def nQ(c:UInt8):Bool:=(decide (48<=c.toNat)&&decide (c.toNat<=57))||(decide (97<=c.toNat)&&decide (c.toNat<=122))||(decide (65<=c.toNat)&&decide (c.toNat<=90))
def one(b:Nat):Nat->Prop:=fun k=>k=b
end Go.Proofs.YtpkkncoddhkfkaaGreatDoor
namespace Go.Proofs
open Tryz Go.Proofs.YtpkkncoddhkfkaaGreatDoor
open Go.Shelf
def Tryz.wW:Go.Shelf.Ren:=⟨fun|161=>202|231=>50|227=>52|233=>53|235=>55|228=>88|197=>86|151=>89|260=>146|152=>148|137=>57|119=>192|224=>190|225=>189|217=>91|266=>150|n=>n,fun|9=>9|4=>4|3=>3|5=>5|117=>126|116=>125|0=>0|124=>129|105=>171|21=>21|119=>261|46=>233|139=>264|138=>263|n=>n,fun|3=>0|4=>1|n=>n⟩
def Tryz.mC:Go.Shelf.Ren:=⟨fun|160=>30|232=>51|231=>50|227=>52|234=>54|233=>53|236=>56|235=>55|228=>88|271=>90|151=>89|197=>86|120=>149|152=>148|260=>146|137=>57|119=>192|224=>190|225=>189|217=>91|266=>150|n=>n,fun|9=>9|4=>4|3=>3|5=>5|117=>126|116=>125|0=>0|124=>129|21=>21|105=>171|46=>233|119=>261|139=>264|138=>263|n=>n,fun|3=>0|4=>1|n=>n⟩
theorem Tryz.pz:Go.Proofs.Lays.n160 prog Tryz.mC:={
 mixed:=af
 f119:=func192.trans (ay some af)
 f120:=func149.trans (ay some af)
 f137:=func57.trans (ay some af)
 f151:=func89.trans (ay some af)
 f152:=func148.trans (ay some af)
 f160:=func30.trans (ay some af)
 f197:=func86.trans (ay some af)
 f217:=func91.trans (ay some af)
 f224:=func190.trans (ay some af)
 f225:=func189.trans (ay some af)
 f227:=func52.trans (ay some af)
 f228:=func88.trans (ay some af)
 f231:=func50.trans (ay some af)
 f232:=func51.trans (ay some af)
 f233:=func53.trans (ay some af)
 f234:=func54.trans (ay some af)
 f235:=func55.trans (ay some af)
 f236:=func56.trans (ay some af)
 f260:=func146.trans (ay some af)
 f266:=func150.trans (ay some af)
 f271:=func90.trans (ay some af)
 t0:=underlying0
 a0:=Tryz.isAgg0
 z0:=Tryz.sizeOf0
 v0:=Tryz.zeroValue0
 t3:=underlying3
 a3:=Tryz.isAgg3
 z3:=Tryz.sizeOf3
 v3:=Tryz.zeroValue3
 t4:=underlying4
 a4:=Tryz.isAgg4
 z4:=Tryz.sizeOf4
 v4:=Tryz.zeroValue4
 t5:=underlying5
 a5:=Tryz.isAgg5
 z5:=Tryz.sizeOf5
 v5:=Tryz.zeroValue5
 t9:=underlying9
 a9:=Tryz.isAgg9
 z9:=Tryz.sizeOf9
 v9:=Tryz.zeroValue9
 t21:=underlying21
 a21:=Tryz.isAgg21
 z21:=Tryz.sizeOf21
 v21:=Tryz.zeroValue21
 t46:=underlying233
 a46:=Tryz.isAgg233
 z46:=Tryz.sizeOf233
 v46:=Tryz.zeroValue233
 t105:=underlying171
 a105:=Tryz.isAgg171
 z105:=Tryz.sizeOf171
 v105:=Tryz.zeroValue171
 t116:=underlying125
 a116:=Tryz.isAgg125
 z116:=Tryz.sizeOf125
 t117:=underlying126
 a117:=Tryz.isAgg126
 z117:=Tryz.sizeOf126
 v117:=Tryz.zeroValue126
 t119:=underlying261
 a119:=Tryz.isAgg261
 z119:=Tryz.sizeOf261
 t124:=underlying129
 a124:=Tryz.isAgg129
 z124:=Tryz.sizeOf129
 v124:=Tryz.zeroValue129
 t138:=underlying263
 a138:=Tryz.isAgg263
 z138:=Tryz.sizeOf263
 v138:=Tryz.zeroValue263
 t139:=underlying264
 a139:=Tryz.isAgg264
 z139:=Tryz.sizeOf264
 v139:=Tryz.zeroValue264
 g3:=af
 g4:=af}
def Tryz.mD:Go.Shelf.Ren:=⟨fun|137=>57|217=>91|266=>150|n=>n,fun|9=>9|5=>5|3=>3|n=>n,fun|n=>n⟩
theorem Tryz.uU:Go.Proofs.Lays.n137 prog Tryz.mD:={
 mixed:=af
 f137:=func57.trans (ay some af)
 f217:=func91.trans (ay some af)
 f266:=func150.trans (ay some af)
 t3:=underlying3
 a3:=Tryz.isAgg3
 z3:=Tryz.sizeOf3
 v3:=Tryz.zeroValue3
 t5:=underlying5
 a5:=Tryz.isAgg5
 z5:=Tryz.sizeOf5
 v5:=Tryz.zeroValue5
 t9:=underlying9
 a9:=Tryz.isAgg9
 z9:=Tryz.sizeOf9
 v9:=Tryz.zeroValue9}
open Go.RowKit in
theorem Tryz.strings_IndexByte(s:ai)(c:Int)(w:World) :
  Calls prog 57 #[.string s,.int .u8 c] w fun e w'=>e=.returned (.int .i64 (Lib.indexByte s.data.toList c.toNat.toUInt8))/\w'=w:=Any.strings_IndexByte Tryz.uU s c w
def Tryz.mE:Go.Shelf.Ren:=⟨fun|219=>147|217=>91|225=>189|224=>190|267=>191|266=>150|314=>217|n=>n,fun|9=>9|3=>3|4=>4|5=>5|46=>233|146=>279|51=>278|n=>n,fun|1=>2|n=>n⟩
theorem Tryz.uV:Go.Proofs.Lays.n219 prog Tryz.mE:={
 mixed:=af
 f217:=func91.trans (ay some af)
 f219:=func147.trans (ay some af)
 f224:=func190.trans (ay some af)
 f225:=func189.trans (ay some af)
 f266:=func150.trans (ay some af)
 f267:=func191.trans (ay some af)
 f314:=func217.trans (ay some af)
 t3:=underlying3
 a3:=Tryz.isAgg3
 z3:=Tryz.sizeOf3
 v3:=Tryz.zeroValue3
 t4:=underlying4
 a4:=Tryz.isAgg4
 z4:=Tryz.sizeOf4
 v4:=Tryz.zeroValue4
 t5:=underlying5
 a5:=Tryz.isAgg5
 z5:=Tryz.sizeOf5
 v5:=Tryz.zeroValue5
 t9:=underlying9
 a9:=Tryz.isAgg9
 z9:=Tryz.sizeOf9
 v9:=Tryz.zeroValue9
 t46:=underlying233
 a46:=Tryz.isAgg233
 z46:=Tryz.sizeOf233
 v46:=Tryz.zeroValue233
 t51:=underlying278
 a51:=Tryz.isAgg278
 z51:=Tryz.sizeOf278
 v51:=Tryz.zeroValue278
 t146:=underlying279
 a146:=Tryz.isAgg279
 z146:=Tryz.sizeOf279
 v146:=Tryz.zeroValue279
 g1:=af}
open Go.RowKit Go.Lib in
theorem Tryz.stringslite_Index_one(s:ai)(c:UInt8)(w:World) :
  Calls prog 147 #[.string s,.string ⟨#[c]⟩] w fun e w'=>e=.returned (.int .i64 (Lib.indexByte s.data.toList c))/\w'=w:=Any.stringslite_Index_one Tryz.uV s c w
def Tryz.mF:Go.Shelf.Ren:=⟨fun|111=>45|n=>n,fun|28=>113|3=>3|4=>4|0=>0|n=>n,fun|n=>n⟩
theorem Tryz.pA:Go.Proofs.Lays.n111 prog Tryz.mF:={
 mixed:=af
 f111:=func45.trans (ay some af)
 t0:=underlying0
 a0:=Tryz.isAgg0
 z0:=Tryz.sizeOf0
 v0:=Tryz.zeroValue0
 t3:=underlying3
 a3:=Tryz.isAgg3
 z3:=Tryz.sizeOf3
 v3:=Tryz.zeroValue3
 t4:=underlying4
 a4:=Tryz.isAgg4
 z4:=Tryz.sizeOf4
 v4:=Tryz.zeroValue4
 t28:=underlying113
 a28:=Tryz.isAgg113
 z28:=Tryz.sizeOf113
 v28:=Tryz.zeroValue113}
open Go.RowKit Go.Lib in
theorem Tryz.slices_Equal_int(b1 o1 n c b2 o2 m d:Nat)(xs ys:List Int)(w:World)(hx:n<=xs.length)(hy:m<=ys.length)(xW:n<=9223372036854775807)(rK:m<=9223372036854775807)(C0:∀j,j<xs.length->w.cell? ⟨b1,o1+j,none⟩=some (.int .i64 (xs.getD j 0)))(AH:∀j,j<ys.length->w.cell? ⟨b2,o2+j,none⟩=some (.int .i64 (ys.getD j 0))) :
  Calls prog 45 #[.slice (some ⟨b1,o1,none⟩) n c,.slice (some ⟨b2,o2,none⟩) m d] w fun e w'=>e=.returned (.bool (xs.take n==ys.take m))/\∃q,w'=w.drewN q:=Any.slices_Equal_int Tryz.pA b1 o1 n c b2 o2 m d xs ys w hx hy xW rK C0 AH
open Go.RowKit Go.Lib in
theorem Tryz.slices_Equal_int_empty(a1 a2:Option Addr)(c m d:Nat)(w:World)(rK:m<=9223372036854775807) :
  Calls prog 45 #[.slice a1 0 c,.slice a2 m d] w fun e w'=>e=.returned (.bool (decide (m=0)))/\w'=w:=Any.slices_Equal_int_empty Tryz.pA a1 a2 c m d w rK
def Tryz.ky:Go.Shelf.Ren:=⟨fun|16=>93|n=>n,fun|24=>121|9=>9|4=>4|n=>n,fun|n=>n⟩
theorem Tryz.iE:Go.Proofs.Lays2.n16 prog Tryz.ky:={
 mixed:=af
 f16:=func93.trans (ay some af)
 t4:=underlying4
 a4:=Tryz.isAgg4
 z4:=Tryz.sizeOf4
 v4:=Tryz.zeroValue4
 t9:=underlying9
 a9:=Tryz.isAgg9
 z9:=Tryz.sizeOf9
 v9:=Tryz.zeroValue9
 t24:=underlying121
 a24:=Tryz.isAgg121
 z24:=Tryz.sizeOf121
 v24:=Tryz.zeroValue121
 i9:=af}
open Go.RowKit Go.Lib in
theorem Tryz.slices_Clone_string(b off n c:Nat)(zs:List ai)(w:World)(hz:n<=zs.length)(xW:n*16<=140737488355328)(hc:∀j,j<zs.length->w.cell? ⟨b,off+j,none⟩=some (.string (zs.getD j ByteArray.empty))) :
  Calls prog 93 #[.slice (some ⟨b,off,none⟩) n c] w fun e w'=>∃v',e=.returned v'/\w'.ownsRow w.heap.size 9 1 v' n ((zs.take n).map (Value.string))/\v'≠ .slice none 0 0/\Below w.heap.size w w':=Any.slices_Clone_string Tryz.iE b off n c zs w hz xW hc
open Go.RowKit Go.Lib in
theorem Tryz.slices_Clone_string_nil(n c:Nat)(w:World) :
  Calls prog 93 #[.slice none n c] w fun e w'=>e=.returned (.slice none 0 0)/\w'=w:=Any.slices_Clone_string_nil Tryz.iE n c w
open Go.RowKit Go.Lib in
theorem Tryz.slices_Clone_string_zero(a:Addr)(c:Nat)(w:World) :
  Calls prog 93 #[.slice (some a) 0 c] w fun e w'=>∃v',e=.returned v'/\w'.ownsRow w.heap.size 9 1 v' 0 []/\v'≠ .slice none 0 0/\Below w.heap.size w w':=Any.slices_Clone_string_zero Tryz.iE a c w
end Go.Proofs
namespace Go.Proofs.YtpkkncoddhkfkaaGreatDoor
open Go.Proofs.Tryz
theorem gY{α:Type}{l:List α}{k:Nat}{x:α}(h:l[k]?=some x):l.take (k+1)=l.take k++[x]:=by rw[cC,h];rfl
open Go.RowKit
theorem aB(w:World)(o:Obj):(w.alloc o).heap[w.heap.size]?=some o:=by
 show(w.heap.push o)[w.heap.size]?=_;simp
def AI(n:Nat):Bool:=n==9||(decide (32<=n)&&n !=127)
def mG(c:UInt8):Bool:=AI c.toNat
def marks:aw:=[33,35,36,37,38,39,42,43,45,46,94,95,124,126,96]
def lu(c:UInt8):Bool:=decide (0<=Lib.indexByte marks c)
theorem rL(c:UInt8):0<=Lib.indexByte [33,35,36,37,38,39,42,43,45,46,94,95,124,126,96] c↔lu c=true:=by
 unfold lu marks;rw[decide_eq_true_iff]
def fZ(c:UInt8):Bool:=nQ c||lu c
theorem mH(c:UInt8)(w:World) :
  Calls prog 31 #[.int .u8 c.toNat] w fun e w'=>e=.returned (.bool (fZ c))/\w=w':=by
 go_enter func31,ntmps31;go_wp2_with (go_at_call 57;refine(Tryz.strings_IndexByte _ _ _).mono ?_;rintro e w' ⟨rfl,rfl⟩)
 all_goals
  go_ret;refine⟨jF ?_,rfl⟩;rw[Bool.eq_iff_iff];simp[fZ,nQ,rL];cases lu c<;>simp<;>omega
def cm(c:UInt8):aw->List (aw)
 |[]=>[[]]
 |x :: l=>if x=c then [] :: cm c l else match cm c l with
  |[]=>[[x]]
  |p :: ps=>(x :: p) :: ps
def wY(c:UInt8):List (aw)->aw
 |[]=>[]
 |[p]=>p
 |p :: q :: ps=>p++c :: wY c (q :: ps)
theorem iJ(c:UInt8):∀l,cm c l≠ []
 |[]=>by simp[cm]
 |x :: l=>by
  unfold cm;split
  ·simp
  ·split<;>simp
theorem fK(c:UInt8)(l:aw):cm c (c :: l)=[] :: cm c l:=by rw[cm,aq rfl]
theorem eJ{c x:UInt8}{l p:aw}{ps:List (aw)}(hx:¬x=c)(h:cm c l=p :: ps):cm c (x :: l)=(x :: p) :: ps:=by rw[cm,aj hx,h]
theorem jO(c:UInt8):∀(p l:aw),c∉p->cm c (p++c :: l)=p :: cm c l
 |[],l,_=>fK c l
 |x :: p,l,h=>by
  have hx:¬x=c:=fun e=>h (by rw[e];exact cq ..);exact eJ hx (jO c p l (fun e=>h (br _ e)))
theorem jP(c:UInt8):∀p:aw,c∉p->cm c p=[p]
 |[],_=>rfl
 |x :: p,h=>by
  have hx:¬x=c:=fun e=>h (by rw[e];exact cq ..);exact eJ hx (jP c p (fun e=>h (br _ e)))
def DU:aw:=[46]
def AM:aw:=[46,46]
def AO(l:List (aw)):List (aw):=if 1<l.length then l.dropLast else l
def qm(l:List (aw))(p:aw)(last:Bool):List (aw) :=
 if p=AM then(if last then AO l++[[]]else AO l)
 else if p=DU then(if last then l++[[]]else l)
 else l++[p]
def pD:List (aw)->List (aw)->List (aw)
 |l,[]=>l
 |l,p :: ps=>pD (qm l p ps.isEmpty) ps
def AP(s:aw):aw:=if s.head?=some 47 then s else 47 :: s
def nU(s:aw):List (aw):=pD [] (cm 47 (AP s))
def x5(s:aw):aw:=wY 47 (nU s)
def gi(k:Nat)(A B:World):Prop:=∀j,k<=j->j<k+3->B.heap[j]?=A.heap[j]?
theorem gi.trans{k:Nat}{A B C:World}(h:gi k A B)(g:gi k B C):gi k A C:=fun j h1 h2=>(g j h1 h2).trans (h j h1 h2)
def jV(k B:Nat):Nat->Prop:=fun j=>j=k\/j=B\/j=B+1
theorem Fr.putObj{S:Nat->Prop}{a w:World}(h:Fr S a w){l:Nat}(hl:l<a.heap.size->S l)(o:Obj):Fr S a (w.putObj l o) :=
 ⟨h.os,h.tape,h.output,by rw[World.putObj_size];exact h.size,fun j hj hn=>(World.putObj_heap_other (fun e=>hn (by subst e;exact hl hj))).trans (h.block j hj hn)⟩
def n_{α:Type}(k:Nat)(I Ix:List α->World->Prop)(xs:List α)(W:World):Exit->Act->World->Prop
 | .normal,_,W'=>KeepsOthers W W'/\gi k W W'/\I xs W'
 | .ret,_,W'=>KeepsOthers W W'/\Ix xs W'
 |_,_,_=>False
def sq{α:Type}(F:Fence)(n:Nat)(P:Program)(g:Nat)(lb:Array Value)(enc:α->Value)(k:Nat)(ys:List α)(w:World):Prop :=
 ∀(l:Nat) (J Jx:List α->World->Prop) (W:World),Fr aU w W->(∀xs A B,J xs A->Fr (fun j=>j=k) A B->J xs B)->(∀xs A B,Jx xs A->Fr (fun j=>j=k) A B->Jx xs B) ->
  (∀xs x A,J xs A->xs++[x] <+: ys->YieldAt F (n-1) P l #[enc x] A fun e B=>(e=.returned (.bool true)/\J (xs++[x]) B/\gi k A B)\/(e=.returned (.bool false)/\Jx (xs++[x]) B)) ->
  J [] W ->
  CallsIn F n P g (#[.func (.yield l) #[] #[]]++lb) W fun e B=>(∃v,e=.returned v)/\(J ys B\/∃xs,xs <+: ys/\Jx xs B)
theorem iM{F:Fence}{n:Nat}{P:Program}{α:Type}{g:Operand}{ps:Array Tmp}{assign body:Code}{Q:Exit->Act->World->Prop}{a:Act}{w:World}
  (IP:F.round=none)(h1:1<=n){gf:Nat}{lb:Array Value}(hg:a.eval g=.func (.func gf) #[] lb)(IQ:F.fn gf)(eg:∀args w,(callFunc gf args).run P w=.ok (.enter gf args) w)
  {enc:α->Value}{k:Nat}{ys:List α}(hk:k+3<=w.heap.size)(Eh:sq F (n-1) P gf lb enc k ys w)(IU:ps.size=1)
  (I Ix:List α->World->Prop)(hI:∀xs A B,I xs A->Fr (jV k w.heap.size) A B->I xs B)(Ei:∀xs A B,Ix xs A->Fr (jV k w.heap.size) A B->Ix xs B)(h0:I [] w)(a₁:α->Act)
  (vC:∀(l:Nat) (x:α) (W:World) (K:Act->World->Prop),K (a₁ x) W ->
   assign.wpIn (F.inRound l) (n-1-1) P (Exit.then K (fun _ _ _=>False)) {tmps:=(ps.zip #[enc x]).foldl (fun t (p,v)=>t.setIfInBounds p v) a.tmps,defers:=[]} W)
  (Bt:∀(l:Nat) (xs:List α) (x:α) (W:World),I xs W->xs++[x] <+: ys->body.wpIn (F.inRound l) (n-1-1) P (n_ k I Ix (xs++[x]) W) (a₁ x) W)
  (Bu:∀(D:Nat) (W:World),D=w.heap.size->I ys W->W.heap[D]?=some (.deferred (some []))->Q .normal {a with defers:={target:=.collected D,args:= #[]} :: a.defers} W)
  (Bv:∀(D:Nat) (xs:List α) (W:World),D=w.heap.size->xs <+: ys->Ix xs W->W.heap[D]?=some (.deferred (some []))->Code.ret.wpIn F n P Q {a with defers:={target:=.collected D,args:= #[]} :: a.defers} W) :
  (Code.rangeFunc g ps assign body).wpIn F n P Q a w:=by
 refine wpIn_rangeFunc ?_;intro fn Bw;rw[IP];obtain⟨rec,lO⟩:∃rec:LoopState->Option Code->Loop,rec=fun st pe=>{state:=st,pending:=pe,fn,tmps:=a.tmps,params:=ps,assign,body,defers:=w.heap.size}:=⟨_,rfl⟩;obtain⟨W1,qo⟩:∃W1,(w.alloc (.deferred (some []))).alloc (.loop (rec .ready none))=W1:=⟨_,rfl⟩;have gK:W1.heap.size=w.heap.size+2:=by rw[<-qo];simp
 have IV:W1.heap[w.heap.size+1]?=some (.loop (rec .ready none)):=by
  rw[<-qo];have:=World.alloc_heap_new (w.alloc (.deferred (some []))) (.loop (rec .ready none));rwa [World.size_alloc]at this
 have IW:W1.heap[w.heap.size]?=some (.deferred (some [])):=by
  rw[<-qo];exact(Below.heap_alloc _ _ _ aK).trans (World.alloc_heap_new w _)
 have dt:Fr aU w W1:=by rw[<-qo];exact((Fr.refl aU w).alloc _).alloc _
 have IX:I [] W1:=hI _ _ _ h0 (dt.mono fun _ _ h=>h.elim);have Bx:∀ {A B:World},Fr (fun j=>j=k) A B->Fr (jV k w.heap.size) A B:=fun h=>h.mono fun _ _ e=>Or.inl e;have sr:∀(A:World) (o:Obj),Fr (jV k w.heap.size) A (A.putObj (w.heap.size+1) o):=fun A o=>(Fr.refl _ A).putObj (fun _=>Or.inr (Or.inr rfl)) o
 have pJ:∀ {A B:World} {j:Nat} {o:Obj},Fr (fun j=>j=k) A B->w.heap.size<=j->A.heap[j]?=some o->B.heap[j]?=some o:=fun h hj ho=>h.keep ho (fun e=>ab);refine⟨w.heap.size+1,[{target:=.collected w.heap.size,args:= #[]}],W1,{target:=.fn (.func gf) lb,args:= #[.func (.yield (w.heap.size+1)) #[] #[]]},W1,gf,
  #[.func (.yield (w.heap.size+1)) #[] #[]]++lb,W1,?_,?_,?_,?_,fun _=>h1,?_⟩
 ·rw[<-qo,lO];exact run_enterLoop_outer _ _ _ _ _
 ·simp only[resolve,hg];simp[go_sem]
 ·intro f' vD;simp[Target.leads]at vD;subst vD;exact IQ
 ·simp[invoke,go_sem,eg]
 refine(Eh (w.heap.size+1)
  (fun xs W=>I xs W/\W.heap[w.heap.size+1]?=some (.loop (rec .ready none))/\W.heap[w.heap.size]?=some (.deferred (some [])))
  (fun xs W=>Ix xs W/\W.heap[w.heap.size+1]?=some (.loop (rec .done (some .ret)))/\W.heap[w.heap.size]?=some (.deferred (some [])))
  W1 dt
  (fun xs A B h f=>⟨hI _ _ _ h.1 (Bx f),pJ f ab h.2.1,pJ f ab h.2.2⟩)
  (fun xs A B h f=>⟨Ei _ _ _ h.1 (Bx f),pJ f ab h.2.1,pJ f ab h.2.2⟩)
  ?_ ⟨IX,IV,IW⟩).mono ?_
 ·rintro xs x W⟨hi,hl,hd⟩C5;have sa:w.heap.size+1<W.heap.size:=(Array.getElem?_eq_some_iff.1 hl).1;have hy:=run_yield (P:=P) (args:= #[enc x]) hl (by rw[lO,IU];rfl);rw[lO]at hy;refine⟨fn,_,assign,body,hy,roundIn_of_wpIn Bw (vC _ x W _ ⟨_,run_beginRound hl (by rw[lO]),?_⟩)⟩;obtain⟨W2,oa⟩:∃W2,W.putObj (w.heap.size+1) (.loop {rec .ready none with state:=.busy})=W2:=⟨_,rfl⟩;rw[oa]
  have Ej:W2.heap[w.heap.size+1]?=some (.loop {rec .ready none with state:=.busy}):=by rw[<-oa];exact World.putObj_heap_same sa
  have iP:W2.heap[w.heap.size]?=some (.deferred (some [])):=by rw[<-oa];exact(World.putObj_heap_other ab).trans hd
  have Be:gi k W W2:=by rw[<-oa];exact fun j h1 h2=>World.putObj_heap_other ab
  have Ek:I xs W2:=by rw[<-oa];exact hI _ _ _ hi (sr _ _)
  refine wpIn_mono (Bt _ xs x W2 Ek C5) ?_;have fin:∀(jump:Option Code) (W3:World),KeepsOthers W2 W3 ->
    (Instr.endRound (w.heap.size+1) jump).run P W3=.ok (.bool jump.isNone) (W3.putObj (w.heap.size+1) (.loop (rec (if jump.isNone then .ready else .done) jump))) /\
    (W3.putObj (w.heap.size+1) (.loop (rec (if jump.isNone then .ready else .done) jump))).heap[w.heap.size+1]?=some (.loop (rec (if jump.isNone then .ready else .done) jump)) /\
    (W3.putObj (w.heap.size+1) (.loop (rec (if jump.isNone then .ready else .done) jump))).heap[w.heap.size]?=some (.deferred (some [])):=fun jump W3 uw=>by
   have Gg:=uw.same _ _ Ej rfl;have hr:=run_endRound (P:=P) jump Gg;rw[lO]at hr ⊢;exact⟨hr,World.putObj_heap_same (Array.getElem?_eq_some_iff.1 Gg).1,(World.putObj_heap_other ab).trans (uw.same _ _ iP rfl)⟩
  rintro e a3 W3 hp;cases e with
  |normal =>
   obtain⟨El,uw,Bz⟩:=hp;obtain⟨hr,zQ,Em⟩:=fin none W3 El;exact⟨_,_,hr,.inl ⟨rfl,⟨hI _ _ _ Bz (sr _ _),zQ,Em⟩,(Be.trans uw).trans fun j h1 h2=>World.putObj_heap_other ab⟩⟩
  |ret =>
   obtain⟨El,Bz⟩:=hp;obtain⟨hr,zQ,Em⟩:=fin (some .ret) W3 El;exact⟨_,_,hr,.inr ⟨rfl,Ei _ _ _ Bz (sr _ _),zQ,Em⟩⟩
  |exit id=>exact hp.elim
  |goto t=>exact hp.elim
  |panic ch=>exact hp.elim
  |outgrown=>exact hp.elim
 ·rintro e W2⟨⟨v,rfl⟩,(⟨hi,hl,hd⟩|⟨xs,En,hi,hl,hd⟩)⟩
  ·exact⟨none,_,by have:=run_endLoop (P:=P) hl (by rw[lO];simp);rw[lO]at this;exact this,Bu _ _ rfl (hI _ _ _ hi (sr _ _)) ((World.putObj_heap_other ab).trans hd)⟩
  ·exact⟨some .ret,_,by have:=run_endLoop (P:=P) hl (by rw[lO];simp);rw[lO]at this;exact this,Bv _ xs _ rfl En (Ei _ _ _ hi (sr _ _)) ((World.putObj_heap_other ab).trans hd)⟩
def DR(c:UInt8):UInt8:=if 65<=c.toNat/\c.toNat<=90 then c+32 else c
def lr(l:aw):aw:=l.map DR
def ft(a b:aw):Bool:=lr a==lr b
def uW(p:UInt8->Bool)(l:aw)(i:Nat):Nat:=i+((l.drop i).takeWhile p).length
def iG(c:UInt8):Bool:=c==32||c==9
theorem dropWhile_nil{α:Type}{p:α->Bool}:∀ {l:List α},l.dropWhile p=[]↔l.all p=true
 |[]=>aK
 |a :: l=>by
  rw[List.dropWhile_cons,List.all_cons];cases h:p a
  ·simp
  ·simp only[bD,Bool.true_and];exact dropWhile_nil
theorem kM(l cs:aw):Lib.trimS l cs=[]↔l.all (cs.contains ·)=true:=by
 unfold Lib.trimS Lib.trimLeftS Lib.trimRightS;rw[dropWhile_nil];constructor
 ·intro h;have h2:l.reverse.dropWhile (cs.contains ·)=[]:=by
   cases hq:l.reverse.dropWhile (cs.contains ·)with
   |nil=>rfl
   |cons a r =>
    exfalso;have hh:=List.head?_dropWhile_not (p:=(cs.contains ·)) l.reverse;rw[hq]at h hh;simp only[List.head?_cons,List.reverse_cons,List.all_append,List.all_cons,List.all_nil,Bool.and_true,aY]at h hh;rw[h.2]at hh;simp at hh
  rw[dropWhile_nil]at h2;simpa using h2
 ·intro h;rw[cM]at h ⊢;intro x hx;refine h x ?_;have h1:=(List.dropWhile_sublist (cs.contains ·) (l:=l.reverse)).subset (List.mem_reverse.1 hx);exact List.mem_reverse.1 h1
theorem kB{s:ai}:s.data.toList=[]↔s.size=0:=by
 constructor
 ·intro h;have:s.data.toList.length=0:=by rw[h];rfl
  simpa using this
 ·intro h;apply aO;simpa using h
theorem mL(s cs:ai)(w:World)(hs:s.size<=9223372036854775807)(h2:2<=cs.size)(hcs:cs.size<4294967281)(yc:∀b∈cs.data.toList,b.toNat<128) :
  Calls prog 30 #[.string s,.string cs] w fun e w'=>e=.returned (.string ⟨(Lib.trimS s.data.toList cs.data.toList).toArray⟩)/\Fr aU w w':=by
 by_cases h0:s.size=0
 ·refine(Any.strings_Trim_empty Tryz.pz s cs w (Or.inl h0)).mono fun e w' ⟨he,hw⟩=>⟨?_,hw▸Fr.refl _ _⟩;have e0:=kB.2 h0;rw[he,e0]
  congr 2
  rw[show Lib.trimS [] cs.data.toList=[]from rfl];cases s with
  |mk d=>simp at e0;rw[e0]
 ·refine(Any.strings_Trim_set Tryz.pz (fun w=>af) af s cs w h2 ab hs hcs (fun j b hj=>yc b (aR hj))).mono fun e w' ⟨he,q,hw⟩=>⟨he,?_⟩;rw[hw];exact(((Fr.refl aU w).alloc _).alloc _).drewN q
def cz(k:Nat)(w:World)(v:Value)(xs:List (List Value)):Prop :=
 (∀x∈xs,x.length=k/\∀u∈x,u.oneCell'=true) /\
 ((∃a c,v=.slice a 0 c/\xs=[]/\(a=none->c=0)) \/
  ∃bk o c,v=.slice (some ⟨bk,o,none⟩) xs.length c/\xs.length<=c/\c<=maxLen/\bk<w.heap.size /\
   ∀(j:Nat) x,xs[j]?=some x->∀(i:Nat) u,x[i]?=some u->w.cell? ⟨bk,o+j*k+i,none⟩=some u)
section
variable {k : Nat} {w w' : World} {v : Value} {xs : List (List Value)}
theorem cz.nil(k:Nat)(w:World):cz k w (.slice none 0 0) []:=⟨aK,Or.inl ⟨_,_,rfl,rfl,fun _=>rfl⟩⟩
theorem cz.form(h:cz k w v xs):∃a c,v=.slice a xs.length c:=by
 rcases h.2 with ⟨a,c,hv,hs,_⟩|⟨bk,o,c,hv,_⟩
 ·exact⟨a,c,by rw[hv,hs];rfl⟩
 ·exact⟨_,_,hv⟩
theorem cz.fr{S:Nat->Prop}(h:cz k w v xs)(hf:Fr S w w')(hn:∀b,v.ownBlock=some b->¬S b):cz k w' v xs:=by
 refine⟨h.1,?_⟩;rcases h.2 with h|⟨bk,o,c,hv,h1,h2,h3,h4⟩
 ·exact Or.inl h
 ·refine Or.inr ⟨bk,o,c,hv,h1,h2,bf h3 hf.size,fun j x hj i u hi=>?_⟩;rw[hf.cell (p:=⟨bk,o+j*k+i,none⟩) h3 (hn bk (by rw[hv];rfl))];exact h4 j x hj i u hi
theorem cz.yg(h:cz k w v xs)(hf:Fr aU w w'):cz k w' v xs:=h.fr hf (fun _ _ h=>h)
abbrev bK:= @cz.yg
end
def OwnRows(base:Nat)(e:TypeId)(k:Nat)(w:World)(v:Value)(xs:List (List Value)):Prop :=
 (∀x∈xs,x.length=k/\∀u∈x,u.oneCell'=true)/\w.ownsRow base e k v xs.length xs.flatten
theorem fa:∀ {k:Nat} {xs:List (List Value)} (_:∀x∈xs,x.length=k) {j:Nat} {x:List Value} (_:xs[j]?=some x) {i:Nat} {u:Value} (_:x[i]?=some u),xs.flatten[j*k+i]?=some u
 |k,[],_,j,x,hj,i,u,hi=>by simp at hj
 |k,y :: ys,hl,0,x,hj,i,u,hi=>by
  simp at hj;subst hj;have:=(List.getElem?_eq_some_iff.1 hi).1;simp only[List.flatten_cons,Nat.zero_mul,Nat.zero_add];rw[List.getElem?_append_left this];exact hi
 |k,y :: ys,hl,j+1,x,hj,i,u,hi=>by
  have hy:=hl y aK;have ih:=fa (k:=k) (xs:=ys) (fun z hz=>hl z (br _ hz)) (j:=j) (by simpa using hj) hi;simp only[List.flatten_cons];rw[List.getElem?_append_right (by rw[hy,Nat.succ_mul];omega),hy,show(j+1)*k+i-k=j*k+i from by rw[Nat.succ_mul];omega];exact ih
theorem ej:∀ {k:Nat} {xs:List (List Value)} (_:∀x∈xs,x.length=k),xs.flatten.length=xs.length*k
 |k,[],_=>aK
 |k,y :: ys,hl=>by
  have:=ej (k:=k) (xs:=ys) (fun z hz=>hl z (br _ hz));simp only[List.flatten_cons,aS,this,hl y aK,bM,Nat.succ_mul];omega
section
variable {base k : Nat} {e : TypeId} {w w' : World} {v : Value} {xs : List (List Value)}
theorem OwnRows.nil(base:Nat)(e:TypeId)(k:Nat)(w:World):OwnRows base e k w (.slice none 0 0) []:=⟨aK,World.ownsRow_nil _ _ _ _⟩
abbrev aV:= @OwnRows.nil
theorem OwnRows.alloc(h:OwnRows base e k w v xs)(o:Obj):OwnRows base e k (w.alloc o) v xs:=⟨h.1,World.ownsRow.alloc h.2 o⟩
theorem OwnRows.form(h:OwnRows base e k w v xs):∃a c,v=.slice a xs.length c:=by
 rcases h.2.2 with ⟨hv,hn⟩|⟨g,cap,cur,hv,_⟩
 ·exact⟨none,0,by rw[hv,hn]⟩
 ·exact⟨_,_,hv⟩
theorem OwnRows.up{b':Nat}(h:OwnRows b' e k w v xs)(hb:base<=b'):OwnRows base e k w v xs:=by
 obtain⟨h0,h1,h2⟩:=h;refine⟨h0,h1,?_⟩;rcases h2 with h2|⟨g,cap,cur,hv,hg,r⟩
 ·exact Or.inl h2
 ·exact Or.inr ⟨g,cap,cur,hv,au hb hg,r⟩
theorem OwnRows.fr{S:Nat->Prop}(h:OwnRows base e k w v xs)(hf:Fr S w w')(hn:∀b,v.ownBlock=some b->¬S b):OwnRows base e k w' v xs:=by
 obtain⟨h0,h1,h2⟩:=h;refine⟨h0,h1,?_⟩;rcases h2 with h2|⟨g,cap,cur,hv,hg,hh,r⟩
 ·exact Or.inl h2
 ·exact Or.inr ⟨g,cap,cur,hv,hg,hf.keep hh (hn g (by rw[hv];rfl)),r⟩
theorem OwnRows.block(h:OwnRows base e k w v xs):∀b,v.ownBlock=some b->base<=b:=by
 intro b hb;rcases h.2.2 with ⟨hv,_⟩|⟨g,cap,cur,hv,hg,_⟩
 ·rw[hv]at hb;simp[Value.ownBlock]at hb
 ·rw[hv]at hb;simp[Value.ownBlock]at hb;omega
theorem OwnRows.lt(h:OwnRows base e k w v xs):∀b,v.ownBlock=some b->b<w.heap.size:=by
 intro b hb;rcases h.2.2 with ⟨hv,_⟩|⟨g,cap,cur,hv,hg,hh,_⟩
 ·rw[hv]at hb;simp[Value.ownBlock]at hb
 ·rw[hv]at hb;simp[Value.ownBlock]at hb;subst hb;exact aJ hh
theorem OwnRows.at(h:OwnRows base e k w v xs):cz k w v xs:=by
 obtain⟨h0,h1,h2⟩:=h;refine⟨h0,?_⟩;rcases h2 with ⟨hv,hn⟩|⟨g,cap,cur,hv,hg,hh,h3,h4,h5,h6⟩
 ·exact Or.inl ⟨none,0,hv,aO hn,fun _=>rfl⟩
 ·refine Or.inr ⟨g,0,cap,hv,h3,h4,aJ hh,fun j x hj i u hi=>?_⟩;have KF:=h0 x (aR hj);have w_:j*k+i<xs.length*k:=by
   have Gd:=(List.getElem?_eq_some_iff.1 hj).1;have KG:=(List.getElem?_eq_some_iff.1 hi).1;have:(j+1)*k<=xs.length*k:=Nat.mul_le_mul_right _ Gd;rw[Nat.succ_mul]at this;omega
  have e1:(cur.toList.take (xs.length*k))[j*k+i]?=some u:=by rw[h6];exact fa (fun z hz=>(h0 z hz).1) hj hi
  rw[List.getElem?_take_of_lt w_]at e1;have e2:cur[j*k+i]?=some u:=by simpa using e1
  simp[World.cell?,hh,e2]
end
theorem fM{P:Program}{ops:Array Oper}{rest:List Oper}{o:Oper}{a:Act}{Q:Exit->Act->World->Prop}{w:World}(uu:o.guard=none)(s x:Operand)(t e:TypeId)
  (ho:o.op=.call {callee:=.builtin .append,args:= #[s,x],argTypes:= #[t,t]})(k bytes:Nat)(z:Value)(ht:P.underlying t=some (.slice e))
  (D0:(P.info? e).map (fun i=>(i.zero,i.size,i.bytes))=some (some z,k,bytes))(hz:z.cells.size=k)(hk:0<k)(hb:bytes<=1024)
  (base:Nat)(v:Value)(l:List (List Value))(hs:a.eval s=v)(bO:OwnRows base e k w v l)
  (ad:Nat)(c:Nat)(y:List Value)(hx:a.eval x=.slice (some ⟨ad,0,none⟩) 1 c)(vn:y.length=k)(yh:∀u∈y,u.oneCell'=true)(hy:∀(i:Nat) u,y[i]?=some u->w.cell? ⟨ad,i,none⟩=some u)
  (hlen:l.length<68719476736)(fE:base<=w.heap.size)
  (h:∀v' w',OwnRows base e k w' v' (l++[y])->w.grownBy w' v.ownBlock->wpList P ops Q rest (a.put o.dst v') w'):wpList P ops Q (o :: rest) a w:=by
 obtain⟨i0,hi,kO,gK,mv⟩:=info_parts D0;refine wpList_append_own w uu s x t ho base e i0 z k bytes ht hi kO gK mv hz hk v l.length l.flatten hs bO.2 ⟨ad,0,none⟩ 1 c y hx (by rw[vn,Nat.one_mul]) ?_ yh ?_ ?_ fE ?_
 ·intro j u hj;have ea:(Addr.add ⟨ad,0,none⟩ j)=⟨ad,j,none⟩:=by unfold Addr.add;split<;>simp_all
  rw[ea];exact hy j u hj
 ·unfold maxLen;omega
 ·have:(l.length+1)*bytes<=68719476736*1024:=Nat.mul_le_mul ab hb;omega
 ·intro v' w' h1 h2 _;refine h v' w' ⟨?_,?_⟩ h2
  ·intro q hq;rcases aE.1 hq with g|g
   ·exact bO.1 q g
   ·simp at g;subst g;exact⟨vn,yh⟩
  ·simpa using h1
def yn(n:UInt8):UInt8:=if n<10 then n+48 else n+87
def D8(l:aw):aw:=l.flatMap fun(c:UInt8)=>[yn (c >>> 4),yn (c &&& 15)]
theorem mW{P:Program}{W:World}{x:String×DataW Unit}:∀ {laid:List (String×DataW Unit)},laidMet P laid W->x∈laid->∃r,laidMet P (x :: r) W
 |y :: l,h,hm=>by
  rcases aD.1 hm with rfl|hm
  ·exact⟨l,h⟩
  ·exact mW (laidMet.tail h) hm
theorem mX{P:Program}{W:World}{laid:List (String×DataW Unit)}{name:String}{k:IntKind}{zs:List Int}{g:Nat}{t e:TypeId}{n:Nat}
  (h:laidMet P laid W)(hm:(name,Lib.tabData k zs)∈laid)
  (hg:P.globalNamed name=some g)(Ec:(P.globals[g]?).map (·.type)=some t)(ht:P.underlying t=some (.array n e))(he:P.underlying e=some (.int k))(hce:P.cellsOf e=1)(Ed:P.cellsOf t=n):Lib.TabIs P W name k zs:=by
 obtain⟨r,hr⟩:=mW h hm;exact Lib.tabIs_of_head hg Ec ht he hce Ed hr
def pK(w:World):Prop:=Lib.TabIs prog w "internal/strconv.uint64pow10" .u64 Lib.pow10Tab
theorem jW{W:World}{laid:List (String×DataW Unit)}(h:laidMet prog laid W)(hm:("internal/strconv.uint64pow10",Lib.tabData .u64 Lib.pow10Tab)∈laid/\True):pK W :=
 mX h hm.1 (g:=7) af af underlying309 underlying291 af af
def eD(w:World)(v:Value)(ss:List ai):Prop :=
 (∃a c,v=.slice a 0 c/\ss=[]/\(a=none->c=0)) \/
 ∃bk o c,v=.slice (some ⟨bk,o,none⟩) ss.length c/\ss.length<=c/\c<=maxLen/\bk<w.heap.size/\∀(j:Nat) x,ss[j]?=some x->w.cell? ⟨bk,o+j,none⟩=some (.string x)
theorem eD.nil(w:World):eD w (.slice none 0 0) []:=Or.inl ⟨_,_,rfl,rfl,fun _=>rfl⟩
theorem eD.fr{S:Nat->Prop}{w w':World}{v:Value}{ss:List ai}(h:eD w v ss)(hf:Fr S w w')(hn:∀k,v.ownBlock=some k->¬S k):eD w' v ss:=by
 rcases h with h|⟨bk,o,c,hv,h1,h2,h3,h4⟩
 ·exact Or.inl h
 ·refine Or.inr ⟨bk,o,c,hv,h1,h2,bf h3 hf.size,fun j x hj=>?_⟩;rw[hf.cell (p:=⟨bk,o+j,none⟩) h3 (hn bk (by rw[hv];rfl))];exact h4 j x hj
theorem eD.form{w:World}{v:Value}{ss:List ai}(h:eD w v ss):∃a c,v=.slice a ss.length c:=by
 rcases h with ⟨a,c,hv,hs,_⟩|⟨bk,o,c,hv,_⟩
 ·exact⟨a,c,by rw[hv,hs];rfl⟩
 ·exact⟨_,_,hv⟩
def Strs(base:Nat)(w:World)(v:Value)(ss:List ai):Prop:=w.ownsRow base 9 1 v ss.length (ss.map Value.string)
section
variable {base : Nat} {w w' : World} {v : Value} {ss : List ByteArray}
theorem Strs.form(h:Strs base w v ss):∃a c,v=.slice a ss.length c:=by
 rcases h.2 with ⟨hv,hn⟩|⟨g,cap,cur,hv,_⟩
 ·exact⟨none,0,by rw[hv,hn]⟩
 ·exact⟨_,_,hv⟩
theorem Strs.at(h:Strs base w v ss):eD w v ss:=by
 obtain⟨h1,h2⟩:=h;rcases h2 with ⟨hv,hn⟩|⟨g,cap,cur,hv,hg,hh,h3,h4,h5,h6⟩
 ·exact Or.inl ⟨none,0,hv,aO hn,fun _=>rfl⟩
 ·refine Or.inr ⟨g,0,cap,hv,h3,h4,aJ hh,fun j x hj=>?_⟩;have hl:=(List.getElem?_eq_some_iff.1 hj).1;have e:(cur.toList.take (ss.length*1))[j]?=some (.string x):=by rw[h6];simp[hj]
  rw[List.getElem?_take_of_lt ab]at e;have e2:cur[j]?=some (.string x):=by simpa using e
  simp[World.cell?,hh,e2]
end
def rM:aw->Option (aw×aw)
 |[]=>none
 |x :: r =>
  if x==34 then some ([],r)
  else if x==92 then
   match r with
   |[]=>none
   |y :: r'=>if mG y then(rM r').map (fun p=>(y :: p.1,p.2))else none
  else if mG x then(rM r).map (fun p=>(x :: p.1,p.2))else none
def nV(c:UInt8):aw->aw×aw×Bool
 |[]=>([],[],false)
 |x :: l=>if x=c then([],l,true)else(x :: (nV c l).1,(nV c l).2.1,(nV c l).2.2)
def mK(c:UInt8):Bool:=decide (97<=c.toNat/\c.toNat<=122)||decide (48<=c.toNat/\c.toNat<=57)||decide (c.toNat=45)
def jQ(l:aw):Bool:=!l.isEmpty&&!(l.head?==some 45)&&!(l.getLast?==some 45)&&l.all mK
def pE(l:aw):Bool:=decide (l.length<=60)&&(cm 46 l).all jQ
def AV(s:Bool):Int:=if s then 443 else 80
structure x_ where
 ao:Bool
 host:aw
 port:Int
def ya(o:x_):Bool:=pE o.host&&(decide (1<=o.port)&&decide (o.port<=65535))
def AW:aw:=[104,116,116,112,58,47,47]
def yb:aw:=[104,116,116,112,115,58,47,47]
def AX(s:Bool):aw:=if s then yb else AW
def AY(o:x_):aw:=AX o.ao++o.host++(if o.port=AV o.ao then []else 58 :: Lib.itoa o.port)
theorem dp{P:Program}{ops:Array Oper}{rest:List Oper}{a:Act}{w:World}{Q:Exit->Act->World->Prop}(o:Oper)(h:wpList P ops Q (o :: rest) a w):wpList P ops Q (o :: rest) a w:=h
theorem pG{P:Program}{ops:Array Oper}{a:Act}{w:World}{K:Act->World->Prop}{Q:Exit->Act->World->Prop}{E:Prop}(o:Oper)(h:if Region.wanted o (yielded ops a.tmps)=true then Oper.wp P o a w K Q else E):if Region.wanted o (yielded ops a.tmps)=true then Oper.wp P o a w K Q else E:=h
theorem lJ(w:World)(old cells:Array Value)(t:TypeId):(w.alloc (.cells old t)).setRow w.heap.size cells=w.alloc (.cells cells t):=by
 unfold World.setRow World.alloc
 congr 1
 apply Array.ext
 ·simp
 ·intro k h1 h2;simp only[Array.getElem_modify];by_cases hk:w.heap.size=k
  ·subst hk;simp
  ·have:k<w.heap.size:=by simp at h2;omega
   simp[hk,Array.getElem_push,this]
theorem run_storeCells_new{P:Program}(w:World)(t:TypeId)(old:Array Value)(x:List Value)(hold:old.size=x.length)(h1:∀u∈x,u.oneCell'=true) :
  Sem.run P (storeCells ⟨w.heap.size,0,none⟩ x 0) (w.alloc (.cells old t))=.ok () (w.alloc (.cells x.toArray t)):=by
 have h:=run_storeCells_from (P:=P) w.heap.size t x 0 old (w.alloc (.cells old t)) (aB w _) ab h1;rw[h,List.take_zero,bz,lJ]
theorem ba{w:World}{b:Nat}{cur:Array Value}{t:TypeId}{f:Nat×Nat}(h:w.heap[b]?=some (.cells cur t f))(o:Nat)(v:Value):(w.setCell ⟨b,o,none⟩ v).heap[b]?=some (.cells (cur.setIfInBounds o v) t f):=by
 simp[World.setCell,Array.getElem?_modify,h]
theorem eF{w:World}{b g:Nat}(hg:g≠b)(o:Nat)(v:Value):(w.setCell ⟨b,o,none⟩ v).heap[g]?=w.heap[g]?:=Below.heap_setCell _ _ _ _ hg
theorem gN{b:Nat}{t:TypeId}{f:Nat×Nat}:∀(vs:List Value) (o:Nat) (w:World) (cur:Array Value),w.heap[b]?=some (.cells cur t f)->o+vs.length<=cur.size ->
  (w.setCells b o vs).heap[b]?=some (.cells (cur.toList.take o++vs++cur.toList.drop (o+vs.length)).toArray t f)
 |[],o,w,cur,h,hl=>by
  rw[World.setCells,h];simp
 |v :: r,o,w,cur,h,hl=>by
  simp only[bM]at hl;rw[World.setCells,gN r (o+1) _ _ (ba h o v) cw]
  congr 3
  simp only[Array.toList_setIfInBounds,bM];have h1:(cur.toList.set o v).take (o+1)=cur.toList.take o++[v]:=by
   have sa:o<cur.toList.length:=cw;rw[cC,List.getElem?_set_self sa,List.take_set_of_le (ar o)];rfl
  have h2:(cur.toList.set o v).drop (o+1+r.length)=cur.toList.drop (o+(r.length+1)):=by
   rw[List.drop_set_of_lt ab]
   congr 1;omega
  rw[h1,h2];simp
theorem Fr.setCells{S:Nat->Prop}{a w:World}(h:Fr S a w){b:Nat}(hb:b<a.heap.size->S b):∀(vs:List Value) (o:Nat),Fr S a (w.setCells b o vs):=by
 intro vs
 induction vs generalizing w with
 |nil=>intro o;exact h
 |cons v r ih=>intro o;exact ih (h.setCell (p:=⟨b,o,none⟩) hb v) (o+1)
theorem gO:∀(y:List Value) (i:Nat) (z:Array Value),i+y.length<=z.size->List.foldl (fun cs x=>cs.setIfInBounds x.snd x.fst) z (y.zipIdx i)=(z.toList.take i++y++z.toList.drop (i+y.length)).toArray
 |[],i,z,_=>aK
 |v :: r,i,z,hl=>by
  simp only[bM]at hl;rw[List.zipIdx_cons,List.foldl_cons,gO r (i+1) _ cw]
  congr 1
  simp only[Array.toList_setIfInBounds,bM];have h1:(z.toList.set i v).take (i+1)=z.toList.take i++[v]:=by
   have sa:i<z.toList.length:=cw;rw[cC,List.getElem?_set_self sa,List.take_set_of_le (ar i)];rfl
  have h2:(z.toList.set i v).drop (i+1+r.length)=z.toList.drop (i+(r.length+1)):=by
   rw[List.drop_set_of_lt ab]
   congr 1;omega
  rw[h1,h2];simp
theorem mP(y:List Value)(z:Array Value)(h:z.size=y.length):List.foldl (fun cs x=>cs.setIfInBounds x.snd x.fst) z y.zipIdx=y.toArray:=by
 rw[gO y 0 z ab,List.take_zero,bz,List.drop_eq_nil_of_le cw,bH]
theorem OwnRows.open{base k:Nat}{e:TypeId}{w:World}{v:Value}{xs:List (List Value)}(h:OwnRows base e k w v xs){g:Nat}(hg:v.ownBlock=some g) :
  ∃cap cur,v=.slice (some ⟨g,0,none⟩) xs.length cap/\base<=g/\w.heap[g]?=some (.cells cur e (0,0))/\xs.length<=cap/\cap<=maxLen/\cur.size=cap*k/\cur.toList.take (xs.length*k)=xs.flatten:=by
 rcases h.2.2 with ⟨hv,_⟩|⟨g',cap,cur,hv,h1,h2,h3,h4,h5,h6⟩
 ·rw[hv]at hg;simp[Value.ownBlock]at hg
 ·rw[hv]at hg;simp[Value.ownBlock]at hg;subst hg;exact⟨cap,cur,hv,h1,h2,h3,h4,h5,h6⟩
theorem gA(w:World)(y:List Value)(t:TypeId):∀j u,y[j]?=some u->(w.alloc (.cells y.toArray t)).cell? ((⟨w.heap.size,0,none⟩:Addr).add j)=some u:=by
 intro j u hj;have ea:(Addr.add ⟨w.heap.size,0,none⟩ j)=⟨w.heap.size,j,none⟩:=by unfold Addr.add;split<;>simp_all
 rw[ea,World.cell?_alloc_mark];simpa using hj
def sf:Nat->Nat->aw
 |0,_=>[]
 |k+1,n=>sf k (n/16)++[yn (n%16).toUInt8]
def sg(n:Nat):aw:=sf 8 n
def xb(a b c d:UInt8):Int:=bits .or .u32 (bits .or .u32 (bits .or .u32 ((a.toNat:Int)%4294967296) ((b.toNat:Int)%4294967296*256%4294967296)) ((c.toNat:Int)%4294967296*65536%4294967296)) ((d.toNat:Int)%4294967296*16777216%4294967296)
def mQ(l:aw)(i:Nat):UInt8:=l.getD i 0
def xc(d_:Bool)(l:aw):Int:=if d_ then xb (mQ l 0) (mQ l 1) (mQ l 2) (mQ l 3)else xb (mQ l 3) (mQ l 2) (mQ l 1) (mQ l 0)
def jS(x:Int)(n:Nat):Int:=bits .or .u32 (x*2^n%4294967296) (x/2^(32-n))
def vt(d_:Bool)(n i:Nat):UInt8:=if d_ then(n/2^(8*i)%256).toUInt8 else(n/2^(56-8*i)%256).toUInt8
def D9(d_:Bool)(n:Nat):aw:=(List.range 8).map (vt d_ n)
def vu(d_:Bool)(l:aw):aw:=l++[128]++List.replicate ((55-(l.length:Int)%64+64)%64).toNat 0++D9 d_ (l.length*8)
def Ee(n:Nat):UInt8:=if n<26 then(n+65).toUInt8 else if n<52 then(n+71).toUInt8 else if n<62 then(n-4).toUInt8 else if n=62 then 43 else 47
def lM(a b c:UInt8):Nat:=a.toNat*65536+b.toNat*256+c.toNat
def lN(v i:Nat):UInt8:=Ee (v/2^(18-6*i)%64)
def Br:aw->aw
 |[]=>[]
 |[a]=>[lN (lM a 0 0) 0,lN (lM a 0 0) 1,61,61]
 |[a,b]=>[lN (lM a b 0) 0,lN (lM a b 0) 1,lN (lM a b 0) 2,61]
 |a :: b :: c :: r=>lN (lM a b c) 0 :: lN (lM a b c) 1 :: lN (lM a b c) 2 :: lN (lM a b c) 3 :: Br r
def kr(l:aw):Bool:=l.all fZ&&!l.isEmpty
theorem kz{p:UInt8->Bool}{l:aw}{k:Nat}{x:UInt8}(h:l[k]?=some x):(l.take (k+1)).all p=((l.take k).all p&&p x):=by
 rw[cC,h];simp
theorem lv{p:UInt8->Bool}{l:aw}{k:Nat}{x:UInt8}(h:l[k]?=some x)(hp:p x=false):l.all p=false:=by
 rw[List.all_eq_false];exact⟨x,aR h,by simp[hp]⟩
theorem rN(s:ai)(w:World)(hs:s.size<17592186044416) :
  Calls prog 20 #[.string s] w fun e w'=>e=.returned (.bool (kr s.data.toList))/\w=w':=by
 go_enter func20,ntmps20;go_wp2
 go_loop [6] (fun i=>∃k:Nat,k<=s.size/\i=.int .i64 k/\(s.data.toList.take k).all fZ=true) (fun i=>s.size-(intOf i).toNat)
 case atStart=>exact⟨0,az _,rfl,aK⟩
 case round =>
  obtain⟨k,hk,rfl,fV⟩:=hrel;have AJ:=O fV;clear fV;by_cases h_:k<s.size
  ·have lx:=O (byte_at s k h_);generalize hx:s[k]=x at lx;cases e1:fZ x
   ·have uX:=O (show kr s.data.toList=false by unfold kr;rw[lv lx.o e1];rfl);go_wp2_with (go_at_call 31;refine(mH _ _).mono ?_;rintro e w' ⟨rfl,rfl⟩)
    go_ret;rw[uX.o];exact⟨rfl,rfl⟩
   ·have IB:=O (show(s.data.toList.take (k+1)).all fZ=true by rw[kz lx.o,AJ.o,e1];rfl);go_wp2_with (go_at_call 31;refine(mH _ _).mono ?_;rintro e w' ⟨rfl,rfl⟩)
    go_round
    case rel=>exact⟨k+1,ab,bn,IB.o⟩
    case measure=>simp[intOf];omega
  ·have AK:=O (show s.data.toList.all fZ=true by have h:=AJ.o;rw[bj cw]at h;exact h);go_wp2;go_ret;refine⟨jF ?_,rfl⟩;unfold kr;rw[AK.o,ByteArray.toList_eq];simp
def DS(l:aw):aw:=l.flatMap (fun c=>if c==34||c==92 then [92,c]else [c])
def xX(l:aw):aw:=34 :: (DS l++[34])
def jG(l:aw):Bool:=l.all mG
abbrev aH:=List ai
structure ef where
 ao:Bool
 host:ai
 port:Int
def ef.cells(o:ef):List Value:=[.bool o.ao,.string o.host,.int .i64 o.port]
structure eh (D:Type) where
 scheme:Int
 cj:ai
 dk:ai
 e9:ai
 eP:Bool
 iI:ai
 fx:Bool
 dom:D
structure aC (D:Type) where
 o:ef
 proxy:Bool
 user:ai
 pass:ai
 a:eh D
 count:Int
 paths:D
def aC.cells(g:aC Value):List Value :=
 [.bool g.o.ao,.string g.o.host,.int .i64 g.o.port,.bool g.proxy,.string g.user,.string g.pass,
  .int .i64 g.a.scheme,.string g.a.cj,.string g.a.dk,.string g.a.e9,.bool g.a.eP,.string g.a.iI,.bool g.a.fx,g.a.dom,.int .i64 g.count,g.paths]
def eh.Reads(R:Value->List ai->Prop)(r:eh Value)(a:eh (List ai)):Prop :=
 r.scheme=a.scheme/\r.cj=a.cj/\r.dk=a.dk/\r.e9=a.e9/\r.eP=a.eP/\r.iI=a.iI/\r.fx=a.fx/\R r.dom a.dom
def aC.Reads(R:Value->List ai->Prop)(r:aC Value)(g:aC (List ai)):Prop :=
 r.o=g.o/\r.proxy=g.proxy/\r.user=g.user/\r.pass=g.pass/\r.a.Reads R g.a/\r.count=g.count/\R r.paths g.paths
theorem eh.Reads.mono{R S:Value->List ai->Prop}{r:eh Value}{a:eh (List ai)}(h:r.Reads R a)(hs:∀v l,R v l->S v l):r.Reads S a :=
 ⟨h.1,h.2.1,h.2.2.1,h.2.2.2.1,h.2.2.2.2.1,h.2.2.2.2.2.1,h.2.2.2.2.2.2.1,hs _ _ h.2.2.2.2.2.2.2⟩
theorem aC.Reads.mono{R S:Value->List ai->Prop}{r:aC Value}{g:aC (List ai)}(h:r.Reads R g)(hs:∀v l,R v l->S v l):r.Reads S g :=
 ⟨h.1,h.2.1,h.2.2.1,h.2.2.2.1,h.2.2.2.2.1.mono hs,h.2.2.2.2.2.1,hs _ _ h.2.2.2.2.2.2⟩
def ef.jo(a b:ef):Bool:=a.ao==b.ao&&(a.host.toList==b.host.toList&&a.port==b.port)
theorem toList_inj{a b:ai}:a.toList=b.toList↔a=b:=by
 constructor
 ·intro h;rw[Go.ByteArray.toList_eq,Go.ByteArray.toList_eq]at h;exact Go.WideShapes.bytes_inj h
 ·intro h;rw[h]
theorem ef.uZ(a b:ef):a.jo b=true↔a=b:=by
 obtain⟨s,h,p⟩:=a;obtain⟨s',h',p'⟩:=b;simp only[ef.jo,aY,beq_iff_eq,ef.mk.injEq,toList_inj]
theorem pF:∀(l:aw) (c:UInt8),¬0<=Lib.indexByte l c↔ ∀x∈l,x≠c
 |[],c=>by simp[Lib.indexByte]
 |x :: l,c=>by
  have ih:=pF l c;have C4:=Lib.indexByte_ge l c;show¬0<=(if x==c then(0:Int)else if Lib.indexByte l c== -1 then -1 else Lib.indexByte l c+1)↔_;by_cases hx:x=c
  ·subst hx;simp
  ·rw[aj (by simpa using hx)];by_cases h1:Lib.indexByte l c= -1
   ·rw[aq (by simpa using h1)];constructor
    ·intro _ y hy;rcases aD.1 hy with rfl|hy
     ·exact hx
     ·exact ih.1 (by rw[h1];decide) y hy
    ·intro _;decide
   ·rw[aj (by simpa using h1)];constructor
    ·intro h;omega
    ·intro h;have:=ih.2 (fun y hy=>h y (br _ hy));omega
open Go.RowKit Go.Sort
def yf(ls:List (aw)):List (aw):=ls.mergeSort fun x y=>decide (x<=y)
def Still(base:Nat)(w:World)(k:Nat):Prop:=k<base\/∃c f,w.heap[k]?=some (.cells c 9 f)
def jc(base:Nat)(w:World)(S:Nat->Prop):Prop:=∀k,S k->k<w.heap.size->base<=k/\∀c f,w.heap[k]?≠some (.cells c 9 f)
theorem jc.none(base:Nat)(w:World):jc base w aU:=fun _ h=>absurd h (fun h=>h)
theorem Still.fr{base:Nat}{w w':World}{k:Nat}{S:Nat->Prop}(h:Still base w k)(hf:Fr S w w')(ho:jc base w S):Still base w' k:=by
 rcases h with h|⟨c,f,h⟩
 ·exact Or.inl h
 ·exact Or.inr ⟨c,f,hf.keep h (fun hs=>(ho k hs (aJ h)).2 c f h)⟩
structure cZ (base:Nat) (w:World) (v:Value) (ss:List ai):Prop where
 rd:eD w v ss
 own:∀k,v.ownBlock=some k->ss≠ []->k<w.heap.size/\Still base w k
 my:ss.length<4398046511104
theorem eD.empty{w w':World}{v:Value}(h:eD w v []):eD w' v []:=by
 rcases h with h|⟨bk,o,c,hv,_⟩
 ·exact Or.inl h
 ·exact Or.inl ⟨_,_,hv,rfl,fun e=>by cases e⟩
theorem cZ.fr{base:Nat}{w w':World}{v:Value}{ss:List ai}{S:Nat->Prop}(h:cZ base w v ss)(hf:Fr S w w')(ho:jc base w S):cZ base w' v ss:=by
 refine⟨?_,fun k hk hs=>⟨bf (h.own k hk hs).1 hf.size,(h.own k hk hs).2.fr hf ho⟩,h.my⟩;by_cases he:ss=[]
 ·subst he;exact h.rd.empty
 refine h.rd.fr hf (fun k hk hs=>?_);obtain⟨hl,aF⟩:=h.own k hk he;have Be:=ho k hs hl;rcases aF with g|⟨c,f,g⟩
 ·omega
 ·exact Be.2 c f g
theorem cZ.dv{base:Nat}{w w':World}{v:Value}{ss:List ai}(h:cZ base w v ss)(hf:Fr aU w w'):cZ base w' v ss:=h.fr hf (jc.none _ _)
theorem cZ.nil(base:Nat)(w:World):cZ base w (.slice none 0 0) []:=⟨eD.nil w,fun k hk=>by simp[Value.ownBlock]at hk,aK⟩
theorem Strs.in{base b:Nat}{w:World}{v:Value}{ss:List ai}(h:Strs b w v ss)(hl:ss.length<4398046511104):cZ base w v ss:=by
 refine⟨h.at,fun k hk _=>?_,hl⟩;rcases h.2 with ⟨hv,_⟩|⟨g,cap,cur,hv,hg,hh,_⟩
 ·rw[hv]at hk;simp[Value.ownBlock]at hk
 ·rw[hv]at hk;simp[Value.ownBlock]at hk;subst hk;exact⟨aJ hh,Or.inr ⟨_,_,hh⟩⟩
inductive fo {α β:Type} (R:α->β->Prop):List α->List β->Prop
 |nil:fo R [] []
 |cons {a b l m}:R a b->fo R l m->fo R (a :: l) (b :: m)
namespace fo
variable {α β : Type} {R T : α → β → Prop} {l l' : List α} {m m' : List β}
theorem len(h:fo R l m):l.length=m.length:=by induction h with
 |nil=>rfl
 |cons _ _ ih=>simp[ih]
theorem mono(h:fo R l m)(hs:∀a b,R a b->T a b):fo T l m:=by induction h with
 |nil=>exact .nil
 |cons h _ ih=>exact .cons (hs _ _ h) ih
theorem get(h:fo R l m){i:Nat}{a:α}(hi:l[i]?=some a):∃b,m[i]?=some b/\R a b:=by
 induction h generalizing i with
 |nil=>simp at hi
 |cons h _ ih =>
  cases i with
  |zero=>simp at hi;subst hi;exact⟨_,rfl,h⟩
  |succ i=>simpa using ih (by simpa using hi)
theorem app(h:fo R l m)(h':fo R l' m'):fo R (l++l') (m++m'):=by induction h with
 |nil=>exact h'
 |cons h _ ih=>exact .cons h ih
theorem take(h:fo R l m)(n:Nat):fo R (l.take n) (m.take n):=by
 induction h generalizing n with
 |nil=>simp;exact .nil
 |cons h _ ih=>cases n with
  |zero=>exact .nil
  |succ n=>exact .cons h (ih n)
theorem drop(h:fo R l m)(n:Nat):fo R (l.drop n) (m.drop n):=by
 induction h generalizing n with
 |nil=>simp;exact .nil
 |cons h t ih=>cases n with
  |zero=>exact .cons h t
  |succ n=>exact ih n
theorem filter(h:fo R l m){p:α->Bool}{q:β->Bool}(IE:∀a b,R a b->p a=q b):fo R (l.filter p) (m.filter q):=by
 induction h with
 |nil=>exact .nil
 |cons h _ ih =>
  rw[List.filter_cons,List.filter_cons,IE _ _ h];split
  ·exact .cons h ih
  ·exact ih
end fo
theorem Fr.setRow{S:Nat->Prop}{a w:World}(h:Fr S a w){g:Nat}(hg:g<a.heap.size->S g)(cs:Array Value):Fr S a (w.setRow g cs) :=
 ⟨h.os,h.tape,h.output,by simpa[World.setRow]using h.size,fun k hk hn=>by
  rw[<-h.block k hk hn];simp only[World.setRow,Array.getElem?_modify];by_cases e:g=k
  ·subst e;exact absurd (hg hk) hn
  ·simp[e]⟩
theorem setRow_other{w:World}{g k:Nat}(h:k≠g)(cs:Array Value):(w.setRow g cs).heap[k]?=w.heap[k]?:=by
 simp only[World.setRow,Array.getElem?_modify];simp[Ne.symm h]
def own(v:Value):Nat->Prop:=fun k=>v.ownBlock=some k
theorem OwnRows.off{base b k:Nat}{e:TypeId}{w:World}{v:Value}{xs:List (List Value)}(h:OwnRows b e k w v xs)(hb:base<=b)(he:e≠9):jc base w (own v):=by
 intro g hg _;obtain⟨cap,cur,_,h1,h2,_⟩:=h.open hg;exact⟨au hb h1,fun c f e2=>by rw[h2]at e2;cases e2;exact he rfl⟩
theorem Fr.pH{w w':World}{v:Value}(o:Obj)(h:(w.alloc o).grownBy w' v.ownBlock):Fr (own v) w w' :=
 ((Fr.refl (own v) w).alloc o).grown h (fun _ hk _=>hk)
open Go.RowKit
def Bf(d_:Bool)(x:Int)(i:Nat):UInt8:=if d_ then(x/2^(8*i)%256).toNat.toUInt8 else(x/2^(24-8*i)%256).toNat.toUInt8
def Bg(d_:Bool)(x:Int):aw:=(List.range 4).map (Bf d_ x)
def vv(d_:Bool)(ws:List Int):aw:=ws.flatMap (Bg d_)
def mR(d_:Bool)(ws:List Int):aw:=D8 (vv d_ ws)
def Ef(c:UInt8):Option Nat:=if 65<=c/\c<=90 then some (c.toNat-65)else if 97<=c/\c<=122 then some (c.toNat-71)else if 48<=c/\c<=57 then some (c.toNat+4)else if c=43 then some 62 else if c=47 then some 63 else none
def qv(l:aw):Nat->Nat
 |0=>0
 |j+1=>qv l j*64+(match l[j]? with|some c=>(Ef c).getD 0|none=>0)
def wX:Nat->aw->Except Nat (List (aw))
 |0,_=>.ok []
 |f+1,r =>
  let r1:=r.dropWhile iG
  let w:=r1.takeWhile fZ
  let r3:=(r1.dropWhile fZ).dropWhile iG
  let ws:=if w.isEmpty then []else [w]
  match r3 with
  |[]=>.ok ws
  |c :: r4=>if c==44 then(wX f r4).map (ws++ ·)else .error (r4.length+1)
def pB(l:aw):Except Nat (List (aw)):=wX (l.length+1) l
theorem ly:∀(f:Nat) (r a z:aw),r.length<=f->rM r=some (a,z)->a.length+z.length+1<=r.length
 |0,r,a,z,hf,h=>by
  have:r=[]:=aO ab;subst this;rw[rM.eq_def]at h;simp at h
 |f+1,[],a,z,hf,h=>by rw[rM.eq_def]at h;simp at h
 |f+1,x :: r,a,z,hf,h=>by
  rw[rM.eq_def]at h;simp only at h;by_cases h1:(x==34)=true
  ·rw[aq h1]at h;cases h;simp
  ·rw[aj h1]at h;by_cases h2:(x==92)=true
   ·rw[aq h2]at h;cases r with
    |nil=>simp at h
    |cons y r' =>
     simp only at h;by_cases h3:mG y=true
     ·rw[aq h3]at h;cases hq:rM r' with
      |none=>rw[hq]at h;simp at h
      |some p =>
       rw[hq]at h;simp at h;obtain⟨rfl,rfl⟩:=h;have:=ly f r' p.1 p.2 (by simp at hf;omega) hq;simp;omega
     ·rw[aj h3]at h;simp at h
   ·rw[aj h2]at h;by_cases h3:mG x=true
    ·rw[aq h3]at h;cases hq:rM r with
     |none=>rw[hq]at h;simp at h
     |some p =>
      rw[hq]at h;simp at h;obtain⟨rfl,rfl⟩:=h;have:=ly f r p.1 p.2 (by simp at hf;omega) hq;simp;omega
    ·rw[aj h3]at h;simp at h
def rW:List ai:=[⟨#[68,69,76,69,84,69]⟩,⟨#[71,69,84]⟩,⟨#[72,69,65,68]⟩,⟨#[79,80,84,73,79,78,83]⟩,⟨#[80,79,83,84]⟩,⟨#[80,85,84]⟩]
def mM:List ai->ai->ai
 |[],s=>s
 |m :: l,s=>if ft s.data.toList m.data.toList then m else mM l s
def lD(s:ai):ai:=mM rW s
def vg(s:ai):Bool:=s.toList== [71,69,84]||s.toList== [72,69,65,68]||s.toList== [80,79,83,84]
def nZ:List Int:=[3614090360,3905402710,606105819,3250441966,4118548399,1200080426,2821735955,4249261313,1770035416,2336552879,4294925233,2304563134,1804603682,4254626195,2792965006,1236535329,4129170786,3225465664,643717713,3921069994,3593408605,38016083,3634488961,3889429448,568446438,3275163606,4107603335,1163531501,2850285829,4243563512,1735328473,2368359562,4294588738,2272392833,1839030562,4259657740,2763975236,1272893353,4139469664,3200236656,681279174,3936430074,3572445317,76029189,3654602809,3873151461,530742520,3299628645,4096336452,1126891415,2878612391,4237533241,1700485571,2399980690,4293915773,2240044497,1873313359,4264355552,2734768916,1309151649,4149444226,3174756917,718787259,3951481745]
def n5:List Nat:=[7,12,17,22,5,9,14,20,4,11,16,23,6,10,15,21]
def ib(w:World)(g:Nat)(k:IntKind)(zs:List Int):Prop:=g<w.heap.size/\∀(i:Nat) z,zs[i]?=some z->w.cell? ⟨g,i,none⟩=some (.int k z)
structure lK (w:World):Prop where
 s:ib w 5 .u32 nZ
 t:ib w 6 .i64 (n5.map Int.ofNat)
structure Md where
 a:Int
 b:Int
 c:Int
 d:Int
def vw(x:Int):Int:=bits .xor .u32 IntKind.u32.max x
def IG(r:Nat)(b c d:Int):Int:=match r with
 |0=>bits .or .u32 (bits .and .u32 b c) (bits .and .u32 (vw b) d)
 |1=>bits .or .u32 (bits .and .u32 d b) (bits .and .u32 (vw d) c)
 |2=>bits .xor .u32 (bits .xor .u32 b c) d
 |_=>bits .xor .u32 c (bits .or .u32 b (vw d))
def IH(r k:Nat):Nat:=match r with
 |0=>k
 |1=>(5*k+1)%16
 |2=>(3*k+5)%16
 |_=>7*k%16
def yo(X:aw)(k:Nat)(s:Md):Md :=
 ⟨s.d,(s.b+jS ((IG (k/16) s.b s.c s.d+(s.a+nZ.getD k 0+xc true (X.drop (4*IH (k/16) k))))%4294967296) (n5.getD (k/16*4+k%4) 0))%4294967296,s.b,s.c⟩
def ic(X:aw)(h:Md):Nat->Md
 |0=>h
 |k+1=>yo X k (ic X h k)
def vy(X:aw)(h:Md):Md :=
 ⟨(h.a+(ic X h 64).a)%4294967296,(h.b+(ic X h 64).b)%4294967296,(h.c+(ic X h 64).c)%4294967296,(h.d+(ic X h 64).d)%4294967296⟩
def II:Md:=⟨1732584193,4023233417,2562383102,271733878⟩
def Bh(T:aw):Nat->Md
 |0=>II
 |k+1=>vy (T.drop (64*k)) (Bh T k)
def Md.list(s:Md):List Int:=[s.a,s.b,s.c,s.d]
def D_(l:aw):aw:=mR true (Bh (vu true l) ((vu true l).length/64)).list
def Eg(c:UInt8):Bool:=c<32||c==127
def xe(s:ai):Bool:=s.data.toList.all fun c=>!Eg c
def yp(user pass:ai):ai:=⟨([66,97,115,105,99,32]++Br (user.data.toList++[58]++pass.data.toList)).toArray⟩
theorem iQ:∀(l:aw) (c:UInt8) (i:Nat),Lib.indexByte l c=(i:Int)->l=l.take i++c :: l.drop (i+1)/\c∉l.take i
 |[],c,i,h=>by simp[Lib.indexByte]at h
 |x :: l,c,i,h=>by
  have C4:=Lib.indexByte_ge l c;have h':(if x==c then(0:Int)else if Lib.indexByte l c== -1 then -1 else Lib.indexByte l c+1)=(i:Int):=h;by_cases hx:x=c
  ·rw[aq (by simpa using hx)]at h';obtain rfl:i=0:=ab;subst hx;exact⟨rfl,aK⟩
  ·rw[aj (by simpa using hx)]at h';by_cases h1:Lib.indexByte l c= -1
   ·rw[aq (by simpa using h1)]at h';omega
   ·rw[aj (by simpa using h1)]at h';obtain⟨j,rfl⟩:∃j,i=j+1:=⟨i-1,ab⟩;obtain⟨e1,e2⟩:=iQ l c j ab;refine⟨?_,?_⟩
    ·show x :: l=x :: (l.take j++c :: l.drop (j+1));rw[<-e1]
    ·intro hc;rcases aD.1 hc with rfl|hc
     ·exact hx rfl
     ·exact e2 hc
theorem yq{l:aw}{c:UInt8}{i:Nat}(h:Lib.indexByte l c=(i:Int)):i<l.length:=by
 obtain⟨e,_⟩:=iQ l c i h;have:=ay List.length e;simp at this;omega
def dR(c:UInt8)(s:ai):List ai:=(cm c s.data.toList).map fun l=>⟨l.toArray⟩
theorem gj(s:ai)(a b:Nat):s.extract a b=⟨((s.data.toList.drop a).take (b-a)).toArray⟩:=by
 have h:=Lib.extract_data s a b;have h2:(s.extract a b).data=((s.data.toList.drop a).take (b-a)).toArray:=by rw[<-h]
 calc s.extract a b=⟨(s.extract a b).data⟩:=rfl
  _=_:=by rw[h2]
theorem ob(c:UInt8)(s:ai)(i:Nat)(h:Lib.indexByte s.data.toList c=(i:Int)):dR c s=s.extract 0 i :: dR c (s.extract (i+1) s.size):=by
 obtain⟨e,hn⟩:=iQ _ _ _ h;unfold dR
 conv=>lhs;rw[e,jO c _ _ hn,bp]
 rw[gj,gj,bj (l:=s.data.toList.drop (i+1)) aK];rfl
theorem mS(c:UInt8)(s:ai)(h:¬0<=Lib.indexByte s.data.toList c):dR c s=[s]:=by
 have hn:c∉s.data.toList:=fun hc=>(pF _ _).1 h c hc rfl;unfold dR;rw[jP c _ hn];rfl
def within(path p:ai):Bool:=Lib.hasPrefix path.data.toList p.data.toList
def BI(path:ai)(ps:List ai)(n:Int):Int:=ps.foldl (fun n p=>if within path p then max n (p.size:Int)else n) n
def yv(g:ef)(gp:Bool)(ps:List ai)(o:ef)(proxy:Bool)(path:ai):Int:=if g.jo o&&gp==proxy then BI path ps (-1)else -1
abbrev C':Array Value:= #[.bool false,.string ⟨#[]⟩,.int .i64 0,.bool false,.string ⟨#[]⟩,.int .i64 0,.string ⟨#[]⟩,.string ⟨#[]⟩,.string ⟨#[]⟩,.bool false,.string ⟨#[]⟩,.bool false,.slice none 0 0]
theorem sJ{x:List Value}(h:x.length=13):(prog.info? 156).map (·.size)=some x.length:=by rw[h];kernel_rfl
theorem vL:(prog.info? 179).map (fun i=>(i.zero,i.size,i.bytes))=some (some (.agg #[.bool false,.string ⟨#[]⟩,.int .i64 0,.bool false,.string ⟨#[]⟩,.int .i64 0,.string ⟨#[]⟩,.string ⟨#[]⟩,.bool false,.string ⟨#[]⟩,.string ⟨#[]⟩,.int .i64 0]),12,144):=af
theorem vM(v:Value)(xs:List (List Value))(w:World)(h:cz 12 w v xs)(hl:xs.length<=1000000000) :
  Calls prog 94 #[v] w fun e w'=>∃v',e=.returned v'/\OwnRows w.heap.size 179 12 w' v' xs/\Fr aU w w':=by
 obtain⟨a,c,hv⟩:=h.form;subst hv;have Jd:∀(w:World) (a:Option Addr) (n c n' c':Nat),(binOp .eql 102 (.slice a n c) (.slice none n' c')).run prog w=.ok (.bool a.isNone) w:=fun w a n c n' c'=>Lib.run_eql_slice_nil w _ _ a n c n' c' underlying102;cases a with
 |none =>
  obtain⟨rfl,rfl⟩:xs=[]/\c=0:=by
   rcases h.2 with ⟨a',c',hv,hs,hc⟩|⟨bk,o',c',hf,_⟩
   ·injection hv with e1 e2 e3
    exact⟨hs,e3.trans (hc e1.symm)⟩
   ·injection hf with e1;cases e1
  go_enter func94,ntmps94;go_wp2;go_ret;exact⟨_,rfl,aV _ _ _ _,Fr.refl _ _⟩
 |some ad =>
  have HX:=h.1;have HC:=O (show∀j u,xs.flatten[j]?=some u->w.cell? (ad.add j)=some u from fun j u hj=>by
   rcases h.2 with ⟨_,_,_,e,_⟩|⟨bk,o',c',hf,g1,g2,g3,g4⟩
   ·subst e;simp at hj
   ·cases hf;have vN:xs.flatten.length=xs.length*12:=ej (fun x hx=>(HX x hx).1);have BX:=(List.getElem?_eq_some_iff.1 hj).1;have hd:j/12<xs.length:=ab;have hm:j%12<12:=ab;have hx:(xs[j/12]).length=12:=(HX _ (bZ hd)).1;have e1:=fa (k:=12) (xs:=xs) (fun x hx=>(HX x hx).1) (j:=j/12) (List.getElem?_eq_getElem hd) (i:=j%12) (List.getElem?_eq_getElem (by rw[hx];exact hm));rw[Nat.div_add_mod']at e1
    rw[e1]at hj;cases hj;have:=g4 (j/12) _ (List.getElem?_eq_getElem hd) (j%12) _ (List.getElem?_eq_getElem (by rw[hx];exact hm));have ea:(Addr.add ⟨bk,o',none⟩ j)=⟨bk,o'+j,none⟩:=by unfold Addr.add;split<;>simp_all
    rw[ea, <-this]
    congr 2
    omega)
  have HF:=O (show xs.flatten.length=xs.length*12 from ej (fun x hx=>(HX x hx).1));have sP:=O HX;obtain⟨i0,hi,kO,gK,mv⟩:=info_parts vL;clear HX h;go_enter func94,ntmps94
  go_wp2_with (at_builtin;refine wpList_append_own _ rfl _ _ 102 rfl w.heap.size 179 i0 (.agg #[.bool false,.string ⟨#[]⟩,.int .i64 0,.bool false,.string ⟨#[]⟩,.int .i64 0,.string ⟨#[]⟩,.string ⟨#[]⟩,.bool false,.string ⟨#[]⟩,.string ⟨#[]⟩,.int .i64 0]) 12 144 underlying102 hi kO gK mv rfl ae _ _ _ rfl (World.ownsRow_made w #[] 0 (ar _) (az _) rfl) ad xs.length c xs.flatten rfl HF.o ?qc2 ?qc3 ?qc4 ?qc5 ?qc6 ?_)
  case qc2 =>
   intro j u hj;exact Lib.cell?_alloc_some _ (HC.o j u hj)
  case qc3 =>
   intro u hu;obtain⟨x,hx,EO⟩:=List.mem_flatten.1 hu;exact(sP.o x hx).2 u EO
  case qc4=>unfold maxLen;omega
  case qc5=>omega
  case qc6=>simp
  intro v' w1 bO gQ EP;go_wp2;go_ret;refine⟨v',rfl,⟨sP.o,by simpa using bO⟩,Fr.ia (((Below.refl _ w).alloc (ar _) _).grown gQ aK (by intro k hk;simp[Value.ownBlock]at hk;omega))⟩
def j6:ef:=⟨true,⟨#[97,46,116,101,115,116]⟩,443⟩
theorem nr(w:World):Calls prog 12 #[] w fun e w'=>e=.returned (.agg j6.cells.toArray)/\Fr aU w w':=by
 go_enter func12,ntmps12;go_wp2;refine bodyPost_ret (results_cell_row bq _ _ w.heap.size 26 #[.bool true,.string ⟨#[97,46,116,101,115,116]⟩,.int .i64 443] (0,0) _ rfl (aB _ _) underlying26 rfl af) rfl ?_;exact⟨rfl,(Fr.refl _ _).alloc _⟩
theorem vW:(prog.info? 109).map (fun i=>(i.zero,i.size,i.bytes))=some (some (.agg #[.bool false,.string ⟨#[]⟩,.int .i64 0,.int .i64 0]),4,40):=af
theorem vX(v:Value)(xs:List (List Value))(w:World)(h:cz 4 w v xs)(hl:xs.length<=1000000000) :
  Calls prog 34 #[v] w fun e w'=>∃v',e=.returned v'/\OwnRows w.heap.size 109 4 w' v' xs/\Fr aU w w':=by
 obtain⟨a,c,hv⟩:=h.form;subst hv;have Jd:∀(w:World) (a:Option Addr) (n c n' c':Nat),(binOp .eql 83 (.slice a n c) (.slice none n' c')).run prog w=.ok (.bool a.isNone) w:=fun w a n c n' c'=>Lib.run_eql_slice_nil w _ _ a n c n' c' underlying83;cases a with
 |none =>
  obtain⟨rfl,rfl⟩:xs=[]/\c=0:=by
   rcases h.2 with ⟨a',c',hv,hs,hc⟩|⟨bk,o',c',hf,_⟩
   ·injection hv with e1 e2 e3
    exact⟨hs,e3.trans (hc e1.symm)⟩
   ·injection hf with e1;cases e1
  go_enter func34,ntmps34;go_wp2;go_ret;exact⟨_,rfl,aV _ _ _ _,Fr.refl _ _⟩
 |some ad =>
  have HX:=h.1;have HC:=O (show∀j u,xs.flatten[j]?=some u->w.cell? (ad.add j)=some u from fun j u hj=>by
   rcases h.2 with ⟨_,_,_,e,_⟩|⟨bk,o',c',hf,g1,g2,g3,g4⟩
   ·subst e;simp at hj
   ·cases hf;have vN:xs.flatten.length=xs.length*4:=ej (fun x hx=>(HX x hx).1);have BX:=(List.getElem?_eq_some_iff.1 hj).1;have hd:j/4<xs.length:=ab;have hm:j%4<4:=ab;have hx:(xs[j/4]).length=4:=(HX _ (bZ hd)).1;have e1:=fa (k:=4) (xs:=xs) (fun x hx=>(HX x hx).1) (j:=j/4) (List.getElem?_eq_getElem hd) (i:=j%4) (List.getElem?_eq_getElem (by rw[hx];exact hm));rw[Nat.div_add_mod']at e1;rw[e1]at hj
    cases hj;have:=g4 (j/4) _ (List.getElem?_eq_getElem hd) (j%4) _ (List.getElem?_eq_getElem (by rw[hx];exact hm));have ea:(Addr.add ⟨bk,o',none⟩ j)=⟨bk,o'+j,none⟩:=by unfold Addr.add;split<;>simp_all
    rw[ea, <-this]
    congr 2
    omega)
  have HF:=O (show xs.flatten.length=xs.length*4 from ej (fun x hx=>(HX x hx).1));have sP:=O HX;obtain⟨i0,hi,kO,gK,mv⟩:=info_parts vW;clear HX h;go_enter func34,ntmps34
  go_wp2_with (at_builtin;refine wpList_append_own _ rfl _ _ 83 rfl w.heap.size 109 i0 (.agg #[.bool false,.string ⟨#[]⟩,.int .i64 0,.int .i64 0]) 4 40 underlying83 hi kO gK mv rfl ae _ _ _ rfl (World.ownsRow_made w #[] 0 (ar _) (az _) rfl) ad xs.length c xs.flatten rfl HF.o ?qc2 ?qc3 ?qc4 ?qc5 ?qc6 ?_)
  case qc2 =>
   intro j u hj;exact Lib.cell?_alloc_some _ (HC.o j u hj)
  case qc3 =>
   intro u hu;obtain⟨x,hx,EO⟩:=List.mem_flatten.1 hu;exact(sP.o x hx).2 u EO
  case qc4=>unfold maxLen;omega
  case qc5=>omega
  case qc6=>simp
  intro v' w1 bO gQ EP;go_wp2;go_ret;refine⟨v',rfl,⟨sP.o,by simpa using bO⟩,Fr.ia (((Below.refl _ w).alloc (ar _) _).grown gQ aK (by intro k hk;simp[Value.ownBlock]at hk;omega))⟩
abbrev Dn:Array Value:= #[.int .i64 0,.int .i64 0,.bool false,.string ⟨#[]⟩,.int .i64 0,.bool false,.string ⟨#[]⟩,.int .i64 0,.string ⟨#[]⟩,.string ⟨#[]⟩,.string ⟨#[]⟩,.slice none 0 0,.bool false,.string ⟨#[]⟩,.bool false,.string ⟨#[]⟩,.string ⟨#[]⟩,.string ⟨#[]⟩,.string ⟨#[]⟩,.int .i64 0,.bool false,.int .i64 0]
