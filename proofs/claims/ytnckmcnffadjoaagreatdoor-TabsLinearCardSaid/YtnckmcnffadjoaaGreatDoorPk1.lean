/- Lemmas for the law's walk. -/
import Derived.Test.YtnckmcnffadjoaaGreatDoorPk0
import Derived.Shelf.Strings.OnBuilder
import Derived.Shelf.Strings.Trim
import Derived.Shelf.Small.Utf8
import Derived.Shelf.Small.Bits
import Derived.Shelf.Strconv.Itoa4
import Derived.Shelf.Strings.Shaped
import Derived.Shelf.Sort.Plain
import Derived.Shelf.Strings.LastIndex
import Derived.Shelf.Strings.SplitShaped
import Derived.Shelf.Strings.Runes
import Derived.Shelf.Strings.AsciiSet
import Derived.Shelf.Strings.Repeat
import Derived.Shelf.Unicode.DecodeAny
import Derived.Shelf.Strings.BuilderCap
import Derived.Shelf.Slices.Turned
import Derived.Shelf.Slices.Clone
import Derived.Shelf.Slices.Cells
import Derived.Shelf.Slices.In.SortNone
import Derived.Shelf.Slices.Empties2
import Derived.Shelf.Path.Small
import Derived.Test.YtnckmcnffadjoaaGreatDoorRows
import Derived.WalkSpells
import Derived.WalkLawsBesides
import Derived.RangeFuncNested
import Derived.RangeFuncBound
set_option maxRecDepth 100000
set_option maxHeartbeats 16000000
set_option linter.unusedSimpArgs false
namespace Go.Proofs.YtnckmcnffadjoaaGreatDoor
open Go.Proofs.Tryz
open Go.RowKit
variable {k B:Nat} {o:Obj} {p:Addr} {S:dF} {a w:World} {l:aH}
theorem fF{a b:Bool}(h:a=b):Ending.returned (.bool a)=.returned (.bool b):=by rw[h]
theorem ub{P:Program}{f:FuncId}{args:bT}{w:World}{n:Nat}{v:Value}
  (h:Calls P f args (w.drewN n) fun e w'=>e=.returned v/\w.drewN n=w'):Calls P f args (w.drewN n) fun e w''=>e=.returned v/\∃m,w''=w.drewN m :=
 h.mono fun _ _ ⟨he,hm⟩=>⟨he,n,hm.symm⟩
structure Fr (S:dF) (w w':World):Prop where
 os:w'.os=w.os
 tape:w'.tape=w.tape
 output:w'.output=w.output
 size:w.heap.size<=w'.heap.size
 block:∀k,k<w.heap.size->¬S k->w'.heap[k]?=w.heap[k]?
namespace Fr
variable {S T : Nat → Prop} {a w w' w1 w2 : World}
theorem refl(S:dF)(w:World):Fr S w w:=⟨rfl,rfl,rfl,ay _,fun _ _ _=>rfl⟩
theorem mono(h:Fr S w w')(hs:∀k,k<w.heap.size->S k->T k):Fr T w w':=⟨h.os,h.tape,h.output,h.size,fun k hk hn=>h.block k hk (fun hS=>hn (hs k hk hS))⟩
theorem trans(h:Fr S a w)(g:Fr S w w'):Fr S a w' :=
 ⟨g.os.trans h.os,g.tape.trans h.tape,g.output.trans h.output,aE h.size g.size,fun k hk hn=>(g.block k (cK hk h.size) hn).trans (h.block k hk hn)⟩
theorem step(h:Fr S a w)(g:Fr T w w')(hs:∀k,k<a.heap.size->T k->S k):Fr S a w' :=
 ⟨g.os.trans h.os,g.tape.trans h.tape,g.output.trans h.output,aE h.size g.size,
  fun k hk hn=>(g.block k (cK hk h.size) (fun ht=>hn (hs k hk ht))).trans (h.block k hk hn)⟩
theorem keep(h:Fr S w w')(hk:w.heap[k]?=some o)(hn:¬S k):w'.heap[k]?=some o :=
 (h.block k (by rcases eS k w.heap.size with g|g;exact g;simp[Array.getElem?_eq_none g]at hk) hn).trans hk
theorem cell(h:Fr S w w')(hp:p.block<w.heap.size)(hn:¬S p.block):w'.cell? p=w.cell? p:=World.cell?_of_block (w:=w) (h.block p.block hp hn)
theorem frozen(h:Fr S w w')(hp:p.block<w.heap.size)(hn:¬S p.block):w'.frozen? p=w.frozen? p:=World.frozen?_of_block (w:=w) (h.block p.block hp hn)
theorem drewN(n:Nat)(h:Fr S a w):Fr S a (w.drewN n):=⟨h.os,h.tape,h.output,h.size,h.block⟩
theorem drew(h:Fr S a w):Fr S a w.drew:=⟨h.os,h.tape,h.output,h.size,h.block⟩
theorem setCell(h:Fr S a w)(hp:p.block<a.heap.size->S p.block)(u:Value):Fr S a (w.setCell p u) :=
 ⟨h.os,h.tape,h.output,by simpa[World.setCell]using h.size,fun k hk hn=>(Below.heap_setCell _ _ _ _ (fun e=>by subst e;exact hn (hp hk))).trans (h.block k hk hn)⟩
theorem alloc(h:Fr S a w)(o:Obj):Fr S a (w.alloc o) :=
 ⟨h.os,h.tape,h.output,aE h.size aR,fun k hk hn=>(Below.heap_alloc _ _ _ (cK hk h.size)).trans (h.block k hk hn)⟩
theorem grown{row:Option Nat}(h:Fr S a w)(hg:w.grownBy w' row)(hr:∀k,row=some k->k<a.heap.size->S k):Fr S a w' :=
 ⟨hg.os.trans h.os,hg.tape.trans h.tape,hg.output.trans h.output,aE h.size hg.size,
  fun k hk hn=>(hg.block k (cK hk h.size) (fun e=>hn (hr k e.symm hk))).trans (h.block k hk hn)⟩
theorem below(h:Fr S w w')(hB:B<=w.heap.size)(hS:∀k,k<B->¬S k):Below B w w' :=
 ⟨h.os,h.tape,h.output,h.size,fun k hk=>h.block k (cK hk hB) (hS k hk)⟩
theorem PM(h:Below B w w')(hS:∀k,k<w.heap.size->B<=k->S k):Fr S w w' :=
 ⟨h.os,h.tape,h.output,h.size,fun k hk hn=>h.block k (Nat.lt_of_not_le (fun hB=>hn (hS k hk hB)))⟩
end Fr
def aS:dF:=fun _=>False
theorem Fr.pJ{w w':World}(h:Fr aS w w'):Below w.heap.size w w':=h.below (ay _) (fun _ _ h=>h)
theorem Fr.Uh{w w':World}(h:Below w.heap.size w w'):Fr aS w w':=Fr.PM h (fun _ hk hB=>absurd hk ab)
theorem Fr.gN(h:Fr S a w)(hp:a.heap.size<=p.block)(u:Value):Fr S a (w.setCell p u):=h.setCell (fun hl=>absurd hl ab) u
theorem Fr.fW{w':World}{row:Option Nat}(h:Fr S a w)(hg:w.grownBy w' row)(hr:∀k,row=some k->a.heap.size<=k):Fr S a w' :=
 h.grown hg (fun k hk hl=>absurd hl (by have:=hr k hk;omega))
theorem byte_at(s:aj)(i:Nat)(h:i<s.size):s.data.toList[i]?=some s[i]:=by
 have h':i<s.data.toList.length:=by simpa using h
 rw[List.getElem?_eq_getElem h'];rfl
theorem ud(s:aj)(i:Nat)(h:¬i<s.size):s.data.toList[i]?=none:=List.getElem?_eq_none (by simpa using h)
theorem bq(h:w.heap[k]?=some o):k<w.heap.size:=by
 rcases eS k w.heap.size with g|g
 ·exact g
 ·simp[Array.getElem?_eq_none g]at h
def oN(c:UInt8):Bool:=(decide (48<=c.toNat)&&decide (c.toNat<=57))||(decide (97<=c.toNat)&&decide (c.toNat<=122))||(decide (65<=c.toNat)&&decide (c.toNat<=90))
theorem drop_at{x:UInt8}(h:l[k]?=some x):l.drop k=x :: l.drop (k+1):=by
 obtain⟨hk,e⟩:=List.getElem?_eq_some_iff.1 h;rw[cX hk,e]
theorem Kb(h:l[k]?=none):l.drop k=[]:=cV (List.getElem?_eq_none_iff.1 h)
def one(b:Nat):dF:=fun k=>k=b
theorem Fr.one_set(w:World)(b:Nat)(u:Value)(n:Nat):Fr (one b) w ((w.setCell ⟨b,1,none⟩ u).drewN n):=((Fr.refl (one b) w).setCell (p:=⟨b,1,none⟩) (fun _=>rfl) u).drewN n
theorem Fr.one_cell{a w:World}{b k:Nat}{u:Value}(h:Fr (one b) a w):Fr (one b) a (w.setCell ⟨b,k,none⟩ u):=h.setCell (p:=⟨b,k,none⟩) (fun _=>rfl) u
abbrev ae := @Fr.refl
abbrev mG := @Fr.one_set
abbrev dG := @Fr.drewN
abbrev jf := @Fr.one_cell
abbrev bB := @Fr.alloc
abbrev bF := @Fr.trans
abbrev fx := @Fr.Uh
abbrev aA := @Fr.drew
abbrev fy := @Fr.grown
abbrev oO := @Fr.pJ
abbrev gl := @Fr.step
end Go.Proofs.YtnckmcnffadjoaaGreatDoor
namespace Go.Proofs
open Tryz Go.Proofs.YtnckmcnffadjoaaGreatDoor
open Go.Shelf
def Tryz.Ke:Go.Shelf.Ren:=⟨fun|170=>101|n=>n,fun|70=>176|3=>3|0=>0|72=>179|37=>177|5=>5|n=>n,fun|n=>n⟩
theorem Tryz.YT:Go.Proofs.Lays.n170 prog Ke:={
 mixed:=af
 f170:=func101.trans (ar some af)
 t0:=underlying0
 a0:=isAgg0
 z0:=sizeOf0
 v0:=zeroValue0
 t3:=underlying3
 a3:=isAgg3
 z3:=sizeOf3
 v3:=zeroValue3
 t37:=underlying177
 a37:=isAgg177
 z37:=sizeOf177
 v37:=zeroValue177
 t70:=underlying176
 a70:=isAgg176
 z70:=sizeOf176
 v70:=zeroValue176
 t72:=underlying179
 a72:=isAgg179
 z72:=sizeOf179
 v72:=zeroValue179}
def Tryz.BS:Go.Shelf.Ren:=⟨fun|169=>105|n=>n,fun|70=>176|9=>9|0=>0|72=>179|37=>177|127=>242|3=>3|5=>5|n=>n,fun|n=>n⟩
theorem Tryz.PO:Go.Proofs.Lays.n169 prog BS:={
 mixed:=af
 f169:=func105.trans (ar some af)
 t0:=underlying0
 a0:=isAgg0
 z0:=sizeOf0
 v0:=zeroValue0
 t3:=underlying3
 a3:=isAgg3
 z3:=sizeOf3
 v3:=zeroValue3
 t9:=underlying9
 a9:=isAgg9
 z9:=sizeOf9
 v9:=zeroValue9
 t37:=underlying177
 a37:=isAgg177
 z37:=sizeOf177
 v37:=zeroValue177
 t70:=underlying176
 a70:=isAgg176
 z70:=sizeOf176
 v70:=zeroValue176
 t72:=underlying179
 a72:=isAgg179
 z72:=sizeOf179
 v72:=zeroValue179
 t127:=underlying242
 a127:=isAgg242
 z127:=sizeOf242
 v127:=zeroValue242}
theorem Tryz.sP:Builder.Extra prog BS:={
 sizeBuilder:=af
 liesBuilder:=af
 t5:=underlying5
 a5:=isAgg5
 z5:=sizeOf5
 v5:=zeroValue5
 infoByte:=af
 cellsByte:=af
 sizeByte:=af
 neB5:=ag}
open Go.RowKit in
theorem Tryz.Builder_String_any(B b:Nat)(l:aH)(w:World)(h:Lib.IsBuilder 179 5 B b (Lib.byteCells l) w)(YU:B<=w.heap.size) :
  aB 105 #[.pointer (some ⟨b,0,none⟩)] w fun e w'=>e=.returned (.string ⟨l.toArray⟩)/\Below B w w':=Any.Builder_String_any PO sP B b l w h YU
def Tryz.BU:Go.Shelf.Ren:=⟨fun|156=>207|165=>212|166=>98|169=>105|240=>157|241=>248|276=>206|277=>274|n=>n,fun|31=>110|9=>9|3=>3|4=>4|0=>0|20=>20|72=>179|76=>180|70=>176|37=>177|75=>56|127=>242|164=>275|5=>5|80=>187|n=>n,fun|n=>n⟩
theorem Tryz.PQ:Go.Proofs.Lays.n156 prog BU:={
 mixed:=af
 f156:=func207.trans (ar some af)
 f165:=func212.trans (ar some af)
 f166:=func98.trans (ar some af)
 f169:=func105.trans (ar some af)
 f240:=func157.trans (ar some af)
 f241:=func248.trans (ar some af)
 f276:=func206.trans (ar some af)
 f277:=func274.trans (ar some af)
 t0:=underlying0
 a0:=isAgg0
 z0:=sizeOf0
 v0:=zeroValue0
 t3:=underlying3
 a3:=isAgg3
 z3:=sizeOf3
 v3:=zeroValue3
 t4:=underlying4
 a4:=isAgg4
 z4:=sizeOf4
 v4:=zeroValue4
 t9:=underlying9
 a9:=isAgg9
 z9:=sizeOf9
 v9:=zeroValue9
 t20:=underlying20
 a20:=isAgg20
 z20:=sizeOf20
 v20:=zeroValue20
 t31:=underlying110
 a31:=isAgg110
 z31:=sizeOf110
 v31:=zeroValue110
 t37:=underlying177
 a37:=isAgg177
 z37:=sizeOf177
 v37:=zeroValue177
 t70:=underlying176
 a70:=isAgg176
 z70:=sizeOf176
 v70:=zeroValue176
 t72:=underlying179
 a72:=isAgg179
 z72:=sizeOf179
 v72:=zeroValue179
 t75:=underlying56
 a75:=isAgg56
 z75:=sizeOf56
 v75:=zeroValue56
 t76:=underlying180
 a76:=isAgg180
 z76:=sizeOf180
 v76:=zeroValue180
 t127:=underlying242
 a127:=isAgg242
 z127:=sizeOf242
 v127:=zeroValue242
 t164:=underlying275
 a164:=isAgg275
 z164:=sizeOf275
 v164:=zeroValue275}
theorem Tryz.sQ:Builder.Extra prog BU:={
 sizeBuilder:=af
 liesBuilder:=af
 t5:=underlying5
 a5:=isAgg5
 z5:=sizeOf5
 v5:=zeroValue5
 infoByte:=af
 cellsByte:=af
 sizeByte:=af
 neB5:=ag}
open Go.RowKit in
theorem Tryz.strings_Join_none(a:eO)(c:Nat)(sep:aj)(w:World) :
  aB 207 #[.slice a 0 c,.string sep] w fun e w'=>e=.returned (.string ⟨#[]⟩)/\w'=w:=Any.strings_Join_none PQ sQ a c sep w
open Go.RowKit in
theorem Tryz.strings_Join(bk o c:Nat)(xs:List aj)(sep:aj)(w:World)(Ns:∀(j:Nat) x,xs[j]?=some x->w.cell? ⟨bk,o+j,none⟩=some (.string x))(tH:bk<w.heap.size)(hN:xs.length<=140737488355328)(adj:xs.length<=c)(hlen:(Lib.join (xs.map (·.data.toList)) sep.data.toList).length<=140737488355328) :
  aB 207 #[.slice (some ⟨bk,o,none⟩) xs.length c,.string sep] w fun e w'=>e=.returned (.string ⟨(Lib.join (xs.map (·.data.toList)) sep.data.toList).toArray⟩)/\Below w.heap.size w w':=Any.strings_Join PQ sQ bk o c xs sep w Ns tH hN adj hlen
def Tryz.abI:Go.Shelf.Ren:=⟨fun|231=>187|n=>n,fun|9=>9|5=>5|3=>3|4=>4|n=>n,fun|n=>n⟩
def Tryz.Kf:Go.Shelf.Ren:=⟨fun|161=>214|231=>187|227=>189|233=>190|235=>192|228=>227|197=>228|151=>229|260=>263|152=>264|137=>202|119=>281|224=>236|225=>235|217=>233|266=>267|n=>n,fun|9=>9|4=>4|3=>3|5=>5|117=>263|116=>262|0=>0|124=>266|105=>286|21=>21|119=>331|46=>101|139=>334|138=>333|n=>n,fun|3=>6|4=>7|n=>n⟩
theorem Tryz.YV:Go.Proofs.Lays.n161 prog Kf:={
 mixed:=af
 f119:=func281.trans (ar some af)
 f137:=func202.trans (ar some af)
 f151:=func229.trans (ar some af)
 f152:=func264.trans (ar some af)
 f161:=func214.trans (ar some af)
 f197:=func228.trans (ar some af)
 f217:=func233.trans (ar some af)
 f224:=func236.trans (ar some af)
 f225:=func235.trans (ar some af)
 f227:=func189.trans (ar some af)
 f228:=func227.trans (ar some af)
 f231:=func187.trans (ar some af)
 f233:=func190.trans (ar some af)
 f235:=func192.trans (ar some af)
 f260:=func263.trans (ar some af)
 f266:=func267.trans (ar some af)
 t0:=underlying0
 a0:=isAgg0
 z0:=sizeOf0
 v0:=zeroValue0
 t3:=underlying3
 a3:=isAgg3
 z3:=sizeOf3
 v3:=zeroValue3
 t4:=underlying4
 a4:=isAgg4
 z4:=sizeOf4
 v4:=zeroValue4
 t5:=underlying5
 a5:=isAgg5
 z5:=sizeOf5
 v5:=zeroValue5
 t9:=underlying9
 a9:=isAgg9
 z9:=sizeOf9
 v9:=zeroValue9
 t21:=underlying21
 a21:=isAgg21
 z21:=sizeOf21
 v21:=zeroValue21
 t46:=underlying101
 a46:=isAgg101
 z46:=sizeOf101
 v46:=zeroValue101
 t105:=underlying286
 a105:=isAgg286
 z105:=sizeOf286
 v105:=zeroValue286
 t116:=underlying262
 a116:=isAgg262
 z116:=sizeOf262
 t117:=underlying263
 a117:=isAgg263
 z117:=sizeOf263
 v117:=zeroValue263
 t119:=underlying331
 a119:=isAgg331
 z119:=sizeOf331
 t124:=underlying266
 a124:=isAgg266
 z124:=sizeOf266
 v124:=zeroValue266
 t138:=underlying333
 a138:=isAgg333
 z138:=sizeOf333
 v138:=zeroValue333
 t139:=underlying334
 a139:=isAgg334
 z139:=sizeOf334
 v139:=zeroValue334
 g3:=af
 g4:=af}
def Tryz.Kg:Go.Shelf.Ren:=⟨fun|160=>128|232=>188|231=>187|227=>189|234=>191|233=>190|236=>193|235=>192|228=>227|271=>230|151=>229|197=>228|120=>265|152=>264|260=>263|137=>202|119=>281|224=>236|225=>235|217=>233|266=>267|n=>n,fun|9=>9|4=>4|3=>3|5=>5|117=>263|116=>262|0=>0|124=>266|21=>21|105=>286|46=>101|119=>331|139=>334|138=>333|n=>n,fun|3=>6|4=>7|n=>n⟩
theorem Tryz.PR:Go.Proofs.Lays.n160 prog Kg:={
 mixed:=af
 f119:=func281.trans (ar some af)
 f120:=func265.trans (ar some af)
 f137:=func202.trans (ar some af)
 f151:=func229.trans (ar some af)
 f152:=func264.trans (ar some af)
 f160:=func128.trans (ar some af)
 f197:=func228.trans (ar some af)
 f217:=func233.trans (ar some af)
 f224:=func236.trans (ar some af)
 f225:=func235.trans (ar some af)
 f227:=func189.trans (ar some af)
 f228:=func227.trans (ar some af)
 f231:=func187.trans (ar some af)
 f232:=func188.trans (ar some af)
 f233:=func190.trans (ar some af)
 f234:=func191.trans (ar some af)
 f235:=func192.trans (ar some af)
 f236:=func193.trans (ar some af)
 f260:=func263.trans (ar some af)
 f266:=func267.trans (ar some af)
 f271:=func230.trans (ar some af)
 t0:=underlying0
 a0:=isAgg0
 z0:=sizeOf0
 v0:=zeroValue0
 t3:=underlying3
 a3:=isAgg3
 z3:=sizeOf3
 v3:=zeroValue3
 t4:=underlying4
 a4:=isAgg4
 z4:=sizeOf4
 v4:=zeroValue4
 t5:=underlying5
 a5:=isAgg5
 z5:=sizeOf5
 v5:=zeroValue5
 t9:=underlying9
 a9:=isAgg9
 z9:=sizeOf9
 v9:=zeroValue9
 t21:=underlying21
 a21:=isAgg21
 z21:=sizeOf21
 v21:=zeroValue21
 t46:=underlying101
 a46:=isAgg101
 z46:=sizeOf101
 v46:=zeroValue101
 t105:=underlying286
 a105:=isAgg286
 z105:=sizeOf286
 v105:=zeroValue286
 t116:=underlying262
 a116:=isAgg262
 z116:=sizeOf262
 t117:=underlying263
 a117:=isAgg263
 z117:=sizeOf263
 v117:=zeroValue263
 t119:=underlying331
 a119:=isAgg331
 z119:=sizeOf331
 t124:=underlying266
 a124:=isAgg266
 z124:=sizeOf266
 v124:=zeroValue266
 t138:=underlying333
 a138:=isAgg333
 z138:=sizeOf333
 v138:=zeroValue333
 t139:=underlying334
 a139:=isAgg334
 z139:=sizeOf334
 v139:=zeroValue334
 g3:=af
 g4:=af}
def Tryz.Kh:Go.Shelf.Ren:=⟨fun|137=>202|217=>233|266=>267|n=>n,fun|9=>9|5=>5|3=>3|n=>n,fun|n=>n⟩
theorem Tryz.YW:Go.Proofs.Lays.n137 prog Kh:={
 mixed:=af
 f137:=func202.trans (ar some af)
 f217:=func233.trans (ar some af)
 f266:=func267.trans (ar some af)
 t3:=underlying3
 a3:=isAgg3
 z3:=sizeOf3
 v3:=zeroValue3
 t5:=underlying5
 a5:=isAgg5
 z5:=sizeOf5
 v5:=zeroValue5
 t9:=underlying9
 a9:=isAgg9
 z9:=sizeOf9
 v9:=zeroValue9}
open Go.RowKit in
theorem Tryz.strings_IndexByte(s:aj)(c:Int)(w:World) :
  aB 202 #[.string s,.int .u8 c] w fun e w'=>e=.returned (.int .i64 (Lib.indexByte s.data.toList c.toNat.toUInt8))/\w'=w:=Any.strings_IndexByte YW s c w
open Go.RowKit in
theorem Tryz.Builder_Len_f(B b:Nat)(bs:aZ)(w:World)(h:Lib.IsBuilderF 179 5 B b bs w) :
  aB 101 #[.pointer (some ⟨b,0,none⟩)] w fun e w'=>e=.returned (.int .i64 bs.length)/\w'=w:=Any.Builder_Len_f YT B b bs w h
open Go.RowKit in
theorem Tryz.Builder_String_any_k(B b:Nat)(l:aH)(w:World)(h:Lib.IsBuilderF 179 5 B b (Lib.byteCells l) w)(YU:B<=w.heap.size) :
  aB 105 #[.pointer (some ⟨b,0,none⟩)] w fun e w'=>e=.returned (.string ⟨l.toArray⟩)/\(Lib.IsBuilderF 179 5 B b (Lib.byteCells l) w'/\Below B w w'/\Lib.OthersKept 5 (some b) w w'):=Any.Builder_String_any_k PO sP B b l w h YU
def Tryz.YX:Go.Shelf.Ren:=⟨fun|246=>210|283=>242|284=>243|285=>244|286=>245|129=>260|317=>270|318=>271|319=>272|320=>273|337=>282|338=>283|n=>n,fun|2=>2|3=>3|9=>9|4=>4|171=>300|0=>0|53=>301|37=>177|5=>5|173=>304|212=>322|51=>290|20=>20|213=>323|46=>101|232=>339|233=>340|n=>n,fun|17=>5|18=>8|19=>9|n=>n⟩
def Tryz.YY:Go.Shelf.Ren:=⟨fun|243=>266|246=>210|283=>242|284=>243|285=>244|286=>245|129=>260|317=>270|318=>271|319=>272|320=>273|337=>282|338=>283|n=>n,fun|3=>3|9=>9|2=>2|4=>4|171=>300|0=>0|53=>301|37=>177|5=>5|173=>304|212=>322|51=>290|20=>20|213=>323|46=>101|232=>339|233=>340|n=>n,fun|17=>5|18=>8|19=>9|n=>n⟩
def Tryz.Ii:Go.Shelf.Ren:=⟨fun|171=>232|243=>266|246=>210|283=>242|284=>243|285=>244|286=>245|129=>260|317=>270|318=>271|319=>272|320=>273|337=>282|338=>283|n=>n,fun|3=>3|9=>9|2=>2|4=>4|171=>300|0=>0|53=>301|37=>177|5=>5|173=>304|212=>322|51=>290|20=>20|213=>323|46=>101|232=>339|233=>340|n=>n,fun|17=>5|18=>8|19=>9|n=>n⟩
theorem Tryz.Ui:Go.Proofs.LaysM.n171 prog Ii:={
 mixed:=af
 f129:=func260.trans (ar some af)
 f171:=func232.trans (ar some af)
 f243:=func266.trans (ar some af)
 f246:=func210.trans (ar some af)
 f283:=func242.trans (ar some af)
 f284:=func243.trans (ar some af)
 f285:=func244.trans (ar some af)
 f286:=func245.trans (ar some af)
 f317:=func270.trans (ar some af)
 f318:=func271.trans (ar some af)
 f319:=func272.trans (ar some af)
 f320:=func273.trans (ar some af)
 f337:=func282.trans (ar some af)
 f338:=func283.trans (ar some af)
 t0:=underlying0
 a0:=isAgg0
 z0:=sizeOf0
 v0:=zeroValue0
 t2:=underlying2
 a2:=isAgg2
 z2:=sizeOf2
 v2:=zeroValue2
 t3:=underlying3
 a3:=isAgg3
 z3:=sizeOf3
 v3:=zeroValue3
 t4:=underlying4
 a4:=isAgg4
 z4:=sizeOf4
 v4:=zeroValue4
 t5:=underlying5
 a5:=isAgg5
 z5:=sizeOf5
 v5:=zeroValue5
 t9:=underlying9
 a9:=isAgg9
 z9:=sizeOf9
 v9:=zeroValue9
 t20:=underlying20
 a20:=isAgg20
 z20:=sizeOf20
 v20:=zeroValue20
 t37:=underlying177
 a37:=isAgg177
 z37:=sizeOf177
 v37:=zeroValue177
 t46:=underlying101
 a46:=isAgg101
 z46:=sizeOf101
 v46:=zeroValue101
 t51:=underlying290
 a51:=isAgg290
 z51:=sizeOf290
 v51:=zeroValue290
 t53:=underlying301
 a53:=isAgg301
 z53:=sizeOf301
 v53:=zeroValue301
 t171:=underlying300
 a171:=isAgg300
 z171:=sizeOf300
 v171:=zeroValue300
 t173:=underlying304
 a173:=isAgg304
 z173:=sizeOf304
 v173:=zeroValue304
 t212:=underlying322
 a212:=isAgg322
 z212:=sizeOf322
 v212:=zeroValue322
 t213:=underlying323
 a213:=isAgg323
 z213:=sizeOf323
 t232:=underlying339
 a232:=isAgg339
 z232:=sizeOf339
 v232:=zeroValue339
 t233:=underlying340
 a233:=isAgg340
 z233:=sizeOf340
 v233:=zeroValue340
 g17:=af
 g18:=af
 g19:=af
 i0:=af
 i2:=af
 i3:=af
 i4:=af
 i5:=af
 i9:=af
 i20:=af
 i37:=af
 i46:=af
 i51:=af
 i53:=af
 i171:=af
 i173:=af
 i212:=af
 i232:=af
 i233:=af
 m17:=af
 m18:=af
 m19:=af}
open Go.RowKit Go.Sort Go.Lib in
theorem Tryz.strconv_Itoa(n:Int)(h0: -9223372036854775808<=n)(h1:n<=9223372036854775807)(w:World)(anh:Lib.TabIs prog w "internal/strconv.uint64pow10" .u64 Lib.pow10Tab) :
  aB 232 #[.int .i64 n] w fun e w'=>e=.returned (.string ⟨(Lib.itoa n).toArray⟩)/\∃k os,w'=grow (w.drewN k) os:=Any.strconv_Itoa Ui n h0 h1 w anh
def Tryz.Ki:Go.Shelf.Ren:=⟨fun|219=>205|217=>233|225=>235|224=>236|267=>237|266=>267|314=>268|n=>n,fun|9=>9|3=>3|4=>4|5=>5|46=>101|146=>306|51=>290|n=>n,fun|1=>0|n=>n⟩
theorem Tryz.YZ:Go.Proofs.Lays.n219 prog Ki:={
 mixed:=af
 f217:=func233.trans (ar some af)
 f219:=func205.trans (ar some af)
 f224:=func236.trans (ar some af)
 f225:=func235.trans (ar some af)
 f266:=func267.trans (ar some af)
 f267:=func237.trans (ar some af)
 f314:=func268.trans (ar some af)
 t3:=underlying3
 a3:=isAgg3
 z3:=sizeOf3
 v3:=zeroValue3
 t4:=underlying4
 a4:=isAgg4
 z4:=sizeOf4
 v4:=zeroValue4
 t5:=underlying5
 a5:=isAgg5
 z5:=sizeOf5
 v5:=zeroValue5
 t9:=underlying9
 a9:=isAgg9
 z9:=sizeOf9
 v9:=zeroValue9
 t46:=underlying101
 a46:=isAgg101
 z46:=sizeOf101
 v46:=zeroValue101
 t51:=underlying290
 a51:=isAgg290
 z51:=sizeOf290
 v51:=zeroValue290
 t146:=underlying306
 a146:=isAgg306
 z146:=sizeOf306
 v146:=zeroValue306
 g1:=af}
open Go.RowKit Go.Lib in
theorem Tryz.stringslite_Index_one(s:aj)(c:UInt8)(w:World) :
  aB 205 #[.string s,.string ⟨#[c]⟩] w fun e w'=>e=.returned (.int .i64 (Lib.indexByte s.data.toList c))/\w'=w:=Any.stringslite_Index_one YZ s c w
def Tryz.Kj:Go.Shelf.Ren:=⟨fun|143=>155|219=>205|217=>233|225=>235|224=>236|267=>237|266=>267|314=>268|n=>n,fun|9=>9|3=>3|4=>4|5=>5|46=>101|146=>306|51=>290|n=>n,fun|1=>0|n=>n⟩
theorem Tryz.Y0:Go.Proofs.Lays.n143 prog Kj:={
 mixed:=af
 f143:=func155.trans (ar some af)
 f217:=func233.trans (ar some af)
 f219:=func205.trans (ar some af)
 f224:=func236.trans (ar some af)
 f225:=func235.trans (ar some af)
 f266:=func267.trans (ar some af)
 f267:=func237.trans (ar some af)
 f314:=func268.trans (ar some af)
 t3:=underlying3
 a3:=isAgg3
 z3:=sizeOf3
 v3:=zeroValue3
 t4:=underlying4
 a4:=isAgg4
 z4:=sizeOf4
 v4:=zeroValue4
 t5:=underlying5
 a5:=isAgg5
 z5:=sizeOf5
 v5:=zeroValue5
 t9:=underlying9
 a9:=isAgg9
 z9:=sizeOf9
 v9:=zeroValue9
 t46:=underlying101
 a46:=isAgg101
 z46:=sizeOf101
 v46:=zeroValue101
 t51:=underlying290
 a51:=isAgg290
 z51:=sizeOf290
 v51:=zeroValue290
 t146:=underlying306
 a146:=isAgg306
 z146:=sizeOf306
 v146:=zeroValue306
 g1:=af}
def Tryz.Kk:Go.Shelf.Ren:=⟨fun|144=>96|143=>155|219=>205|217=>233|225=>235|224=>236|267=>237|266=>267|314=>268|n=>n,fun|9=>9|4=>4|3=>3|5=>5|46=>101|146=>306|51=>290|n=>n,fun|1=>0|n=>n⟩
theorem Tryz.Y1:Go.Proofs.Lays.n144 prog Kk:={
 mixed:=af
 f143:=func155.trans (ar some af)
 f144:=func96.trans (ar some af)
 f217:=func233.trans (ar some af)
 f219:=func205.trans (ar some af)
 f224:=func236.trans (ar some af)
 f225:=func235.trans (ar some af)
 f266:=func267.trans (ar some af)
 f267:=func237.trans (ar some af)
 f314:=func268.trans (ar some af)
 t3:=underlying3
 a3:=isAgg3
 z3:=sizeOf3
 v3:=zeroValue3
 t4:=underlying4
 a4:=isAgg4
 z4:=sizeOf4
 v4:=zeroValue4
 t5:=underlying5
 a5:=isAgg5
 z5:=sizeOf5
 v5:=zeroValue5
 t9:=underlying9
 a9:=isAgg9
 z9:=sizeOf9
 v9:=zeroValue9
 t46:=underlying101
 a46:=isAgg101
 z46:=sizeOf101
 v46:=zeroValue101
 t51:=underlying290
 a51:=isAgg290
 z51:=sizeOf290
 v51:=zeroValue290
 t146:=underlying306
 a146:=isAgg306
 z146:=sizeOf306
 v146:=zeroValue306
 g1:=af}
open Go.RowKit Go.Lib in
theorem Tryz.strings_Contains_one(s:aj)(c:UInt8)(w:World) :
  aB 96 #[.string s,.string ⟨#[c]⟩] w fun e w'=>e=.returned (.bool (decide (0<=Lib.indexByte s.data.toList c)))/\w'=w:=Any.strings_Contains_one Y1 s c w
def Tryz.Kl:Go.Shelf.Ren:=⟨fun|138=>225|195=>261|218=>262|143=>155|219=>205|217=>233|225=>235|224=>236|267=>237|266=>267|314=>268|n=>n,fun|9=>9|3=>3|4=>4|5=>5|0=>0|46=>101|146=>306|51=>290|n=>n,fun|1=>0|n=>n⟩
theorem Tryz.Y2:Go.Proofs.Lays.n138 prog Kl:={
 mixed:=af
 f138:=func225.trans (ar some af)
 f143:=func155.trans (ar some af)
 f195:=func261.trans (ar some af)
 f217:=func233.trans (ar some af)
 f218:=func262.trans (ar some af)
 f219:=func205.trans (ar some af)
 f224:=func236.trans (ar some af)
 f225:=func235.trans (ar some af)
 f266:=func267.trans (ar some af)
 f267:=func237.trans (ar some af)
 f314:=func268.trans (ar some af)
 t0:=underlying0
 a0:=isAgg0
 z0:=sizeOf0
 v0:=zeroValue0
 t3:=underlying3
 a3:=isAgg3
 z3:=sizeOf3
 v3:=zeroValue3
 t4:=underlying4
 a4:=isAgg4
 z4:=sizeOf4
 v4:=zeroValue4
 t5:=underlying5
 a5:=isAgg5
 z5:=sizeOf5
 v5:=zeroValue5
 t9:=underlying9
 a9:=isAgg9
 z9:=sizeOf9
 v9:=zeroValue9
 t46:=underlying101
 a46:=isAgg101
 z46:=sizeOf101
 v46:=zeroValue101
 t51:=underlying290
 a51:=isAgg290
 z51:=sizeOf290
 v51:=zeroValue290
 t146:=underlying306
 a146:=isAgg306
 z146:=sizeOf306
 v146:=zeroValue306
 g1:=af}
def Tryz.Km:Go.Shelf.Ren:=⟨fun|190=>182|125=>223|258=>222|128=>259|129=>260|302=>250|303=>251|304=>252|305=>253|306=>254|307=>255|308=>256|309=>257|310=>258|333=>275|329=>276|330=>277|334=>278|335=>279|336=>280|344=>284|n=>n,fun|31=>110|9=>9|3=>3|46=>101|0=>0|51=>290|53=>301|4=>4|183=>313|182=>312|131=>44|5=>5|218=>326|222=>164|228=>336|229=>337|n=>n,fun|n=>n⟩
theorem Tryz.PS:Go.Proofs.Lays.n190 prog Km:={
 mixed:=af
 f125:=func223.trans (ar some af)
 f128:=func259.trans (ar some af)
 f129:=func260.trans (ar some af)
 f190:=func182.trans (ar some af)
 f258:=func222.trans (ar some af)
 f302:=func250.trans (ar some af)
 f303:=func251.trans (ar some af)
 f304:=func252.trans (ar some af)
 f305:=func253.trans (ar some af)
 f306:=func254.trans (ar some af)
 f307:=func255.trans (ar some af)
 f308:=func256.trans (ar some af)
 f309:=func257.trans (ar some af)
 f310:=func258.trans (ar some af)
 f329:=func276.trans (ar some af)
 f330:=func277.trans (ar some af)
 f333:=func275.trans (ar some af)
 f334:=func278.trans (ar some af)
 f335:=func279.trans (ar some af)
 f336:=func280.trans (ar some af)
 f344:=func284.trans (ar some af)
 t0:=underlying0
 a0:=isAgg0
 z0:=sizeOf0
 v0:=zeroValue0
 t3:=underlying3
 a3:=isAgg3
 z3:=sizeOf3
 v3:=zeroValue3
 t4:=underlying4
 a4:=isAgg4
 z4:=sizeOf4
 v4:=zeroValue4
 t5:=underlying5
 a5:=isAgg5
 z5:=sizeOf5
 v5:=zeroValue5
 t9:=underlying9
 a9:=isAgg9
 z9:=sizeOf9
 v9:=zeroValue9
 t31:=underlying110
 a31:=isAgg110
 z31:=sizeOf110
 v31:=zeroValue110
 t46:=underlying101
 a46:=isAgg101
 z46:=sizeOf101
 v46:=zeroValue101
 t51:=underlying290
 a51:=isAgg290
 z51:=sizeOf290
 v51:=zeroValue290
 t53:=underlying301
 a53:=isAgg301
 z53:=sizeOf301
 v53:=zeroValue301
 t131:=underlying44
 a131:=isAgg44
 z131:=sizeOf44
 v131:=zeroValue44
 t182:=underlying312
 a182:=isAgg312
 z182:=sizeOf312
 v182:=zeroValue312
 t183:=underlying313
 a183:=isAgg313
 z183:=sizeOf313
 v183:=zeroValue313
 t218:=underlying326
 a218:=isAgg326
 z218:=sizeOf326
 v218:=zeroValue326
 t222:=underlying164
 a222:=isAgg164
 z222:=sizeOf164
 v222:=zeroValue164
 t228:=underlying336
 a228:=isAgg336
 z228:=sizeOf336
 v228:=zeroValue336
 t229:=underlying337
 a229:=isAgg337
 z229:=sizeOf337
 v229:=zeroValue337}
open Go.Sort Go.RowKit in
theorem Tryz.slices_Sort_string(eN off cap:Nat)(ss:List (aH))(w:World)(hH:Holds encStr w eN off ss.toArray)(qm:eN<w.heap.size)(xS:ss.length<4611686018427387904) :
  aB 182 #[.slice (some ⟨eN,off,none⟩) ss.length cap] w fun e w' =>
   e=.returned (.tuple #[])/\∃n os,w'=grow (putRow encStr (Sort.ahead w n) eN off (ss.mergeSort fun x y=>decide (x<=y)).toArray) os:=Any.slices_Sort_string PS eN off cap ss w hH qm xS
def Tryz.Kn:Go.Shelf.Ren:=⟨fun|149=>179|222=>218|n=>n,fun|9=>9|5=>5|3=>3|4=>4|n=>n,fun|n=>n⟩
theorem Tryz.Y3:Go.Proofs.Lays.n149 prog Kn:={
 mixed:=af
 f149:=func179.trans (ar some af)
 f222:=func218.trans (ar some af)
 t3:=underlying3
 a3:=isAgg3
 z3:=sizeOf3
 v3:=zeroValue3
 t4:=underlying4
 a4:=isAgg4
 z4:=sizeOf4
 v4:=zeroValue4
 t5:=underlying5
 a5:=isAgg5
 z5:=sizeOf5
 v5:=zeroValue5
 t9:=underlying9
 a9:=isAgg9
 z9:=sizeOf9
 v9:=zeroValue9}
open Go.RowKit Go.Lib in
theorem Tryz.strings_LastIndexByte(s:aj)(c:Int)(hs:s.size<4611686018427387904)(w:World) :
  aB 179 #[.string s,.int .u8 c] w fun e w'=>e=.returned (.int .i64 (Lib.lastIndexByte s c))/\w'=w:=Any.strings_LastIndexByte Y3 s c hs w
def Tryz.abJ:Go.Shelf.Ren:=⟨fun|206=>217|n=>n,fun|9=>9|4=>4|3=>3|n=>n,fun|n=>n⟩
def Tryz.Nt:Go.Shelf.Ren:=⟨fun|99=>177|206=>217|n=>n,fun|9=>9|4=>4|3=>3|n=>n,fun|n=>n⟩
theorem Tryz.adk:Go.Proofs.Lays.n99 prog Nt:={
 mixed:=af
 f99:=func177.trans (ar some af)
 f206:=func217.trans (ar some af)
 t3:=underlying3
 a3:=isAgg3
 z3:=sizeOf3
 v3:=zeroValue3
 t4:=underlying4
 a4:=isAgg4
 z4:=sizeOf4
 v4:=zeroValue4
 t9:=underlying9
 a9:=isAgg9
 z9:=sizeOf9
 v9:=zeroValue9}
open Go.RowKit Go.Lib in
theorem Tryz.strings_HasPrefix(s p:aj)(w:World) :
  aB 177 #[.string s,.string p] w fun e w'=>e=.returned (.bool (Lib.hasPrefix s.data.toList p.data.toList))/\w'=w:=Any.strings_HasPrefix adk s p w
def Tryz.Ko:Go.Shelf.Ren:=⟨fun|102=>126|209=>185|207=>226|n=>n,fun|9=>9|4=>4|3=>3|n=>n,fun|n=>n⟩
theorem Tryz.Y4:Go.Proofs.Lays.n102 prog Ko:={
 mixed:=af
 f102:=func126.trans (ar some af)
 f207:=func226.trans (ar some af)
 f209:=func185.trans (ar some af)
 t3:=underlying3
 a3:=isAgg3
 z3:=sizeOf3
 v3:=zeroValue3
 t4:=underlying4
 a4:=isAgg4
 z4:=sizeOf4
 v4:=zeroValue4
 t9:=underlying9
 a9:=isAgg9
 z9:=sizeOf9
 v9:=zeroValue9}
open Go.RowKit Go.Lib in
theorem Tryz.strings_TrimSuffix(s p:aj)(w:World)(hs:s.size<=9223372036854775807) :
  aB 126 #[.string s,.string p] w fun e w'=>e=.returned (.string ⟨(Lib.trimSuffix s.data.toList p.data.toList).toArray⟩)/\w'=w:=Any.strings_TrimSuffix Y4 s p w hs
def Tryz.Kp:Go.Shelf.Ren:=⟨fun|221=>184|268=>224|138=>225|143=>155|195=>261|197=>228|218=>262|219=>205|260=>263|217=>233|225=>235|224=>236|267=>237|266=>267|314=>268|n=>n,fun|9=>9|3=>3|31=>110|4=>4|0=>0|105=>286|21=>21|5=>5|46=>101|119=>331|139=>334|138=>333|146=>306|51=>290|n=>n,fun|1=>0|3=>6|4=>7|n=>n⟩
theorem Tryz.Y5:Go.Proofs.Lays.n221 prog Kp:={
 mixed:=af
 f138:=func225.trans (ar some af)
 f143:=func155.trans (ar some af)
 f195:=func261.trans (ar some af)
 f197:=func228.trans (ar some af)
 f217:=func233.trans (ar some af)
 f218:=func262.trans (ar some af)
 f219:=func205.trans (ar some af)
 f221:=func184.trans (ar some af)
 f224:=func236.trans (ar some af)
 f225:=func235.trans (ar some af)
 f260:=func263.trans (ar some af)
 f266:=func267.trans (ar some af)
 f267:=func237.trans (ar some af)
 f268:=func224.trans (ar some af)
 f314:=func268.trans (ar some af)
 t0:=underlying0
 a0:=isAgg0
 z0:=sizeOf0
 v0:=zeroValue0
 t3:=underlying3
 a3:=isAgg3
 z3:=sizeOf3
 v3:=zeroValue3
 t4:=underlying4
 a4:=isAgg4
 z4:=sizeOf4
 v4:=zeroValue4
 t5:=underlying5
 a5:=isAgg5
 z5:=sizeOf5
 v5:=zeroValue5
 t9:=underlying9
 a9:=isAgg9
 z9:=sizeOf9
 v9:=zeroValue9
 t21:=underlying21
 a21:=isAgg21
 z21:=sizeOf21
 v21:=zeroValue21
 t31:=underlying110
 a31:=isAgg110
 z31:=sizeOf110
 v31:=zeroValue110
 t46:=underlying101
 a46:=isAgg101
 z46:=sizeOf101
 v46:=zeroValue101
 t51:=underlying290
 a51:=isAgg290
 z51:=sizeOf290
 v51:=zeroValue290
 t105:=underlying286
 a105:=isAgg286
 z105:=sizeOf286
 v105:=zeroValue286
 t119:=underlying331
 a119:=isAgg331
 z119:=sizeOf331
 t138:=underlying333
 a138:=isAgg333
 z138:=sizeOf333
 v138:=zeroValue333
 t139:=underlying334
 a139:=isAgg334
 z139:=sizeOf334
 v139:=zeroValue334
 t146:=underlying306
 a146:=isAgg306
 z146:=sizeOf306
 v146:=zeroValue306
 g1:=af
 g3:=af
 g4:=af}
def Tryz.BV:Go.Shelf.Ren:=⟨fun|105=>161|212=>211|99=>177|165=>212|166=>98|170=>101|169=>105|263=>246|264=>247|206=>217|240=>157|241=>248|276=>206|277=>274|n=>n,fun|9=>9|3=>3|4=>4|20=>20|0=>0|46=>101|109=>278|5=>5|72=>179|76=>180|51=>290|146=>306|53=>301|148=>308|70=>176|37=>177|75=>56|127=>242|164=>275|80=>187|n=>n,fun|n=>n⟩
theorem Tryz.Y6:Go.Proofs.Lays.n105 prog BV:={
 mixed:=af
 f99:=func177.trans (ar some af)
 f105:=func161.trans (ar some af)
 f165:=func212.trans (ar some af)
 f166:=func98.trans (ar some af)
 f169:=func105.trans (ar some af)
 f170:=func101.trans (ar some af)
 f206:=func217.trans (ar some af)
 f212:=func211.trans (ar some af)
 f240:=func157.trans (ar some af)
 f241:=func248.trans (ar some af)
 f263:=func246.trans (ar some af)
 f264:=func247.trans (ar some af)
 f276:=func206.trans (ar some af)
 f277:=func274.trans (ar some af)
 t0:=underlying0
 a0:=isAgg0
 z0:=sizeOf0
 v0:=zeroValue0
 t3:=underlying3
 a3:=isAgg3
 z3:=sizeOf3
 v3:=zeroValue3
 t4:=underlying4
 a4:=isAgg4
 z4:=sizeOf4
 v4:=zeroValue4
 t5:=underlying5
 a5:=isAgg5
 z5:=sizeOf5
 v5:=zeroValue5
 t9:=underlying9
 a9:=isAgg9
 z9:=sizeOf9
 v9:=zeroValue9
 t20:=underlying20
 a20:=isAgg20
 z20:=sizeOf20
 v20:=zeroValue20
 t37:=underlying177
 a37:=isAgg177
 z37:=sizeOf177
 v37:=zeroValue177
 t46:=underlying101
 a46:=isAgg101
 z46:=sizeOf101
 v46:=zeroValue101
 t51:=underlying290
 a51:=isAgg290
 z51:=sizeOf290
 v51:=zeroValue290
 t53:=underlying301
 a53:=isAgg301
 z53:=sizeOf301
 v53:=zeroValue301
 t70:=underlying176
 a70:=isAgg176
 z70:=sizeOf176
 v70:=zeroValue176
 t72:=underlying179
 a72:=isAgg179
 z72:=sizeOf179
 v72:=zeroValue179
 t75:=underlying56
 a75:=isAgg56
 z75:=sizeOf56
 v75:=zeroValue56
 t76:=underlying180
 a76:=isAgg180
 z76:=sizeOf180
 v76:=zeroValue180
 t109:=underlying278
 a109:=isAgg278
 z109:=sizeOf278
 v109:=zeroValue278
 t127:=underlying242
 a127:=isAgg242
 z127:=sizeOf242
 v127:=zeroValue242
 t146:=underlying306
 a146:=isAgg306
 z146:=sizeOf306
 v146:=zeroValue306
 t148:=underlying308
 a148:=isAgg308
 z148:=sizeOf308
 v148:=zeroValue308
 t164:=underlying275
 a164:=isAgg275
 z164:=sizeOf275
 v164:=zeroValue275}
theorem Tryz.zo:Builder.Extra prog BV:={
 sizeBuilder:=af
 liesBuilder:=af
 t5:=underlying5
 a5:=isAgg5
 z5:=sizeOf5
 v5:=zeroValue5
 infoByte:=af
 cellsByte:=af
 sizeByte:=af
 neB5:=ag}
open Go.RowKit Go.Lib in
theorem Tryz.strings_Repeat(s:aj)(c:Nat)(w:World)(hc:c<=9223372036854775807)(hlen:s.size*c<=140737488355328) :
  aB 161 #[.string s,.int .i64 c] w fun e w'=>e=.returned (.string ⟨(Lib.repeatL s.data.toList c).toArray⟩)/\Below w.heap.size w w':=Any.strings_Repeat Y6 zo s c w hc hlen
def Tryz.Kq:Go.Shelf.Ren:=⟨fun|110=>221|109=>249|n=>n,fun|31=>110|9=>9|4=>4|3=>3|0=>0|n=>n,fun|n=>n⟩
theorem Tryz.Y7:Go.Proofs.Lays.n110 prog Kq:={
 mixed:=af
 f109:=func249.trans (ar some af)
 f110:=func221.trans (ar some af)
 t0:=underlying0
 a0:=isAgg0
 z0:=sizeOf0
 v0:=zeroValue0
 t3:=underlying3
 a3:=isAgg3
 z3:=sizeOf3
 v3:=zeroValue3
 t4:=underlying4
 a4:=isAgg4
 z4:=sizeOf4
 v4:=zeroValue4
 t9:=underlying9
 a9:=isAgg9
 z9:=sizeOf9
 v9:=zeroValue9
 t31:=underlying110
 a31:=isAgg110
 z31:=sizeOf110
 v31:=zeroValue110}
open Go.Lib in
theorem Tryz.slices_Contains_string(b off n c:Nat)(zs:List aj)(x:aj)(w:World)(hz:n<=zs.length)(Nu:n<=9223372036854775807)(hc:∀j,j<zs.length->w.cell? ⟨b,off+j,none⟩=some (.string (zs.getD j ByteArray.empty))) :
  aB 221 #[.slice (some ⟨b,off,none⟩) n c,.string x] w fun e w'=>e=.returned (.bool (Lib.containsS (zs.take n) x))/\w'=w:=Any.slices_Contains_string Y7 b off n c zs x w hz Nu hc
def Tryz.Kr:Go.Shelf.Ren:=⟨fun|111=>87|n=>n,fun|28=>162|3=>3|4=>4|0=>0|n=>n,fun|n=>n⟩
theorem Tryz.PT:Go.Proofs.Lays.n111 prog Kr:={
 mixed:=af
 f111:=func87.trans (ar some af)
 t0:=underlying0
 a0:=isAgg0
 z0:=sizeOf0
 v0:=zeroValue0
 t3:=underlying3
 a3:=isAgg3
 z3:=sizeOf3
 v3:=zeroValue3
 t4:=underlying4
 a4:=isAgg4
 z4:=sizeOf4
 v4:=zeroValue4
 t28:=underlying162
 a28:=isAgg162
 z28:=sizeOf162
 v28:=zeroValue162}
open Go.RowKit Go.Lib in
theorem Tryz.slices_Equal_int(b1 o1 n c b2 o2 m d:Nat)(xs ys:List Int)(w:World)(hx:n<=xs.length)(hy:m<=ys.length)(Nu:n<=9223372036854775807)(Dg:m<=9223372036854775807)(pK:∀j,j<xs.length->w.cell? ⟨b1,o1+j,none⟩=some (.int .i64 (xs.getD j 0)))(sR:∀j,j<ys.length->w.cell? ⟨b2,o2+j,none⟩=some (.int .i64 (ys.getD j 0))) :
  aB 87 #[.slice (some ⟨b1,o1,none⟩) n c,.slice (some ⟨b2,o2,none⟩) m d] w fun e w'=>e=.returned (.bool (xs.take n==ys.take m))/\∃q,w'=w.drewN q:=Any.slices_Equal_int PT b1 o1 n c b2 o2 m d xs ys w hx hy Nu Dg pK sR
open Go.RowKit Go.Lib in
theorem Tryz.slices_Equal_int_empty(a1 a2:eO)(c m d:Nat)(w:World)(Dg:m<=9223372036854775807) :
  aB 87 #[.slice a1 0 c,.slice a2 m d] w fun e w'=>e=.returned (.bool (decide (m=0)))/\w'=w:=Any.slices_Equal_int_empty PT a1 a2 c m d w Dg
def Tryz.Ks:Go.Shelf.Ren:=⟨fun|193=>148|n=>n,fun|31=>110|9=>9|4=>4|3=>3|0=>0|n=>n,fun|n=>n⟩
theorem Tryz.PU:Go.Proofs.Lays.n193 prog Ks:={
 mixed:=af
 f193:=func148.trans (ar some af)
 t0:=underlying0
 a0:=isAgg0
 z0:=sizeOf0
 v0:=zeroValue0
 t3:=underlying3
 a3:=isAgg3
 z3:=sizeOf3
 v3:=zeroValue3
 t4:=underlying4
 a4:=isAgg4
 z4:=sizeOf4
 v4:=zeroValue4
 t9:=underlying9
 a9:=isAgg9
 z9:=sizeOf9
 v9:=zeroValue9
 t31:=underlying110
 a31:=isAgg110
 z31:=sizeOf110
 v31:=zeroValue110}
open Go.RowKit Go.Lib in
theorem Tryz.slices_Equal_string(b1 o1 n c b2 o2 m d:Nat)(xs ys:List aj)(w:World)(hx:n<=xs.length)(hy:m<=ys.length)(Nu:n<=9223372036854775807)(Dg:m<=9223372036854775807)(pK:∀j,j<xs.length->w.cell? ⟨b1,o1+j,none⟩=some (.string (xs.getD j ByteArray.empty)))(sR:∀j,j<ys.length->w.cell? ⟨b2,o2+j,none⟩=some (.string (ys.getD j ByteArray.empty))) :
  aB 148 #[.slice (some ⟨b1,o1,none⟩) n c,.slice (some ⟨b2,o2,none⟩) m d] w fun e w'=>e=.returned (.bool (decide (xs.take n=ys.take m)))/\∃q,w'=w.drewN q:=Any.slices_Equal_string PU b1 o1 n c b2 o2 m d xs ys w hx hy Nu Dg pK sR
open Go.RowKit Go.Lib in
theorem Tryz.slices_Equal_string_empty(a1 a2:eO)(c m d:Nat)(w:World)(Dg:m<=9223372036854775807) :
  aB 148 #[.slice a1 0 c,.slice a2 m d] w fun e w'=>e=.returned (.bool (decide (m=0)))/\w'=w:=Any.slices_Equal_string_empty PU a1 a2 c m d w Dg
def Tryz.FB:Go.Shelf.Ren:=⟨fun|16=>115|n=>n,fun|24=>110|9=>9|4=>4|n=>n,fun|n=>n⟩
theorem Tryz.Ba:Go.Proofs.Lays2.n16 prog FB:={
 mixed:=af
 f16:=func115.trans (ar some af)
 t4:=underlying4
 a4:=isAgg4
 z4:=sizeOf4
 v4:=zeroValue4
 t9:=underlying9
 a9:=isAgg9
 z9:=sizeOf9
 v9:=zeroValue9
 t24:=underlying110
 a24:=isAgg110
 z24:=sizeOf110
 v24:=zeroValue110
 i9:=af}
open Go.RowKit Go.Lib in
theorem Tryz.slices_Clone_string(b off n c:Nat)(zs:List aj)(w:World)(hz:n<=zs.length)(Nu:n*16<=140737488355328)(hc:∀j,j<zs.length->w.cell? ⟨b,off+j,none⟩=some (.string (zs.getD j ByteArray.empty))) :
  aB 115 #[.slice (some ⟨b,off,none⟩) n c] w fun e w'=>∃v',e=.returned v'/\w'.ownsRow w.heap.size 9 1 v' n ((zs.take n).map (Value.string))/\v'≠ .slice none 0 0/\Below w.heap.size w w':=Any.slices_Clone_string Ba b off n c zs w hz Nu hc
open Go.RowKit Go.Lib in
theorem Tryz.slices_Clone_string_nil(n c:Nat)(w:World) :
  aB 115 #[.slice none n c] w fun e w'=>e=.returned (.slice none 0 0)/\w'=w:=Any.slices_Clone_string_nil Ba n c w
open Go.RowKit Go.Lib in
theorem Tryz.slices_Clone_string_zero(a:Addr)(c:Nat)(w:World) :
  aB 115 #[.slice (some a) 0 c] w fun e w'=>∃v',e=.returned v'/\w'.ownsRow w.heap.size 9 1 v' 0 []/\v'≠ .slice none 0 0/\Below w.heap.size w w':=Any.slices_Clone_string_zero Ba a c w
def Tryz.Kt:Go.Shelf.Ren:=⟨fun|194=>183|n=>n,fun|31=>110|9=>9|3=>3|4=>4|0=>0|n=>n,fun|n=>n⟩
theorem Tryz.PV:Go.Proofs.Lays.n194 prog Kt:={
 mixed:=af
 f194:=func183.trans (ar some af)
 t0:=underlying0
 a0:=isAgg0
 z0:=sizeOf0
 v0:=zeroValue0
 t3:=underlying3
 a3:=isAgg3
 z3:=sizeOf3
 v3:=zeroValue3
 t4:=underlying4
 a4:=isAgg4
 z4:=sizeOf4
 v4:=zeroValue4
 t9:=underlying9
 a9:=isAgg9
 z9:=sizeOf9
 v9:=zeroValue9
 t31:=underlying110
 a31:=isAgg110
 z31:=sizeOf110
 v31:=zeroValue110}
open Go.RowKit Go.Lib Go.Sort in
theorem Tryz.slices_Compact_string(eN off cap:Nat)(zs:List (aH))(w:World)(hH:Holds encStr w eN off zs.toArray)(xS:zs.length<=9223372036854775807)(adj:zs.length<=cap) :
  aB 183 #[.slice (some ⟨eN,off,none⟩) zs.length cap] w fun e w'=>e=.returned (.slice (some ⟨eN,off,none⟩) (Lib.compact zs).length cap)/\∃q,w'=putRow encStr (Sort.ahead w q) eN off (Lib.compact zs++List.replicate (zs.length-(Lib.compact zs).length) []).toArray:=Any.slices_Compact_string PV eN off cap zs w hH xS adj
open Go.RowKit Go.Lib Go.Sort in
theorem Tryz.slices_Compact_string_empty(a:eO)(cap:Nat)(w:World) :
  aB 183 #[.slice a 0 cap] w fun e w'=>e=.returned (.slice a 0 cap)/\w'=w:=Any.slices_Compact_string_empty PV a cap w
open Go.RowKit Go.Sort in
theorem Tryz.slices_Sort_string_none(p:eO)(cap:Nat)(w:World) :
  aB 182 #[.slice p 0 cap] w fun e w'=>e=.returned (.tuple #[])/\w'=w:=Any.slices_Sort_string_none PS p cap w
end Go.Proofs
namespace Go.Proofs.YtnckmcnffadjoaaGreatDoor
open Go.Proofs.Tryz
def mh{α:Type}(p:α->Bool):List α->Nat->Int
 |[],_=> -1
 |x :: l,i=>if p x then i else mh p l (i+1)
theorem rW{α:Type}(p:α->Bool):∀(l:List α) (i:Nat),decide (0<=mh p l i)=l.any p
 |[],_=>rfl
 |x :: l,i=>by
  rw[mh,List.any_cons];cases h:p x
  ·simp only[cL,fa,jU];exact rW p l (i+1)
  ·simp
theorem o9{α:Type}{p:α->Bool}{l:List α}{k i:Nat}{x:α}(h:l[k]?=some x)(hp:p x=true)(hn:(l.take k).any p=false):mh p l i=((i+k:Nat):Int):=by
 induction l generalizing k i with
 |nil=>simp at h
 |cons a l ih =>
  cases k with
  |zero=>simp at h;subst h;rw[mh,az hp];rfl
  |succ k =>
   simp only[List.getElem?_cons_succ]at h;simp only[List.take_succ_cons,List.any_cons,eP]at hn;rw[mh,hn.1];simp only[cL,fa];rw[ih h hn.2];congr 1;omega
theorem kE{α:Type}{p:α->Bool}{l:List α}{i:Nat}(hn:l.any p=false):mh p l i= -1:=by
 induction l generalizing i with
 |nil=>rfl
 |cons a l ih =>
  simp only[List.any_cons,eP]at hn;rw[mh,hn.1];simp only[cL,fa];exact ih hn.2
theorem any_take_succ{α:Type}{p:α->Bool}{l:List α}{k:Nat}{x:α}(h:l[k]?=some x)(hn:(l.take k).any p=false)(hp:p x=false):(l.take (k+1)).any p=false:=by
 rw[cj,h];simp only[List.any_append,hn,Option.toList_some,List.any_cons,hp,List.any_nil,Bool.or_false]
theorem d_{α:Type}{l:List α}{k:Nat}{x:α}(h:l[k]?=some x):l.take (k+1)=l.take k++[x]:=by rw[cj,h];rfl
open Go.RowKit
theorem PN:(prog.info? 5).map (fun i=>(i.zero,i.size,i.bytes))=some (some (.int .u8 0),1,1):=af
def uC(l:aH):aZ:=l.map fun x=>.int .u8 (x.toNat:Int)
theorem Kc(l:aH)(c:UInt8):uC (l++[c])=uC l++[.int .u8 (c.toNat:Int)]:=by simp[uC]
theorem yp(l:aH):(uC l).length=l.length:=by simp[uC]
def Bytes(base:Nat)(w:World)(v:Value)(l:aH):Prop:=w.ownsRow base 5 1 v l.length (uC l)
theorem Bytes.nil(base:Nat)(w:World):Bytes base w (.slice none 0 0) []:=World.ownsRow_nil _ _ _ _
theorem Bytes.alloc{base:Nat}{w:World}{v:Value}{l:aH}(h:Bytes base w v l)(o:Obj):Bytes base (w.alloc o) v l:=World.ownsRow.alloc h o
theorem Bytes.drewN{base:Nat}{w:World}{v:Value}{l:aH}{n:Nat}(h:Bytes base w v l):Bytes base (w.drewN n) v l:=h
theorem Bytes.drew{base:Nat}{w:World}{v:Value}{l:aH}(h:Bytes base w v l):Bytes base w.drew v l:=h
theorem Bytes.setCell{base:Nat}{w:World}{v:Value}{l:aH}{p:Addr}{u:Value}(hp:p.block<base)(h:Bytes base w v l):Bytes base (w.setCell p u) v l:=ownsRow_setCell_below h hp u
theorem jC(w:World)(v:Value)(t:TypeId)(f:Nat×Nat):(w.alloc (.cells #[v] t f)).cell? ⟨w.heap.size,0,none⟩=some v:=World.cell?_alloc_mark w #[v] t f 0
theorem aC(w:World)(o:Obj):(w.alloc o).heap[w.heap.size]?=some o:=by
 show(w.heap.push o)[w.heap.size]?=_;simp
theorem Bytes.ang(w:World)(x:UInt8):Bytes w.heap.size (w.alloc (.cells #[.int .u8 x.toNat] 5)) (.slice (some ⟨w.heap.size,0,none⟩) 1 1) [x] :=
 ⟨rfl,Or.inr ⟨w.heap.size,1,_,rfl,ay _,aC _ _,ay _,by simp[maxLen],rfl,rfl⟩⟩
theorem Bytes.form{base:Nat}{w:World}{v:Value}{l:aH}(h:Bytes base w v l):∃a c,v=.slice a l.length c:=by
 rcases h.2 with ⟨hv,hn⟩|⟨g,cap,cur,hv,_⟩
 ·exact⟨none,0,by rw[hv,hn]⟩
 ·exact⟨_,_,hv⟩
theorem Bytes.block{base:Nat}{w:World}{v:Value}{l:aH}(h:Bytes base w v l):∀k,v.ownBlock=some k->base<=k:=by
 intro k hk;rcases h.2 with ⟨hv,_⟩|⟨g,cap,cur,hv,hg,_⟩
 ·rw[hv]at hk;simp[Value.ownBlock]at hk
 ·rw[hv]at hk;simp[Value.ownBlock]at hk;omega
theorem Bytes.text{base:Nat}{w:World}{a:eO}{n c:Nat}{l:aH}(h:Bytes base w (.slice a n c) l) :
  (convert 177 9 (.slice a n c)).run prog w=.ok (.string ⟨l.toArray⟩) w:=by
 obtain⟨h1,h2⟩:=h;rcases h2 with ⟨hv,hn⟩|⟨g,cap,cur,hv,hg,hh,h3,h4,h5,h6⟩
 ·cases hv;have:l=[]:=ct hn;subst this;exact run_convert_bytes_nil (P:=prog) w 177 5 underlying177 underlying5 0 0 9 underlying9
 ·cases hv;refine run_convert_bytes_back (P:=prog) w 177 9 5 ⟨g,0,none⟩ c l underlying177 underlying5 underlying9 ?_;intro j hj;have hj2:j<l.length*1:=ab;have e:(cur.toList.take (l.length*1))[j]?=some (.int .u8 (l[j].toNat:Int)):=by
   rw[h6];simp[uC,hj]
  rw[List.getElem?_take_of_lt hj2]at e;have e2:cur[j]?=some (.int .u8 (l[j].toNat:Int)):=by simpa using e
  have ea:(Addr.add ⟨g,0,none⟩ j)=⟨g,j,none⟩:=by unfold Addr.add;split<;>simp_all
  rw[ea];simp[World.cell?,hh,e2]
theorem ku{ops:Array Oper}{rest:List Oper}{o:Oper}{a:Act}{Q:Exit->Act->World->Prop}{w:World}(zm:o.guard=none)(s x:Operand)
  (ho:o.op=.call {callee:=.builtin .append,args:= #[s,x],argTypes:= #[177,177]})(base:Nat)(v:Value)(l:aH)(hs:a.eval s=v)(cW:Bytes base w v l)
  (ad:Addr)(c:Nat)(y:UInt8)(hx:a.eval x=.slice (some ad) 1 c)(hy:w.cell? ad=some (.int .u8 (y.toNat:Int)))(hlen:l.length<70368744177664)(iL:base<=w.heap.size)
  (h:∀v' w',Bytes base w' v' (l++[y])->w.grownBy w' v.ownBlock->wpList prog ops Q rest (a.put o.dst v') w'):wpList prog ops Q (o :: rest) a w:=by
 obtain⟨i0,hi,pD,ll,lF⟩:=info_parts PN;refine wpList_append_own w zm s x 177 ho base 5 i0 (.int .u8 0) 1 1 underlying177 hi pD ll lF rfl ag v l.length (uC l) hs cW ad 1 c [.int .u8 (y.toNat:Int)] hx rfl ?_ ?_ ?_ ?_ iL ?_
 ·intro j u hj
  match j,hj with
  |0,hj=>simp at hj;subst hj;simpa[Addr.add]using hy
 ·intro u hu;simp at hu;subst hu;rfl
 ·unfold maxLen;omega
 ·omega
 ·intro v' w' h1 h2 _;exact h v' w' (by unfold Bytes;rw[Kc];simpa using h1) h2
abbrev oP := @Bytes.setCell
abbrev gL := @Bytes.alloc
def abK(n:Nat):Bool:=n==9||(decide (32<=n)&&n !=127)
def nE(c:UInt8):Bool:=abK c.toNat
theorem qo(c:UInt8)(w:World) :
  aB 158 #[.int .u8 c.toNat] w fun e w'=>e=.returned (.bool (nE c))/\w=w':=by
 go_enter func158,ntmps158;go_wp2
 all_goals
  go_ret;refine⟨fF ?_,rfl⟩;rw[fj];simp[nE,abK];omega
def marks:aH:=[33,35,36,37,38,39,42,43,45,46,94,95,124,126,96]
def Ij(c:UInt8):Bool:=decide (0<=Lib.indexByte marks c)
theorem Uj(c:UInt8):0<=Lib.indexByte [33,35,36,37,38,39,42,43,45,46,94,95,124,126,96] c↔Ij c=true:=by
 unfold Ij marks;rw[decide_eq_true_iff]
def gq(c:UInt8):Bool:=oN c||Ij c
theorem zq(c:UInt8)(w:World) :
  aB 152 #[.int .u8 c.toNat] w fun e w'=>e=.returned (.bool (gq c))/\w=w':=by
 go_enter func152,ntmps152;go_wp2_with (go_at_call 202;refine(strings_IndexByte _ _ _).mono ?_;rintro e w' ⟨rfl,rfl⟩)
 all_goals
  go_ret;refine⟨fF ?_,rfl⟩;rw[fj];simp[gq,oN,Uj];cases Ij c<;>simp<;>omega
def dz(w:World)(b:Nat)(s:aj)(i:Nat):Prop:=w.heap[b]?=some (.cells #[.string s,.int .i64 i] 245 (0,0))
theorem dz.cell0{w:World}{b i:Nat}{s:aj}(h:dz w b s i):w.cell? ⟨b,0,none⟩=some (.string s):=by simp[World.cell?,show w.heap[b]?=_ from h]
theorem dz.ib{w:World}{b i:Nat}{s:aj}(h:dz w b s i):w.cell? ⟨b,1,none⟩=some (.int .i64 i):=by simp[World.cell?,show w.heap[b]?=_ from h]
theorem dz.free{w:World}{b i:Nat}{s:aj}(h:dz w b s i)(k:Nat):w.frozen? ⟨b,k,none⟩=false:=by simp[World.frozen?,show w.heap[b]?=_ from h]
theorem Uk(s:aj)(w:World) :
  aB 110 #[.string s] w fun e w'=>e=.returned (.pointer (some ⟨w.heap.size,0,none⟩))/\w'=w.alloc (.cells #[.string s,.int .i64 0] 245 (0,0)):=by
 go_enter func110,ntmps110;go_wp2;go_ret;exact⟨rfl,rfl⟩
theorem Bb(b:Nat)(s:aj)(i:Nat)(w:World)(h:dz w b s i) :
  aB 165 #[.pointer (some ⟨b,0,none⟩)] w fun e w'=>e=.returned (.int .i64 i)/\w=w':=by
 have h0:=h.cell0;have h1:=h.ib;go_enter func165,ntmps165;go_wp2;go_ret;exact⟨rfl,rfl⟩
theorem xm(b:Nat)(s:aj)(i:Nat)(w:World)(h:dz w b s i) :
  aB 112 #[.pointer (some ⟨b,0,none⟩)] w fun e w'=>e=.returned (.bool (decide (s.size<=i)))/\∃n,w'=w.drewN n:=by
 have h0:=h.cell0;have h1:=h.ib;go_enter func112,ntmps112;go_wp2;go_quiet (fail);go_wp2;go_ret;exact⟨rfl,_,rfl⟩
theorem dz.setCell{w:World}{b i j:Nat}{s:aj}(h:dz w b s i):dz (w.setCell ⟨b,1,none⟩ (.int .i64 j)) b s j:=by
 unfold dz at *
 simp[World.setCell,Array.getElem?_modify,h]
theorem dz.drewN{w:World}{b i:Nat}{s:aj}(h:dz w b s i)(n:Nat):dz (w.drewN n) b s i:=h
theorem dz.lt{w:World}{b i:Nat}{s:aj}(h:dz w b s i):b<w.heap.size:=bq h
def qJ(w:World)(b:Nat)(s:aj):Prop:=∃v,w.heap[b]?=some (.cells #[.string s,v] 245 (0,0))
theorem dz.eN{w:World}{b i:Nat}{s:aj}(h:dz w b s i):qJ w b s:=⟨_,h⟩
theorem qJ.set{w:World}{b:Nat}{s:aj}{u:Value}(h:qJ w b s):qJ (w.setCell ⟨b,1,none⟩ u) b s:=by
 obtain⟨v,h⟩:=h;exact⟨u,by simp[World.setCell,Array.getElem?_modify,h]⟩
theorem qJ.drewN{w:World}{b n:Nat}{s:aj}(h:qJ w b s):qJ (w.drewN n) b s:=h
theorem qJ.at{w:World}{b j:Nat}{s:aj}(h:qJ w b s):dz (w.setCell ⟨b,1,none⟩ (.int .i64 j)) b s j:=by
 obtain⟨v,h⟩:=h;unfold dz;simp[World.setCell,Array.getElem?_modify,h]
theorem dz.alloc{w:World}{b i:Nat}{s:aj}{o:Obj}(h:dz w b s i):dz (w.alloc o) b s i:=by
 have hb:=h.lt;unfold dz at *
 rw[Below.heap_alloc _ _ _ hb];exact h
theorem dz.fr{w w':World}{b i:Nat}{s:aj}{S:dF}(h:dz w b s i)(hf:Fr S w w')(hn:¬S b):dz w' b s i:=hf.keep h hn
def kx(s:aj)(i:Nat)(c:UInt8):Bool:=decide (s.data.toList[i]?=some c)
def Dh(s:aj)(i:Nat)(c:UInt8):Nat:=if kx s i c then i+1 else i
theorem Ga{s:aj}{i:Nat}{c:UInt8}(hi:i<s.size)(hc:s[i]=c):kx s i c=true:=by simp[kx,byte_at s i hi,hc]
theorem Ku{s:aj}{i:Nat}{c:UInt8}(hi:i<s.size)(hc:¬s[i]=c):kx s i c=false:=by simp[kx,byte_at s i hi,hc]
theorem Gb{s:aj}{i:Nat}{c:UInt8}(hi:¬i<s.size):kx s i c=false:=by simp[kx,ud s i hi]
theorem pL{s:aj}{i:Nat}{c:UInt8}(h:kx s i c=true):Dh s i c=i+1:=by simp[Dh,h]
theorem pM{s:aj}{i:Nat}{c:UInt8}(h:kx s i c=false):Dh s i c=i:=by simp[Dh,h]
theorem Y8{a c:UInt8}(h:¬a=c):((a.toNat:Int)==(c.toNat:Int))=false:=by
 rw[aO];intro e;exact h (jd.1 ab)
theorem qp(b:Nat)(s:aj)(i:Nat)(c:UInt8)(w:World)(h:dz w b s i)(hs:s.size<=maxLen) :
  aB 164 #[.pointer (some ⟨b,0,none⟩),.int .u8 c.toNat] w fun e w'=>e=.returned (.bool (kx s i c))/\dz w' b s (Dh s i c)/\Fr (one b) w w':=by
 have h0:=h.cell0;have h1:=h.ib;have hf:=h.free 1;unfold maxLen at hs;by_cases hi:i<s.size
 ·have hd:decide (i<s.size)=true:=by simp[hi]
  by_cases hc:s[i]=c
  ·rw[Ga hi hc,pL (Ga hi hc)];have hn:((s[i].toNat:Int)==(c.toNat:Int))=true:=by simp[hc]
   clear hc;go_enter func164,ntmps164;go_wp2;go_quiet (fail);go_wp2;go_ret;exact⟨rfl,(h.setCell (j:=i+1)).drewN _,mG w b _ _⟩
  ·rw[Ku hi hc,pM (Ku hi hc)];have hn:=Y8 hc;clear hc;go_enter func164,ntmps164;go_wp2;go_quiet (fail);go_wp2;go_ret;exact⟨rfl,h.drewN _,(ae _ _).drewN _⟩
 ·have hd:decide (i<s.size)=false:=bH;rw[Gb hi,pM (Gb hi)];go_enter func164,ntmps164;go_wp2;go_quiet (fail);go_wp2;go_ret;exact⟨rfl,h,(ae _ _).drewN _⟩
abbrev ky := @qJ.at
abbrev jD := @qJ.set
abbrev im := @qJ.drewN
def eh(c:UInt8):aH->List (aH)
 |[]=>[[]]
 |x :: l=>if x=c then [] :: eh c l else match eh c l with
  |[]=>[[x]]
  |p :: ps=>(x :: p) :: ps
def wA(c:UInt8):List (aH)->aH
 |[]=>[]
 |[p]=>p
 |p :: q :: ps=>p++c :: wA c (q :: ps)
theorem xr(c:UInt8):∀l,eh c l≠ []
 |[]=>by simp[eh]
 |x :: l=>by
  unfold eh;split
  ·simp
  ·split<;>simp
theorem rL(c:UInt8)(l:aH):eh c (c :: l)=[] :: eh c l:=by rw[eh,az rfl]
theorem ot{c x:UInt8}{l p:aH}{ps:List (aH)}(hx:¬x=c)(h:eh c l=p :: ps):eh c (x :: l)=(x :: p) :: ps:=by rw[eh,aq hx,h]
theorem Dp(c:UInt8):∀(p l:aH),c∉p->eh c (p++c :: l)=p :: eh c l
 |[],l,_=>rL c l
 |x :: p,l,h=>by
  have hx:¬x=c:=fun e=>h (by rw[e];exact cM ..);exact ot hx (Dp c p l (fun e=>h (bN _ e)))
theorem Dq(c:UInt8):∀p:aH,c∉p->eh c p=[p]
 |[],_=>rfl
 |x :: p,h=>by
  have hx:¬x=c:=fun e=>h (by rw[e];exact cM ..);exact ot hx (Dq c p (fun e=>h (bN _ e)))
def adp:aH:=[46]
def Ux:aH:=[46,46]
def zx(l:List (aH)):List (aH):=if 1<l.length then l.dropLast else l
def iq(l:List (aH))(p:aH)(last:Bool):List (aH) :=
 if p=Ux then(if last then zx l++[[]]else zx l)
 else if p=adp then(if last then l++[[]]else l)
 else l++[p]
def qg:List (aH)->List (aH)->List (aH)
 |l,[]=>l
 |l,p :: ps=>qg (iq l p ps.isEmpty) ps
def B7(s:aH):aH:=if s.head?=some 47 then s else 47 :: s
def mK(s:aH):List (aH):=qg [] (eh 47 (B7 s))
def oV(s:aH):aH:=wA 47 (mK s)
def wS(k:Nat)(A B:World):Prop:=∀j,k<=j->j<k+3->B.heap[j]?=A.heap[j]?
theorem wS.trans{k:Nat}{A B C:World}(h:wS k A B)(g:wS k B C):wS k A C:=fun j h1 h2=>(g j h1 h2).trans (h j h1 h2)
def D7(k B:Nat):dF:=fun j=>j=k\/j=B\/j=B+1
theorem Fr.putObj{S:dF}{a w:World}(h:Fr S a w){l:Nat}(hl:l<a.heap.size->S l)(o:Obj):Fr S a (w.putObj l o) :=
 ⟨h.os,h.tape,h.output,by rw[World.putObj_size];exact h.size,fun j hj hn=>(World.putObj_heap_other (fun e=>hn (by subst e;exact hl hj))).trans (h.block j hj hn)⟩
def N0{α:Type}(k:Nat)(I Ix:List α->World->Prop)(xs:List α)(W:World):Exit->Act->World->Prop
 | .normal,_,W'=>KeepsOthers W W'/\wS k W W'/\I xs W'
 | .ret,_,W'=>KeepsOthers W W'/\Ix xs W'
 |_,_,_=>False
def Vf{α:Type}(F:Fence)(n:Nat)(P:Program)(g:Nat)(lb:bT)(enc:α->Value)(k:Nat)(ys:List α)(w:World):Prop :=
 ∀(l:Nat) (J Jx:List α->World->Prop) (W:World),Fr aS w W->(∀xs A B,J xs A->Fr (fun j=>j=k) A B->J xs B)->(∀xs A B,Jx xs A->Fr (fun j=>j=k) A B->Jx xs B) ->
  (∀xs x A,J xs A->xs++[x] <+: ys->YieldAt F (n-1) P l #[enc x] A fun e B=>(e=.returned (.bool true)/\J (xs++[x]) B/\wS k A B)\/(e=.returned (.bool false)/\Jx (xs++[x]) B)) ->
  J [] W ->
  CallsIn F n P g (#[.func (.yield l) #[] #[]]++lb) W fun e B=>(∃v,e=.returned v)/\(J ys B\/∃xs,xs <+: ys/\Jx xs B)
theorem Bo{F:Fence}{n:Nat}{P:Program}{α:Type}{g:Operand}{ps:Array Tmp}{assign body:Code}{Q:Exit->Act->World->Prop}{a:Act}{w:World}
  (ZT:F.round=none)(h1:1<=n){gf:Nat}{lb:bT}(hg:a.eval g=.func (.func gf) #[] lb)(hFg:F.fn gf)(eg:∀args w,(callFunc gf args).run P w=.ok (.enter gf args) w)
  {enc:α->Value}{k:Nat}{ys:List α}(hk:k+3<=w.heap.size)(an_:Vf F (n-1) P gf lb enc k ys w)(hps:ps.size=1)
  (I Ix:List α->World->Prop)(hI:∀xs A B,I xs A->Fr (D7 k w.heap.size) A B->I xs B)(hIx:∀xs A B,Ix xs A->Fr (D7 k w.heap.size) A B->Ix xs B)(h0:I [] w)(a₁:α->Act)
  (ZV:∀(l:Nat) (x:α) (W:World) (K:Act->World->Prop),K (a₁ x) W ->
   assign.wpIn (F.inRound l) (n-1-1) P (Exit.then K (fun _ _ _=>False)) {tmps:=(ps.zip #[enc x]).foldl (fun t (p,v)=>t.setIfInBounds p v) a.tmps,defers:=[]} W)
  (ain:∀(l:Nat) (xs:List α) (x:α) (W:World),I xs W->xs++[x] <+: ys->body.wpIn (F.inRound l) (n-1-1) P (N0 k I Ix (xs++[x]) W) (a₁ x) W)
  (aio:∀(D:Nat) (W:World),D=w.heap.size->I ys W->W.heap[D]?=some (.deferred (some []))->Q .normal {a with defers:={target:=.collected D,args:= #[]} :: a.defers} W)
  (zr:∀(D:Nat) (xs:List α) (W:World),D=w.heap.size->xs <+: ys->Ix xs W->W.heap[D]?=some (.deferred (some []))->Code.ret.wpIn F n P Q {a with defers:={target:=.collected D,args:= #[]} :: a.defers} W) :
  (Code.rangeFunc g ps assign body).wpIn F n P Q a w:=by
 refine wpIn_rangeFunc ?_;intro fn Fv;rw[ZT];obtain⟨rec,IZ⟩:∃rec:LoopState->Option Code->Loop,rec=fun st pe=>{state:=st,pending:=pe,fn,tmps:=a.tmps,params:=ps,assign,body,defers:=w.heap.size}:=⟨_,rfl⟩;obtain⟨W1,CH⟩:∃W1,(w.alloc (.deferred (some []))).alloc (.loop (rec .ready none))=W1:=⟨_,rfl⟩;have ll:W1.heap.size=w.heap.size+2:=by rw[<-CH];simp
 have hL1:W1.heap[w.heap.size+1]?=some (.loop (rec .ready none)):=by
  rw[<-CH];have:=World.alloc_heap_new (w.alloc (.deferred (some []))) (.loop (rec .ready none));rwa [bP]at this
 have hK1:W1.heap[w.heap.size]?=some (.deferred (some [])):=by
  rw[<-CH];exact(Below.heap_alloc _ _ _ aR).trans (World.alloc_heap_new w _)
 have dk:Fr aS w W1:=by rw[<-CH];exact((ae aS w).alloc _).alloc _
 have hI1:I [] W1:=hI _ _ _ h0 (dk.mono fun _ _ h=>h.elim);have aip:∀ {A B:World},Fr (fun j=>j=k) A B->Fr (D7 k w.heap.size) A B:=fun h=>h.mono fun _ _ e=>Or.inl e;have D8:∀(A:World) (o:Obj),Fr (D7 k w.heap.size) A (A.putObj (w.heap.size+1) o):=fun A o=>(ae _ A).putObj (fun _=>Or.inr (Or.inr rfl)) o
 have Qy:∀ {A B:World} {j:Nat} {o:Obj},Fr (fun j=>j=k) A B->w.heap.size<=j->A.heap[j]?=some o->B.heap[j]?=some o:=fun h hj ho=>h.keep ho (fun e=>ab);refine⟨w.heap.size+1,[{target:=.collected w.heap.size,args:= #[]}],W1,{target:=.fn (.func gf) lb,args:= #[.func (.yield (w.heap.size+1)) #[] #[]]},W1,gf,
  #[.func (.yield (w.heap.size+1)) #[] #[]]++lb,W1,?_,?_,?_,?_,fun _=>h1,?_⟩
 ·rw[<-CH,IZ];exact run_enterLoop_outer _ _ _ _ _
 ·simp only[resolve,hg];simp[go_sem]
 ·intro f' N1;simp[Target.leads]at N1;subst N1;exact hFg
 ·simp[invoke,go_sem,eg]
 refine(an_ (w.heap.size+1)
  (fun xs W=>I xs W/\W.heap[w.heap.size+1]?=some (.loop (rec .ready none))/\W.heap[w.heap.size]?=some (.deferred (some [])))
  (fun xs W=>Ix xs W/\W.heap[w.heap.size+1]?=some (.loop (rec .done (some .ret)))/\W.heap[w.heap.size]?=some (.deferred (some [])))
  W1 dk
  (fun xs A B h f=>⟨hI _ _ _ h.1 (aip f),Qy f ab h.2.1,Qy f ab h.2.2⟩)
  (fun xs A B h f=>⟨hIx _ _ _ h.1 (aip f),Qy f ab h.2.1,Qy f ab h.2.2⟩)
  ?_ ⟨hI1,hL1,hK1⟩).mono ?_
 ·rintro xs x W⟨hi,hl,hd⟩hxp;have sS:w.heap.size+1<W.heap.size:=(Array.getElem?_eq_some_iff.1 hl).1;have hy:=run_yield (P:=P) (args:= #[enc x]) hl (by rw[IZ,hps];rfl);rw[IZ]at hy;refine⟨fn,_,assign,body,hy,roundIn_of_wpIn Fv (ZV _ x W _ ⟨_,run_beginRound hl (by rw[IZ]),?_⟩)⟩;obtain⟨W2,hW2⟩:∃W2,W.putObj (w.heap.size+1) (.loop {rec .ready none with state:=.busy})=W2:=⟨_,rfl⟩;rw[hW2]
  have zk:W2.heap[w.heap.size+1]?=some (.loop {rec .ready none with state:=.busy}):=by rw[<-hW2];exact World.putObj_heap_same sS
  have td:W2.heap[w.heap.size]?=some (.deferred (some [])):=by rw[<-hW2];exact(World.putObj_heap_other ab).trans hd
  have sH:wS k W W2:=by rw[<-hW2];exact fun j h1 h2=>World.putObj_heap_other ab
  have N2:I xs W2:=by rw[<-hW2];exact hI _ _ _ hi (D8 _ _)
  refine wpIn_mono (ain _ xs x W2 N2 hxp) ?_;have fin:∀(jump:Option Code) (W3:World),KeepsOthers W2 W3 ->
    (Instr.endRound (w.heap.size+1) jump).run P W3=.ok (.bool jump.isNone) (W3.putObj (w.heap.size+1) (.loop (rec (if jump.isNone then .ready else .done) jump))) /\
    (W3.putObj (w.heap.size+1) (.loop (rec (if jump.isNone then .ready else .done) jump))).heap[w.heap.size+1]?=some (.loop (rec (if jump.isNone then .ready else .done) jump)) /\
    (W3.putObj (w.heap.size+1) (.loop (rec (if jump.isNone then .ready else .done) jump))).heap[w.heap.size]?=some (.deferred (some [])):=fun jump W3 IL=>by
   have hl3:=IL.same _ _ zk rfl;have hr:=run_endRound (P:=P) jump hl3;rw[IZ]at hr ⊢;exact⟨hr,World.putObj_heap_same (Array.getElem?_eq_some_iff.1 hl3).1,(World.putObj_heap_other ab).trans (IL.same _ _ td rfl)⟩
  rintro e a3 W3 hp;cases e with
  |normal =>
   obtain⟨yz,IL,Lu⟩:=hp;obtain⟨hr,hl4,hd4⟩:=fin none W3 yz;exact⟨_,_,hr,.inl ⟨rfl,⟨hI _ _ _ Lu (D8 _ _),hl4,hd4⟩,(sH.trans IL).trans fun j h1 h2=>World.putObj_heap_other ab⟩⟩
  |ret =>
   obtain⟨yz,Lu⟩:=hp;obtain⟨hr,hl4,hd4⟩:=fin (some .ret) W3 yz;exact⟨_,_,hr,.inr ⟨rfl,hIx _ _ _ Lu (D8 _ _),hl4,hd4⟩⟩
  |exit id=>exact hp.elim
  |goto t=>exact hp.elim
  |panic ch=>exact hp.elim
  |outgrown=>exact hp.elim
 ·rintro e W2⟨⟨v,rfl⟩,(⟨hi,hl,hd⟩|⟨xs,vT,hi,hl,hd⟩)⟩
  ·exact⟨none,_,by have:=run_endLoop (P:=P) hl (by rw[IZ];simp);rw[IZ]at this;exact this,aio _ _ rfl (hI _ _ _ hi (D8 _ _)) ((World.putObj_heap_other ab).trans hd)⟩
  ·exact⟨some .ret,_,by have:=run_endLoop (P:=P) hl (by rw[IZ];simp);rw[IZ]at this;exact this,zr _ xs _ rfl vT (hIx _ _ _ hi (D8 _ _)) ((World.putObj_heap_other ab).trans hd)⟩
