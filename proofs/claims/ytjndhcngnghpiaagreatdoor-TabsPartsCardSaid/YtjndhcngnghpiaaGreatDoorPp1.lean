/- Lemmas for the law's walk. -/
import Derived.Test.YtjndhcngnghpiaaGreatDoorPp0
import Derived.Shelf.Strings.OnBuilder
import Derived.Shelf.Strings.Trim
import Derived.Shelf.Small.Utf8
import Derived.Shelf.Small.Bits
import Derived.Shelf.Strconv.Itoa4
import Derived.Shelf.Strings.Shaped
import Derived.Shelf.Sort.Plain
import Derived.Shelf.Strings.LastIndex
import Derived.Shelf.Strings.SplitShaped
import Derived.Shelf.Strings.Runes
import Derived.Shelf.Strings.AsciiSet
import Derived.Shelf.Strings.Repeat
import Derived.Shelf.Unicode.DecodeAny
import Derived.Shelf.Strings.BuilderCap
import Derived.Shelf.Slices.Turned
import Derived.Shelf.Slices.Clone
import Derived.Shelf.Slices.Cells
import Derived.Shelf.Slices.In.SortNone
import Derived.Shelf.Slices.Empties2
import Derived.Shelf.Path.Small
import Derived.Test.YtjndhcngnghpiaaGreatDoorRows
import Derived.WalkSpells
import Derived.WalkLawsBesides
import Derived.RangeFuncNested
import Derived.RangeFuncBound
set_option maxRecDepth 100000
set_option maxHeartbeats 16000000
set_option linter.unusedSimpArgs false
namespace Go.Proofs.YtjndhcngnghpiaaGreatDoor
open Go.Proofs.Tryz
open Go.RowKit
variable {k B:Nat} {o:Obj} {p:Addr} {S:dB} {a w:World} {l:aK}
theorem fS{a b:Bool}(h:a=b):Ending.returned (.bool a)=.returned (.bool b):=by rw[h]
theorem sT{P:Program}{f:FuncId}{args:bW}{w:World}{n:Nat}{v:Value}
  (h:Calls P f args (w.drewN n) fun e w'=>e=.returned v/\w.drewN n=w'):Calls P f args (w.drewN n) fun e w''=>e=.returned v/\∃m,w''=w.drewN m :=
 h.mono fun _ _ ⟨he,hm⟩=>⟨he,n,hm.symm⟩
structure Fr (S:dB) (w w':World):Prop where
 os:w'.os=w.os
 tape:w'.tape=w.tape
 output:w'.output=w.output
 size:w.heap.size<=w'.heap.size
 block:∀k,k<w.heap.size->¬S k->w'.heap[k]?=w.heap[k]?
namespace Fr
variable {S T : Nat → Prop} {a w w' w1 w2 : World}
theorem refl(S:dB)(w:World):Fr S w w:=⟨rfl,rfl,rfl,az _,fun _ _ _=>rfl⟩
theorem mono(h:Fr S w w')(hs:∀k,k<w.heap.size->S k->T k):Fr T w w':=⟨h.os,h.tape,h.output,h.size,fun k hk hn=>h.block k hk (fun hS=>hn (hs k hk hS))⟩
theorem trans(h:Fr S a w)(g:Fr S w w'):Fr S a w' :=
 ⟨g.os.trans h.os,g.tape.trans h.tape,g.output.trans h.output,aH h.size g.size,fun k hk hn=>(g.block k (cN hk h.size) hn).trans (h.block k hk hn)⟩
theorem step(h:Fr S a w)(g:Fr T w w')(hs:∀k,k<a.heap.size->T k->S k):Fr S a w' :=
 ⟨g.os.trans h.os,g.tape.trans h.tape,g.output.trans h.output,aH h.size g.size,
  fun k hk hn=>(g.block k (cN hk h.size) (fun ht=>hn (hs k hk ht))).trans (h.block k hk hn)⟩
theorem keep(h:Fr S w w')(hk:w.heap[k]?=some o)(hn:¬S k):w'.heap[k]?=some o :=
 (h.block k (by rcases fD k w.heap.size with g|g;exact g;simp[Array.getElem?_eq_none g]at hk) hn).trans hk
theorem cell(h:Fr S w w')(hp:p.block<w.heap.size)(hn:¬S p.block):w'.cell? p=w.cell? p:=World.cell?_of_block (w:=w) (h.block p.block hp hn)
theorem frozen(h:Fr S w w')(hp:p.block<w.heap.size)(hn:¬S p.block):w'.frozen? p=w.frozen? p:=World.frozen?_of_block (w:=w) (h.block p.block hp hn)
theorem drewN(n:Nat)(h:Fr S a w):Fr S a (w.drewN n):=⟨h.os,h.tape,h.output,h.size,h.block⟩
theorem drew(h:Fr S a w):Fr S a w.drew:=⟨h.os,h.tape,h.output,h.size,h.block⟩
theorem setCell(h:Fr S a w)(hp:p.block<a.heap.size->S p.block)(u:Value):Fr S a (w.setCell p u) :=
 ⟨h.os,h.tape,h.output,by simpa[World.setCell]using h.size,fun k hk hn=>(Below.heap_setCell _ _ _ _ (fun e=>by subst e;exact hn (hp hk))).trans (h.block k hk hn)⟩
theorem alloc(h:Fr S a w)(o:Obj):Fr S a (w.alloc o) :=
 ⟨h.os,h.tape,h.output,aH h.size aS,fun k hk hn=>(Below.heap_alloc _ _ _ (cN hk h.size)).trans (h.block k hk hn)⟩
theorem grown{row:Option Nat}(h:Fr S a w)(hg:w.grownBy w' row)(hr:∀k,row=some k->k<a.heap.size->S k):Fr S a w' :=
 ⟨hg.os.trans h.os,hg.tape.trans h.tape,hg.output.trans h.output,aH h.size hg.size,
  fun k hk hn=>(hg.block k (cN hk h.size) (fun e=>hn (hr k e.symm hk))).trans (h.block k hk hn)⟩
theorem below(h:Fr S w w')(hB:B<=w.heap.size)(hS:∀k,k<B->¬S k):Below B w w' :=
 ⟨h.os,h.tape,h.output,h.size,fun k hk=>h.block k (cN hk hB) (hS k hk)⟩
theorem Ng(h:Below B w w')(hS:∀k,k<w.heap.size->B<=k->S k):Fr S w w' :=
 ⟨h.os,h.tape,h.output,h.size,fun k hk hn=>h.block k (Nat.lt_of_not_le (fun hB=>hn (hS k hk hB)))⟩
end Fr
def aX:dB:=fun _=>False
theorem Fr.oZ{w w':World}(h:Fr aX w w'):Below w.heap.size w w':=h.below (az _) (fun _ _ h=>h)
theorem Fr.RA{w w':World}(h:Below w.heap.size w w'):Fr aX w w':=Fr.Ng h (fun _ hk hB=>absurd hk ab)
theorem Fr.gI(h:Fr S a w)(hp:a.heap.size<=p.block)(u:Value):Fr S a (w.setCell p u):=h.setCell (fun hl=>absurd hl ab) u
theorem Fr.fJ{w':World}{row:Option Nat}(h:Fr S a w)(hg:w.grownBy w' row)(hr:∀k,row=some k->a.heap.size<=k):Fr S a w' :=
 h.grown hg (fun k hk hl=>absurd hl (by have:=hr k hk;omega))
theorem byte_at(s:ai)(i:Nat)(h:i<s.size):s.data.toList[i]?=some s[i]:=by
 have h':i<s.data.toList.length:=by simpa using h
 rw[List.getElem?_eq_getElem h'];rfl
theorem sU(s:ai)(i:Nat)(h:¬i<s.size):s.data.toList[i]?=none:=List.getElem?_eq_none (by simpa using h)
theorem bg(h:w.heap[k]?=some o):k<w.heap.size:=by
 rcases fD k w.heap.size with g|g
 ·exact g
 ·simp[Array.getElem?_eq_none g]at h
def n_(c:UInt8):Bool:=(decide (48<=c.toNat)&&decide (c.toNat<=57))||(decide (97<=c.toNat)&&decide (c.toNat<=122))||(decide (65<=c.toNat)&&decide (c.toNat<=90))
theorem drop_at{x:UInt8}(h:l[k]?=some x):l.drop k=x :: l.drop (k+1):=by
 obtain⟨hk,e⟩:=List.getElem?_eq_some_iff.1 h;rw[cP hk,e]
theorem Hr(h:l[k]?=none):l.drop k=[]:=cO (List.getElem?_eq_none_iff.1 h)
def one(b:Nat):dB:=fun k=>k=b
theorem Fr.one_set(w:World)(b:Nat)(u:Value)(n:Nat):Fr (one b) w ((w.setCell ⟨b,1,none⟩ u).drewN n):=((Fr.refl (one b) w).setCell (p:=⟨b,1,none⟩) (fun _=>rfl) u).drewN n
theorem Fr.one_cell{a w:World}{b k:Nat}{u:Value}(h:Fr (one b) a w):Fr (one b) a (w.setCell ⟨b,k,none⟩ u):=h.setCell (p:=⟨b,k,none⟩) (fun _=>rfl) u
abbrev ae := @Fr.refl
abbrev lX := @Fr.one_set
abbrev dE := @Fr.drewN
abbrev iJ := @Fr.one_cell
abbrev bq := @Fr.alloc
abbrev bF := @Fr.trans
abbrev fe := @Fr.RA
abbrev aA := @Fr.drew
abbrev fg := @Fr.grown
abbrev oa := @Fr.oZ
abbrev fN := @Fr.step
end Go.Proofs.YtjndhcngnghpiaaGreatDoor
namespace Go.Proofs
open Tryz Go.Proofs.YtjndhcngnghpiaaGreatDoor
open Go.Shelf
def Tryz.Hu:Go.Shelf.Ren:=⟨fun|170=>108|n=>n,fun|70=>186|3=>3|0=>0|72=>189|37=>187|5=>5|n=>n,fun|n=>n⟩
theorem Tryz.Wd:Go.Proofs.Lays.n170 prog Hu:={
 mixed:=af
 f170:=func108.trans (ar some af)
 t0:=underlying0
 a0:=isAgg0
 z0:=sizeOf0
 v0:=zeroValue0
 t3:=underlying3
 a3:=isAgg3
 z3:=sizeOf3
 v3:=zeroValue3
 t37:=underlying187
 a37:=isAgg187
 z37:=sizeOf187
 v37:=zeroValue187
 t70:=underlying186
 a70:=isAgg186
 z70:=sizeOf186
 v70:=zeroValue186
 t72:=underlying189
 a72:=isAgg189
 z72:=sizeOf189
 v72:=zeroValue189}
def Tryz.Aq:Go.Shelf.Ren:=⟨fun|169=>112|n=>n,fun|70=>186|9=>9|0=>0|72=>189|37=>187|127=>246|3=>3|5=>5|n=>n,fun|n=>n⟩
theorem Tryz.Ni:Go.Proofs.Lays.n169 prog Aq:={
 mixed:=af
 f169:=func112.trans (ar some af)
 t0:=underlying0
 a0:=isAgg0
 z0:=sizeOf0
 v0:=zeroValue0
 t3:=underlying3
 a3:=isAgg3
 z3:=sizeOf3
 v3:=zeroValue3
 t9:=underlying9
 a9:=isAgg9
 z9:=sizeOf9
 v9:=zeroValue9
 t37:=underlying187
 a37:=isAgg187
 z37:=sizeOf187
 v37:=zeroValue187
 t70:=underlying186
 a70:=isAgg186
 z70:=sizeOf186
 v70:=zeroValue186
 t72:=underlying189
 a72:=isAgg189
 z72:=sizeOf189
 v72:=zeroValue189
 t127:=underlying246
 a127:=isAgg246
 z127:=sizeOf246
 v127:=zeroValue246}
theorem Tryz.rP:Builder.Extra prog Aq:={
 sizeBuilder:=af
 liesBuilder:=af
 t5:=underlying5
 a5:=isAgg5
 z5:=sizeOf5
 v5:=zeroValue5
 infoByte:=af
 cellsByte:=af
 sizeByte:=af
 neB5:=ag}
open Go.RowKit in
theorem Tryz.Builder_String_any(B b:Nat)(l:aK)(w:World)(h:Lib.IsBuilder 189 5 B b (Lib.byteCells l) w)(We:B<=w.heap.size) :
  aE 112 #[.pointer (some ⟨b,0,none⟩)] w fun e w'=>e=.returned (.string ⟨l.toArray⟩)/\Below B w w':=Any.Builder_String_any Ni rP B b l w h We
def Tryz.Ar:Go.Shelf.Ren:=⟨fun|156=>206|165=>211|166=>105|169=>112|240=>158|241=>247|276=>205|277=>273|n=>n,fun|31=>125|9=>9|3=>3|4=>4|0=>0|20=>20|72=>189|76=>190|70=>186|37=>187|75=>43|127=>246|164=>277|5=>5|80=>197|n=>n,fun|n=>n⟩
theorem Tryz.Nj:Go.Proofs.Lays.n156 prog Ar:={
 mixed:=af
 f156:=func206.trans (ar some af)
 f165:=func211.trans (ar some af)
 f166:=func105.trans (ar some af)
 f169:=func112.trans (ar some af)
 f240:=func158.trans (ar some af)
 f241:=func247.trans (ar some af)
 f276:=func205.trans (ar some af)
 f277:=func273.trans (ar some af)
 t0:=underlying0
 a0:=isAgg0
 z0:=sizeOf0
 v0:=zeroValue0
 t3:=underlying3
 a3:=isAgg3
 z3:=sizeOf3
 v3:=zeroValue3
 t4:=underlying4
 a4:=isAgg4
 z4:=sizeOf4
 v4:=zeroValue4
 t9:=underlying9
 a9:=isAgg9
 z9:=sizeOf9
 v9:=zeroValue9
 t20:=underlying20
 a20:=isAgg20
 z20:=sizeOf20
 v20:=zeroValue20
 t31:=underlying125
 a31:=isAgg125
 z31:=sizeOf125
 v31:=zeroValue125
 t37:=underlying187
 a37:=isAgg187
 z37:=sizeOf187
 v37:=zeroValue187
 t70:=underlying186
 a70:=isAgg186
 z70:=sizeOf186
 v70:=zeroValue186
 t72:=underlying189
 a72:=isAgg189
 z72:=sizeOf189
 v72:=zeroValue189
 t75:=underlying43
 a75:=isAgg43
 z75:=sizeOf43
 v75:=zeroValue43
 t76:=underlying190
 a76:=isAgg190
 z76:=sizeOf190
 v76:=zeroValue190
 t127:=underlying246
 a127:=isAgg246
 z127:=sizeOf246
 v127:=zeroValue246
 t164:=underlying277
 a164:=isAgg277
 z164:=sizeOf277
 v164:=zeroValue277}
theorem Tryz.rQ:Builder.Extra prog Ar:={
 sizeBuilder:=af
 liesBuilder:=af
 t5:=underlying5
 a5:=isAgg5
 z5:=sizeOf5
 v5:=zeroValue5
 infoByte:=af
 cellsByte:=af
 sizeByte:=af
 neB5:=ag}
open Go.RowKit in
theorem Tryz.strings_Join_none(a:fi)(c:Nat)(sep:ai)(w:World) :
  aE 206 #[.slice a 0 c,.string sep] w fun e w'=>e=.returned (.string ⟨#[]⟩)/\w'=w:=Any.strings_Join_none Nj rQ a c sep w
open Go.RowKit in
theorem Tryz.strings_Join(bk o c:Nat)(xs:List ai)(sep:ai)(w:World)(La:∀(j:Nat) x,xs[j]?=some x->w.cell? ⟨bk,o+j,none⟩=some (.string x))(su:bk<w.heap.size)(hN:xs.length<=140737488355328)(aaM:xs.length<=c)(hlen:(Lib.join (xs.map (·.data.toList)) sep.data.toList).length<=140737488355328) :
  aE 206 #[.slice (some ⟨bk,o,none⟩) xs.length c,.string sep] w fun e w'=>e=.returned (.string ⟨(Lib.join (xs.map (·.data.toList)) sep.data.toList).toArray⟩)/\Below w.heap.size w w':=Any.strings_Join Nj rQ bk o c xs sep w La su hN aaM hlen
def Tryz.Zd:Go.Shelf.Ren:=⟨fun|231=>188|n=>n,fun|9=>9|5=>5|3=>3|4=>4|n=>n,fun|n=>n⟩
def Tryz.Hv:Go.Shelf.Ren:=⟨fun|161=>213|231=>188|227=>190|233=>191|235=>193|228=>226|197=>227|151=>228|260=>262|152=>263|137=>201|119=>280|224=>235|225=>234|217=>232|266=>266|n=>n,fun|9=>9|4=>4|3=>3|5=>5|117=>267|116=>266|0=>0|124=>270|105=>288|21=>21|119=>333|46=>71|139=>336|138=>335|n=>n,fun|3=>6|4=>7|n=>n⟩
theorem Tryz.Wf:Go.Proofs.Lays.n161 prog Hv:={
 mixed:=af
 f119:=func280.trans (ar some af)
 f137:=func201.trans (ar some af)
 f151:=func228.trans (ar some af)
 f152:=func263.trans (ar some af)
 f161:=func213.trans (ar some af)
 f197:=func227.trans (ar some af)
 f217:=func232.trans (ar some af)
 f224:=func235.trans (ar some af)
 f225:=func234.trans (ar some af)
 f227:=func190.trans (ar some af)
 f228:=func226.trans (ar some af)
 f231:=func188.trans (ar some af)
 f233:=func191.trans (ar some af)
 f235:=func193.trans (ar some af)
 f260:=func262.trans (ar some af)
 f266:=func266.trans (ar some af)
 t0:=underlying0
 a0:=isAgg0
 z0:=sizeOf0
 v0:=zeroValue0
 t3:=underlying3
 a3:=isAgg3
 z3:=sizeOf3
 v3:=zeroValue3
 t4:=underlying4
 a4:=isAgg4
 z4:=sizeOf4
 v4:=zeroValue4
 t5:=underlying5
 a5:=isAgg5
 z5:=sizeOf5
 v5:=zeroValue5
 t9:=underlying9
 a9:=isAgg9
 z9:=sizeOf9
 v9:=zeroValue9
 t21:=underlying21
 a21:=isAgg21
 z21:=sizeOf21
 v21:=zeroValue21
 t46:=underlying71
 a46:=isAgg71
 z46:=sizeOf71
 v46:=zeroValue71
 t105:=underlying288
 a105:=isAgg288
 z105:=sizeOf288
 v105:=zeroValue288
 t116:=underlying266
 a116:=isAgg266
 z116:=sizeOf266
 t117:=underlying267
 a117:=isAgg267
 z117:=sizeOf267
 v117:=zeroValue267
 t119:=underlying333
 a119:=isAgg333
 z119:=sizeOf333
 t124:=underlying270
 a124:=isAgg270
 z124:=sizeOf270
 v124:=zeroValue270
 t138:=underlying335
 a138:=isAgg335
 z138:=sizeOf335
 v138:=zeroValue335
 t139:=underlying336
 a139:=isAgg336
 z139:=sizeOf336
 v139:=zeroValue336
 g3:=af
 g4:=af}
def Tryz.Hw:Go.Shelf.Ren:=⟨fun|160=>134|232=>189|231=>188|227=>190|234=>192|233=>191|236=>194|235=>193|228=>226|271=>229|151=>228|197=>227|120=>264|152=>263|260=>262|137=>201|119=>280|224=>235|225=>234|217=>232|266=>266|n=>n,fun|9=>9|4=>4|3=>3|5=>5|117=>267|116=>266|0=>0|124=>270|21=>21|105=>288|46=>71|119=>333|139=>336|138=>335|n=>n,fun|3=>6|4=>7|n=>n⟩
theorem Tryz.Nk:Go.Proofs.Lays.n160 prog Hw:={
 mixed:=af
 f119:=func280.trans (ar some af)
 f120:=func264.trans (ar some af)
 f137:=func201.trans (ar some af)
 f151:=func228.trans (ar some af)
 f152:=func263.trans (ar some af)
 f160:=func134.trans (ar some af)
 f197:=func227.trans (ar some af)
 f217:=func232.trans (ar some af)
 f224:=func235.trans (ar some af)
 f225:=func234.trans (ar some af)
 f227:=func190.trans (ar some af)
 f228:=func226.trans (ar some af)
 f231:=func188.trans (ar some af)
 f232:=func189.trans (ar some af)
 f233:=func191.trans (ar some af)
 f234:=func192.trans (ar some af)
 f235:=func193.trans (ar some af)
 f236:=func194.trans (ar some af)
 f260:=func262.trans (ar some af)
 f266:=func266.trans (ar some af)
 f271:=func229.trans (ar some af)
 t0:=underlying0
 a0:=isAgg0
 z0:=sizeOf0
 v0:=zeroValue0
 t3:=underlying3
 a3:=isAgg3
 z3:=sizeOf3
 v3:=zeroValue3
 t4:=underlying4
 a4:=isAgg4
 z4:=sizeOf4
 v4:=zeroValue4
 t5:=underlying5
 a5:=isAgg5
 z5:=sizeOf5
 v5:=zeroValue5
 t9:=underlying9
 a9:=isAgg9
 z9:=sizeOf9
 v9:=zeroValue9
 t21:=underlying21
 a21:=isAgg21
 z21:=sizeOf21
 v21:=zeroValue21
 t46:=underlying71
 a46:=isAgg71
 z46:=sizeOf71
 v46:=zeroValue71
 t105:=underlying288
 a105:=isAgg288
 z105:=sizeOf288
 v105:=zeroValue288
 t116:=underlying266
 a116:=isAgg266
 z116:=sizeOf266
 t117:=underlying267
 a117:=isAgg267
 z117:=sizeOf267
 v117:=zeroValue267
 t119:=underlying333
 a119:=isAgg333
 z119:=sizeOf333
 t124:=underlying270
 a124:=isAgg270
 z124:=sizeOf270
 v124:=zeroValue270
 t138:=underlying335
 a138:=isAgg335
 z138:=sizeOf335
 v138:=zeroValue335
 t139:=underlying336
 a139:=isAgg336
 z139:=sizeOf336
 v139:=zeroValue336
 g3:=af
 g4:=af}
def Tryz.Hx:Go.Shelf.Ren:=⟨fun|137=>201|217=>232|266=>266|n=>n,fun|9=>9|5=>5|3=>3|n=>n,fun|n=>n⟩
theorem Tryz.Wg:Go.Proofs.Lays.n137 prog Hx:={
 mixed:=af
 f137:=func201.trans (ar some af)
 f217:=func232.trans (ar some af)
 f266:=func266.trans (ar some af)
 t3:=underlying3
 a3:=isAgg3
 z3:=sizeOf3
 v3:=zeroValue3
 t5:=underlying5
 a5:=isAgg5
 z5:=sizeOf5
 v5:=zeroValue5
 t9:=underlying9
 a9:=isAgg9
 z9:=sizeOf9
 v9:=zeroValue9}
open Go.RowKit in
theorem Tryz.strings_IndexByte(s:ai)(c:Int)(w:World) :
  aE 201 #[.string s,.int .u8 c] w fun e w'=>e=.returned (.int .i64 (Lib.indexByte s.data.toList c.toNat.toUInt8))/\w'=w:=Any.strings_IndexByte Wg s c w
open Go.RowKit in
theorem Tryz.Builder_Len_f(B b:Nat)(bs:a_)(w:World)(h:Lib.IsBuilderF 189 5 B b bs w) :
  aE 108 #[.pointer (some ⟨b,0,none⟩)] w fun e w'=>e=.returned (.int .i64 bs.length)/\w'=w:=Any.Builder_Len_f Wd B b bs w h
open Go.RowKit in
theorem Tryz.Builder_String_any_k(B b:Nat)(l:aK)(w:World)(h:Lib.IsBuilderF 189 5 B b (Lib.byteCells l) w)(We:B<=w.heap.size) :
  aE 112 #[.pointer (some ⟨b,0,none⟩)] w fun e w'=>e=.returned (.string ⟨l.toArray⟩)/\(Lib.IsBuilderF 189 5 B b (Lib.byteCells l) w'/\Below B w w'/\Lib.OthersKept 5 (some b) w w'):=Any.Builder_String_any_k Ni rP B b l w h We
def Tryz.Wh:Go.Shelf.Ren:=⟨fun|246=>209|283=>241|284=>242|285=>243|286=>244|129=>259|317=>269|318=>270|319=>271|320=>272|337=>281|338=>282|n=>n,fun|2=>2|3=>3|9=>9|4=>4|171=>302|0=>0|53=>303|37=>187|5=>5|173=>306|212=>324|51=>292|20=>20|213=>325|46=>71|232=>341|233=>342|n=>n,fun|17=>5|18=>8|19=>9|n=>n⟩
def Tryz.Wi:Go.Shelf.Ren:=⟨fun|243=>265|246=>209|283=>241|284=>242|285=>243|286=>244|129=>259|317=>269|318=>270|319=>271|320=>272|337=>281|338=>282|n=>n,fun|3=>3|9=>9|2=>2|4=>4|171=>302|0=>0|53=>303|37=>187|5=>5|173=>306|212=>324|51=>292|20=>20|213=>325|46=>71|232=>341|233=>342|n=>n,fun|17=>5|18=>8|19=>9|n=>n⟩
def Tryz.FI:Go.Shelf.Ren:=⟨fun|171=>231|243=>265|246=>209|283=>241|284=>242|285=>243|286=>244|129=>259|317=>269|318=>270|319=>271|320=>272|337=>281|338=>282|n=>n,fun|3=>3|9=>9|2=>2|4=>4|171=>302|0=>0|53=>303|37=>187|5=>5|173=>306|212=>324|51=>292|20=>20|213=>325|46=>71|232=>341|233=>342|n=>n,fun|17=>5|18=>8|19=>9|n=>n⟩
theorem Tryz.RB:Go.Proofs.LaysM.n171 prog FI:={
 mixed:=af
 f129:=func259.trans (ar some af)
 f171:=func231.trans (ar some af)
 f243:=func265.trans (ar some af)
 f246:=func209.trans (ar some af)
 f283:=func241.trans (ar some af)
 f284:=func242.trans (ar some af)
 f285:=func243.trans (ar some af)
 f286:=func244.trans (ar some af)
 f317:=func269.trans (ar some af)
 f318:=func270.trans (ar some af)
 f319:=func271.trans (ar some af)
 f320:=func272.trans (ar some af)
 f337:=func281.trans (ar some af)
 f338:=func282.trans (ar some af)
 t0:=underlying0
 a0:=isAgg0
 z0:=sizeOf0
 v0:=zeroValue0
 t2:=underlying2
 a2:=isAgg2
 z2:=sizeOf2
 v2:=zeroValue2
 t3:=underlying3
 a3:=isAgg3
 z3:=sizeOf3
 v3:=zeroValue3
 t4:=underlying4
 a4:=isAgg4
 z4:=sizeOf4
 v4:=zeroValue4
 t5:=underlying5
 a5:=isAgg5
 z5:=sizeOf5
 v5:=zeroValue5
 t9:=underlying9
 a9:=isAgg9
 z9:=sizeOf9
 v9:=zeroValue9
 t20:=underlying20
 a20:=isAgg20
 z20:=sizeOf20
 v20:=zeroValue20
 t37:=underlying187
 a37:=isAgg187
 z37:=sizeOf187
 v37:=zeroValue187
 t46:=underlying71
 a46:=isAgg71
 z46:=sizeOf71
 v46:=zeroValue71
 t51:=underlying292
 a51:=isAgg292
 z51:=sizeOf292
 v51:=zeroValue292
 t53:=underlying303
 a53:=isAgg303
 z53:=sizeOf303
 v53:=zeroValue303
 t171:=underlying302
 a171:=isAgg302
 z171:=sizeOf302
 v171:=zeroValue302
 t173:=underlying306
 a173:=isAgg306
 z173:=sizeOf306
 v173:=zeroValue306
 t212:=underlying324
 a212:=isAgg324
 z212:=sizeOf324
 v212:=zeroValue324
 t213:=underlying325
 a213:=isAgg325
 z213:=sizeOf325
 t232:=underlying341
 a232:=isAgg341
 z232:=sizeOf341
 v232:=zeroValue341
 t233:=underlying342
 a233:=isAgg342
 z233:=sizeOf342
 v233:=zeroValue342
 g17:=af
 g18:=af
 g19:=af
 i0:=af
 i2:=af
 i3:=af
 i4:=af
 i5:=af
 i9:=af
 i20:=af
 i37:=af
 i46:=af
 i51:=af
 i53:=af
 i171:=af
 i173:=af
 i212:=af
 i232:=af
 i233:=af
 m17:=af
 m18:=af
 m19:=af}
open Go.RowKit Go.Sort Go.Lib in
theorem Tryz.strconv_Itoa(n:Int)(h0: -9223372036854775808<=n)(h1:n<=9223372036854775807)(w:World)(akm:Lib.TabIs prog w "internal/strconv.uint64pow10" .u64 Lib.pow10Tab) :
  aE 231 #[.int .i64 n] w fun e w'=>e=.returned (.string ⟨(Lib.itoa n).toArray⟩)/\∃k os,w'=grow (w.drewN k) os:=Any.strconv_Itoa RB n h0 h1 w akm
def Tryz.Hy:Go.Shelf.Ren:=⟨fun|219=>204|217=>232|225=>234|224=>235|267=>236|266=>266|314=>267|n=>n,fun|9=>9|3=>3|4=>4|5=>5|46=>71|146=>308|51=>292|n=>n,fun|1=>0|n=>n⟩
theorem Tryz.Wj:Go.Proofs.Lays.n219 prog Hy:={
 mixed:=af
 f217:=func232.trans (ar some af)
 f219:=func204.trans (ar some af)
 f224:=func235.trans (ar some af)
 f225:=func234.trans (ar some af)
 f266:=func266.trans (ar some af)
 f267:=func236.trans (ar some af)
 f314:=func267.trans (ar some af)
 t3:=underlying3
 a3:=isAgg3
 z3:=sizeOf3
 v3:=zeroValue3
 t4:=underlying4
 a4:=isAgg4
 z4:=sizeOf4
 v4:=zeroValue4
 t5:=underlying5
 a5:=isAgg5
 z5:=sizeOf5
 v5:=zeroValue5
 t9:=underlying9
 a9:=isAgg9
 z9:=sizeOf9
 v9:=zeroValue9
 t46:=underlying71
 a46:=isAgg71
 z46:=sizeOf71
 v46:=zeroValue71
 t51:=underlying292
 a51:=isAgg292
 z51:=sizeOf292
 v51:=zeroValue292
 t146:=underlying308
 a146:=isAgg308
 z146:=sizeOf308
 v146:=zeroValue308
 g1:=af}
open Go.RowKit Go.Lib in
theorem Tryz.stringslite_Index_one(s:ai)(c:UInt8)(w:World) :
  aE 204 #[.string s,.string ⟨#[c]⟩] w fun e w'=>e=.returned (.int .i64 (Lib.indexByte s.data.toList c))/\w'=w:=Any.stringslite_Index_one Wj s c w
def Tryz.Hz:Go.Shelf.Ren:=⟨fun|143=>156|219=>204|217=>232|225=>234|224=>235|267=>236|266=>266|314=>267|n=>n,fun|9=>9|3=>3|4=>4|5=>5|46=>71|146=>308|51=>292|n=>n,fun|1=>0|n=>n⟩
theorem Tryz.Wk:Go.Proofs.Lays.n143 prog Hz:={
 mixed:=af
 f143:=func156.trans (ar some af)
 f217:=func232.trans (ar some af)
 f219:=func204.trans (ar some af)
 f224:=func235.trans (ar some af)
 f225:=func234.trans (ar some af)
 f266:=func266.trans (ar some af)
 f267:=func236.trans (ar some af)
 f314:=func267.trans (ar some af)
 t3:=underlying3
 a3:=isAgg3
 z3:=sizeOf3
 v3:=zeroValue3
 t4:=underlying4
 a4:=isAgg4
 z4:=sizeOf4
 v4:=zeroValue4
 t5:=underlying5
 a5:=isAgg5
 z5:=sizeOf5
 v5:=zeroValue5
 t9:=underlying9
 a9:=isAgg9
 z9:=sizeOf9
 v9:=zeroValue9
 t46:=underlying71
 a46:=isAgg71
 z46:=sizeOf71
 v46:=zeroValue71
 t51:=underlying292
 a51:=isAgg292
 z51:=sizeOf292
 v51:=zeroValue292
 t146:=underlying308
 a146:=isAgg308
 z146:=sizeOf308
 v146:=zeroValue308
 g1:=af}
def Tryz.H8:Go.Shelf.Ren:=⟨fun|144=>103|143=>156|219=>204|217=>232|225=>234|224=>235|267=>236|266=>266|314=>267|n=>n,fun|9=>9|4=>4|3=>3|5=>5|46=>71|146=>308|51=>292|n=>n,fun|1=>0|n=>n⟩
theorem Tryz.Wl:Go.Proofs.Lays.n144 prog H8:={
 mixed:=af
 f143:=func156.trans (ar some af)
 f144:=func103.trans (ar some af)
 f217:=func232.trans (ar some af)
 f219:=func204.trans (ar some af)
 f224:=func235.trans (ar some af)
 f225:=func234.trans (ar some af)
 f266:=func266.trans (ar some af)
 f267:=func236.trans (ar some af)
 f314:=func267.trans (ar some af)
 t3:=underlying3
 a3:=isAgg3
 z3:=sizeOf3
 v3:=zeroValue3
 t4:=underlying4
 a4:=isAgg4
 z4:=sizeOf4
 v4:=zeroValue4
 t5:=underlying5
 a5:=isAgg5
 z5:=sizeOf5
 v5:=zeroValue5
 t9:=underlying9
 a9:=isAgg9
 z9:=sizeOf9
 v9:=zeroValue9
 t46:=underlying71
 a46:=isAgg71
 z46:=sizeOf71
 v46:=zeroValue71
 t51:=underlying292
 a51:=isAgg292
 z51:=sizeOf292
 v51:=zeroValue292
 t146:=underlying308
 a146:=isAgg308
 z146:=sizeOf308
 v146:=zeroValue308
 g1:=af}
open Go.RowKit Go.Lib in
theorem Tryz.strings_Contains_one(s:ai)(c:UInt8)(w:World) :
  aE 103 #[.string s,.string ⟨#[c]⟩] w fun e w'=>e=.returned (.bool (decide (0<=Lib.indexByte s.data.toList c)))/\w'=w:=Any.strings_Contains_one Wl s c w
def Tryz.H9:Go.Shelf.Ren:=⟨fun|138=>224|195=>260|218=>261|143=>156|219=>204|217=>232|225=>234|224=>235|267=>236|266=>266|314=>267|n=>n,fun|9=>9|3=>3|4=>4|5=>5|0=>0|46=>71|146=>308|51=>292|n=>n,fun|1=>0|n=>n⟩
theorem Tryz.Wm:Go.Proofs.Lays.n138 prog H9:={
 mixed:=af
 f138:=func224.trans (ar some af)
 f143:=func156.trans (ar some af)
 f195:=func260.trans (ar some af)
 f217:=func232.trans (ar some af)
 f218:=func261.trans (ar some af)
 f219:=func204.trans (ar some af)
 f224:=func235.trans (ar some af)
 f225:=func234.trans (ar some af)
 f266:=func266.trans (ar some af)
 f267:=func236.trans (ar some af)
 f314:=func267.trans (ar some af)
 t0:=underlying0
 a0:=isAgg0
 z0:=sizeOf0
 v0:=zeroValue0
 t3:=underlying3
 a3:=isAgg3
 z3:=sizeOf3
 v3:=zeroValue3
 t4:=underlying4
 a4:=isAgg4
 z4:=sizeOf4
 v4:=zeroValue4
 t5:=underlying5
 a5:=isAgg5
 z5:=sizeOf5
 v5:=zeroValue5
 t9:=underlying9
 a9:=isAgg9
 z9:=sizeOf9
 v9:=zeroValue9
 t46:=underlying71
 a46:=isAgg71
 z46:=sizeOf71
 v46:=zeroValue71
 t51:=underlying292
 a51:=isAgg292
 z51:=sizeOf292
 v51:=zeroValue292
 t146:=underlying308
 a146:=isAgg308
 z146:=sizeOf308
 v146:=zeroValue308
 g1:=af}
def Tryz.H_:Go.Shelf.Ren:=⟨fun|190=>183|125=>222|258=>221|128=>258|129=>259|302=>249|303=>250|304=>251|305=>252|306=>253|307=>254|308=>255|309=>256|310=>257|333=>274|329=>275|330=>276|334=>277|335=>278|336=>279|344=>283|n=>n,fun|31=>125|9=>9|3=>3|46=>71|0=>0|51=>292|53=>303|4=>4|183=>315|182=>314|131=>60|5=>5|218=>328|222=>111|228=>338|229=>339|n=>n,fun|n=>n⟩
theorem Tryz.Nl:Go.Proofs.Lays.n190 prog H_:={
 mixed:=af
 f125:=func222.trans (ar some af)
 f128:=func258.trans (ar some af)
 f129:=func259.trans (ar some af)
 f190:=func183.trans (ar some af)
 f258:=func221.trans (ar some af)
 f302:=func249.trans (ar some af)
 f303:=func250.trans (ar some af)
 f304:=func251.trans (ar some af)
 f305:=func252.trans (ar some af)
 f306:=func253.trans (ar some af)
 f307:=func254.trans (ar some af)
 f308:=func255.trans (ar some af)
 f309:=func256.trans (ar some af)
 f310:=func257.trans (ar some af)
 f329:=func275.trans (ar some af)
 f330:=func276.trans (ar some af)
 f333:=func274.trans (ar some af)
 f334:=func277.trans (ar some af)
 f335:=func278.trans (ar some af)
 f336:=func279.trans (ar some af)
 f344:=func283.trans (ar some af)
 t0:=underlying0
 a0:=isAgg0
 z0:=sizeOf0
 v0:=zeroValue0
 t3:=underlying3
 a3:=isAgg3
 z3:=sizeOf3
 v3:=zeroValue3
 t4:=underlying4
 a4:=isAgg4
 z4:=sizeOf4
 v4:=zeroValue4
 t5:=underlying5
 a5:=isAgg5
 z5:=sizeOf5
 v5:=zeroValue5
 t9:=underlying9
 a9:=isAgg9
 z9:=sizeOf9
 v9:=zeroValue9
 t31:=underlying125
 a31:=isAgg125
 z31:=sizeOf125
 v31:=zeroValue125
 t46:=underlying71
 a46:=isAgg71
 z46:=sizeOf71
 v46:=zeroValue71
 t51:=underlying292
 a51:=isAgg292
 z51:=sizeOf292
 v51:=zeroValue292
 t53:=underlying303
 a53:=isAgg303
 z53:=sizeOf303
 v53:=zeroValue303
 t131:=underlying60
 a131:=isAgg60
 z131:=sizeOf60
 v131:=zeroValue60
 t182:=underlying314
 a182:=isAgg314
 z182:=sizeOf314
 v182:=zeroValue314
 t183:=underlying315
 a183:=isAgg315
 z183:=sizeOf315
 v183:=zeroValue315
 t218:=underlying328
 a218:=isAgg328
 z218:=sizeOf328
 v218:=zeroValue328
 t222:=underlying111
 a222:=isAgg111
 z222:=sizeOf111
 v222:=zeroValue111
 t228:=underlying338
 a228:=isAgg338
 z228:=sizeOf338
 v228:=zeroValue338
 t229:=underlying339
 a229:=isAgg339
 z229:=sizeOf339
 v229:=zeroValue339}
open Go.Sort Go.RowKit in
theorem Tryz.slices_Sort_string(eK off cap:Nat)(ss:List (aK))(w:World)(hH:Holds encStr w eK off ss.toArray)(pG:eK<w.heap.size)(xl:ss.length<4611686018427387904) :
  aE 183 #[.slice (some ⟨eK,off,none⟩) ss.length cap] w fun e w' =>
   e=.returned (.tuple #[])/\∃n os,w'=grow (putRow encStr (Sort.ahead w n) eK off (ss.mergeSort fun x y=>decide (x<=y)).toArray) os:=Any.slices_Sort_string Nl eK off cap ss w hH pG xl
def Tryz.H':Go.Shelf.Ren:=⟨fun|149=>180|222=>217|n=>n,fun|9=>9|5=>5|3=>3|4=>4|n=>n,fun|n=>n⟩
theorem Tryz.Wn:Go.Proofs.Lays.n149 prog H':={
 mixed:=af
 f149:=func180.trans (ar some af)
 f222:=func217.trans (ar some af)
 t3:=underlying3
 a3:=isAgg3
 z3:=sizeOf3
 v3:=zeroValue3
 t4:=underlying4
 a4:=isAgg4
 z4:=sizeOf4
 v4:=zeroValue4
 t5:=underlying5
 a5:=isAgg5
 z5:=sizeOf5
 v5:=zeroValue5
 t9:=underlying9
 a9:=isAgg9
 z9:=sizeOf9
 v9:=zeroValue9}
open Go.RowKit Go.Lib in
theorem Tryz.strings_LastIndexByte(s:ai)(c:Int)(hs:s.size<4611686018427387904)(w:World) :
  aE 180 #[.string s,.int .u8 c] w fun e w'=>e=.returned (.int .i64 (Lib.lastIndexByte s c))/\w'=w:=Any.strings_LastIndexByte Wn s c hs w
def Tryz.Ze:Go.Shelf.Ren:=⟨fun|206=>216|n=>n,fun|9=>9|4=>4|3=>3|n=>n,fun|n=>n⟩
def Tryz.Lb:Go.Shelf.Ren:=⟨fun|99=>178|206=>216|n=>n,fun|9=>9|4=>4|3=>3|n=>n,fun|n=>n⟩
theorem Tryz.aaN:Go.Proofs.Lays.n99 prog Lb:={
 mixed:=af
 f99:=func178.trans (ar some af)
 f206:=func216.trans (ar some af)
 t3:=underlying3
 a3:=isAgg3
 z3:=sizeOf3
 v3:=zeroValue3
 t4:=underlying4
 a4:=isAgg4
 z4:=sizeOf4
 v4:=zeroValue4
 t9:=underlying9
 a9:=isAgg9
 z9:=sizeOf9
 v9:=zeroValue9}
open Go.RowKit Go.Lib in
theorem Tryz.strings_HasPrefix(s p:ai)(w:World) :
  aE 178 #[.string s,.string p] w fun e w'=>e=.returned (.bool (Lib.hasPrefix s.data.toList p.data.toList))/\w'=w:=Any.strings_HasPrefix aaN s p w
def Tryz.Ia:Go.Shelf.Ren:=⟨fun|102=>132|209=>186|207=>225|n=>n,fun|9=>9|4=>4|3=>3|n=>n,fun|n=>n⟩
theorem Tryz.Wo:Go.Proofs.Lays.n102 prog Ia:={
 mixed:=af
 f102:=func132.trans (ar some af)
 f207:=func225.trans (ar some af)
 f209:=func186.trans (ar some af)
 t3:=underlying3
 a3:=isAgg3
 z3:=sizeOf3
 v3:=zeroValue3
 t4:=underlying4
 a4:=isAgg4
 z4:=sizeOf4
 v4:=zeroValue4
 t9:=underlying9
 a9:=isAgg9
 z9:=sizeOf9
 v9:=zeroValue9}
open Go.RowKit Go.Lib in
theorem Tryz.strings_TrimSuffix(s p:ai)(w:World)(hs:s.size<=9223372036854775807) :
  aE 132 #[.string s,.string p] w fun e w'=>e=.returned (.string ⟨(Lib.trimSuffix s.data.toList p.data.toList).toArray⟩)/\w'=w:=Any.strings_TrimSuffix Wo s p w hs
def Tryz.Ib:Go.Shelf.Ren:=⟨fun|221=>185|268=>223|138=>224|143=>156|195=>260|197=>227|218=>261|219=>204|260=>262|217=>232|225=>234|224=>235|267=>236|266=>266|314=>267|n=>n,fun|9=>9|3=>3|31=>125|4=>4|0=>0|105=>288|21=>21|5=>5|46=>71|119=>333|139=>336|138=>335|146=>308|51=>292|n=>n,fun|1=>0|3=>6|4=>7|n=>n⟩
theorem Tryz.Wp:Go.Proofs.Lays.n221 prog Ib:={
 mixed:=af
 f138:=func224.trans (ar some af)
 f143:=func156.trans (ar some af)
 f195:=func260.trans (ar some af)
 f197:=func227.trans (ar some af)
 f217:=func232.trans (ar some af)
 f218:=func261.trans (ar some af)
 f219:=func204.trans (ar some af)
 f221:=func185.trans (ar some af)
 f224:=func235.trans (ar some af)
 f225:=func234.trans (ar some af)
 f260:=func262.trans (ar some af)
 f266:=func266.trans (ar some af)
 f267:=func236.trans (ar some af)
 f268:=func223.trans (ar some af)
 f314:=func267.trans (ar some af)
 t0:=underlying0
 a0:=isAgg0
 z0:=sizeOf0
 v0:=zeroValue0
 t3:=underlying3
 a3:=isAgg3
 z3:=sizeOf3
 v3:=zeroValue3
 t4:=underlying4
 a4:=isAgg4
 z4:=sizeOf4
 v4:=zeroValue4
 t5:=underlying5
 a5:=isAgg5
 z5:=sizeOf5
 v5:=zeroValue5
 t9:=underlying9
 a9:=isAgg9
 z9:=sizeOf9
 v9:=zeroValue9
 t21:=underlying21
 a21:=isAgg21
 z21:=sizeOf21
 v21:=zeroValue21
 t31:=underlying125
 a31:=isAgg125
 z31:=sizeOf125
 v31:=zeroValue125
 t46:=underlying71
 a46:=isAgg71
 z46:=sizeOf71
 v46:=zeroValue71
 t51:=underlying292
 a51:=isAgg292
 z51:=sizeOf292
 v51:=zeroValue292
 t105:=underlying288
 a105:=isAgg288
 z105:=sizeOf288
 v105:=zeroValue288
 t119:=underlying333
 a119:=isAgg333
 z119:=sizeOf333
 t138:=underlying335
 a138:=isAgg335
 z138:=sizeOf335
 v138:=zeroValue335
 t139:=underlying336
 a139:=isAgg336
 z139:=sizeOf336
 v139:=zeroValue336
 t146:=underlying308
 a146:=isAgg308
 z146:=sizeOf308
 v146:=zeroValue308
 g1:=af
 g3:=af
 g4:=af}
def Tryz.Au:Go.Shelf.Ren:=⟨fun|105=>162|212=>210|99=>178|165=>211|166=>105|170=>108|169=>112|263=>245|264=>246|206=>216|240=>158|241=>247|276=>205|277=>273|n=>n,fun|9=>9|3=>3|4=>4|20=>20|0=>0|46=>71|109=>280|5=>5|72=>189|76=>190|51=>292|146=>308|53=>303|148=>310|70=>186|37=>187|75=>43|127=>246|164=>277|80=>197|n=>n,fun|n=>n⟩
theorem Tryz.Wq:Go.Proofs.Lays.n105 prog Au:={
 mixed:=af
 f99:=func178.trans (ar some af)
 f105:=func162.trans (ar some af)
 f165:=func211.trans (ar some af)
 f166:=func105.trans (ar some af)
 f169:=func112.trans (ar some af)
 f170:=func108.trans (ar some af)
 f206:=func216.trans (ar some af)
 f212:=func210.trans (ar some af)
 f240:=func158.trans (ar some af)
 f241:=func247.trans (ar some af)
 f263:=func245.trans (ar some af)
 f264:=func246.trans (ar some af)
 f276:=func205.trans (ar some af)
 f277:=func273.trans (ar some af)
 t0:=underlying0
 a0:=isAgg0
 z0:=sizeOf0
 v0:=zeroValue0
 t3:=underlying3
 a3:=isAgg3
 z3:=sizeOf3
 v3:=zeroValue3
 t4:=underlying4
 a4:=isAgg4
 z4:=sizeOf4
 v4:=zeroValue4
 t5:=underlying5
 a5:=isAgg5
 z5:=sizeOf5
 v5:=zeroValue5
 t9:=underlying9
 a9:=isAgg9
 z9:=sizeOf9
 v9:=zeroValue9
 t20:=underlying20
 a20:=isAgg20
 z20:=sizeOf20
 v20:=zeroValue20
 t37:=underlying187
 a37:=isAgg187
 z37:=sizeOf187
 v37:=zeroValue187
 t46:=underlying71
 a46:=isAgg71
 z46:=sizeOf71
 v46:=zeroValue71
 t51:=underlying292
 a51:=isAgg292
 z51:=sizeOf292
 v51:=zeroValue292
 t53:=underlying303
 a53:=isAgg303
 z53:=sizeOf303
 v53:=zeroValue303
 t70:=underlying186
 a70:=isAgg186
 z70:=sizeOf186
 v70:=zeroValue186
 t72:=underlying189
 a72:=isAgg189
 z72:=sizeOf189
 v72:=zeroValue189
 t75:=underlying43
 a75:=isAgg43
 z75:=sizeOf43
 v75:=zeroValue43
 t76:=underlying190
 a76:=isAgg190
 z76:=sizeOf190
 v76:=zeroValue190
 t109:=underlying280
 a109:=isAgg280
 z109:=sizeOf280
 v109:=zeroValue280
 t127:=underlying246
 a127:=isAgg246
 z127:=sizeOf246
 v127:=zeroValue246
 t146:=underlying308
 a146:=isAgg308
 z146:=sizeOf308
 v146:=zeroValue308
 t148:=underlying310
 a148:=isAgg310
 z148:=sizeOf310
 v148:=zeroValue310
 t164:=underlying277
 a164:=isAgg277
 z164:=sizeOf277
 v164:=zeroValue277}
theorem Tryz.yd:Builder.Extra prog Au:={
 sizeBuilder:=af
 liesBuilder:=af
 t5:=underlying5
 a5:=isAgg5
 z5:=sizeOf5
 v5:=zeroValue5
 infoByte:=af
 cellsByte:=af
 sizeByte:=af
 neB5:=ag}
open Go.RowKit Go.Lib in
theorem Tryz.strings_Repeat(s:ai)(c:Nat)(w:World)(hc:c<=9223372036854775807)(hlen:s.size*c<=140737488355328) :
  aE 162 #[.string s,.int .i64 c] w fun e w'=>e=.returned (.string ⟨(Lib.repeatL s.data.toList c).toArray⟩)/\Below w.heap.size w w':=Any.strings_Repeat Wq yd s c w hc hlen
def Tryz.Ic:Go.Shelf.Ren:=⟨fun|110=>220|109=>248|n=>n,fun|31=>125|9=>9|4=>4|3=>3|0=>0|n=>n,fun|n=>n⟩
theorem Tryz.Wr:Go.Proofs.Lays.n110 prog Ic:={
 mixed:=af
 f109:=func248.trans (ar some af)
 f110:=func220.trans (ar some af)
 t0:=underlying0
 a0:=isAgg0
 z0:=sizeOf0
 v0:=zeroValue0
 t3:=underlying3
 a3:=isAgg3
 z3:=sizeOf3
 v3:=zeroValue3
 t4:=underlying4
 a4:=isAgg4
 z4:=sizeOf4
 v4:=zeroValue4
 t9:=underlying9
 a9:=isAgg9
 z9:=sizeOf9
 v9:=zeroValue9
 t31:=underlying125
 a31:=isAgg125
 z31:=sizeOf125
 v31:=zeroValue125}
open Go.Lib in
theorem Tryz.slices_Contains_string(b off n c:Nat)(zs:List ai)(x:ai)(w:World)(hz:n<=zs.length)(RC:n<=9223372036854775807)(hc:∀j,j<zs.length->w.cell? ⟨b,off+j,none⟩=some (.string (zs.getD j ByteArray.empty))) :
  aE 220 #[.slice (some ⟨b,off,none⟩) n c,.string x] w fun e w'=>e=.returned (.bool (Lib.containsS (zs.take n) x))/\w'=w:=Any.slices_Contains_string Wr b off n c zs x w hz RC hc
def Tryz.Ie:Go.Shelf.Ren:=⟨fun|111=>52|n=>n,fun|28=>109|3=>3|4=>4|0=>0|n=>n,fun|n=>n⟩
theorem Tryz.Nn:Go.Proofs.Lays.n111 prog Ie:={
 mixed:=af
 f111:=func52.trans (ar some af)
 t0:=underlying0
 a0:=isAgg0
 z0:=sizeOf0
 v0:=zeroValue0
 t3:=underlying3
 a3:=isAgg3
 z3:=sizeOf3
 v3:=zeroValue3
 t4:=underlying4
 a4:=isAgg4
 z4:=sizeOf4
 v4:=zeroValue4
 t28:=underlying109
 a28:=isAgg109
 z28:=sizeOf109
 v28:=zeroValue109}
open Go.RowKit Go.Lib in
theorem Tryz.slices_Equal_int(b1 o1 n c b2 o2 m d:Nat)(xs ys:List Int)(w:World)(hx:n<=xs.length)(hy:m<=ys.length)(RC:n<=9223372036854775807)(RD:m<=9223372036854775807)(oP:∀j,j<xs.length->w.cell? ⟨b1,o1+j,none⟩=some (.int .i64 (xs.getD j 0)))(rI:∀j,j<ys.length->w.cell? ⟨b2,o2+j,none⟩=some (.int .i64 (ys.getD j 0))) :
  aE 52 #[.slice (some ⟨b1,o1,none⟩) n c,.slice (some ⟨b2,o2,none⟩) m d] w fun e w'=>e=.returned (.bool (xs.take n==ys.take m))/\∃q,w'=w.drewN q:=Any.slices_Equal_int Nn b1 o1 n c b2 o2 m d xs ys w hx hy RC RD oP rI
open Go.RowKit Go.Lib in
theorem Tryz.slices_Equal_int_empty(a1 a2:fi)(c m d:Nat)(w:World)(RD:m<=9223372036854775807) :
  aE 52 #[.slice a1 0 c,.slice a2 m d] w fun e w'=>e=.returned (.bool (decide (m=0)))/\w'=w:=Any.slices_Equal_int_empty Nn a1 a2 c m d w RD
def Tryz.DQ:Go.Shelf.Ren:=⟨fun|16=>99|n=>n,fun|24=>125|9=>9|4=>4|n=>n,fun|n=>n⟩
theorem Tryz.zG:Go.Proofs.Lays2.n16 prog DQ:={
 mixed:=af
 f16:=func99.trans (ar some af)
 t4:=underlying4
 a4:=isAgg4
 z4:=sizeOf4
 v4:=zeroValue4
 t9:=underlying9
 a9:=isAgg9
 z9:=sizeOf9
 v9:=zeroValue9
 t24:=underlying125
 a24:=isAgg125
 z24:=sizeOf125
 v24:=zeroValue125
 i9:=af}
open Go.RowKit Go.Lib in
theorem Tryz.slices_Clone_string(b off n c:Nat)(zs:List ai)(w:World)(hz:n<=zs.length)(RC:n*16<=140737488355328)(hc:∀j,j<zs.length->w.cell? ⟨b,off+j,none⟩=some (.string (zs.getD j ByteArray.empty))) :
  aE 99 #[.slice (some ⟨b,off,none⟩) n c] w fun e w'=>∃v',e=.returned v'/\w'.ownsRow w.heap.size 9 1 v' n ((zs.take n).map (Value.string))/\v'≠ .slice none 0 0/\Below w.heap.size w w':=Any.slices_Clone_string zG b off n c zs w hz RC hc
open Go.RowKit Go.Lib in
theorem Tryz.slices_Clone_string_nil(n c:Nat)(w:World) :
  aE 99 #[.slice none n c] w fun e w'=>e=.returned (.slice none 0 0)/\w'=w:=Any.slices_Clone_string_nil zG n c w
open Go.RowKit Go.Lib in
theorem Tryz.slices_Clone_string_zero(a:Addr)(c:Nat)(w:World) :
  aE 99 #[.slice (some a) 0 c] w fun e w'=>∃v',e=.returned v'/\w'.ownsRow w.heap.size 9 1 v' 0 []/\v'≠ .slice none 0 0/\Below w.heap.size w w':=Any.slices_Clone_string_zero zG a c w
def Tryz.Ig:Go.Shelf.Ren:=⟨fun|194=>184|n=>n,fun|31=>125|9=>9|3=>3|4=>4|0=>0|n=>n,fun|n=>n⟩
theorem Tryz.Np:Go.Proofs.Lays.n194 prog Ig:={
 mixed:=af
 f194:=func184.trans (ar some af)
 t0:=underlying0
 a0:=isAgg0
 z0:=sizeOf0
 v0:=zeroValue0
 t3:=underlying3
 a3:=isAgg3
 z3:=sizeOf3
 v3:=zeroValue3
 t4:=underlying4
 a4:=isAgg4
 z4:=sizeOf4
 v4:=zeroValue4
 t9:=underlying9
 a9:=isAgg9
 z9:=sizeOf9
 v9:=zeroValue9
 t31:=underlying125
 a31:=isAgg125
 z31:=sizeOf125
 v31:=zeroValue125}
open Go.RowKit Go.Lib Go.Sort in
theorem Tryz.slices_Compact_string(eK off cap:Nat)(zs:List (aK))(w:World)(hH:Holds encStr w eK off zs.toArray)(xl:zs.length<=9223372036854775807)(aaM:zs.length<=cap) :
  aE 184 #[.slice (some ⟨eK,off,none⟩) zs.length cap] w fun e w'=>e=.returned (.slice (some ⟨eK,off,none⟩) (Lib.compact zs).length cap)/\∃q,w'=putRow encStr (Sort.ahead w q) eK off (Lib.compact zs++List.replicate (zs.length-(Lib.compact zs).length) []).toArray:=Any.slices_Compact_string Np eK off cap zs w hH xl aaM
open Go.RowKit Go.Lib Go.Sort in
theorem Tryz.slices_Compact_string_empty(a:fi)(cap:Nat)(w:World) :
  aE 184 #[.slice a 0 cap] w fun e w'=>e=.returned (.slice a 0 cap)/\w'=w:=Any.slices_Compact_string_empty Np a cap w
open Go.RowKit Go.Sort in
theorem Tryz.slices_Sort_string_none(p:fi)(cap:Nat)(w:World) :
  aE 183 #[.slice p 0 cap] w fun e w'=>e=.returned (.tuple #[])/\w'=w:=Any.slices_Sort_string_none Nl p cap w
end Go.Proofs
namespace Go.Proofs.YtjndhcngnghpiaaGreatDoor
open Go.Proofs.Tryz
def lW{α:Type}(p:α->Bool):List α->Nat->Int
 |[],_=> -1
 |x :: l,i=>if p x then i else lW p l (i+1)
theorem tu{α:Type}(p:α->Bool):∀(l:List α) (i:Nat),decide (0<=lW p l i)=l.any p
 |[],_=>rfl
 |x :: l,i=>by
  rw[lW,List.any_cons];cases h:p x
  ·simp only[cJ,eT,jC];exact tu p l (i+1)
  ·simp
theorem pR{α:Type}{p:α->Bool}{l:List α}{k i:Nat}{x:α}(h:l[k]?=some x)(hp:p x=true)(hn:(l.take k).any p=false):lW p l i=((i+k:Nat):Int):=by
 induction l generalizing k i with
 |nil=>simp at h
 |cons a l ih =>
  cases k with
  |zero=>simp at h;subst h;rw[lW,aB hp];rfl
  |succ k =>
   simp only[List.getElem?_cons_succ]at h;simp only[List.take_succ_cons,List.any_cons,eA]at hn;rw[lW,hn.1];simp only[cJ,eT];rw[ih h hn.2];congr 1;omega
theorem kz{α:Type}{p:α->Bool}{l:List α}{i:Nat}(hn:l.any p=false):lW p l i= -1:=by
 induction l generalizing i with
 |nil=>rfl
 |cons a l ih =>
  simp only[List.any_cons,eA]at hn;rw[lW,hn.1];simp only[cJ,eT];exact ih hn.2
theorem any_take_succ{α:Type}{p:α->Bool}{l:List α}{k:Nat}{x:α}(h:l[k]?=some x)(hn:(l.take k).any p=false)(hp:p x=false):(l.take (k+1)).any p=false:=by
 rw[cD,h];simp only[List.any_append,hn,Option.toList_some,List.any_cons,hp,List.any_nil,Bool.or_false]
theorem dU{α:Type}{l:List α}{k:Nat}{x:α}(h:l[k]?=some x):l.take (k+1)=l.take k++[x]:=by rw[cD,h];rfl
open Go.RowKit
theorem Nh:(prog.info? 5).map (fun i=>(i.zero,i.size,i.bytes))=some (some (.int .u8 0),1,1):=af
def tJ(l:aK):a_:=l.map fun x=>.int .u8 (x.toNat:Int)
theorem Hs(l:aK)(c:UInt8):tJ (l++[c])=tJ l++[.int .u8 (c.toNat:Int)]:=by simp[tJ]
theorem xk(l:aK):(tJ l).length=l.length:=by simp[tJ]
def Bytes(base:Nat)(w:World)(v:Value)(l:aK):Prop:=w.ownsRow base 5 1 v l.length (tJ l)
theorem Bytes.nil(base:Nat)(w:World):Bytes base w (.slice none 0 0) []:=World.ownsRow_nil _ _ _ _
theorem Bytes.alloc{base:Nat}{w:World}{v:Value}{l:aK}(h:Bytes base w v l)(o:Obj):Bytes base (w.alloc o) v l:=World.ownsRow.alloc h o
theorem Bytes.drewN{base:Nat}{w:World}{v:Value}{l:aK}{n:Nat}(h:Bytes base w v l):Bytes base (w.drewN n) v l:=h
theorem Bytes.drew{base:Nat}{w:World}{v:Value}{l:aK}(h:Bytes base w v l):Bytes base w.drew v l:=h
theorem Bytes.setCell{base:Nat}{w:World}{v:Value}{l:aK}{p:Addr}{u:Value}(hp:p.block<base)(h:Bytes base w v l):Bytes base (w.setCell p u) v l:=ownsRow_setCell_below h hp u
theorem jk(w:World)(v:Value)(t:TypeId)(f:Nat×Nat):(w.alloc (.cells #[v] t f)).cell? ⟨w.heap.size,0,none⟩=some v:=World.cell?_alloc_mark w #[v] t f 0
theorem aC(w:World)(o:Obj):(w.alloc o).heap[w.heap.size]?=some o:=by
 show(w.heap.push o)[w.heap.size]?=_;simp
theorem Bytes.akl(w:World)(x:UInt8):Bytes w.heap.size (w.alloc (.cells #[.int .u8 x.toNat] 5)) (.slice (some ⟨w.heap.size,0,none⟩) 1 1) [x] :=
 ⟨rfl,Or.inr ⟨w.heap.size,1,_,rfl,az _,aC _ _,az _,by simp[maxLen],rfl,rfl⟩⟩
theorem Bytes.form{base:Nat}{w:World}{v:Value}{l:aK}(h:Bytes base w v l):∃a c,v=.slice a l.length c:=by
 rcases h.2 with ⟨hv,hn⟩|⟨g,cap,cur,hv,_⟩
 ·exact⟨none,0,by rw[hv,hn]⟩
 ·exact⟨_,_,hv⟩
theorem Bytes.block{base:Nat}{w:World}{v:Value}{l:aK}(h:Bytes base w v l):∀k,v.ownBlock=some k->base<=k:=by
 intro k hk;rcases h.2 with ⟨hv,_⟩|⟨g,cap,cur,hv,hg,_⟩
 ·rw[hv]at hk;simp[Value.ownBlock]at hk
 ·rw[hv]at hk;simp[Value.ownBlock]at hk;omega
theorem Bytes.text{base:Nat}{w:World}{a:fi}{n c:Nat}{l:aK}(h:Bytes base w (.slice a n c) l) :
  (convert 187 9 (.slice a n c)).run prog w=.ok (.string ⟨l.toArray⟩) w:=by
 obtain⟨h1,h2⟩:=h;rcases h2 with ⟨hv,hn⟩|⟨g,cap,cur,hv,hg,hh,h3,h4,h5,h6⟩
 ·cases hv;have:l=[]:=b_ hn;subst this;exact run_convert_bytes_nil (P:=prog) w 187 5 underlying187 underlying5 0 0 9 underlying9
 ·cases hv;refine run_convert_bytes_back (P:=prog) w 187 9 5 ⟨g,0,none⟩ c l underlying187 underlying5 underlying9 ?_;intro j hj;have hj2:j<l.length*1:=ab;have e:(cur.toList.take (l.length*1))[j]?=some (.int .u8 (l[j].toNat:Int)):=by
   rw[h6];simp[tJ,hj]
  rw[List.getElem?_take_of_lt hj2]at e;have e2:cur[j]?=some (.int .u8 (l[j].toNat:Int)):=by simpa using e
  have ea:(Addr.add ⟨g,0,none⟩ j)=⟨g,j,none⟩:=by unfold Addr.add;split<;>simp_all
  rw[ea];simp[World.cell?,hh,e2]
theorem jZ{ops:Array Oper}{rest:List Oper}{o:Oper}{a:Act}{Q:Exit->Act->World->Prop}{w:World}(yc:o.guard=none)(s x:Operand)
  (ho:o.op=.call {callee:=.builtin .append,args:= #[s,x],argTypes:= #[187,187]})(base:Nat)(v:Value)(l:aK)(hs:a.eval s=v)(cQ:Bytes base w v l)
  (ad:Addr)(c:Nat)(y:UInt8)(hx:a.eval x=.slice (some ad) 1 c)(hy:w.cell? ad=some (.int .u8 (y.toNat:Int)))(hlen:l.length<70368744177664)(im:base<=w.heap.size)
  (h:∀v' w',Bytes base w' v' (l++[y])->w.grownBy w' v.ownBlock->wpList prog ops Q rest (a.put o.dst v') w'):wpList prog ops Q (o :: rest) a w:=by
 obtain⟨i0,hi,pA,kP,kR⟩:=info_parts Nh;refine wpList_append_own w yc s x 187 ho base 5 i0 (.int .u8 0) 1 1 underlying187 hi pA kP kR rfl ag v l.length (tJ l) hs cQ ad 1 c [.int .u8 (y.toNat:Int)] hx rfl ?_ ?_ ?_ ?_ im ?_
 ·intro j u hj
  match j,hj with
  |0,hj=>simp at hj;subst hj;simpa[Addr.add]using hy
 ·intro u hu;simp at hu;subst hu;rfl
 ·unfold maxLen;omega
 ·omega
 ·intro v' w' h1 h2 _;exact h v' w' (by unfold Bytes;rw[Hs];simpa using h1) h2
abbrev ob := @Bytes.setCell
abbrev gl := @Bytes.alloc
def Zf(n:Nat):Bool:=n==9||(decide (32<=n)&&n !=127)
def mY(c:UInt8):Bool:=Zf c.toNat
theorem pH(c:UInt8)(w:World) :
  aE 159 #[.int .u8 c.toNat] w fun e w'=>e=.returned (.bool (mY c))/\w=w':=by
 go_enter func159,ntmps159;go_wp2
 all_goals
  go_ret;refine⟨fS ?_,rfl⟩;rw[eW];simp[mY,Zf];omega
def marks:aK:=[33,35,36,37,38,39,42,43,45,46,94,95,124,126,96]
def FJ(c:UInt8):Bool:=decide (0<=Lib.indexByte marks c)
theorem RE(c:UInt8):0<=Lib.indexByte [33,35,36,37,38,39,42,43,45,46,94,95,124,126,96] c↔FJ c=true:=by
 unfold FJ marks;rw[decide_eq_true_iff]
def fO(c:UInt8):Bool:=n_ c||FJ c
theorem yf(c:UInt8)(w:World) :
  aE 153 #[.int .u8 c.toNat] w fun e w'=>e=.returned (.bool (fO c))/\w=w':=by
 go_enter func153,ntmps153;go_wp2_with (go_at_call 201;refine(strings_IndexByte _ _ _).mono ?_;rintro e w' ⟨rfl,rfl⟩)
 all_goals
  go_ret;refine⟨fS ?_,rfl⟩;rw[eW];simp[fO,n_,RE];cases FJ c<;>simp<;>omega
def dm(w:World)(b:Nat)(s:ai)(i:Nat):Prop:=w.heap[b]?=some (.cells #[.string s,.int .i64 i] 249 (0,0))
theorem dm.cell0{w:World}{b i:Nat}{s:ai}(h:dm w b s i):w.cell? ⟨b,0,none⟩=some (.string s):=by simp[World.cell?,show w.heap[b]?=_ from h]
theorem dm.gU{w:World}{b i:Nat}{s:ai}(h:dm w b s i):w.cell? ⟨b,1,none⟩=some (.int .i64 i):=by simp[World.cell?,show w.heap[b]?=_ from h]
theorem dm.free{w:World}{b i:Nat}{s:ai}(h:dm w b s i)(k:Nat):w.frozen? ⟨b,k,none⟩=false:=by simp[World.frozen?,show w.heap[b]?=_ from h]
theorem RF(s:ai)(w:World) :
  aE 117 #[.string s] w fun e w'=>e=.returned (.pointer (some ⟨w.heap.size,0,none⟩))/\w'=w.alloc (.cells #[.string s,.int .i64 0] 249 (0,0)):=by
 go_enter func117,ntmps117;go_wp2;go_ret;exact⟨rfl,rfl⟩
theorem zH(b:Nat)(s:ai)(i:Nat)(w:World)(h:dm w b s i) :
  aE 166 #[.pointer (some ⟨b,0,none⟩)] w fun e w'=>e=.returned (.int .i64 i)/\w=w':=by
 have h0:=h.cell0;have h1:=h.gU;go_enter func166,ntmps166;go_wp2;go_ret;exact⟨rfl,rfl⟩
theorem vY(b:Nat)(s:ai)(i:Nat)(w:World)(h:dm w b s i) :
  aE 119 #[.pointer (some ⟨b,0,none⟩)] w fun e w'=>e=.returned (.bool (decide (s.size<=i)))/\∃n,w'=w.drewN n:=by
 have h0:=h.cell0;have h1:=h.gU;go_enter func119,ntmps119;go_wp2;go_quiet (fail);go_wp2;go_ret;exact⟨rfl,_,rfl⟩
theorem dm.setCell{w:World}{b i j:Nat}{s:ai}(h:dm w b s i):dm (w.setCell ⟨b,1,none⟩ (.int .i64 j)) b s j:=by
 unfold dm at *
 simp[World.setCell,Array.getElem?_modify,h]
theorem dm.drewN{w:World}{b i:Nat}{s:ai}(h:dm w b s i)(n:Nat):dm (w.drewN n) b s i:=h
theorem dm.lt{w:World}{b i:Nat}{s:ai}(h:dm w b s i):b<w.heap.size:=bg h
def pZ(w:World)(b:Nat)(s:ai):Prop:=∃v,w.heap[b]?=some (.cells #[.string s,v] 249 (0,0))
theorem dm.eK{w:World}{b i:Nat}{s:ai}(h:dm w b s i):pZ w b s:=⟨_,h⟩
theorem pZ.set{w:World}{b:Nat}{s:ai}{u:Value}(h:pZ w b s):pZ (w.setCell ⟨b,1,none⟩ u) b s:=by
 obtain⟨v,h⟩:=h;exact⟨u,by simp[World.setCell,Array.getElem?_modify,h]⟩
theorem pZ.drewN{w:World}{b n:Nat}{s:ai}(h:pZ w b s):pZ (w.drewN n) b s:=h
theorem pZ.at{w:World}{b j:Nat}{s:ai}(h:pZ w b s):dm (w.setCell ⟨b,1,none⟩ (.int .i64 j)) b s j:=by
 obtain⟨v,h⟩:=h;unfold dm;simp[World.setCell,Array.getElem?_modify,h]
theorem dm.alloc{w:World}{b i:Nat}{s:ai}{o:Obj}(h:dm w b s i):dm (w.alloc o) b s i:=by
 have hb:=h.lt;unfold dm at *
 rw[Below.heap_alloc _ _ _ hb];exact h
theorem dm.fr{w w':World}{b i:Nat}{s:ai}{S:dB}(h:dm w b s i)(hf:Fr S w w')(hn:¬S b):dm w' b s i:=hf.keep h hn
def j5(s:ai)(i:Nat)(c:UInt8):Bool:=decide (s.data.toList[i]?=some c)
def BP(s:ai)(i:Nat)(c:UInt8):Nat:=if j5 s i c then i+1 else i
theorem Ef{s:ai}{i:Nat}{c:UInt8}(hi:i<s.size)(hc:s[i]=c):j5 s i c=true:=by simp[j5,byte_at s i hi,hc]
theorem Ih{s:ai}{i:Nat}{c:UInt8}(hi:i<s.size)(hc:¬s[i]=c):j5 s i c=false:=by simp[j5,byte_at s i hi,hc]
theorem Eg{s:ai}{i:Nat}{c:UInt8}(hi:¬i<s.size):j5 s i c=false:=by simp[j5,sU s i hi]
theorem o7{s:ai}{i:Nat}{c:UInt8}(h:j5 s i c=true):BP s i c=i+1:=by simp[BP,h]
theorem o8{s:ai}{i:Nat}{c:UInt8}(h:j5 s i c=false):BP s i c=i:=by simp[BP,h]
theorem Ws{a c:UInt8}(h:¬a=c):((a.toNat:Int)==(c.toNat:Int))=false:=by
 rw[aL];intro e;exact h (iE.1 ab)
theorem pI(b:Nat)(s:ai)(i:Nat)(c:UInt8)(w:World)(h:dm w b s i)(hs:s.size<=maxLen) :
  aE 165 #[.pointer (some ⟨b,0,none⟩),.int .u8 c.toNat] w fun e w'=>e=.returned (.bool (j5 s i c))/\dm w' b s (BP s i c)/\Fr (one b) w w':=by
 have h0:=h.cell0;have h1:=h.gU;have hf:=h.free 1;unfold maxLen at hs;by_cases hi:i<s.size
 ·have hd:decide (i<s.size)=true:=by simp[hi]
  by_cases hc:s[i]=c
  ·rw[Ef hi hc,o7 (Ef hi hc)];have hn:((s[i].toNat:Int)==(c.toNat:Int))=true:=by simp[hc]
   clear hc;go_enter func165,ntmps165;go_wp2;go_quiet (fail);go_wp2;go_ret;exact⟨rfl,(h.setCell (j:=i+1)).drewN _,lX w b _ _⟩
  ·rw[Ih hi hc,o8 (Ih hi hc)];have hn:=Ws hc;clear hc;go_enter func165,ntmps165;go_wp2;go_quiet (fail);go_wp2;go_ret;exact⟨rfl,h.drewN _,(ae _ _).drewN _⟩
 ·have hd:decide (i<s.size)=false:=bH;rw[Eg hi,o8 (Eg hi)];go_enter func165,ntmps165;go_wp2;go_quiet (fail);go_wp2;go_ret;exact⟨rfl,h,(ae _ _).drewN _⟩
abbrev j6 := @pZ.at
abbrev jl := @pZ.set
abbrev gV := @pZ.drewN
def dY(c:UInt8):aK->List (aK)
 |[]=>[[]]
 |x :: l=>if x=c then [] :: dY c l else match dY c l with
  |[]=>[[x]]
  |p :: ps=>(x :: p) :: ps
def vg(c:UInt8):List (aK)->aK
 |[]=>[]
 |[p]=>p
 |p :: q :: ps=>p++c :: vg c (q :: ps)
theorem vZ(c:UInt8):∀l,dY c l≠ []
 |[]=>by simp[dY]
 |x :: l=>by
  unfold dY;split
  ·simp
  ·split<;>simp
theorem qX(c:UInt8)(l:aK):dY c (c :: l)=[] :: dY c l:=by rw[dY,aB rfl]
theorem nL{c x:UInt8}{l p:aK}{ps:List (aK)}(hx:¬x=c)(h:dY c l=p :: ps):dY c (x :: l)=(x :: p) :: ps:=by rw[dY,ay hx,h]
theorem BX(c:UInt8):∀(p l:aK),c∉p->dY c (p++c :: l)=p :: dY c l
 |[],l,_=>qX c l
 |x :: p,l,h=>by
  have hx:¬x=c:=fun e=>h (by rw[e];exact cY ..);exact nL hx (BX c p l (fun e=>h (bV _ e)))
theorem BZ(c:UInt8):∀p:aK,c∉p->dY c p=[p]
 |[],_=>rfl
 |x :: p,h=>by
  have hx:¬x=c:=fun e=>h (by rw[e];exact cY ..);exact nL hx (BZ c p (fun e=>h (bV _ e)))
def aaS:aK:=[46]
def RU:aK:=[46,46]
def ym(l:List (aK)):List (aK):=if 1<l.length then l.dropLast else l
def gW(l:List (aK))(p:aK)(last:Bool):List (aK) :=
 if p=RU then(if last then ym l++[[]]else ym l)
 else if p=aaS then(if last then l++[[]]else l)
 else l++[p]
def pB:List (aK)->List (aK)->List (aK)
 |l,[]=>l
 |l,p :: ps=>pB (gW l p ps.isEmpty) ps
def Az(s:aK):aK:=if s.head?=some 47 then s else 47 :: s
def mf(s:aK):List (aK):=pB [] (dY 47 (Az s))
def oo(s:aK):aK:=vg 47 (mf s)
def vG(k:Nat)(A B:World):Prop:=∀j,k<=j->j<k+3->B.heap[j]?=A.heap[j]?
theorem vG.trans{k:Nat}{A B C:World}(h:vG k A B)(g:vG k B C):vG k A C:=fun j h1 h2=>(g j h1 h2).trans (h j h1 h2)
def CE(k B:Nat):dB:=fun j=>j=k\/j=B\/j=B+1
theorem Fr.putObj{S:dB}{a w:World}(h:Fr S a w){l:Nat}(hl:l<a.heap.size->S l)(o:Obj):Fr S a (w.putObj l o) :=
 ⟨h.os,h.tape,h.output,by rw[World.putObj_size];exact h.size,fun j hj hn=>(World.putObj_heap_other (fun e=>hn (by subst e;exact hl hj))).trans (h.block j hj hn)⟩
def LH{α:Type}(k:Nat)(I Ix:List α->World->Prop)(xs:List α)(W:World):Exit->Act->World->Prop
 | .normal,_,W'=>KeepsOthers W W'/\vG k W W'/\I xs W'
 | .ret,_,W'=>KeepsOthers W W'/\Ix xs W'
 |_,_,_=>False
def SL{α:Type}(F:Fence)(n:Nat)(P:Program)(g:Nat)(lb:bW)(enc:α->Value)(k:Nat)(ys:List α)(w:World):Prop :=
 ∀(l:Nat) (J Jx:List α->World->Prop) (W:World),Fr aX w W->(∀xs A B,J xs A->Fr (fun j=>j=k) A B->J xs B)->(∀xs A B,Jx xs A->Fr (fun j=>j=k) A B->Jx xs B) ->
  (∀xs x A,J xs A->xs++[x] <+: ys->YieldAt F (n-1) P l #[enc x] A fun e B=>(e=.returned (.bool true)/\J (xs++[x]) B/\vG k A B)\/(e=.returned (.bool false)/\Jx (xs++[x]) B)) ->
  J [] W ->
  CallsIn F n P g (#[.func (.yield l) #[] #[]]++lb) W fun e B=>(∃v,e=.returned v)/\(J ys B\/∃xs,xs <+: ys/\Jx xs B)
theorem zT{F:Fence}{n:Nat}{P:Program}{α:Type}{g:Operand}{ps:Array Tmp}{assign body:Code}{Q:Exit->Act->World->Prop}{a:Act}{w:World}
  (Xp:F.round=none)(h1:1<=n){gf:Nat}{lb:bW}(hg:a.eval g=.func (.func gf) #[] lb)(hFg:F.fn gf)(eg:∀args w,(callFunc gf args).run P w=.ok (.enter gf args) w)
  {enc:α->Value}{k:Nat}{ys:List α}(hk:k+3<=w.heap.size)(alc:SL F (n-1) P gf lb enc k ys w)(hps:ps.size=1)
  (I Ix:List α->World->Prop)(hI:∀xs A B,I xs A->Fr (CE k w.heap.size) A B->I xs B)(hIx:∀xs A B,Ix xs A->Fr (CE k w.heap.size) A B->Ix xs B)(h0:I [] w)(a₁:α->Act)
  (Xq:∀(l:Nat) (x:α) (W:World) (K:Act->World->Prop),K (a₁ x) W ->
   assign.wpIn (F.inRound l) (n-1-1) P (Exit.then K (fun _ _ _=>False)) {tmps:=(ps.zip #[enc x]).foldl (fun t (p,v)=>t.setIfInBounds p v) a.tmps,defers:=[]} W)
  (afw:∀(l:Nat) (xs:List α) (x:α) (W:World),I xs W->xs++[x] <+: ys->body.wpIn (F.inRound l) (n-1-1) P (LH k I Ix (xs++[x]) W) (a₁ x) W)
  (afx:∀(D:Nat) (W:World),D=w.heap.size->I ys W->W.heap[D]?=some (.deferred (some []))->Q .normal {a with defers:={target:=.collected D,args:= #[]} :: a.defers} W)
  (yg:∀(D:Nat) (xs:List α) (W:World),D=w.heap.size->xs <+: ys->Ix xs W->W.heap[D]?=some (.deferred (some []))->Code.ret.wpIn F n P Q {a with defers:={target:=.collected D,args:= #[]} :: a.defers} W) :
  (Code.rangeFunc g ps assign body).wpIn F n P Q a w:=by
 refine wpIn_rangeFunc ?_;intro fn EP;rw[Xp];obtain⟨rec,Gj⟩:∃rec:LoopState->Option Code->Loop,rec=fun st pe=>{state:=st,pending:=pe,fn,tmps:=a.tmps,params:=ps,assign,body,defers:=w.heap.size}:=⟨_,rfl⟩;obtain⟨W1,Bf⟩:∃W1,(w.alloc (.deferred (some []))).alloc (.loop (rec .ready none))=W1:=⟨_,rfl⟩;have kP:W1.heap.size=w.heap.size+2:=by rw[<-Bf];simp
 have hL1:W1.heap[w.heap.size+1]?=some (.loop (rec .ready none)):=by
  rw[<-Bf];have:=World.alloc_heap_new (w.alloc (.deferred (some []))) (.loop (rec .ready none));rwa [bK]at this
 have hK1:W1.heap[w.heap.size]?=some (.deferred (some [])):=by
  rw[<-Bf];exact(Below.heap_alloc _ _ _ aS).trans (World.alloc_heap_new w _)
 have dw:Fr aX w W1:=by rw[<-Bf];exact((ae aX w).alloc _).alloc _
 have hI1:I [] W1:=hI _ _ _ h0 (dw.mono fun _ _ h=>h.elim);have afy:∀ {A B:World},Fr (fun j=>j=k) A B->Fr (CE k w.heap.size) A B:=fun h=>h.mono fun _ _ e=>Or.inl e;have CG:∀(A:World) (o:Obj),Fr (CE k w.heap.size) A (A.putObj (w.heap.size+1) o):=fun A o=>(ae _ A).putObj (fun _=>Or.inr (Or.inr rfl)) o
 have N3:∀ {A B:World} {j:Nat} {o:Obj},Fr (fun j=>j=k) A B->w.heap.size<=j->A.heap[j]?=some o->B.heap[j]?=some o:=fun h hj ho=>h.keep ho (fun e=>ab);refine⟨w.heap.size+1,[{target:=.collected w.heap.size,args:= #[]}],W1,{target:=.fn (.func gf) lb,args:= #[.func (.yield (w.heap.size+1)) #[] #[]]},W1,gf,
  #[.func (.yield (w.heap.size+1)) #[] #[]]++lb,W1,?_,?_,?_,?_,fun _=>h1,?_⟩
 ·rw[<-Bf,Gj];exact run_enterLoop_outer _ _ _ _ _
 ·simp only[resolve,hg];simp[go_sem]
 ·intro f' hf';simp[Target.leads]at hf';subst hf';exact hFg
 ·simp[invoke,go_sem,eg]
 refine(alc (w.heap.size+1)
  (fun xs W=>I xs W/\W.heap[w.heap.size+1]?=some (.loop (rec .ready none))/\W.heap[w.heap.size]?=some (.deferred (some [])))
  (fun xs W=>Ix xs W/\W.heap[w.heap.size+1]?=some (.loop (rec .done (some .ret)))/\W.heap[w.heap.size]?=some (.deferred (some [])))
  W1 dw
  (fun xs A B h f=>⟨hI _ _ _ h.1 (afy f),N3 f ab h.2.1,N3 f ab h.2.2⟩)
  (fun xs A B h f=>⟨hIx _ _ _ h.1 (afy f),N3 f ab h.2.1,N3 f ab h.2.2⟩)
  ?_ ⟨hI1,hL1,hK1⟩).mono ?_
 ·rintro xs x W⟨hi,hl,hd⟩hxp;have tK:w.heap.size+1<W.heap.size:=(Array.getElem?_eq_some_iff.1 hl).1;have hy:=run_yield (P:=P) (args:= #[enc x]) hl (by rw[Gj,hps];rfl);rw[Gj]at hy;refine⟨fn,_,assign,body,hy,roundIn_of_wpIn EP (Xq _ x W _ ⟨_,run_beginRound hl (by rw[Gj]),?_⟩)⟩;obtain⟨W2,Zg⟩:∃W2,W.putObj (w.heap.size+1) (.loop {rec .ready none with state:=.busy})=W2:=⟨_,rfl⟩;rw[Zg]
  have Bg:W2.heap[w.heap.size+1]?=some (.loop {rec .ready none with state:=.busy}):=by rw[<-Zg];exact World.putObj_heap_same tK
  have tN:W2.heap[w.heap.size]?=some (.deferred (some [])):=by rw[<-Zg];exact(World.putObj_heap_other ab).trans hd
  have sH:vG k W W2:=by rw[<-Zg];exact fun j h1 h2=>World.putObj_heap_other ab
  have SM:I xs W2:=by rw[<-Zg];exact hI _ _ _ hi (CG _ _)
  refine wpIn_mono (afw _ xs x W2 SM hxp) ?_;have fin:∀(jump:Option Code) (W3:World),KeepsOthers W2 W3 ->
    (Instr.endRound (w.heap.size+1) jump).run P W3=.ok (.bool jump.isNone) (W3.putObj (w.heap.size+1) (.loop (rec (if jump.isNone then .ready else .done) jump))) /\
    (W3.putObj (w.heap.size+1) (.loop (rec (if jump.isNone then .ready else .done) jump))).heap[w.heap.size+1]?=some (.loop (rec (if jump.isNone then .ready else .done) jump)) /\
    (W3.putObj (w.heap.size+1) (.loop (rec (if jump.isNone then .ready else .done) jump))).heap[w.heap.size]?=some (.deferred (some [])):=fun jump W3 Gb=>by
   have hl3:=Gb.same _ _ Bg rfl;have hr:=run_endRound (P:=P) jump hl3;rw[Gj]at hr ⊢;exact⟨hr,World.putObj_heap_same (Array.getElem?_eq_some_iff.1 hl3).1,(World.putObj_heap_other ab).trans (Gb.same _ _ tN rfl)⟩
  rintro e a3 W3 hp;cases e with
  |normal =>
   obtain⟨xx,Gb,Pp⟩:=hp;obtain⟨hr,hl4,hd4⟩:=fin none W3 xx;exact⟨_,_,hr,.inl ⟨rfl,⟨hI _ _ _ Pp (CG _ _),hl4,hd4⟩,(sH.trans Gb).trans fun j h1 h2=>World.putObj_heap_other ab⟩⟩
  |ret =>
   obtain⟨xx,Pp⟩:=hp;obtain⟨hr,hl4,hd4⟩:=fin (some .ret) W3 xx;exact⟨_,_,hr,.inr ⟨rfl,hIx _ _ _ Pp (CG _ _),hl4,hd4⟩⟩
  |exit id=>exact hp.elim
  |goto t=>exact hp.elim
  |panic ch=>exact hp.elim
  |outgrown=>exact hp.elim
 ·rintro e W2⟨⟨v,rfl⟩,(⟨hi,hl,hd⟩|⟨xs,uS,hi,hl,hd⟩)⟩
  ·exact⟨none,_,by have:=run_endLoop (P:=P) hl (by rw[Gj];simp);rw[Gj]at this;exact this,afx _ _ rfl (hI _ _ _ hi (CG _ _)) ((World.putObj_heap_other ab).trans hd)⟩
  ·exact⟨some .ret,_,by have:=run_endLoop (P:=P) hl (by rw[Gj];simp);rw[Gj]at this;exact this,yg _ xs _ rfl uS (hIx _ _ _ hi (CG _ _)) ((World.putObj_heap_other ab).trans hd)⟩
