/- Small words of ours: frames of a call (which blocks may have turned), ends of walks. No program in sight. A slice of bytes that a call itself has made: append, and the text of it. strings.Builder: WriteByte and String, laid by hand at this translation (the panic of the copy check lies as a refusal here, so that the laying's tool finds no use of two types). strings.Builder: WriteString, laid by hand at this translation; what a builder that lies beside other blocks keeps of them. Walks over the package token: bytes. Walks over the package token: the cursor's loops. Walks over the package token: texts between marks. -/
import Derived.WalkKit
import Derived.Deep.QuietTactic
import Derived.BigQuiet
import Derived.Test.YtkoobhgedoanhaaGreatDoorRows
import Derived.WalkSpells
import Derived.WalkLawsBesides
import Derived.Lib.Hide
import Derived.Test.YtkoobhgedoanhaaGreatDoorShelf
import Derived.Shelf.Strings.Builder1
import Derived.Shelf.Strings.Builder2
import Derived.Shelf.Lays
import Derived.Shelf.Strings.BuilderK
import Derived.Deep.RegionWith
import Derived.Deep.LoopGhost
namespace Go.Proofs.YtkoobhgedoanhaaGreatDoor
open Go.RowKit

theorem ret_bool {a b : Bool} (h : a = b) : Ending.returned (.bool a) = .returned (.bool b) := by rw [h]
theorem ret_int {k : IntKind} {a b : Int} (h : a = b) : Ending.returned (.int k a) = .returned (.int k b) := by rw [h]
theorem ret_str {a b : ByteArray} (h : a = b) : Ending.returned (.string a) = .returned (.string b) := by rw [h]

/-- a callee that turns nothing, in a region that draws -/
theorem quiet_eq {P : Program} {f : FuncId} {args : Array Value} {w : World} {n : Nat} {v : Value}
    (h : Calls P f args (w.drewN n) fun e w' => e = .returned v ∧ w.drewN n = w') : Calls P f args (w.drewN n) fun e w'' => e = .returned v ∧ ∃ m, w'' = w.drewN m :=
  h.mono fun _ _ ⟨he, hm⟩ => ⟨he, n, hm.symm⟩

/-- .. behind a region that has drawn already -/
theorem quiet_eq2 {P : Program} {f : FuncId} {args : Array Value} {w : World} {q n : Nat} {v : Value}
    (h : Calls P f args (w.drewN (q + n)) fun e w' => e = .returned v ∧ w.drewN (q + n) = w') : Calls P f args (w.drewN (q + n)) fun e w'' => e = .returned v ∧ ∃ m, w'' = w.drewN (q + m) :=
  h.mono fun _ _ ⟨he, hm⟩ => ⟨he, n, hm.symm⟩

/-- FRAME: of the blocks that lay in w only those of S may have turned; streams as they were. -/
structure Fr (S : Nat → Prop) (w w' : World) : Prop where
  os : w'.os = w.os
  tape : w'.tape = w.tape
  output : w'.output = w.output
  size : w.heap.size ≤ w'.heap.size
  block : ∀ k, k < w.heap.size → ¬ S k → w'.heap[k]? = w.heap[k]?

namespace Fr
variable {S T : Nat → Prop} {a w w' w1 w2 : World}
theorem refl (S : Nat → Prop) (w : World) : Fr S w w := ⟨rfl, rfl, rfl, Nat.le_refl _, fun _ _ _ => rfl⟩
theorem mono (h : Fr S w w') (hs : ∀ k, k < w.heap.size → S k → T k) : Fr T w w' := ⟨h.os, h.tape, h.output, h.size, fun k hk hn => h.block k hk (fun hS => hn (hs k hk hS))⟩
theorem trans (h : Fr S a w) (g : Fr S w w') : Fr S a w' :=
  ⟨g.os.trans h.os, g.tape.trans h.tape, g.output.trans h.output, Nat.le_trans h.size g.size, fun k hk hn => (g.block k (Nat.lt_of_lt_of_le hk h.size) hn).trans (h.block k hk hn)⟩
/-- a step whose own writes lie in S, or in blocks that are new since a -/
theorem step (h : Fr S a w) (g : Fr T w w') (hs : ∀ k, k < a.heap.size → T k → S k) : Fr S a w' :=
  ⟨g.os.trans h.os, g.tape.trans h.tape, g.output.trans h.output, Nat.le_trans h.size g.size,
    fun k hk hn => (g.block k (Nat.lt_of_lt_of_le hk h.size) (fun ht => hn (hs k hk ht))).trans (h.block k hk hn)⟩
theorem keep (h : Fr S w w') {k : Nat} {o : Obj} (hk : w.heap[k]? = some o) (hn : ¬ S k) : w'.heap[k]? = some o :=
  (h.block k (by rcases Nat.lt_or_ge k w.heap.size with g | g; exact g; simp [Array.getElem?_eq_none g] at hk) hn).trans hk
theorem cell (h : Fr S w w') {p : Addr} (hp : p.block < w.heap.size) (hn : ¬ S p.block) : w'.cell? p = w.cell? p := World.cell?_of_block (w := w) (h.block p.block hp hn)
theorem frozen (h : Fr S w w') {p : Addr} (hp : p.block < w.heap.size) (hn : ¬ S p.block) : w'.frozen? p = w.frozen? p := World.frozen?_of_block (w := w) (h.block p.block hp hn)
theorem drewN (n : Nat) (h : Fr S a w) : Fr S a (w.drewN n) := ⟨h.os, h.tape, h.output, h.size, h.block⟩
theorem drew (h : Fr S a w) : Fr S a w.drew := ⟨h.os, h.tape, h.output, h.size, h.block⟩
theorem setCell (h : Fr S a w) {p : Addr} (hp : p.block < a.heap.size → S p.block) (u : Value) : Fr S a (w.setCell p u) :=
  ⟨h.os, h.tape, h.output, by simpa [World.setCell] using h.size, fun k hk hn => (Below.heap_setCell _ _ _ _ (fun e => by subst e; exact hn (hp hk))).trans (h.block k hk hn)⟩
theorem alloc (h : Fr S a w) (o : Obj) : Fr S a (w.alloc o) :=
  ⟨h.os, h.tape, h.output, Nat.le_trans h.size (by simp), fun k hk hn => (Below.heap_alloc _ _ _ (Nat.lt_of_lt_of_le hk h.size)).trans (h.block k hk hn)⟩
theorem grown {row : Option Nat} (h : Fr S a w) (hg : w.grownBy w' row) (hr : ∀ k, row = some k → k < a.heap.size → S k) : Fr S a w' :=
  ⟨hg.os.trans h.os, hg.tape.trans h.tape, hg.output.trans h.output, Nat.le_trans h.size hg.size,
    fun k hk hn => (hg.block k (Nat.lt_of_lt_of_le hk h.size) (fun e => hn (hr k e.symm hk))).trans (h.block k hk hn)⟩
theorem below {B : Nat} (h : Fr S w w') (hB : B ≤ w.heap.size) (hS : ∀ k, k < B → ¬ S k) : Below B w w' :=
  ⟨h.os, h.tape, h.output, h.size, fun k hk => h.block k (Nat.lt_of_lt_of_le hk hB) (hS k hk)⟩
theorem ofBelow {B : Nat} (h : Below B w w') (hS : ∀ k, k < w.heap.size → B ≤ k → S k) : Fr S w w' :=
  ⟨h.os, h.tape, h.output, h.size, fun k hk hn => h.block k (Nat.lt_of_not_le (fun hB => hn (hS k hk hB)))⟩
end Fr

/-- no block at all -/
def noB : Nat → Prop := fun _ => False
theorem Fr.none_below {w w' : World} (h : Fr noB w w') : Below w.heap.size w w' := h.below (Nat.le_refl _) (fun _ _ h => h)
theorem Fr.of_below {w w' : World} (h : Below w.heap.size w w') : Fr noB w w' := Fr.ofBelow h (fun _ hk hB => absurd hk (by omega))
/-- a store into, or an append to, a block that is new since a -/
theorem Fr.setNew {S : Nat → Prop} {a w : World} (h : Fr S a w) {p : Addr} (hp : a.heap.size ≤ p.block) (u : Value) : Fr S a (w.setCell p u) := h.setCell (fun hl => absurd hl (by omega)) u
theorem Fr.grownNew {S : Nat → Prop} {a w w' : World} {row : Option Nat} (h : Fr S a w) (hg : w.grownBy w' row) (hr : ∀ k, row = some k → a.heap.size ≤ k) : Fr S a w' :=
  h.grown hg (fun k hk hl => absurd hl (by have := hr k hk; omega))

theorem byte_at (s : ByteArray) (i : Nat) (h : i < s.size) : s.data.toList[i]? = some s[i] := by
  have h' : i < s.data.toList.length := by simpa using h
  rw [List.getElem?_eq_getElem h']; rfl
theorem byte_off (s : ByteArray) (i : Nat) (h : ¬ i < s.size) : s.data.toList[i]? = none := List.getElem?_eq_none (by simpa using h)

theorem lt_of_some {w : World} {k : Nat} {o : Obj} (h : w.heap[k]? = some o) : k < w.heap.size := by
  rcases Nat.lt_or_ge k w.heap.size with g | g
  · exact g
  · simp [Array.getElem?_eq_none g] at h
/-- a letter or a digit -/
def alnumB (c : UInt8) : Bool := (decide (48 ≤ c.toNat) && decide (c.toNat ≤ 57)) || (decide (97 ≤ c.toNat) && decide (c.toNat ≤ 122)) || (decide (65 ≤ c.toNat) && decide (c.toNat ≤ 90))
theorem drop_at {l : List UInt8} {k : Nat} {x : UInt8} (h : l[k]? = some x) : l.drop k = x :: l.drop (k + 1) := by
  obtain ⟨hk, e⟩ := List.getElem?_eq_some_iff.1 h
  rw [List.drop_eq_getElem_cons hk, e]
theorem drop_off {l : List UInt8} {k : Nat} (h : l[k]? = none) : l.drop k = [] := List.drop_eq_nil_of_le (List.getElem?_eq_none_iff.1 h)
def one (b : Nat) : Nat → Prop := fun k => k = b
theorem Fr.one_set (w : World) (b : Nat) (u : Value) (n : Nat) : Fr (one b) w ((w.setCell ⟨b, 1, none⟩ u).drewN n) := ((Fr.refl (one b) w).setCell (p := ⟨b, 1, none⟩) (fun _ => rfl) u).drewN n
theorem Fr.one_cell {a w : World} {b k : Nat} {u : Value} (h : Fr (one b) a w) : Fr (one b) a (w.setCell ⟨b, k, none⟩ u) := h.setCell (p := ⟨b, k, none⟩) (fun _ => rfl) u
end Go.Proofs.YtkoobhgedoanhaaGreatDoor

namespace Go.Proofs.YtkoobhgedoanhaaGreatDoor
open Go.RowKit

theorem info_u8 : (Tryz.prog.info? 5).map (fun i => (i.zero, i.size, i.bytes)) = some (some (.int .u8 0), 1, 1) := by kernel_rfl

def u8s (l : List UInt8) : List Value := l.map fun x => .int .u8 (x.toNat : Int)
theorem u8s_snoc (l : List UInt8) (c : UInt8) : u8s (l ++ [c]) = u8s l ++ [.int .u8 (c.toNat : Int)] := by simp [u8s]
theorem u8s_append (l m : List UInt8) : u8s (l ++ m) = u8s l ++ u8s m := by simp [u8s]
theorem u8s_length (l : List UInt8) : (u8s l).length = l.length := by simp [u8s]

/-- v is a slice of the call's own (blocks from base on) that holds the bytes l. -/
def Bytes (base : Nat) (w : World) (v : Value) (l : List UInt8) : Prop := w.ownsRow base 5 1 v l.length (u8s l)

theorem Bytes.nil (base : Nat) (w : World) : Bytes base w (.slice none 0 0) [] := World.ownsRow_nil _ _ _ _
theorem Bytes.alloc {base : Nat} {w : World} {v : Value} {l : List UInt8} (h : Bytes base w v l) (o : Obj) : Bytes base (w.alloc o) v l := World.ownsRow.alloc h o
theorem Bytes.drewN {base : Nat} {w : World} {v : Value} {l : List UInt8} {n : Nat} (h : Bytes base w v l) : Bytes base (w.drewN n) v l := h
theorem Bytes.drew {base : Nat} {w : World} {v : Value} {l : List UInt8} (h : Bytes base w v l) : Bytes base w.drew v l := h
theorem Bytes.setCell {base : Nat} {w : World} {v : Value} {l : List UInt8} {p : Addr} {u : Value} (hp : p.block < base) (h : Bytes base w v l) : Bytes base (w.setCell p u) v l := ownsRow_setCell_below h hp u
theorem new_cell (w : World) (v : Value) (t : TypeId) (f : Nat × Nat) : (w.alloc (.cells #[v] t f)).cell? ⟨w.heap.size, 0, none⟩ = some v := World.cell?_alloc_mark w #[v] t f 0
theorem new_block (w : World) (o : Obj) : (w.alloc o).heap[w.heap.size]? = some o := by
  show (w.heap.push o)[w.heap.size]? = _
  simp
/-- []byte{x} -/
theorem Bytes.new1 (w : World) (x : UInt8) : Bytes w.heap.size (w.alloc (.cells #[.int .u8 x.toNat] 5)) (.slice (some ⟨w.heap.size, 0, none⟩) 1 1) [x] :=
  ⟨rfl, Or.inr ⟨w.heap.size, 1, _, rfl, Nat.le_refl _, new_block _ _, Nat.le_refl _, by simp [maxLen], rfl, rfl⟩⟩
theorem Bytes.form {base : Nat} {w : World} {v : Value} {l : List UInt8} (h : Bytes base w v l) : ∃ a c, v = .slice a l.length c := by
  rcases h.2 with ⟨hv, hn⟩ | ⟨g, cap, cur, hv, _⟩
  · exact ⟨none, 0, by rw [hv, hn]⟩
  · exact ⟨_, _, hv⟩
/-- what is owned stays, where its own block stays -/
theorem Bytes.fr {base : Nat} {w w' : World} {v : Value} {l : List UInt8} {S : Nat → Prop} (h : Bytes base w v l) (hf : Fr S w w') (hS : ∀ k, S k → k < base) : Bytes base w' v l := by
  obtain ⟨h1, h2⟩ := h
  refine ⟨h1, ?_⟩
  rcases h2 with h2 | ⟨g, cap, cur, hv, hg, hh, r⟩
  · exact Or.inl h2
  · exact Or.inr ⟨g, cap, cur, hv, hg, hf.keep hh (fun hs => absurd (hS g hs) (by omega)), r⟩
theorem Bytes.block {base : Nat} {w : World} {v : Value} {l : List UInt8} (h : Bytes base w v l) : ∀ k, v.ownBlock = some k → base ≤ k := by
  intro k hk
  rcases h.2 with ⟨hv, _⟩ | ⟨g, cap, cur, hv, hg, _⟩
  · rw [hv] at hk; simp [Value.ownBlock] at hk
  · rw [hv] at hk; simp [Value.ownBlock] at hk; omega

/-- string(b) -/
theorem Bytes.text {base : Nat} {w : World} {a : Option Addr} {n c : Nat} {l : List UInt8} (h : Bytes base w (.slice a n c) l) :
    (convert 95 9 (.slice a n c)).run Tryz.prog w = .ok (.string ⟨l.toArray⟩) w := by
  obtain ⟨h1, h2⟩ := h
  rcases h2 with ⟨hv, hn⟩ | ⟨g, cap, cur, hv, hg, hh, h3, h4, h5, h6⟩
  · cases hv
    have : l = [] := List.eq_nil_of_length_eq_zero hn
    subst this
    exact run_convert_bytes_nil (P := Tryz.prog) w 95 5 Tryz.underlying95 Tryz.underlying5 0 0 9 Tryz.underlying9
  · cases hv
    refine run_convert_bytes_back (P := Tryz.prog) w 95 9 5 ⟨g, 0, none⟩ c l Tryz.underlying95 Tryz.underlying5 Tryz.underlying9 ?_
    intro j hj
    have hj2 : j < l.length * 1 := by omega
    have e : (cur.toList.take (l.length * 1))[j]? = some (.int .u8 (l[j].toNat : Int)) := by
      rw [h6]; simp [u8s, hj]
    rw [List.getElem?_take_of_lt hj2] at e
    have e2 : cur[j]? = some (.int .u8 (l[j].toNat : Int)) := by simpa using e
    have ea : (Addr.add ⟨g, 0, none⟩ j) = ⟨g, j, none⟩ := by unfold Addr.add; split <;> simp_all
    rw [ea]
    simp [World.cell?, hh, e2]

/-- b = append(b, x): one byte -/
theorem wpList_byte {ops : Array Oper} {rest : List Oper} {o : Oper} {a : Act} {Q : Exit → Act → World → Prop} {w : World} (hgd : o.guard = none) (s x : Operand)
    (ho : o.op = .call { callee := .builtin .append, args := #[s, x], argTypes := #[95, 95] }) (base : Nat) (v : Value) (l : List UInt8) (hs : a.eval s = v) (hown : Bytes base w v l)
    (ad : Addr) (c : Nat) (y : UInt8) (hx : a.eval x = .slice (some ad) 1 c) (hy : w.cell? ad = some (.int .u8 (y.toNat : Int))) (hlen : l.length < 70368744177664) (hbase : base ≤ w.heap.size)
    (h : ∀ v' w', Bytes base w' v' (l ++ [y]) → w.grownBy w' v.ownBlock → wpList Tryz.prog ops Q rest (a.put o.dst v') w') : wpList Tryz.prog ops Q (o :: rest) a w := by
  obtain ⟨i0, hi, hz0, hz1, hz2⟩ := info_parts info_u8
  refine wpList_append_own w hgd s x 95 ho base 5 i0 (.int .u8 0) 1 1 Tryz.underlying95 hi hz0 hz1 hz2 rfl (by decide) v l.length (u8s l) hs hown ad 1 c [.int .u8 (y.toNat : Int)] hx rfl ?_ ?_ ?_ ?_ hbase ?_
  · intro j u hj
    match j, hj with
    | 0, hj => simp at hj; subst hj; simpa [Addr.add] using hy
  · intro u hu; simp at hu; subst hu; rfl
  · unfold maxLen; omega
  · omega
  · intro v' w' h1 h2 _
    exact h v' w' (by unfold Bytes; rw [u8s_snoc]; simpa using h1) h2
end Go.Proofs.YtkoobhgedoanhaaGreatDoor

namespace Go.Proofs.YtkoobhgedoanhaaGreatDoor
open Go.RowKit

def wbRen : Go.Shelf.Ren := ⟨fun | 167 => 99 | 240 => 111 | 276 => 154 | n => n, fun | 70 => 94 | 9 => 9 | 72 => 97 | 37 => 95 | 164 => 183 | 20 => 20 | 75 => 30 | 80 => 102 | 5 => 5 | 79 => 144 | n => n, fun | n => n⟩
theorem wbLays : Go.Proofs.Lays.n167 Tryz.prog wbRen := {
  mixed := by kernel_rfl
  f167 := Tryz.func99.trans (congrArg some (by kernel_rfl))
  f240 := Tryz.func111.trans (congrArg some (by kernel_rfl))
  f276 := Tryz.func154.trans (congrArg some (by kernel_rfl))
  t0 := Tryz.underlying0
  a0 := Tryz.isAgg0
  z0 := Tryz.sizeOf0
  v0 := Tryz.zeroValue0
  t4 := Tryz.underlying4
  a4 := Tryz.isAgg4
  z4 := Tryz.sizeOf4
  v4 := Tryz.zeroValue4
  t5 := Tryz.underlying5
  a5 := Tryz.isAgg5
  z5 := Tryz.sizeOf5
  v5 := Tryz.zeroValue5
  t9 := Tryz.underlying9
  a9 := Tryz.isAgg9
  z9 := Tryz.sizeOf9
  v9 := Tryz.zeroValue9
  t20 := Tryz.underlying20
  a20 := Tryz.isAgg20
  z20 := Tryz.sizeOf20
  v20 := Tryz.zeroValue20
  t37 := Tryz.underlying95
  a37 := Tryz.isAgg95
  z37 := Tryz.sizeOf95
  v37 := Tryz.zeroValue95
  t70 := Tryz.underlying94
  a70 := Tryz.isAgg94
  z70 := Tryz.sizeOf94
  v70 := Tryz.zeroValue94
  t72 := Tryz.underlying97
  a72 := Tryz.isAgg97
  z72 := Tryz.sizeOf97
  v72 := Tryz.zeroValue97
  t75 := Tryz.underlying30
  a75 := Tryz.isAgg30
  z75 := Tryz.sizeOf30
  v75 := Tryz.zeroValue30
  t164 := Tryz.underlying183
  a164 := Tryz.isAgg183
  z164 := Tryz.sizeOf183
  v164 := Tryz.zeroValue183 }
theorem wbExtra : Builder.Extra Tryz.prog wbRen := {
  sizeBuilder := by kernel_rfl
  liesBuilder := by kernel_rfl
  t5 := Tryz.underlying5
  a5 := Tryz.isAgg5
  z5 := Tryz.sizeOf5
  v5 := Tryz.zeroValue5
  infoByte := by kernel_rfl
  cellsByte := by kernel_rfl
  sizeByte := by kernel_rfl
  neB5 := by decide }

/-- a builder that holds the bytes l -/
def Bld (B b : Nat) (l : List UInt8) (w : World) : Prop := Lib.IsBuilder 97 5 B b (u8s l) w

/-- (*strings.Builder).WriteByte, under Go's own limit -/
theorem WriteByte_any (B b : Nat) (l : List UInt8) (c : UInt8) (w : World) (h : Bld B b l w) (hlen : l.length + 1 ≤ 140737488355328) (hBw : B ≤ w.heap.size) :
    Calls Tryz.prog 99 #[.pointer (some ⟨b, 0, none⟩), .int .u8 c.toNat] w fun e w' => e = .returned .nilIface ∧ Bld B b (l ++ [c]) w' ∧ Below B w w' :=
  (Any.Builder_WriteByte wbLays wbExtra B b (u8s l) c.toNat w h (by rw [u8s_length]; exact hlen) hBw).mono fun e w' ⟨he, hb, hw⟩ => ⟨he, by unfold Bld; rw [u8s_snoc]; exact Or.inr hb, hw⟩

/-- (*strings.Builder).String -/
theorem BString_any (B b : Nat) (l : List UInt8) (w : World) (h : Bld B b l w) (hBw : B ≤ w.heap.size) :
    Calls Tryz.prog 56 #[.pointer (some ⟨b, 0, none⟩)] w fun e w' => e = .returned (.string ⟨l.toArray⟩) ∧ Below B w w' :=
  Tryz.Builder_String_any B b l w h hBw

theorem Fr.thenBelow {S : Nat → Prop} {a w w' : World} (h : Fr S a w) (g : Below a.heap.size w w') : Fr S a w' :=
  h.step (Fr.ofBelow (S := fun k => a.heap.size ≤ k) g (fun _ _ h => h)) (fun k hk hT => absurd hT (by omega))
theorem Bld.new (w : World) : Bld w.heap.size w.heap.size [] (w.alloc (.cells #[.pointer none, .slice none 0 0] 97)) :=
  Or.inl ⟨Nat.le_refl _, _, new_block w _, World.ownsRow_nil _ _ _ _, by simp [Value.ownBlock]⟩
end Go.Proofs.YtkoobhgedoanhaaGreatDoor

namespace Go.Proofs.YtkoobhgedoanhaaGreatDoor
open Go.RowKit

def wsRen : Go.Shelf.Ren := ⟨fun | 166 => 52 | 240 => 111 | 276 => 154 | n => n, fun | 70 => 94 | 9 => 9 | 72 => 97 | 37 => 95 | 164 => 183 | 20 => 20 | 75 => 30 | 80 => 102 | 5 => 5 | 3 => 3 | n => n, fun | n => n⟩
theorem wsLays : Go.Proofs.Lays.n166 Tryz.prog wsRen := {
  mixed := by kernel_rfl
  f166 := Tryz.func52.trans (congrArg some (by kernel_rfl))
  f240 := Tryz.func111.trans (congrArg some (by kernel_rfl))
  f276 := Tryz.func154.trans (congrArg some (by kernel_rfl))
  t0 := Tryz.underlying0
  a0 := Tryz.isAgg0
  z0 := Tryz.sizeOf0
  v0 := Tryz.zeroValue0
  t3 := Tryz.underlying3
  a3 := Tryz.isAgg3
  z3 := Tryz.sizeOf3
  v3 := Tryz.zeroValue3
  t4 := Tryz.underlying4
  a4 := Tryz.isAgg4
  z4 := Tryz.sizeOf4
  v4 := Tryz.zeroValue4
  t9 := Tryz.underlying9
  a9 := Tryz.isAgg9
  z9 := Tryz.sizeOf9
  v9 := Tryz.zeroValue9
  t20 := Tryz.underlying20
  a20 := Tryz.isAgg20
  z20 := Tryz.sizeOf20
  v20 := Tryz.zeroValue20
  t37 := Tryz.underlying95
  a37 := Tryz.isAgg95
  z37 := Tryz.sizeOf95
  v37 := Tryz.zeroValue95
  t70 := Tryz.underlying94
  a70 := Tryz.isAgg94
  z70 := Tryz.sizeOf94
  v70 := Tryz.zeroValue94
  t72 := Tryz.underlying97
  a72 := Tryz.isAgg97
  z72 := Tryz.sizeOf97
  v72 := Tryz.zeroValue97
  t75 := Tryz.underlying30
  a75 := Tryz.isAgg30
  z75 := Tryz.sizeOf30
  v75 := Tryz.zeroValue30
  t164 := Tryz.underlying183
  a164 := Tryz.isAgg183
  z164 := Tryz.sizeOf183
  v164 := Tryz.zeroValue183 }
theorem wsExtra : Builder.Extra Tryz.prog wsRen := {
  sizeBuilder := by kernel_rfl
  liesBuilder := by kernel_rfl
  t5 := Tryz.underlying5
  a5 := Tryz.isAgg5
  z5 := Tryz.sizeOf5
  v5 := Tryz.zeroValue5
  infoByte := by kernel_rfl
  cellsByte := by kernel_rfl
  sizeByte := by kernel_rfl
  neB5 := by decide }
/-- a builder that holds the bytes l -/
def BldF (B b : Nat) (l : List UInt8) (w : World) : Prop := Lib.IsBuilderF 97 5 B b (u8s l) w
/-- what is no builder b and no row of bytes stands as it stood -/
abbrev OthK (b : Nat) (w w' : World) : Prop := Lib.OthersKept 5 (some b) w w'
theorem strCells_u8s (s : ByteArray) : Lib.strCells s = u8s s.data.toList := by
  unfold Lib.strCells u8s
  rfl
theorem u8s_app (a b : List UInt8) : u8s (a ++ b) = u8s a ++ u8s b := by unfold u8s; simp
/-- (*strings.Builder).WriteString -/
theorem WriteString_any (B b : Nat) (l : List UInt8) (s : ByteArray) (w : World) (h : BldF B b l w) (hlen : l.length + s.size ≤ 140737488355328) (hBw : B ≤ w.heap.size) :
    Calls Tryz.prog 52 #[.pointer (some ⟨b, 0, none⟩), .string s] w fun e w' => e = .returned (.tuple #[.int .i64 s.size, .nilIface]) ∧ BldF B b (l ++ s.data.toList) w' ∧ Below B w w' ∧ OthK b w w' := by
  refine (Any.Builder_WriteString_k wsLays wsExtra B b (u8s l) s w h (by rw [u8s_length]; exact hlen) hBw).mono ?_
  rintro e w' ⟨he, hb, hw, ho⟩
  refine ⟨he, ?_, hw, ho⟩
  unfold BldF
  rw [u8s_app, ← strCells_u8s]
  exact Or.inr hb
theorem BLen_any (B b : Nat) (l : List UInt8) (w : World) (h : BldF B b l w) :
    Calls Tryz.prog 54 #[.pointer (some ⟨b, 0, none⟩)] w fun e w' => e = .returned (.int .i64 l.length) ∧ w = w' := by
  refine (Tryz.Builder_Len_f B b (u8s l) w h).mono ?_
  rintro e w' ⟨rfl, rfl⟩
  exact ⟨by rw [u8s_length], rfl⟩
end Go.Proofs.YtkoobhgedoanhaaGreatDoor

namespace Go.Proofs.YtkoobhgedoanhaaGreatDoor
open Go.RowKit

/-- token.text -/
def textN (n : Nat) : Bool := n == 9 || (decide (32 ≤ n) && n != 127)
def textB (c : UInt8) : Bool := textN c.toNat

set_option maxHeartbeats 400000 in
theorem text_any (c : UInt8) (w : World) :
    Calls Tryz.prog 109 #[.int .u8 c.toNat] w fun e w' => e = .returned (.bool (textB c)) ∧ w = w' := by
  go_enter Tryz.func109, Tryz.ntmps109
  go_wp2
  all_goals
    go_ret
    refine ⟨ret_bool ?_, rfl⟩
    rw [Bool.eq_iff_iff]
    simp [textB, textN]
    omega

/-- token.Byte -/
def marks : List UInt8 := [33, 35, 36, 37, 38, 39, 42, 43, 45, 46, 94, 95, 124, 126, 96]
def isMark (c : UInt8) : Bool := decide (0 ≤ Lib.indexByte marks c)
theorem mark_iff (c : UInt8) : 0 ≤ Lib.indexByte [33, 35, 36, 37, 38, 39, 42, 43, 45, 46, 94, 95, 124, 126, 96] c ↔ isMark c = true := by
  unfold isMark marks; rw [decide_eq_true_iff]
def byteB (c : UInt8) : Bool := alnumB c || isMark c

set_option maxHeartbeats 400000 in
theorem Byte_any (c : UInt8) (w : World) :
    Calls Tryz.prog 110 #[.int .u8 c.toNat] w fun e w' => e = .returned (.bool (byteB c)) ∧ w = w' := by
  go_enter Tryz.func110, Tryz.ntmps110
  go_wp2_with (go_at_call 135; refine (Tryz.strings_IndexByte _ _ _).mono ?_; rintro e w' ⟨rfl, rfl⟩)
  all_goals
    go_ret
    refine ⟨ret_bool ?_, rfl⟩
    rw [Bool.eq_iff_iff]
    simp [byteB, alnumB, mark_iff]
    cases isMark c <;> simp <;> omega

/-- A cursor: a block of two cells, the text and the place. -/
def CurAt (w : World) (b : Nat) (s : ByteArray) (i : Nat) : Prop := w.heap[b]? = some (.cells #[.string s, .int .i64 i] 154 (0, 0))

theorem CurAt.cell0 {w : World} {b i : Nat} {s : ByteArray} (h : CurAt w b s i) : w.cell? ⟨b, 0, none⟩ = some (.string s) := by simp [World.cell?, show w.heap[b]? = _ from h]
theorem CurAt.cell1 {w : World} {b i : Nat} {s : ByteArray} (h : CurAt w b s i) : w.cell? ⟨b, 1, none⟩ = some (.int .i64 i) := by simp [World.cell?, show w.heap[b]? = _ from h]
theorem CurAt.free {w : World} {b i : Nat} {s : ByteArray} (h : CurAt w b s i) (k : Nat) : w.frozen? ⟨b, k, none⟩ = false := by simp [World.frozen?, show w.heap[b]? = _ from h]

set_option maxHeartbeats 400000 in
theorem On_any (s : ByteArray) (w : World) :
    Calls Tryz.prog 46 #[.string s] w fun e w' => e = .returned (.pointer (some ⟨w.heap.size, 0, none⟩)) ∧ w' = w.alloc (.cells #[.string s, .int .i64 0] 154 (0, 0)) := by
  go_enter Tryz.func46, Tryz.ntmps46
  go_wp2
  go_ret
  exact ⟨rfl, rfl⟩

set_option maxHeartbeats 400000 in
theorem At_any (b : Nat) (s : ByteArray) (i : Nat) (w : World) (h : CurAt w b s i) :
    Calls Tryz.prog 49 #[.pointer (some ⟨b, 0, none⟩)] w fun e w' => e = .returned (.int .i64 i) ∧ w = w' := by
  have h0 := h.cell0
  have h1 := h.cell1
  go_enter Tryz.func49, Tryz.ntmps49
  go_wp2
  go_ret
  exact ⟨rfl, rfl⟩

set_option maxHeartbeats 400000 in
theorem End_any (b : Nat) (s : ByteArray) (i : Nat) (w : World) (h : CurAt w b s i) :
    Calls Tryz.prog 58 #[.pointer (some ⟨b, 0, none⟩)] w fun e w' => e = .returned (.bool (decide (s.size ≤ i))) ∧ ∃ n, w' = w.drewN n := by
  have h0 := h.cell0
  have h1 := h.cell1
  go_enter Tryz.func58, Tryz.ntmps58
  go_wp2
  go_quiet (fail)
  go_wp2
  go_ret
  exact ⟨rfl, _, rfl⟩

/-- the block's number alone -/

theorem CurAt.setCell {w : World} {b i j : Nat} {s : ByteArray} (h : CurAt w b s i) : CurAt (w.setCell ⟨b, 1, none⟩ (.int .i64 j)) b s j := by
  unfold CurAt at *
  simp [World.setCell, Array.getElem?_modify, h]
theorem CurAt.drewN {w : World} {b i : Nat} {s : ByteArray} (h : CurAt w b s i) (n : Nat) : CurAt (w.drewN n) b s i := h
theorem CurAt.lt {w : World} {b i : Nat} {s : ByteArray} (h : CurAt w b s i) : b < w.heap.size := lt_of_some h


/-- a cursor over s, wherever it stands -/
def CurBlk (w : World) (b : Nat) (s : ByteArray) : Prop := ∃ v, w.heap[b]? = some (.cells #[.string s, v] 154 (0, 0))
theorem CurAt.blk {w : World} {b i : Nat} {s : ByteArray} (h : CurAt w b s i) : CurBlk w b s := ⟨_, h⟩
theorem CurBlk.set {w : World} {b : Nat} {s : ByteArray} {u : Value} (h : CurBlk w b s) : CurBlk (w.setCell ⟨b, 1, none⟩ u) b s := by
  obtain ⟨v, h⟩ := h
  exact ⟨u, by simp [World.setCell, Array.getElem?_modify, h]⟩
theorem CurBlk.drewN {w : World} {b n : Nat} {s : ByteArray} (h : CurBlk w b s) : CurBlk (w.drewN n) b s := h
theorem CurBlk.drew {w : World} {b : Nat} {s : ByteArray} (h : CurBlk w b s) : CurBlk w.drew b s := h
theorem CurBlk.at {w : World} {b j : Nat} {s : ByteArray} (h : CurBlk w b s) : CurAt (w.setCell ⟨b, 1, none⟩ (.int .i64 j)) b s j := by
  obtain ⟨v, h⟩ := h
  unfold CurAt
  simp [World.setCell, Array.getElem?_modify, h]
theorem CurAt.alloc {w : World} {b i : Nat} {s : ByteArray} {o : Obj} (h : CurAt w b s i) : CurAt (w.alloc o) b s i := by
  have hb := h.lt
  unfold CurAt at *
  rw [Below.heap_alloc _ _ _ hb]; exact h
theorem CurAt.fr {w w' : World} {b i : Nat} {s : ByteArray} {S : Nat → Prop} (h : CurAt w b s i) (hf : Fr S w w') (hn : ¬ S b) : CurAt w' b s i := hf.keep h hn

/-- Mark: whether the byte stands there. -/
def markB (s : ByteArray) (i : Nat) (c : UInt8) : Bool := decide (s.data.toList[i]? = some c)
/-- where the cursor is behind Mark -/
def markTo (s : ByteArray) (i : Nat) (c : UInt8) : Nat := if markB s i c then i + 1 else i
theorem markB_yes {s : ByteArray} {i : Nat} {c : UInt8} (hi : i < s.size) (hc : s[i] = c) : markB s i c = true := by simp [markB, byte_at s i hi, hc]
theorem markB_no {s : ByteArray} {i : Nat} {c : UInt8} (hi : i < s.size) (hc : ¬ s[i] = c) : markB s i c = false := by simp [markB, byte_at s i hi, hc]
theorem markB_end {s : ByteArray} {i : Nat} {c : UInt8} (hi : ¬ i < s.size) : markB s i c = false := by simp [markB, byte_off s i hi]
theorem markTo_yes {s : ByteArray} {i : Nat} {c : UInt8} (h : markB s i c = true) : markTo s i c = i + 1 := by simp [markTo, h]
theorem markTo_no {s : ByteArray} {i : Nat} {c : UInt8} (h : markB s i c = false) : markTo s i c = i := by simp [markTo, h]
theorem byte_ne {a c : UInt8} (h : ¬ a = c) : ((a.toNat : Int) == (c.toNat : Int)) = false := by
  rw [beq_eq_false_iff_ne]; intro e; exact h (UInt8.toNat_inj.1 (by omega))
set_option maxHeartbeats 400000 in
theorem Mark_any (b : Nat) (s : ByteArray) (i : Nat) (c : UInt8) (w : World) (h : CurAt w b s i) (hs : s.size ≤ maxLen) :
    Calls Tryz.prog 108 #[.pointer (some ⟨b, 0, none⟩), .int .u8 c.toNat] w fun e w' => e = .returned (.bool (markB s i c)) ∧ CurAt w' b s (markTo s i c) ∧ Fr (one b) w w' := by
  have h0 := h.cell0
  have h1 := h.cell1
  have hf := h.free 1
  unfold maxLen at hs
  by_cases hi : i < s.size
  · have hd : decide (i < s.size) = true := by simp [hi]
    by_cases hc : s[i] = c
    · rw [markB_yes hi hc, markTo_yes (markB_yes hi hc)]
      have hn : ((s[i].toNat : Int) == (c.toNat : Int)) = true := by simp [hc]
      clear hc
      go_enter Tryz.func108, Tryz.ntmps108
      go_wp2
      go_quiet (fail)
      go_wp2
      go_ret
      exact ⟨rfl, (h.setCell (j := i + 1)).drewN _, Fr.one_set w b _ _⟩
    · rw [markB_no hi hc, markTo_no (markB_no hi hc)]
      have hn := byte_ne hc
      clear hc
      go_enter Tryz.func108, Tryz.ntmps108
      go_wp2
      go_quiet (fail)
      go_wp2
      go_ret
      exact ⟨rfl, h.drewN _, (Fr.refl _ _).drewN _⟩
  · have hd : decide (i < s.size) = false := by simp; omega
    rw [markB_end hi, markTo_no (markB_end hi)]
    go_enter Tryz.func108, Tryz.ntmps108
    go_wp2
    go_quiet (fail)
    go_wp2
    go_ret
    exact ⟨rfl, h, (Fr.refl _ _).drewN _⟩

end Go.Proofs.YtkoobhgedoanhaaGreatDoor

namespace Go.Proofs.YtkoobhgedoanhaaGreatDoor
open Go.RowKit

/-- behind the longest stretch of bytes with p, from i on -/
def spanEnd (p : UInt8 → Bool) (l : List UInt8) (i : Nat) : Nat := i + ((l.drop i).takeWhile p).length
theorem spanEnd_step {p : UInt8 → Bool} {l : List UInt8} {i : Nat} {c : UInt8} (h : l[i]? = some c) (hp : p c = true) : spanEnd p l i = spanEnd p l (i + 1) := by
  have hi : i < l.length := by
    rcases Nat.lt_or_ge i l.length with g | g
    · exact g
    · simp [List.getElem?_eq_none g] at h
  unfold spanEnd
  have e : l.drop i = c :: l.drop (i + 1) := by
    rw [List.drop_eq_getElem_cons hi]
    rw [List.getElem?_eq_getElem hi] at h
    simp at h; rw [h]
  rw [e, List.takeWhile_cons_of_pos hp]
  simp; omega
theorem spanEnd_stop {p : UInt8 → Bool} {l : List UInt8} {i : Nat} (h : ∀ c, l[i]? = some c → p c = false) : spanEnd p l i = i := by
  unfold spanEnd
  rcases Nat.lt_or_ge i l.length with g | g
  · rw [List.drop_eq_getElem_cons g, List.takeWhile_cons_of_neg]
    · rfl
    · have := h l[i] (List.getElem?_eq_getElem g); simp [this]
  · simp [List.drop_eq_nil_of_le g]
theorem spanEnd_le {p : UInt8 → Bool} {l : List UInt8} {i : Nat} (h : i ≤ l.length) : spanEnd p l i ≤ l.length := by
  unfold spanEnd
  have := (List.takeWhile_prefix p (l := l.drop i)).length_le
  simp at this; omega
theorem spanEnd_ge {p : UInt8 → Bool} {l : List UInt8} {i : Nat} : i ≤ spanEnd p l i := by unfold spanEnd; omega

/-- the place of a cursor in a world -/
def curPos (w : World) (b : Nat) : Nat := match w.cell? ⟨b, 1, none⟩ with | some (.int _ n) => n.toNat | _ => 0
theorem CurAt.pos {w : World} {b i : Nat} {s : ByteArray} (h : CurAt w b s i) : curPos w b = i := by simp [curPos, h.cell1]

theorem meas_lt {w : World} {b k : Nat} {s : ByteArray} (h : CurAt w b s (k + 1)) (hk : k < s.size) : s.size - curPos w b < s.size - k := by rw [h.pos]; omega

def blankB (c : UInt8) : Bool := c == 32 || c == 9

theorem u8_eq {c : UInt8} (n : Nat) (hn : n < 256) : ((c.toNat : Int) == (n : Int)) = (c == n.toUInt8) := by
  rw [Bool.eq_iff_iff, beq_iff_eq, beq_iff_eq, ← UInt8.toNat_inj]
  have : (n.toUInt8).toNat = n := by simp; omega
  rw [this]; omega

set_option maxHeartbeats 1000000 in
theorem Blanks_any (b : Nat) (s : ByteArray) (i : Nat) (w : World) (h : CurAt w b s i) (hs : s.size ≤ maxLen) (hi : i ≤ s.size) :
    Calls Tryz.prog 106 #[.pointer (some ⟨b, 0, none⟩)] w fun e w' => e = .returned (.bool (decide (i < spanEnd blankB s.data.toList i))) ∧ CurAt w' b s (spanEnd blankB s.data.toList i) ∧ Fr (one b) w w' := by
  have h0 := h.cell0
  have h1 := h.cell1
  unfold maxLen at hs
  go_enter Tryz.func106, Tryz.ntmps106
  go_wp2
  clear h0 h1
  go_loopw [] (fun wr => ∃ k, i ≤ k ∧ k ≤ s.size ∧ CurAt wr b s k ∧ spanEnd blankB s.data.toList k = spanEnd blankB s.data.toList i ∧ Fr (one b) w wr) (fun wr => s.size - curPos wr b)
  case atStart => exact ⟨i, Nat.le_refl _, hi, h, rfl, Fr.refl _ _⟩
  case round =>
    obtain ⟨k, hik, hks, hc, hsp, hfr⟩ := hrel
    have HSP := Lib.hid hsp
    clear hsp
    have h0 := hc.cell0
    have h1 := hc.cell1
    have hf := hc.free 1
    have hpos := Lib.hid hc.pos
    by_cases hk : k < s.size
    · have hd : decide (k < s.size) = true := by simp [hk]
      have hat := Lib.hid (byte_at s k hk)
      generalize hx : s[k] = x at hat
      have go : blankB x = true → spanEnd blankB s.data.toList (k + 1) = spanEnd blankB s.data.toList i := fun hb => (spanEnd_step hat.out hb).symm.trans HSP.out
      have GO := Lib.hid go
      clear go
      cases e1 : x == 32
      · have n1 : ((x.toNat : Int) == 32) = false := by rw [← e1]; exact u8_eq 32 (by decide)
        cases e2 : x == 9
        · have n2 : ((x.toNat : Int) == 9) = false := by rw [← e2]; exact u8_eq 9 (by decide)
          have hstop := Lib.hid (spanEnd_stop (p := blankB) (l := s.data.toList) (i := k) (fun c hcc => by rw [hat.out] at hcc; cases hcc; simp [blankB, e1, e2]))
          clear e1 e2
          go_wp2
          go_quiet (fail)
          go_wp2
          go_ret
          rw [← HSP.out, hstop.out]
          exact ⟨rfl, hc, by repeat (first | exact hfr | apply Fr.drewN)⟩
        · have n2 : ((x.toNat : Int) == 9) = true := by rw [← e2]; exact u8_eq 9 (by decide)
          have hn := Lib.hid (GO.out (by simp [blankB, e2]))
          clear e1 e2
          go_wp2
          go_quiet (fail)
          go_wp2
          go_roundw
          case rel => exact ⟨k + 1, by omega, by omega, (hc.setCell (j := k + 1)).drewN _, hn.out, hfr.trans (Fr.one_set wr b _ _)⟩
          case measure => rw [hpos.out]; exact meas_lt (hc.setCell (j := k + 1)) hk
      · have n1 : ((x.toNat : Int) == 32) = true := by rw [← e1]; exact u8_eq 32 (by decide)
        have hn := Lib.hid (GO.out (by simp [blankB, e1]))
        clear e1
        go_wp2
        go_quiet (fail)
        go_wp2
        go_roundw
        case rel => exact ⟨k + 1, by omega, by omega, (hc.setCell (j := k + 1)).drewN _, hn.out, hfr.trans (Fr.one_set wr b _ _)⟩
        case measure => rw [hpos.out]; exact meas_lt (hc.setCell (j := k + 1)) hk
    · have hd : decide (k < s.size) = false := by simp; omega
      have hstop := Lib.hid (spanEnd_stop (p := blankB) (l := s.data.toList) (i := k) (fun c hcc => by rw [byte_off s k hk] at hcc; cases hcc))
      go_wp2
      go_quiet (fail)
      go_wp2
      go_ret
      rw [← HSP.out, hstop.out]
      exact ⟨rfl, hc, by repeat (first | exact hfr | apply Fr.drewN)⟩

set_option maxHeartbeats 1000000 in
theorem Word_any (b : Nat) (s : ByteArray) (i : Nat) (w : World) (h : CurAt w b s i) (hs : s.size ≤ maxLen) (hi : i ≤ s.size) :
    Calls Tryz.prog 107 #[.pointer (some ⟨b, 0, none⟩)] w fun e w' => e = .returned (.string (s.extract i (spanEnd byteB s.data.toList i))) ∧ CurAt w' b s (spanEnd byteB s.data.toList i) ∧ Fr (one b) w w' := by
  have h0 := h.cell0
  have h1 := h.cell1
  unfold maxLen at hs
  go_enter Tryz.func107, Tryz.ntmps107
  go_wp2
  clear h0 h1
  go_loopw [] (fun wr => ∃ k, i ≤ k ∧ k ≤ s.size ∧ CurAt wr b s k ∧ spanEnd byteB s.data.toList k = spanEnd byteB s.data.toList i ∧ Fr (one b) w wr) (fun wr => s.size - curPos wr b)
  case atStart => exact ⟨i, Nat.le_refl _, hi, h, rfl, Fr.refl _ _⟩
  case round =>
    obtain ⟨k, hik, hks, hc, hsp, hfr⟩ := hrel
    have HSP := Lib.hid hsp
    clear hsp
    have h0 := hc.cell0
    have h1 := hc.cell1
    have hf := hc.free 1
    have hpos := Lib.hid hc.pos
    by_cases hk : k < s.size
    · have hd : decide (k < s.size) = true := by simp [hk]
      have hat := Lib.hid (byte_at s k hk)
      generalize hx : s[k] = x at hat
      have go : byteB x = true → spanEnd byteB s.data.toList (k + 1) = spanEnd byteB s.data.toList i := fun hb => (spanEnd_step hat.out hb).symm.trans HSP.out
      have GO := Lib.hid go
      clear go
      cases e1 : byteB x
      · have hstop := Lib.hid (spanEnd_stop (p := byteB) (l := s.data.toList) (i := k) (fun c hcc => by rw [hat.out] at hcc; cases hcc; exact e1))
        go_wp2
        go_quiet ((go_at_call 110; exact quiet_eq (Byte_any _ _)))
        go_wp2
        go_quiet (fail)
        go_wp2
        go_ret
        rw [← HSP.out, hstop.out]
        exact ⟨rfl, hc, by repeat (first | exact hfr | apply Fr.drewN)⟩
      · have hn := Lib.hid (GO.out e1)
        go_wp2
        go_quiet ((go_at_call 110; exact quiet_eq (Byte_any _ _)))
        go_wp2
        go_roundw
        case rel => exact ⟨k + 1, by omega, by omega, (hc.setCell (j := k + 1)).drewN _, hn.out, hfr.trans (Fr.one_set wr b _ _)⟩
        case measure => rw [hpos.out]; exact meas_lt (hc.setCell (j := k + 1)) hk
    · have hd : decide (k < s.size) = false := by simp; omega
      have hstop := Lib.hid (spanEnd_stop (p := byteB) (l := s.data.toList) (i := k) (fun c hcc => by rw [byte_off s k hk] at hcc; cases hcc))
      go_wp2
      go_quiet (fail)
      go_wp2
      go_quiet (fail)
      go_wp2
      go_ret
      rw [← HSP.out, hstop.out]
      exact ⟨rfl, hc, by repeat (first | exact hfr | apply Fr.drewN)⟩
end Go.Proofs.YtkoobhgedoanhaaGreatDoor

namespace Go.Proofs.YtkoobhgedoanhaaGreatDoor
open Go.RowKit

/-- what stands between marks: the text, and what is left behind the closing mark -/
def qgo : List UInt8 → Option (List UInt8 × List UInt8)
  | [] => none
  | x :: r =>
    if x == 34 then some ([], r)
    else if x == 92 then
      match r with
      | [] => none
      | y :: r' => if textB y then (qgo r').map (fun p => (y :: p.1, p.2)) else none
    else if textB x then (qgo r).map (fun p => (x :: p.1, p.2)) else none

/-- .. from byte k on, behind the text a -/
def qres (l : List UInt8) (k : Nat) (a : List UInt8) : Option (List UInt8 × Nat) := (qgo (l.drop k)).map (fun p => (a ++ p.1, l.length - p.2.length))

theorem qres_end {l : List UInt8} {k : Nat} {a : List UInt8} (h : l[k]? = none) : qres l k a = none := by
  unfold qres; rw [drop_off h]; simp [qgo]
theorem qres_mark {l : List UInt8} {k : Nat} {a : List UInt8} (h : l[k]? = some 34) : qres l k a = some (a, k + 1) := by
  have hk := (List.getElem?_eq_some_iff.1 h).1
  unfold qres; rw [drop_at h, qgo.eq_def]; simp; omega
theorem qres_text {l : List UInt8} {k : Nat} {a : List UInt8} {x : UInt8} (h : l[k]? = some x) (h1 : (x == 34) = false) (h2 : (x == 92) = false) (h3 : textB x = true) : qres l k a = qres l (k + 1) (a ++ [x]) := by
  unfold qres; rw [drop_at h]
  rw [qgo.eq_def]; simp only [h1, h2, h3, Bool.false_eq_true, if_false, if_true]
  cases qgo (l.drop (k + 1)) <;> simp
theorem qres_bad {l : List UInt8} {k : Nat} {a : List UInt8} {x : UInt8} (h : l[k]? = some x) (h1 : (x == 34) = false) (h2 : (x == 92) = false) (h3 : textB x = false) : qres l k a = none := by
  unfold qres; rw [drop_at h]
  rw [qgo.eq_def]; simp only [h1, h2, h3, Bool.false_eq_true, if_false, Option.map_none]
theorem qres_last {l : List UInt8} {k : Nat} {a : List UInt8} (h : l[k]? = some 92) (h1 : l[k + 1]? = none) : qres l k a = none := by
  unfold qres; rw [drop_at h, drop_off h1, qgo.eq_def]; simp
theorem qres_esc {l : List UInt8} {k : Nat} {a : List UInt8} {y : UInt8} (h : l[k]? = some 92) (h1 : l[k + 1]? = some y) (h3 : textB y = true) : qres l k a = qres l (k + 2) (a ++ [y]) := by
  unfold qres; rw [drop_at h, drop_at h1]
  rw [qgo.eq_def]; simp only [show ((92 : UInt8) == 34) = false from rfl, show ((92 : UInt8) == 92) = true from rfl, h3, Bool.false_eq_true, if_false, if_true]
  cases qgo (l.drop (k + 1 + 1)) <;> simp
theorem qres_escbad {l : List UInt8} {k : Nat} {a : List UInt8} {y : UInt8} (h : l[k]? = some 92) (h1 : l[k + 1]? = some y) (h3 : textB y = false) : qres l k a = none := by
  unfold qres; rw [drop_at h, drop_at h1]
  rw [qgo.eq_def]; simp only [show ((92 : UInt8) == 34) = false from rfl, show ((92 : UInt8) == 92) = true from rfl, h3, Bool.false_eq_true, if_false, if_true, Option.map_none]

/-- Quoted, as a whole: the text between marks that begins at i, and the place behind it -/
def quotedAt (l : List UInt8) (i : Nat) : Option (List UInt8 × Nat) := if l[i]? = some 34 then qres l (i + 1) [] else none
def quotedEnd (l : List UInt8) (i : Nat) : Nat := match quotedAt l i with | some p => p.2 | none => i
def quotedText (l : List UInt8) (i : Nat) : List UInt8 := match quotedAt l i with | some p => p.1 | none => []
def QuotedPost (b : Nat) (s : ByteArray) (i : Nat) (w : World) (e : Ending) (w' : World) : Prop :=
  e = .returned (.tuple #[.string ⟨(quotedText s.data.toList i).toArray⟩, .bool (quotedAt s.data.toList i).isSome]) ∧ CurAt w' b s (quotedEnd s.data.toList i) ∧ Fr (one b) w w'

theorem QuotedPost.none {b i : Nat} {s : ByteArray} {w w' : World} (h : quotedAt s.data.toList i = none) (hc : CurAt w' b s i) (hf : Fr (one b) w w') :
    QuotedPost b s i w (.returned (.tuple #[.string ⟨#[]⟩, .bool false])) w' := by
  refine ⟨?_, ?_, hf⟩
  · simp [quotedText, h]
  · simpa [quotedEnd, h] using hc
theorem QuotedPost.some {b i j : Nat} {s : ByteArray} {w w' : World} {a : List UInt8} (h : quotedAt s.data.toList i = some (a, j)) (hc : CurAt w' b s j) (hf : Fr (one b) w w') :
    QuotedPost b s i w (.returned (.tuple #[.string ⟨a.toArray⟩, .bool true])) w' := by
  refine ⟨?_, ?_, hf⟩
  · simp [quotedText, h]
  · simpa [quotedEnd, h] using hc

/-- at the head of a round -/
def QRel (b : Nat) (s : ByteArray) (i : Nat) (w : World) (v : Value) (wr : World) : Prop :=
  ∃ k a, k ≤ s.size ∧ a.length ≤ k ∧ CurAt wr b s k ∧ Bytes w.heap.size wr v a ∧ Fr (one b) w wr ∧ quotedAt s.data.toList i = qres s.data.toList k a

theorem q_next {b i k j : Nat} {s : ByteArray} {w wr wx w2 : World} {v v' : Value} {a l : List UInt8} (hlt : b < w.heap.size) (hcx : CurAt wx b s j) (hfx : Fr (one b) w wx) (hg : wx.grownBy w2 v.ownBlock)
    (hown : Bytes w.heap.size wr v a) (hown2 : Bytes w.heap.size w2 v' l) (hj : j ≤ s.size) (hl : l.length ≤ j) (hres : quotedAt s.data.toList i = qres s.data.toList j l) (hkj : k < j) (hpos : curPos wr b = k) :
    QRel b s i w v' w2 ∧ s.size - curPos w2 b < s.size - curPos wr b := by
  have hv := hown.block
  have hc2 : CurAt w2 b s j := by
    unfold CurAt at hcx ⊢
    rw [hg.block b (lt_of_some hcx) (fun e => by have := hv b e.symm; omega)]
    exact hcx
  refine ⟨⟨j, l, hj, hl, hc2, hown2, hfx.grown hg (fun k hk hs => by have := hv k hk; omega), hres⟩, ?_⟩
  rw [hpos, hc2.pos]; omega

set_option maxRecDepth 100000 in
set_option maxHeartbeats 1000000 in
theorem Quoted_any (b : Nat) (s : ByteArray) (i : Nat) (w : World) (h : CurAt w b s i) (hs : s.size < 70368744177664) :
    Calls Tryz.prog 47 #[.pointer (some ⟨b, 0, none⟩)] w (QuotedPost b s i w) := by
  have h0 := h.cell0
  have h1 := h.cell1
  have hm : s.size ≤ maxLen := by unfold maxLen; omega
  cases e1 : markB s i 34
  · have hq := Lib.hid (show quotedAt s.data.toList i = none by unfold quotedAt; rw [if_neg (by simpa [markB] using e1)])
    go_enter Tryz.func47, Tryz.ntmps47
    go_wp2_with fail
    refine (Mark_any b s i 34 w h hm).mono ?_
    rintro e w1 ⟨rfl, hc1, hf1⟩
    rw [markTo_no e1] at hc1
    rw [e1]
    clear e1 h0 h1
    have c0 := hc1.cell0
    have c1 := hc1.cell1
    have cf := hc1.free 1
    have hcb := hc1.blk
    go_wp2
    refine wp_loop_rounds 1 ?_
    rw [rounds_succ]
    go_wp2
    go_quiet (fail)
    go_wp2
    go_ret2
    exact QuotedPost.none hq.out (CurBlk.at (j := i) (by repeat (first | exact hcb | apply CurBlk.set | apply CurBlk.drewN))) (by repeat (first | exact hf1 | apply Fr.drewN | apply Fr.one_cell))
  · have hq := Lib.hid (show quotedAt s.data.toList i = qres s.data.toList (i + 1) [] by unfold quotedAt; rw [if_pos (by simpa [markB] using e1)])
    have hi1 : i + 1 ≤ s.size := by
      have : s.data.toList[i]? = some 34 := by simpa [markB] using e1
      have := (List.getElem?_eq_some_iff.1 this).1
      have h2 : i < s.size := by simpa using this
      omega
    go_enter Tryz.func47, Tryz.ntmps47
    go_wp2_with fail
    refine (Mark_any b s i 34 w h hm).mono ?_
    rintro e w1 ⟨rfl, hc1, hf1⟩
    rw [markTo_yes e1] at hc1
    rw [e1]
    clear e1 h0 h1
    go_wp2
    go_loopw [5] (QRel b s i w) (fun _ wr => s.size - curPos wr b)
    case atStart => exact ⟨i + 1, [], hi1, by simp, hc1, Bytes.nil _ _, hf1, hq.out⟩
    case round =>
      rename_i v wr
      obtain ⟨k, a, hk, ha, hc, hown, hfr, hres⟩ := hrel
      have HRES := Lib.hid hres
      clear hres
      have c0 := hc.cell0
      have c1 := hc.cell1
      have cf := hc.free 1
      have hcb := hc.blk
      have hpos := Lib.hid hc.pos
      obtain ⟨av, cv, hv⟩ := hown.form
      subst hv
      have hbB : b < w.heap.size := h.lt
      have htext : ∀ n u, (convert 95 9 (.slice av a.length cv)).run Tryz.prog ((wr.drewN n).setCell ⟨b, 1, none⟩ u) = .ok (.string ⟨a.toArray⟩) ((wr.drewN n).setCell ⟨b, 1, none⟩ u) := fun n u =>
        Bytes.text (Bytes.setCell (p := ⟨b, 1, none⟩) hbB (Bytes.drewN hown))
      have hlt : b < w.heap.size := h.lt
      have hbase : w.heap.size ≤ wr.heap.size := hfr.size
      by_cases hks : k < s.size
      · have hd : decide (k < s.size) = true := by simp [hks]
        have hat := Lib.hid (byte_at s k hks)
        generalize hx : s[k] = x at hat
        cases e1 : x == 34
        · have n1 : ((x.toNat : Int) == 34) = false := by rw [← e1]; exact u8_eq 34 (by decide)
          cases e2 : x == 92
          · have n2 : ((x.toNat : Int) == 92) = false := by rw [← e2]; exact u8_eq 92 (by decide)
            cases e3 : textB x
            · have hfin := Lib.hid (show quotedAt s.data.toList i = none by rw [HRES.out, qres_bad hat.out e1 e2 e3])
              clear e1 e2
              go_wp2
              go_quiet (fail)
              go_wp2
              go_quiet (fail)
              go_wp2
              go_quiet (fail)
              go_wp2_with (go_at_call 109; refine (text_any _ _).mono ?_; rintro e w' ⟨rfl, rfl⟩)
              go_ret2
              exact QuotedPost.none hfin.out (CurBlk.at (j := i) (by repeat (first | exact hcb | apply CurBlk.set | apply CurBlk.drewN))) (by repeat (first | exact hfr | apply Fr.drewN | apply Fr.one_cell))
            · have hnx := Lib.hid (HRES.out.trans (qres_text (a := a) hat.out e1 e2 e3))
              clear e1 e2
              go_wp2
              go_quiet (fail)
              go_wp2
              go_quiet (fail)
              go_wp2
              go_quiet (fail)
              go_wp2_with (first | (at_builtin; go_must (refine wpList_byte rfl _ _ rfl w.heap.size (.slice av a.length cv) a rfl (by repeat (first | exact hown | apply Bytes.alloc | apply Bytes.setCell (p := ⟨b, 1, none⟩) hbB | apply Bytes.drewN | apply Bytes.drew)) ⟨wr.heap.size, 0, none⟩ 1 x rfl (by rw [World.cell?_alloc_at _ _ _ _ (by simp)]; rfl) (by omega) (by simp; omega) ?_); intro v' w2 hown2 hg2) | (go_at_call 109; refine (text_any _ _).mono ?_; rintro e w' ⟨rfl, rfl⟩))
              exact q_next hlt (by repeat (first | exact CurBlk.at (j := k + 1) (by repeat (first | exact hcb | apply CurBlk.set | apply CurBlk.drewN)) | apply CurAt.alloc | apply CurAt.drewN)) (by repeat (first | exact hfr | apply Fr.drewN | apply Fr.one_cell | apply Fr.alloc)) hg2 hown hown2 (by omega) (by simp; omega) hnx.out (Nat.lt_succ_self k) hpos.out
          · have hx92 : x = 92 := by simpa using e2
            clear e1 e2
            subst hx92
            by_cases hk1 : k + 1 < s.size
            · have hd1 : decide ((k : Int) + 1 < (s.size : Int)) = true := by simp; omega
              have hat1 := Lib.hid (byte_at s (k + 1) hk1)
              generalize hy : s[k + 1] = y at hat1
              cases e3 : textB y
              · have hfin := Lib.hid (show quotedAt s.data.toList i = none by rw [HRES.out, qres_escbad hat.out hat1.out e3])
                go_wp2
                go_quiet (fail)
                go_wp2
                go_quiet (fail)
                go_wp2
                go_quiet (fail)
                go_wp2
                go_quiet (fail)
                go_wp2_with (go_at_call 109; refine (text_any _ _).mono ?_; rintro e w' ⟨rfl, rfl⟩)
                go_ret2
                exact QuotedPost.none hfin.out (CurBlk.at (j := i) (by repeat (first | exact hcb | apply CurBlk.set | apply CurBlk.drewN))) (by repeat (first | exact hfr | apply Fr.drewN | apply Fr.one_cell | apply Fr.alloc))
              · have hnx := Lib.hid (HRES.out.trans (qres_esc (a := a) hat.out hat1.out e3))
                go_wp2
                go_quiet (fail)
                go_wp2
                go_quiet (fail)
                go_wp2
                go_quiet (fail)
                go_wp2
                go_quiet (fail)
                go_wp2_with (first | (at_builtin; go_must (refine wpList_byte rfl _ _ rfl w.heap.size (.slice av a.length cv) a rfl (by repeat (first | exact hown | apply Bytes.alloc | apply Bytes.setCell (p := ⟨b, 1, none⟩) hbB | apply Bytes.drewN | apply Bytes.drew)) ⟨wr.heap.size, 0, none⟩ 1 y rfl (by rw [World.cell?_alloc_at _ _ _ _ (by simp)]; rfl) (by omega) (by simp; omega) ?_); intro v' w2 hown2 hg2) | (go_at_call 109; refine (text_any _ _).mono ?_; rintro e w' ⟨rfl, rfl⟩))
                exact q_next hlt (by repeat (first | exact CurBlk.at (j := k + 1 + 1) (by repeat (first | exact hcb | apply CurBlk.set | apply CurBlk.drewN)) | apply CurAt.alloc | apply CurAt.drewN)) (by repeat (first | exact hfr | apply Fr.drewN | apply Fr.one_cell | apply Fr.alloc)) hg2 hown hown2 (by omega) (by simp; omega) hnx.out (by omega) hpos.out
            · have hd1 : decide ((k : Int) + 1 < (s.size : Int)) = false := by simp; omega
              have hfin := Lib.hid (show quotedAt s.data.toList i = none by rw [HRES.out, qres_last hat.out (byte_off s (k + 1) hk1)])
              go_wp2
              go_quiet (fail)
              go_wp2
              go_quiet (fail)
              go_wp2
              go_quiet (fail)
              go_wp2
              go_ret2
              exact QuotedPost.none hfin.out (CurBlk.at (j := i) (by repeat (first | exact hcb | apply CurBlk.set | apply CurBlk.drewN))) (by repeat (first | exact hfr | apply Fr.drewN | apply Fr.one_cell | apply Fr.alloc))
        · have n1 : ((x.toNat : Int) == 34) = true := by rw [← e1]; exact u8_eq 34 (by decide)
          have hfin := Lib.hid (show quotedAt s.data.toList i = some (a, k + 1) by rw [HRES.out, qres_mark (by rw [hat.out]; simpa using e1)])
          clear e1
          go_wp2
          go_quiet (fail)
          go_wp2
          go_quiet (fail)
          go_wp2
          go_ret2
          exact QuotedPost.some hfin.out (CurBlk.at (j := k + 1) (by repeat (first | exact hcb | apply CurBlk.set | apply CurBlk.drewN))) (by repeat (first | exact hfr | apply Fr.drewN | apply Fr.one_cell))
      · have hd : decide (k < s.size) = false := by simp; omega
        have hfin := Lib.hid (show quotedAt s.data.toList i = none by rw [HRES.out, qres_end (byte_off s k hks)])
        go_wp2
        go_quiet (fail)
        go_wp2
        go_ret2
        exact QuotedPost.none hfin.out (CurBlk.at (j := i) (by repeat (first | exact hcb | apply CurBlk.set | apply CurBlk.drewN))) (by repeat (first | exact hfr | apply Fr.drewN | apply Fr.one_cell))
end Go.Proofs.YtkoobhgedoanhaaGreatDoor
