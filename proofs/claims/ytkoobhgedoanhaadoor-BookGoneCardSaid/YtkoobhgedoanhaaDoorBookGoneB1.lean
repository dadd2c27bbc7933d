/- Small words of ours: frames of a call (which blocks may have turned), ends of walks. No program in sight. A slice of bytes that a call itself has made: append, and the text of it. Walks: coding.Lower, token.Same. Slices of strings: read, and made by the call itself; errors. Origins, asks, grants as fields. Package fetch: Simple, Method. strings.Trim by a set of ASCII bytes: what is left; nothing is left just where all bytes are of the set. strings.Cut by one byte. Package fetch: Plain. -/
import Derived.WalkKit
import Derived.Deep.QuietTactic
import Derived.BigQuiet
import Derived.Test.YtkoobhgedoanhaaDoorRows
import Derived.WalkSpells
import Derived.WalkLawsBesides
import Derived.Lib.Hide
import Derived.Test.YtkoobhgedoanhaaDoorShelf
import Derived.Lib.SlTrimSet
import Derived.Shelf.Strings.SlTrimAscii
namespace Go.Proofs.YtkoobhgedoanhaaDoor
open Go.RowKit

theorem ret_bool {a b : Bool} (h : a = b) : Ending.returned (.bool a) = .returned (.bool b) := by rw [h]
theorem ret_int {k : IntKind} {a b : Int} (h : a = b) : Ending.returned (.int k a) = .returned (.int k b) := by rw [h]
theorem ret_str {a b : ByteArray} (h : a = b) : Ending.returned (.string a) = .returned (.string b) := by rw [h]

/-- a callee that turns nothing, in a region that draws -/
theorem quiet_eq {P : Program} {f : FuncId} {args : Array Value} {w : World} {n : Nat} {v : Value}
    (h : Calls P f args (w.drewN n) fun e w' => e = .returned v ∧ w.drewN n = w') : Calls P f args (w.drewN n) fun e w'' => e = .returned v ∧ ∃ m, w'' = w.drewN m :=
  h.mono fun _ _ ⟨he, hm⟩ => ⟨he, n, hm.symm⟩

/-- .. behind a region that has drawn already -/
theorem quiet_eq2 {P : Program} {f : FuncId} {args : Array Value} {w : World} {q n : Nat} {v : Value}
    (h : Calls P f args (w.drewN (q + n)) fun e w' => e = .returned v ∧ w.drewN (q + n) = w') : Calls P f args (w.drewN (q + n)) fun e w'' => e = .returned v ∧ ∃ m, w'' = w.drewN (q + m) :=
  h.mono fun _ _ ⟨he, hm⟩ => ⟨he, n, hm.symm⟩

/-- FRAME: of the blocks that lay in w only those of S may have turned; streams as they were. -/
structure Fr (S : Nat → Prop) (w w' : World) : Prop where
  os : w'.os = w.os
  tape : w'.tape = w.tape
  output : w'.output = w.output
  size : w.heap.size ≤ w'.heap.size
  block : ∀ k, k < w.heap.size → ¬ S k → w'.heap[k]? = w.heap[k]?

namespace Fr
variable {S T : Nat → Prop} {a w w' w1 w2 : World}
theorem refl (S : Nat → Prop) (w : World) : Fr S w w := ⟨rfl, rfl, rfl, Nat.le_refl _, fun _ _ _ => rfl⟩
theorem mono (h : Fr S w w') (hs : ∀ k, k < w.heap.size → S k → T k) : Fr T w w' := ⟨h.os, h.tape, h.output, h.size, fun k hk hn => h.block k hk (fun hS => hn (hs k hk hS))⟩
theorem trans (h : Fr S a w) (g : Fr S w w') : Fr S a w' :=
  ⟨g.os.trans h.os, g.tape.trans h.tape, g.output.trans h.output, Nat.le_trans h.size g.size, fun k hk hn => (g.block k (Nat.lt_of_lt_of_le hk h.size) hn).trans (h.block k hk hn)⟩
/-- a step whose own writes lie in S, or in blocks that are new since a -/
theorem step (h : Fr S a w) (g : Fr T w w') (hs : ∀ k, k < a.heap.size → T k → S k) : Fr S a w' :=
  ⟨g.os.trans h.os, g.tape.trans h.tape, g.output.trans h.output, Nat.le_trans h.size g.size,
    fun k hk hn => (g.block k (Nat.lt_of_lt_of_le hk h.size) (fun ht => hn (hs k hk ht))).trans (h.block k hk hn)⟩
theorem keep (h : Fr S w w') {k : Nat} {o : Obj} (hk : w.heap[k]? = some o) (hn : ¬ S k) : w'.heap[k]? = some o :=
  (h.block k (by rcases Nat.lt_or_ge k w.heap.size with g | g; exact g; simp [Array.getElem?_eq_none g] at hk) hn).trans hk
theorem cell (h : Fr S w w') {p : Addr} (hp : p.block < w.heap.size) (hn : ¬ S p.block) : w'.cell? p = w.cell? p := World.cell?_of_block (w := w) (h.block p.block hp hn)
theorem frozen (h : Fr S w w') {p : Addr} (hp : p.block < w.heap.size) (hn : ¬ S p.block) : w'.frozen? p = w.frozen? p := World.frozen?_of_block (w := w) (h.block p.block hp hn)
theorem drewN (n : Nat) (h : Fr S a w) : Fr S a (w.drewN n) := ⟨h.os, h.tape, h.output, h.size, h.block⟩
theorem drew (h : Fr S a w) : Fr S a w.drew := ⟨h.os, h.tape, h.output, h.size, h.block⟩
theorem setCell (h : Fr S a w) {p : Addr} (hp : p.block < a.heap.size → S p.block) (u : Value) : Fr S a (w.setCell p u) :=
  ⟨h.os, h.tape, h.output, by simpa [World.setCell] using h.size, fun k hk hn => (Below.heap_setCell _ _ _ _ (fun e => by subst e; exact hn (hp hk))).trans (h.block k hk hn)⟩
theorem alloc (h : Fr S a w) (o : Obj) : Fr S a (w.alloc o) :=
  ⟨h.os, h.tape, h.output, Nat.le_trans h.size (by simp), fun k hk hn => (Below.heap_alloc _ _ _ (Nat.lt_of_lt_of_le hk h.size)).trans (h.block k hk hn)⟩
theorem grown {row : Option Nat} (h : Fr S a w) (hg : w.grownBy w' row) (hr : ∀ k, row = some k → k < a.heap.size → S k) : Fr S a w' :=
  ⟨hg.os.trans h.os, hg.tape.trans h.tape, hg.output.trans h.output, Nat.le_trans h.size hg.size,
    fun k hk hn => (hg.block k (Nat.lt_of_lt_of_le hk h.size) (fun e => hn (hr k e.symm hk))).trans (h.block k hk hn)⟩
theorem below {B : Nat} (h : Fr S w w') (hB : B ≤ w.heap.size) (hS : ∀ k, k < B → ¬ S k) : Below B w w' :=
  ⟨h.os, h.tape, h.output, h.size, fun k hk => h.block k (Nat.lt_of_lt_of_le hk hB) (hS k hk)⟩
theorem ofBelow {B : Nat} (h : Below B w w') (hS : ∀ k, k < w.heap.size → B ≤ k → S k) : Fr S w w' :=
  ⟨h.os, h.tape, h.output, h.size, fun k hk hn => h.block k (Nat.lt_of_not_le (fun hB => hn (hS k hk hB)))⟩
end Fr

/-- no block at all -/
def noB : Nat → Prop := fun _ => False
theorem Fr.none_below {w w' : World} (h : Fr noB w w') : Below w.heap.size w w' := h.below (Nat.le_refl _) (fun _ _ h => h)
theorem Fr.of_below {w w' : World} (h : Below w.heap.size w w') : Fr noB w w' := Fr.ofBelow h (fun _ hk hB => absurd hk (by omega))
/-- a store into, or an append to, a block that is new since a -/
theorem Fr.setNew {S : Nat → Prop} {a w : World} (h : Fr S a w) {p : Addr} (hp : a.heap.size ≤ p.block) (u : Value) : Fr S a (w.setCell p u) := h.setCell (fun hl => absurd hl (by omega)) u
theorem Fr.grownNew {S : Nat → Prop} {a w w' : World} {row : Option Nat} (h : Fr S a w) (hg : w.grownBy w' row) (hr : ∀ k, row = some k → a.heap.size ≤ k) : Fr S a w' :=
  h.grown hg (fun k hk hl => absurd hl (by have := hr k hk; omega))

theorem byte_at (s : ByteArray) (i : Nat) (h : i < s.size) : s.data.toList[i]? = some s[i] := by
  have h' : i < s.data.toList.length := by simpa using h
  rw [List.getElem?_eq_getElem h']; rfl
theorem byte_off (s : ByteArray) (i : Nat) (h : ¬ i < s.size) : s.data.toList[i]? = none := List.getElem?_eq_none (by simpa using h)

theorem lt_of_some {w : World} {k : Nat} {o : Obj} (h : w.heap[k]? = some o) : k < w.heap.size := by
  rcases Nat.lt_or_ge k w.heap.size with g | g
  · exact g
  · simp [Array.getElem?_eq_none g] at h
/-- a letter or a digit -/
def alnumB (c : UInt8) : Bool := (decide (48 ≤ c.toNat) && decide (c.toNat ≤ 57)) || (decide (97 ≤ c.toNat) && decide (c.toNat ≤ 122)) || (decide (65 ≤ c.toNat) && decide (c.toNat ≤ 90))
theorem drop_at {l : List UInt8} {k : Nat} {x : UInt8} (h : l[k]? = some x) : l.drop k = x :: l.drop (k + 1) := by
  obtain ⟨hk, e⟩ := List.getElem?_eq_some_iff.1 h
  rw [List.drop_eq_getElem_cons hk, e]
theorem drop_off {l : List UInt8} {k : Nat} (h : l[k]? = none) : l.drop k = [] := List.drop_eq_nil_of_le (List.getElem?_eq_none_iff.1 h)
def one (b : Nat) : Nat → Prop := fun k => k = b
theorem Fr.one_set (w : World) (b : Nat) (u : Value) (n : Nat) : Fr (one b) w ((w.setCell ⟨b, 1, none⟩ u).drewN n) := ((Fr.refl (one b) w).setCell (p := ⟨b, 1, none⟩) (fun _ => rfl) u).drewN n
theorem Fr.one_cell {a w : World} {b k : Nat} {u : Value} (h : Fr (one b) a w) : Fr (one b) a (w.setCell ⟨b, k, none⟩ u) := h.setCell (p := ⟨b, k, none⟩) (fun _ => rfl) u
end Go.Proofs.YtkoobhgedoanhaaDoor

namespace Go.Proofs.YtkoobhgedoanhaaDoor
open Go.RowKit

theorem info_u8 : (Tryd.prog.info? 5).map (fun i => (i.zero, i.size, i.bytes)) = some (some (.int .u8 0), 1, 1) := by kernel_rfl

def u8s (l : List UInt8) : List Value := l.map fun x => .int .u8 (x.toNat : Int)
theorem u8s_snoc (l : List UInt8) (c : UInt8) : u8s (l ++ [c]) = u8s l ++ [.int .u8 (c.toNat : Int)] := by simp [u8s]
theorem u8s_append (l m : List UInt8) : u8s (l ++ m) = u8s l ++ u8s m := by simp [u8s]
theorem u8s_length (l : List UInt8) : (u8s l).length = l.length := by simp [u8s]

/-- v is a slice of the call's own (blocks from base on) that holds the bytes l. -/
def Bytes (base : Nat) (w : World) (v : Value) (l : List UInt8) : Prop := w.ownsRow base 5 1 v l.length (u8s l)

theorem Bytes.nil (base : Nat) (w : World) : Bytes base w (.slice none 0 0) [] := World.ownsRow_nil _ _ _ _
theorem Bytes.alloc {base : Nat} {w : World} {v : Value} {l : List UInt8} (h : Bytes base w v l) (o : Obj) : Bytes base (w.alloc o) v l := World.ownsRow.alloc h o
theorem Bytes.drewN {base : Nat} {w : World} {v : Value} {l : List UInt8} {n : Nat} (h : Bytes base w v l) : Bytes base (w.drewN n) v l := h
theorem Bytes.drew {base : Nat} {w : World} {v : Value} {l : List UInt8} (h : Bytes base w v l) : Bytes base w.drew v l := h
theorem Bytes.setCell {base : Nat} {w : World} {v : Value} {l : List UInt8} {p : Addr} {u : Value} (hp : p.block < base) (h : Bytes base w v l) : Bytes base (w.setCell p u) v l := ownsRow_setCell_below h hp u
theorem new_cell (w : World) (v : Value) (t : TypeId) (f : Nat × Nat) : (w.alloc (.cells #[v] t f)).cell? ⟨w.heap.size, 0, none⟩ = some v := World.cell?_alloc_mark w #[v] t f 0
theorem new_block (w : World) (o : Obj) : (w.alloc o).heap[w.heap.size]? = some o := by
  show (w.heap.push o)[w.heap.size]? = _
  simp
/-- []byte{x} -/
theorem Bytes.new1 (w : World) (x : UInt8) : Bytes w.heap.size (w.alloc (.cells #[.int .u8 x.toNat] 5)) (.slice (some ⟨w.heap.size, 0, none⟩) 1 1) [x] :=
  ⟨rfl, Or.inr ⟨w.heap.size, 1, _, rfl, Nat.le_refl _, new_block _ _, Nat.le_refl _, by simp [maxLen], rfl, rfl⟩⟩
theorem Bytes.form {base : Nat} {w : World} {v : Value} {l : List UInt8} (h : Bytes base w v l) : ∃ a c, v = .slice a l.length c := by
  rcases h.2 with ⟨hv, hn⟩ | ⟨g, cap, cur, hv, _⟩
  · exact ⟨none, 0, by rw [hv, hn]⟩
  · exact ⟨_, _, hv⟩
/-- what is owned stays, where its own block stays -/
theorem Bytes.fr {base : Nat} {w w' : World} {v : Value} {l : List UInt8} {S : Nat → Prop} (h : Bytes base w v l) (hf : Fr S w w') (hS : ∀ k, S k → k < base) : Bytes base w' v l := by
  obtain ⟨h1, h2⟩ := h
  refine ⟨h1, ?_⟩
  rcases h2 with h2 | ⟨g, cap, cur, hv, hg, hh, r⟩
  · exact Or.inl h2
  · exact Or.inr ⟨g, cap, cur, hv, hg, hf.keep hh (fun hs => absurd (hS g hs) (by omega)), r⟩
theorem Bytes.block {base : Nat} {w : World} {v : Value} {l : List UInt8} (h : Bytes base w v l) : ∀ k, v.ownBlock = some k → base ≤ k := by
  intro k hk
  rcases h.2 with ⟨hv, _⟩ | ⟨g, cap, cur, hv, hg, _⟩
  · rw [hv] at hk; simp [Value.ownBlock] at hk
  · rw [hv] at hk; simp [Value.ownBlock] at hk; omega

/-- string(b) -/
theorem Bytes.text {base : Nat} {w : World} {a : Option Addr} {n c : Nat} {l : List UInt8} (h : Bytes base w (.slice a n c) l) :
    (convert 130 9 (.slice a n c)).run Tryd.prog w = .ok (.string ⟨l.toArray⟩) w := by
  obtain ⟨h1, h2⟩ := h
  rcases h2 with ⟨hv, hn⟩ | ⟨g, cap, cur, hv, hg, hh, h3, h4, h5, h6⟩
  · cases hv
    have : l = [] := List.eq_nil_of_length_eq_zero hn
    subst this
    exact run_convert_bytes_nil (P := Tryd.prog) w 130 5 Tryd.underlying130 Tryd.underlying5 0 0 9 Tryd.underlying9
  · cases hv
    refine run_convert_bytes_back (P := Tryd.prog) w 130 9 5 ⟨g, 0, none⟩ c l Tryd.underlying130 Tryd.underlying5 Tryd.underlying9 ?_
    intro j hj
    have hj2 : j < l.length * 1 := by omega
    have e : (cur.toList.take (l.length * 1))[j]? = some (.int .u8 (l[j].toNat : Int)) := by
      rw [h6]; simp [u8s, hj]
    rw [List.getElem?_take_of_lt hj2] at e
    have e2 : cur[j]? = some (.int .u8 (l[j].toNat : Int)) := by simpa using e
    have ea : (Addr.add ⟨g, 0, none⟩ j) = ⟨g, j, none⟩ := by unfold Addr.add; split <;> simp_all
    rw [ea]
    simp [World.cell?, hh, e2]

/-- b = append(b, x): one byte -/
theorem wpList_byte {ops : Array Oper} {rest : List Oper} {o : Oper} {a : Act} {Q : Exit → Act → World → Prop} {w : World} (hgd : o.guard = none) (s x : Operand)
    (ho : o.op = .call { callee := .builtin .append, args := #[s, x], argTypes := #[130, 130] }) (base : Nat) (v : Value) (l : List UInt8) (hs : a.eval s = v) (hown : Bytes base w v l)
    (ad : Addr) (c : Nat) (y : UInt8) (hx : a.eval x = .slice (some ad) 1 c) (hy : w.cell? ad = some (.int .u8 (y.toNat : Int))) (hlen : l.length < 70368744177664) (hbase : base ≤ w.heap.size)
    (h : ∀ v' w', Bytes base w' v' (l ++ [y]) → w.grownBy w' v.ownBlock → wpList Tryd.prog ops Q rest (a.put o.dst v') w') : wpList Tryd.prog ops Q (o :: rest) a w := by
  obtain ⟨i0, hi, hz0, hz1, hz2⟩ := info_parts info_u8
  refine wpList_append_own w hgd s x 130 ho base 5 i0 (.int .u8 0) 1 1 Tryd.underlying130 hi hz0 hz1 hz2 rfl (by decide) v l.length (u8s l) hs hown ad 1 c [.int .u8 (y.toNat : Int)] hx rfl ?_ ?_ ?_ ?_ hbase ?_
  · intro j u hj
    match j, hj with
    | 0, hj => simp at hj; subst hj; simpa [Addr.add] using hy
  · intro u hu; simp at hu; subst hu; rfl
  · unfold maxLen; omega
  · omega
  · intro v' w' h1 h2 _
    exact h v' w' (by unfold Bytes; rw [u8s_snoc]; simpa using h1) h2
end Go.Proofs.YtkoobhgedoanhaaDoor

namespace Go.Proofs.YtkoobhgedoanhaaDoor
open Go.RowKit

def lowB (c : UInt8) : UInt8 := if 65 ≤ c.toNat ∧ c.toNat ≤ 90 then c + 32 else c
def lowL (l : List UInt8) : List UInt8 := l.map lowB
theorem lowB_toNat (c : UInt8) : (lowB c).toNat = if 65 ≤ c.toNat ∧ c.toNat ≤ 90 then c.toNat + 32 else c.toNat := by
  unfold lowB
  split
  · rename_i h
    rw [UInt8.toNat_add]
    have : (32 : UInt8).toNat = 32 := rfl
    rw [this]; omega
  · rfl

/-- block g is what []byte(s) has laid: the bytes l, spare room, and a mark behind its end -/
def RowAt (w : World) (g : Nat) (l : List UInt8) : Prop := ∃ t : List Value, w.heap[g]? = some (.cells (u8s l ++ t).toArray 5 ((u8s l ++ t).length, (u8s l ++ t).length + 1))
theorem RowAt.cell {w : World} {g : Nat} {l : List UInt8} (h : RowAt w g l) {j : Nat} {c : UInt8} (hj : l[j]? = some c) : w.cell? ⟨g, j, none⟩ = some (.int .u8 (c.toNat : Int)) := by
  obtain ⟨t, h⟩ := h
  obtain ⟨hl, he⟩ := List.getElem?_eq_some_iff.1 hj
  simp only [World.cell?, h]
  simp [u8s, List.getElem?_append_left, hl, he]
theorem RowAt.free {w : World} {g : Nat} {l : List UInt8} (h : RowAt w g l) {j : Nat} (hj : j < l.length) : w.frozen? ⟨g, j, none⟩ = false := by
  obtain ⟨t, h⟩ := h
  simp only [World.frozen?, h]
  simp [u8s]; omega
theorem RowAt.set {w : World} {g : Nat} {l : List UInt8} (h : RowAt w g l) {j : Nat} (hj : j < l.length) (c : UInt8) : RowAt (w.setCell ⟨g, j, none⟩ (.int .u8 (c.toNat : Int))) g (l.set j c) := by
  obtain ⟨t, h⟩ := h
  refine ⟨t, ?_⟩
  simp only [World.setCell, Array.getElem?_modify, h]
  simp [u8s, hj, List.map_set]
theorem RowAt.new (w : World) (s : ByteArray) (cap : Nat) : RowAt (w.drew.alloc (.cells (bytesRow s cap) 5 ((bytesRow s cap).size, (bytesRow s cap).size + 1))) w.heap.size s.data.toList := by
  refine ⟨List.replicate (cap - s.size) (Value.int .u8 0), ?_⟩
  have e : bytesRow s cap = (u8s s.data.toList ++ List.replicate (cap - s.size) (Value.int .u8 0)).toArray := by
    apply Array.toList_inj.1
    simp [bytesRow, u8s]
  have h := new_block w.drew (.cells (bytesRow s cap) 5 ((bytesRow s cap).size, (bytesRow s cap).size + 1))
  have h' : (w.drew.alloc (.cells (bytesRow s cap) 5 ((bytesRow s cap).size, (bytesRow s cap).size + 1))).heap[w.heap.size]? = some (.cells (bytesRow s cap) 5 ((bytesRow s cap).size, (bytesRow s cap).size + 1)) := h
  rw [h', e]; simp
theorem RowAt.text {w : World} {g : Nat} {l : List UInt8} (h : RowAt w g l) (n c : Nat) (hn : n = l.length) :
    (convert 130 9 (.slice (some ⟨g, 0, none⟩) n c)).run Tryd.prog w = .ok (.string ⟨l.toArray⟩) w := by
  subst hn
  refine run_convert_bytes_back (P := Tryd.prog) w 130 9 5 ⟨g, 0, none⟩ c l Tryd.underlying130 Tryd.underlying5 Tryd.underlying9 ?_
  intro j hj
  have ea : (Addr.add ⟨g, 0, none⟩ j) = ⟨g, j, none⟩ := by unfold Addr.add; split <;> simp_all
  rw [ea]
  exact h.cell (List.getElem?_eq_getElem hj)

/-- the first k bytes turned -/
def lowTo (l : List UInt8) (k : Nat) : List UInt8 := lowL (l.take k) ++ l.drop k
theorem lowTo_len (l : List UInt8) (k : Nat) : (lowTo l k).length = l.length := by simp [lowTo, lowL]; omega
theorem lowTo_at {l : List UInt8} {k : Nat} {x : UInt8} (h : l[k]? = some x) : (lowTo l k)[k]? = some x := by
  have hk := (List.getElem?_eq_some_iff.1 h).1
  unfold lowTo
  rw [List.getElem?_append_right (by simp [lowL]; omega)]
  have e : k - (lowL (l.take k)).length = 0 := by simp [lowL]; omega
  rw [e, drop_at h]; rfl
theorem lowTo_succ {l : List UInt8} {k : Nat} {x : UInt8} (h : l[k]? = some x) : lowTo l (k + 1) = (lowTo l k).set k (lowB x) := by
  have hk := (List.getElem?_eq_some_iff.1 h).1
  have el : (lowL (l.take k)).length = k := by simp [lowL]; omega
  unfold lowTo
  rw [drop_at h, List.take_add_one, h, List.set_append]
  rw [if_neg (by omega), show k - (lowL (l.take k)).length = 0 from by omega]
  simp [lowL]
theorem lowTo_same {l : List UInt8} {k : Nat} {x : UInt8} (h : l[k]? = some x) (hx : lowB x = x) : lowTo l (k + 1) = lowTo l k := by
  rw [lowTo_succ h, hx]
  apply List.ext_getElem?
  intro j
  by_cases hj : k = j
  · subst hj
    rw [lowTo_at h, List.getElem?_set_self (by rw [lowTo_len]; exact (List.getElem?_eq_some_iff.1 h).1)]
  · rw [List.getElem?_set_ne hj]
theorem lowTo_all (l : List UInt8) (k : Nat) (h : l.length ≤ k) : lowTo l k = lowL l := by
  unfold lowTo; rw [List.take_of_length_le h, List.drop_eq_nil_of_le h]; simp

def LowRel (s : ByteArray) (w : World) (i : Value) (wr : World) : Prop :=
  ∃ k : Nat, k ≤ s.size ∧ i = .int .i64 k ∧ RowAt wr w.heap.size (lowTo s.data.toList k) ∧ Fr noB w wr

set_option maxRecDepth 100000 in
set_option maxHeartbeats 1000000 in
theorem Lower_any (s : ByteArray) (w : World) (hs : s.size < 17592186044416) :
    Calls Tryd.prog 70 #[.string s] w fun e w' => e = .returned (.string ⟨(lowL s.data.toList).toArray⟩) ∧ Fr noB w w' := by
  have kc := fun (wx : World) => run_bytes_of_string (P := Tryd.prog) wx 9 130 5 s Tryd.underlying9 Tryd.underlying130 Tryd.underlying5
  go_enter Tryd.func70, Tryd.ntmps70
  go_wp2
  go_loopw [10] (LowRel s w) (fun i _ => s.size - (intOf i).toNat)
  case atStart => exact ⟨0, Nat.zero_le _, rfl, RowAt.new w s _, ((Fr.refl _ w).drew).alloc _⟩
  case round =>
    obtain ⟨k, hk, rfl, hrow, hfr⟩ := hrel
    by_cases hks : k < s.size
    · have hat := Lib.hid (byte_at s k hks)
      generalize hx : s[k] = x at hat
      have hc := hrow.cell (lowTo_at hat.out)
      have hf := hrow.free (j := k) (by rw [lowTo_len]; simpa using hks)
      by_cases h1 : 65 ≤ x.toNat
      · by_cases h2 : x.toNat ≤ 90
        · have hset := Lib.hid (hrow.set (j := k) (by rw [lowTo_len]; simpa using hks) (lowB x))
          have hsc := Lib.hid (lowTo_succ hat.out)
          have hlb := Lib.hid (show ((lowB x).toNat : Int) = (x.toNat : Int) + 32 by rw [lowB_toNat, if_pos ⟨h1, h2⟩]; omega)
          go_wp2
          go_roundw
          case rel => exact ⟨k + 1, by omega, by go_num, by rw [hsc.out]; have h := hset.out; rw [hlb.out] at h; exact h, hfr.setNew (p := ⟨w.heap.size, k, none⟩) (Nat.le_refl _) _⟩
          case measure => simp [intOf]; omega
        · have hsm := Lib.hid (lowTo_same hat.out (by unfold lowB; rw [if_neg (by omega)]))
          go_wp2
          go_roundw
          case rel => exact ⟨k + 1, by omega, by go_num, by rw [hsm.out]; exact hrow, hfr⟩
          case measure => simp [intOf]; omega
      · have hsm := Lib.hid (lowTo_same hat.out (by unfold lowB; rw [if_neg (by omega)]))
        go_wp2
        go_roundw
        case rel => exact ⟨k + 1, by omega, by go_num, by rw [hsm.out]; exact hrow, hfr⟩
        case measure => simp [intOf]; omega
    · have hrow2 := hrow
      rw [lowTo_all s.data.toList k (by simp; omega)] at hrow2
      have htext := fun c => hrow2.text s.size c (by simp [lowL])
      go_wp2
      go_ret
      exact ⟨rfl, hfr⟩

/-- token.Same -/
def sameL (a b : List UInt8) : Bool := lowL a == lowL b
set_option maxHeartbeats 1000000 in
theorem Same_any (a b : ByteArray) (w : World) (ha : a.size < 17592186044416) (hb : b.size < 17592186044416) :
    Calls Tryd.prog 69 #[.string a, .string b] w fun e w' => e = .returned (.bool (sameL a.data.toList b.data.toList)) ∧ Fr noB w w' := by
  go_enter Tryd.func69, Tryd.ntmps69
  go_wp2_with fail
  refine (Lower_any a w ha).mono ?_
  rintro e w1 ⟨rfl, hf1⟩
  go_wp2_with fail
  refine (Lower_any b w1 hb).mono ?_
  rintro e w2 ⟨rfl, hf2⟩
  go_wp2
  go_ret
  exact ⟨ret_bool (by simp [sameL]), hf1.trans hf2⟩
end Go.Proofs.YtkoobhgedoanhaaDoor

namespace Go.Proofs.YtkoobhgedoanhaaDoor
open Go.RowKit

/-- v reads as the strings ss -/
def StrsAt (w : World) (v : Value) (ss : List ByteArray) : Prop :=
  (∃ a c, v = .slice a 0 c ∧ ss = [] ∧ (a = none → c = 0)) ∨
  ∃ bk o c, v = .slice (some ⟨bk, o, none⟩) ss.length c ∧ ss.length ≤ c ∧ c ≤ maxLen ∧ bk < w.heap.size ∧ ∀ (j : Nat) x, ss[j]? = some x → w.cell? ⟨bk, o + j, none⟩ = some (.string x)
theorem StrsAt.nil (w : World) : StrsAt w (.slice none 0 0) [] := Or.inl ⟨_, _, rfl, rfl, fun _ => rfl⟩
theorem StrsAt.fr {S : Nat → Prop} {w w' : World} {v : Value} {ss : List ByteArray} (h : StrsAt w v ss) (hf : Fr S w w') (hn : ∀ k, v.ownBlock = some k → ¬ S k) : StrsAt w' v ss := by
  rcases h with h | ⟨bk, o, c, hv, h1, h2, h3, h4⟩
  · exact Or.inl h
  · refine Or.inr ⟨bk, o, c, hv, h1, h2, Nat.lt_of_lt_of_le h3 hf.size, fun j x hj => ?_⟩
    rw [hf.cell (p := ⟨bk, o + j, none⟩) h3 (hn bk (by rw [hv]; rfl))]
    exact h4 j x hj
theorem StrsAt.frNone {w w' : World} {v : Value} {ss : List ByteArray} (h : StrsAt w v ss) (hf : Fr noB w w') : StrsAt w' v ss := h.fr hf (fun _ _ h => h)
theorem StrsAt.form {w : World} {v : Value} {ss : List ByteArray} (h : StrsAt w v ss) : ∃ a c, v = .slice a ss.length c := by
  rcases h with ⟨a, c, hv, hs, _⟩ | ⟨bk, o, c, hv, _⟩
  · exact ⟨a, c, by rw [hv, hs]; rfl⟩
  · exact ⟨_, _, hv⟩

theorem info_str : (Tryd.prog.info? 9).map (fun i => (i.zero, i.size, i.bytes)) = some (some (.string ⟨#[]⟩), 1, 16) := by kernel_rfl

/-- v is a slice of the call's own (blocks from base on) that holds the strings ss -/
def Strs (base : Nat) (w : World) (v : Value) (ss : List ByteArray) : Prop := w.ownsRow base 9 1 v ss.length (ss.map Value.string)
section
variable {base : Nat} {w w' : World} {v : Value} {ss : List ByteArray}
theorem Strs.nil (base : Nat) (w : World) : Strs base w (.slice none 0 0) [] := World.ownsRow_nil _ _ _ _
theorem Strs.alloc (h : Strs base w v ss) (o : Obj) : Strs base (w.alloc o) v ss := World.ownsRow.alloc h o
theorem Strs.drewN {n : Nat} (h : Strs base w v ss) : Strs base (w.drewN n) v ss := h
theorem Strs.drew (h : Strs base w v ss) : Strs base w.drew v ss := h
theorem Strs.form (h : Strs base w v ss) : ∃ a c, v = .slice a ss.length c := by
  rcases h.2 with ⟨hv, hn⟩ | ⟨g, cap, cur, hv, _⟩
  · exact ⟨none, 0, by rw [hv, hn]⟩
  · exact ⟨_, _, hv⟩
theorem Strs.fr {S : Nat → Prop} (h : Strs base w v ss) (hf : Fr S w w') (hS : ∀ k, S k → k < base) : Strs base w' v ss := by
  obtain ⟨h1, h2⟩ := h
  refine ⟨h1, ?_⟩
  rcases h2 with h2 | ⟨g, cap, cur, hv, hg, hh, r⟩
  · exact Or.inl h2
  · exact Or.inr ⟨g, cap, cur, hv, hg, hf.keep hh (fun hs => absurd (hS g hs) (by omega)), r⟩
theorem Strs.block (h : Strs base w v ss) : ∀ k, v.ownBlock = some k → base ≤ k := by
  intro k hk
  rcases h.2 with ⟨hv, _⟩ | ⟨g, cap, cur, hv, hg, _⟩
  · rw [hv] at hk; simp [Value.ownBlock] at hk
  · rw [hv] at hk; simp [Value.ownBlock] at hk; omega
theorem Strs.at (h : Strs base w v ss) : StrsAt w v ss := by
  obtain ⟨h1, h2⟩ := h
  rcases h2 with ⟨hv, hn⟩ | ⟨g, cap, cur, hv, hg, hh, h3, h4, h5, h6⟩
  · exact Or.inl ⟨none, 0, hv, List.eq_nil_of_length_eq_zero hn, fun _ => rfl⟩
  · refine Or.inr ⟨g, 0, cap, hv, h3, h4, lt_of_some hh, fun j x hj => ?_⟩
    have hl := (List.getElem?_eq_some_iff.1 hj).1
    have e : (cur.toList.take (ss.length * 1))[j]? = some (.string x) := by rw [h6]; simp [hj]
    rw [List.getElem?_take_of_lt (by omega)] at e
    have e2 : cur[j]? = some (.string x) := by simpa using e
    simp [World.cell?, hh, e2]
end

/-- l = append(l, x): one string -/
theorem wpList_str {ops : Array Oper} {rest : List Oper} {o : Oper} {a : Act} {Q : Exit → Act → World → Prop} {w : World} (hgd : o.guard = none) (s x : Operand)
    (ho : o.op = .call { callee := .builtin .append, args := #[s, x], argTypes := #[30, 30] }) (base : Nat) (v : Value) (l : List ByteArray) (hs : a.eval s = v) (hown : Strs base w v l)
    (ad : Addr) (c : Nat) (y : ByteArray) (hx : a.eval x = .slice (some ad) 1 c) (hy : w.cell? ad = some (.string y)) (hlen : l.length < 4398046511104) (hbase : base ≤ w.heap.size)
    (h : ∀ v' w', Strs base w' v' (l ++ [y]) → w.grownBy w' v.ownBlock → wpList Tryd.prog ops Q rest (a.put o.dst v') w') : wpList Tryd.prog ops Q (o :: rest) a w := by
  obtain ⟨i0, hi, hz0, hz1, hz2⟩ := info_parts info_str
  refine wpList_append_own w hgd s x 30 ho base 9 i0 (.string ⟨#[]⟩) 1 16 Tryd.underlying30 hi hz0 hz1 hz2 rfl (by decide) v l.length (l.map Value.string) hs hown ad 1 c [.string y] hx rfl ?_ ?_ ?_ ?_ hbase ?_
  · intro j u hj
    match j, hj with
    | 0, hj => simp at hj; subst hj; simpa [Addr.add] using hy
  · intro u hu; simp at hu; subst hu; rfl
  · unfold maxLen; omega
  · omega
  · intro v' w' h1 h2 _
    exact h v' w' (by unfold Strs; simpa using h1) h2

/-- slices.Equal at strings -/
theorem EqualS_any (v1 v2 : Value) (xs ys : List ByteArray) (w : World) (h1 : StrsAt w v1 xs) (h2 : StrsAt w v2 ys) (hl : ys.length ≤ maxLen) :
    Calls Tryd.prog 58 #[v1, v2] w fun e w' => e = .returned (.bool (decide (xs = ys))) ∧ ∃ q, w' = w.drewN q := by
  unfold maxLen at hl
  obtain ⟨a1, c1, f1⟩ := h1.form
  obtain ⟨a2, c2, f2⟩ := h2.form
  by_cases hn : xs.length = ys.length
  · by_cases h0 : xs.length = 0
    · have e1 : xs = [] := List.eq_nil_of_length_eq_zero h0
      have e2 : ys = [] := List.eq_nil_of_length_eq_zero (by omega)
      subst e1; subst e2
      rw [f1, f2]
      exact (Tryd.slices_Equal_string_empty a1 a2 c1 0 c2 w (by omega)).mono fun e w' ⟨he, hw⟩ => ⟨by rw [he]; simp, 0, hw⟩
    · rcases h1 with ⟨_, _, _, e, _⟩ | ⟨b1, o1, d1, g1, k1, k2, k3, k4⟩
      · rw [e] at h0; exact absurd rfl h0
      rcases h2 with ⟨_, _, _, e, _⟩ | ⟨b2, o2, d2, g2, l1, l2, l3, l4⟩
      · rw [e] at hn; exact absurd (hn.trans rfl) h0
      rw [g1, g2]
      have hcx : ∀ j, j < xs.length → w.cell? ⟨b1, o1 + j, none⟩ = some (.string (xs.getD j ByteArray.empty)) := fun j hj => k4 j _ (by simp [List.getD, hj])
      have hcy : ∀ j, j < ys.length → w.cell? ⟨b2, o2 + j, none⟩ = some (.string (ys.getD j ByteArray.empty)) := fun j hj => l4 j _ (by simp [List.getD, hj])
      refine (Tryd.slices_Equal_string b1 o1 xs.length d1 b2 o2 ys.length d2 xs ys w (Nat.le_refl _) (Nat.le_refl _) (by omega) (by omega) hcx hcy).mono fun e w' ⟨he, hw⟩ => ⟨?_, hw⟩
      rw [he]; simp
  · rw [f1, f2]
    refine (Tryd.slices_Equal_string_lens a1 a2 xs.length c1 ys.length c2 w hn).mono fun e w' ⟨he, hw⟩ => ⟨?_, 0, hw⟩
    rw [he, decide_eq_false (fun e => hn (by rw [e]))]

end Go.Proofs.YtkoobhgedoanhaaDoor

namespace Go.Proofs.YtkoobhgedoanhaaDoor
open Go.RowKit

abbrev Texts := List ByteArray
/-- a slice of strings among the arguments -/
abbrev StrsArg (w : World) (v : Value) (ss : List ByteArray) : Prop := StrsAt w v ss
/-- an origin, as its fields -/
structure Ori where
  secure : Bool
  host : ByteArray
  port : Int
def Ori.cells (o : Ori) : List Value := [.bool o.secure, .string o.host, .int .i64 o.port]
/-- an ask; D: what its domain is (the cell's value, or the texts) -/
structure AskOf (D : Type) where
  scheme : Int
  realm : ByteArray
  nonce : ByteArray
  opaq : ByteArray
  sess : Bool
  qop : ByteArray
  stale : Bool
  dom : D
def AskOf.cells (a : AskOf Value) : List Value := [.int .i64 a.scheme, .string a.realm, .string a.nonce, .string a.opaq, .bool a.sess, .string a.qop, .bool a.stale, a.dom]
/-- a grant; D: what its domain and its paths are -/
structure GrantOf (D : Type) where
  o : Ori
  proxy : Bool
  user : ByteArray
  pass : ByteArray
  a : AskOf D
  count : Int
  paths : D
def GrantOf.cells (g : GrantOf Value) : List Value :=
  [.bool g.o.secure, .string g.o.host, .int .i64 g.o.port, .bool g.proxy, .string g.user, .string g.pass,
   .int .i64 g.a.scheme, .string g.a.realm, .string g.a.nonce, .string g.a.opaq, .bool g.a.sess, .string g.a.qop, .bool g.a.stale, g.a.dom, .int .i64 g.count, g.paths]
/-- the raw ask reads as the other one -/
def AskOf.Reads (R : Value → List ByteArray → Prop) (r : AskOf Value) (a : AskOf (List ByteArray)) : Prop :=
  r.scheme = a.scheme ∧ r.realm = a.realm ∧ r.nonce = a.nonce ∧ r.opaq = a.opaq ∧ r.sess = a.sess ∧ r.qop = a.qop ∧ r.stale = a.stale ∧ R r.dom a.dom
def GrantOf.Reads (R : Value → List ByteArray → Prop) (r : GrantOf Value) (g : GrantOf (List ByteArray)) : Prop :=
  r.o = g.o ∧ r.proxy = g.proxy ∧ r.user = g.user ∧ r.pass = g.pass ∧ r.a.Reads R g.a ∧ r.count = g.count ∧ R r.paths g.paths
theorem AskOf.Reads.mono {R S : Value → List ByteArray → Prop} {r : AskOf Value} {a : AskOf (List ByteArray)} (h : r.Reads R a) (hs : ∀ v l, R v l → S v l) : r.Reads S a :=
  ⟨h.1, h.2.1, h.2.2.1, h.2.2.2.1, h.2.2.2.2.1, h.2.2.2.2.2.1, h.2.2.2.2.2.2.1, hs _ _ h.2.2.2.2.2.2.2⟩
theorem GrantOf.Reads.mono {R S : Value → List ByteArray → Prop} {r : GrantOf Value} {g : GrantOf (List ByteArray)} (h : r.Reads R g) (hs : ∀ v l, R v l → S v l) : r.Reads S g :=
  ⟨h.1, h.2.1, h.2.2.1, h.2.2.2.1, h.2.2.2.2.1.mono hs, h.2.2.2.2.2.1, hs _ _ h.2.2.2.2.2.2⟩

/-- Go's == of two origins -/
def Ori.eqB (a b : Ori) : Bool := a.secure == b.secure && (a.host.toList == b.host.toList && a.port == b.port)
theorem toList_inj {a b : ByteArray} : a.toList = b.toList ↔ a = b := by
  constructor
  · intro h
    rw [Go.ByteArray.toList_eq, Go.ByteArray.toList_eq] at h
    exact Go.WideShapes.bytes_inj h
  · intro h; rw [h]
theorem Ori.eqB_iff (a b : Ori) : a.eqB b = true ↔ a = b := by
  obtain ⟨s, h, p⟩ := a
  obtain ⟨s', h', p'⟩ := b
  simp only [Ori.eqB, Bool.and_eq_true, beq_iff_eq, Ori.mk.injEq, toList_inj]
theorem run_eql_ori (a b : Ori) (w : World) : (binOp .eql 24 (.agg #[.bool a.secure, .string a.host, .int .i64 a.port]) (.agg #[.bool b.secure, .string b.host, .int .i64 b.port])).run Tryd.prog w = .ok (.bool (a.eqB b)) w := by
  go_simp
  by_cases h1 : a.secure = b.secure <;> by_cases h2 : a.host.toList = b.host.toList <;> by_cases h3 : a.port = b.port <;> simp [Ori.eqB, h1, h2, h3]
theorem run_neq_ori (a b : Ori) (w : World) : (binOp .neq 24 (.agg #[.bool a.secure, .string a.host, .int .i64 a.port]) (.agg #[.bool b.secure, .string b.host, .int .i64 b.port])).run Tryd.prog w = .ok (.bool (!a.eqB b)) w := by
  go_simp
  by_cases h1 : a.secure = b.secure <;> by_cases h2 : a.host.toList = b.host.toList <;> by_cases h3 : a.port = b.port <;> simp [Ori.eqB, h1, h2, h3]
/-- a row's cells by their place -/
def cB (x : List Value) (i : Nat) : Bool := match x[i]? with | some (.bool b) => b | _ => false
def cS (x : List Value) (i : Nat) : ByteArray := match x[i]? with | some (.string s) => s | _ => ByteArray.empty
def cI (x : List Value) (i : Nat) : Int := match x[i]? with | some (.int _ n) => n | _ => 0
def oriC (x : List Value) : Ori := ⟨cB x 0, cS x 1, cI x 2⟩
end Go.Proofs.YtkoobhgedoanhaaDoor

namespace Go.Proofs.YtkoobhgedoanhaaDoor
open Go.RowKit

def methodsB : List ByteArray := [⟨#[68, 69, 76, 69, 84, 69]⟩, ⟨#[71, 69, 84]⟩, ⟨#[72, 69, 65, 68]⟩, ⟨#[79, 80, 84, 73, 79, 78, 83]⟩, ⟨#[80, 79, 83, 84]⟩, ⟨#[80, 85, 84]⟩]
def methodGo : List ByteArray → ByteArray → ByteArray
  | [], s => s
  | m :: l, s => if sameL s.data.toList m.data.toList then m else methodGo l s
/-- fetch.Method -/
def methodB (s : ByteArray) : ByteArray := methodGo methodsB s
/-- fetch.Simple -/
def simpleB (s : ByteArray) : Bool := s.toList == [71, 69, 84] || s.toList == [72, 69, 65, 68] || s.toList == [80, 79, 83, 84]
theorem methodGo_mem : ∀ (l : List ByteArray) (s : ByteArray), (methodGo l s ∈ l ∧ sameL s.data.toList (methodGo l s).data.toList = true) ∨ methodGo l s = s
  | [], s => .inr rfl
  | m :: l, s => by
    unfold methodGo
    by_cases h : sameL s.data.toList m.data.toList = true
    · rw [if_pos h]; exact .inl ⟨List.mem_cons_self .., h⟩
    · rw [if_neg h]
      rcases methodGo_mem l s with ⟨h1, h2⟩ | h1
      · exact .inl ⟨List.mem_cons_of_mem _ h1, h2⟩
      · exact .inr h1
theorem methods_fix : ∀ m ∈ methodsB, methodB m = m := by decide +kernel
theorem method_twice (s : ByteArray) : methodB (methodB s) = methodB s := by
  rcases methodGo_mem methodsB s with ⟨h, _⟩ | h
  · exact methods_fix _ h
  · show methodB (methodGo methodsB s) = _; rw [h]
theorem sameL_refl (a : List UInt8) : sameL a a = true := by unfold sameL; simp
theorem sameL_swap (a b : List UInt8) : sameL a b = sameL b a := by unfold sameL; rw [Bool.eq_iff_iff, beq_iff_eq, beq_iff_eq]; exact eq_comm
theorem method_same (s : ByteArray) : sameL (methodB s).data.toList s.data.toList = true := by
  rcases methodGo_mem methodsB s with ⟨_, h⟩ | h
  · rw [sameL_swap]; exact h
  · show sameL (methodGo methodsB s).data.toList _ = true; rw [h]; exact sameL_refl _
theorem methodGo_like : ∀ (l : List ByteArray) (s t : ByteArray), sameL s.data.toList t.data.toList = true → (methodGo l s = methodGo l t) ∨ (methodGo l s = s)
  | [], s, t, _ => .inr rfl
  | m :: l, s, t, h => by
    have hl : lowL s.data.toList = lowL t.data.toList := by unfold sameL at h; simpa using h
    have e : sameL t.data.toList m.data.toList = sameL s.data.toList m.data.toList := by unfold sameL; rw [hl]
    unfold methodGo
    rw [e]
    by_cases hm : sameL s.data.toList m.data.toList = true
    · rw [if_pos hm, if_pos hm]; exact .inl rfl
    · rw [if_neg hm, if_neg hm]; exact methodGo_like l s t h
theorem method_like {s t : ByteArray} (h : sameL s.data.toList t.data.toList = true) (hn : ¬ methodB s = s) : methodB t = methodB s := by
  rcases methodGo_like methodsB s t h with h1 | h1
  · exact h1.symm
  · exact absurd h1 hn
theorem simple_fix (s : ByteArray) (h : simpleB s = true) : methodB s = s := by
  unfold simpleB at h
  simp only [Bool.or_eq_true, beq_iff_eq] at h
  have hs : ∀ l : List UInt8, s.toList = l → s = ⟨l.toArray⟩ := fun l hl => by
    apply Go.WideShapes.bytes_inj
    rw [ByteArray.toList_eq] at hl
    rw [hl]
  rcases h with (h | h) | h
  · rw [hs _ h]; decide +kernel
  · rw [hs _ h]; decide +kernel
  · rw [hs _ h]; decide +kernel
theorem Simple_any (s : ByteArray) (w : World) :
    Calls Tryd.prog 36 #[.string s] w fun e w' => e = .returned (.bool (simpleB s)) ∧ w = w' := by
  by_cases h1 : s.toList = [71, 69, 84]
  · have hb := Lib.hid (show simpleB s = true by unfold simpleB; rw [h1]; rfl)
    go_enter Tryd.func36, Tryd.ntmps36
    go_wp2
    go_ret
    exact ⟨ret_bool hb.out.symm, rfl⟩
  · by_cases h2 : s.toList = [72, 69, 65, 68]
    · have hb := Lib.hid (show simpleB s = true by unfold simpleB; rw [h2]; rfl)
      go_enter Tryd.func36, Tryd.ntmps36
      go_wp2
      go_ret
      exact ⟨ret_bool hb.out.symm, rfl⟩
    · have hb := Lib.hid (show simpleB s = (s.toList == [71, 69, 84] || s.toList == [72, 69, 65, 68] || s.toList == [80, 79, 83, 84]) from rfl)
      go_enter Tryd.func36, Tryd.ntmps36
      go_wp2
      go_ret
      exact ⟨ret_bool hb.out.symm, rfl⟩
def MeRel (s : ByteArray) (w : World) (i : Value) (wr : World) : Prop := ∃ k : Nat, k ≤ 6 ∧ i = .int .i64 k ∧ methodB s = methodGo (methodsB.drop k) s ∧ Fr noB w wr
set_option maxRecDepth 100000 in
set_option maxHeartbeats 2000000 in
theorem Method_any (s : ByteArray) (w : World) (hs : s.size < 100000) :
    Calls Tryd.prog 35 #[.string s] w fun e w' => e = .returned (.string (methodB s)) ∧ Fr noB w w' := by
  have HC := Lib.hid (show ∀ U, Fr noB (w.alloc (.cells (methodsB.map Value.string).toArray 9)) U → ∀ (k : Nat) x, methodsB[k]? = some x → U.cell? ⟨w.heap.size, k, none⟩ = some (.string x) from fun U hU k x hx => by
    have h := hU.keep (new_block w (.cells (methodsB.map Value.string).toArray 9)) (fun h => h)
    have e : (methodsB.map Value.string)[k]? = some (.string x) := by rw [List.getElem?_map, hx]; rfl
    simp only [World.cell?, h]
    simpa using e)
  have hfb : Fr noB w (w.alloc (.cells (methodsB.map Value.string).toArray 9)) := (Fr.refl noB w).alloc _
  have HFB := Lib.hid hfb
  obtain ⟨wb, hwb⟩ : ∃ wb, wb = w.alloc (.cells (methodsB.map Value.string).toArray 9) := ⟨_, rfl⟩
  rw [← hwb] at HC HFB
  have HWB := Lib.hid (show wb = w.alloc (.cells #[.string ⟨#[68, 69, 76, 69, 84, 69]⟩, .string ⟨#[71, 69, 84]⟩, .string ⟨#[72, 69, 65, 68]⟩, .string ⟨#[79, 80, 84, 73, 79, 78, 83]⟩, .string ⟨#[80, 79, 83, 84]⟩, .string ⟨#[80, 85, 84]⟩] 9) from hwb)
  clear hwb hfb
  go_enter Tryd.func35, Tryd.ntmps35
  go_wp2
  rw [← HWB.out]
  go_loopw [7] (MeRel s wb) (fun i _ => 6 - (intOf i).toNat)
  case atStart => exact ⟨0, by omega, rfl, rfl, Fr.refl _ _⟩
  case round =>
    obtain ⟨k, hk, rfl, hm, hfr⟩ := hrel
    by_cases hk6 : k < 6
    · have hki : (k : Int) < 6 := by omega
      obtain ⟨m, hmk⟩ : ∃ m, methodsB[k]? = some m := ⟨_, List.getElem?_eq_getElem (by show k < 6; exact hk6)⟩
      have hcell := HC.out wr hfr k m hmk
      have hmz : m.size ≤ 10 := (show ∀ x ∈ methodsB, x.size ≤ 10 by decide) m (List.mem_of_getElem? hmk)
      have HD := Lib.hid (show methodB s = if sameL s.data.toList m.data.toList then m else methodGo (methodsB.drop (k + 1)) s by
        rw [hm, List.drop_eq_getElem_cons (show k < methodsB.length from hk6)]
        have e : methodsB[k]'(show k < methodsB.length from hk6) = m := by rw [List.getElem?_eq_getElem (show k < methodsB.length from hk6)] at hmk; exact Option.some.inj hmk
        rw [e]; rfl)
      clear hm hmk
      have HSA := Lib.hid (Same_any s m wr (by omega) (by omega))
      go_wp2_with fail
      refine HSA.out.mono ?_
      rintro e w5 ⟨rfl, hf5⟩
      clear HSA
      cases hsm : sameL s.data.toList m.data.toList
      · have HD2 := Lib.hid (show methodB s = methodGo (methodsB.drop (k + 1)) s by rw [HD.out, hsm]; rfl)
        clear hsm
        go_wp2
        go_roundw
        case rel => exact ⟨k + 1, by omega, by go_num, HD2.out, hfr.trans hf5⟩
        case measure => simp [intOf]; omega
      · have HD2 := Lib.hid (show methodB s = m by rw [HD.out, hsm]; rfl)
        clear hsm
        go_wp2
        go_ret
        exact ⟨by rw [HD2.out]; rfl, HFB.out.trans (hfr.trans hf5)⟩
    · have hki : ¬ (k : Int) < 6 := by omega
      have HD2 := Lib.hid (show methodB s = s by rw [hm, List.drop_eq_nil_of_le (by show 6 ≤ k; omega)]; rfl)
      clear hm
      go_wp2
      go_ret
      exact ⟨by rw [HD2.out]; rfl, HFB.out.trans hfr⟩
end Go.Proofs.YtkoobhgedoanhaaDoor

namespace Go.Proofs.YtkoobhgedoanhaaDoor
open Go.RowKit

theorem dropWhile_nil {α : Type} {p : α → Bool} : ∀ {l : List α}, l.dropWhile p = [] ↔ l.all p = true
  | [] => by simp
  | a :: l => by
    rw [List.dropWhile_cons, List.all_cons]
    cases h : p a
    · simp
    · simp only [if_true, Bool.true_and]; exact dropWhile_nil
theorem trimS_nil (l cs : List UInt8) : Lib.trimS l cs = [] ↔ l.all (cs.contains ·) = true := by
  unfold Lib.trimS Lib.trimLeftS Lib.trimRightS
  rw [dropWhile_nil]
  constructor
  · intro h
    have h2 : l.reverse.dropWhile (cs.contains ·) = [] := by
      cases hq : l.reverse.dropWhile (cs.contains ·) with
      | nil => rfl
      | cons a r =>
        exfalso
        have hh := List.head?_dropWhile_not (p := (cs.contains ·)) l.reverse
        rw [hq] at h hh
        simp only [List.head?_cons, List.reverse_cons, List.all_append, List.all_cons, List.all_nil, Bool.and_true, Bool.and_eq_true] at h hh
        rw [h.2] at hh
        simp at hh
    rw [dropWhile_nil] at h2
    simpa using h2
  · intro h
    rw [List.all_eq_true] at h ⊢
    intro x hx
    refine h x ?_
    have h1 := (List.dropWhile_sublist (cs.contains ·) (l := l.reverse)).subset (List.mem_reverse.1 hx)
    exact List.mem_reverse.1 h1
theorem byteArray_nil {s : ByteArray} : s.data.toList = [] ↔ s.size = 0 := by
  constructor
  · intro h; have : s.data.toList.length = 0 := by rw [h]; rfl
    simpa using this
  · intro h; apply List.eq_nil_of_length_eq_zero; simpa using h
/-- strings.Trim by a set -/
theorem TrimSet_any (s cs : ByteArray) (w : World) (hs : s.size ≤ 9223372036854775807) (h2 : 2 ≤ cs.size) (hcs : cs.size < 4294967281) (hascii : ∀ b ∈ cs.data.toList, b.toNat < 128) :
    Calls Tryd.prog 92 #[.string s, .string cs] w fun e w' => e = .returned (.string ⟨(Lib.trimS s.data.toList cs.data.toList).toArray⟩) ∧ Fr noB w w' := by
  by_cases h0 : s.size = 0
  · refine (Any.strings_Trim_empty Tryd.lays160 s cs w (Or.inl h0)).mono fun e w' ⟨he, hw⟩ => ⟨?_, hw ▸ Fr.refl _ _⟩
    have e0 := byteArray_nil.2 h0
    rw [he, e0]
    congr 2
    rw [show Lib.trimS [] cs.data.toList = [] from rfl]
    cases s with
    | mk d => simp at e0; rw [e0]
  · refine (Any.strings_Trim_set Tryd.lays160 (fun w => by kernel_rfl) (by kernel_rfl) s cs w h2 (by omega) hs hcs (fun j b hj => hascii b (List.mem_of_getElem? hj))).mono fun e w' ⟨he, q, hw⟩ => ⟨he, ?_⟩
    rw [hw]
    exact (((Fr.refl noB w).alloc _).alloc _).drewN q
end Go.Proofs.YtkoobhgedoanhaaDoor

namespace Go.Proofs.YtkoobhgedoanhaaDoor
open Go.RowKit

theorem idx_first : ∀ (a b : List UInt8) (c : UInt8), (∀ x ∈ a, x ≠ c) → Lib.indexByte (a ++ c :: b) c = (a.length : Int)
  | [], b, c, _ => by simp [Lib.indexByte]
  | x :: a, b, c, h => by
    have hx : ¬ x = c := h x (List.mem_cons_self ..)
    have ih := idx_first a b c (fun y hy => h y (List.mem_cons_of_mem _ hy))
    show (if x == c then (0 : Int) else if Lib.indexByte (a ++ c :: b) c == -1 then -1 else Lib.indexByte (a ++ c :: b) c + 1) = _
    rw [ih, if_neg (by simpa using hx), if_neg (by simp)]
    simp
theorem idx_neg : ∀ (l : List UInt8) (c : UInt8), ¬ 0 ≤ Lib.indexByte l c ↔ ∀ x ∈ l, x ≠ c
  | [], c => by simp [Lib.indexByte]
  | x :: l, c => by
    have ih := idx_neg l c
    have hge := Lib.indexByte_ge l c
    show ¬ 0 ≤ (if x == c then (0 : Int) else if Lib.indexByte l c == -1 then -1 else Lib.indexByte l c + 1) ↔ _
    by_cases hx : x = c
    · subst hx; simp
    · rw [if_neg (by simpa using hx)]
      by_cases h1 : Lib.indexByte l c = -1
      · rw [if_pos (by simpa using h1)]
        constructor
        · intro _ y hy
          rcases List.mem_cons.1 hy with rfl | hy
          · exact hx
          · exact ih.1 (by rw [h1]; decide) y hy
        · intro _; decide
      · rw [if_neg (by simpa using h1)]
        constructor
        · intro h; omega
        · intro h
          have := ih.2 (fun y hy => h y (List.mem_cons_of_mem _ hy))
          omega
set_option maxHeartbeats 1000000 in
theorem cut1_hit (s : ByteArray) (c : UInt8) (i : Nat) (w : World) (hs : s.size < 4398046511104) (hi : Lib.indexByte s.data.toList c = (i : Int)) (hl : i < s.size) :
    Calls Tryd.prog 91 #[.string s, .string ⟨#[c]⟩] w fun e w' => e = .returned (.tuple #[.string (s.extract 0 i), .string (s.extract (i + 1) s.size), .bool true]) ∧ ∃ n, w' = w.drewN n := by
  have hin : Calls Tryd.prog 104 #[.string s, .string ⟨#[c]⟩] w fun e w' => e = .returned (.tuple #[.string (s.extract 0 i), .string (s.extract (i + 1) s.size), .bool true]) ∧ ∃ n, w' = w.drewN n := by
    have q0 : (0 : Int) ≤ (i : Int) := by omega
    have q1 : (i : Int) ≤ (s.size : Int) := by omega
    have q2 : (i : Int) + 1 ≤ (s.size : Int) := by omega
    have q3 : (0 : Int) ≤ (i : Int) + 1 := by omega
    go_enter Tryd.func104, Tryd.ntmps104
    go_wp2_with fail
    refine (Tryd.stringslite_Index_one s c w).mono ?_
    rintro e w1 ⟨rfl, rfl⟩
    rw [hi]
    go_wp2
    go_quiet (fail)
    go_wp2
    go_ret3
    exact ⟨rfl, _, rfl⟩
  go_enter Tryd.func91, Tryd.ntmps91
  go_wp2_with fail
  refine hin.mono ?_
  rintro e w1 ⟨rfl, n, rfl⟩
  go_wp2
  go_ret3
  exact ⟨rfl, n, rfl⟩
set_option maxHeartbeats 1000000 in
theorem cut1_miss (s : ByteArray) (c : UInt8) (w : World) (hi : ¬ 0 ≤ Lib.indexByte s.data.toList c) :
    Calls Tryd.prog 91 #[.string s, .string ⟨#[c]⟩] w fun e w' => e = .returned (.tuple #[.string s, .string ⟨#[]⟩, .bool false]) ∧ w' = w := by
  have hin : Calls Tryd.prog 104 #[.string s, .string ⟨#[c]⟩] w fun e w' => e = .returned (.tuple #[.string s, .string ⟨#[]⟩, .bool false]) ∧ w' = w := by
    go_enter Tryd.func104, Tryd.ntmps104
    go_wp2_with fail
    refine (Tryd.stringslite_Index_one s c w).mono ?_
    rintro e w1 ⟨rfl, rfl⟩
    go_wp2
    go_ret3
    exact ⟨rfl, rfl⟩
  go_enter Tryd.func91, Tryd.ntmps91
  go_wp2_with fail
  refine hin.mono ?_
  rintro e w1 ⟨rfl, rfl⟩
  go_wp2
  go_ret3
  exact ⟨rfl, rfl⟩
end Go.Proofs.YtkoobhgedoanhaaDoor

namespace Go.Proofs.YtkoobhgedoanhaaDoor
open Go.RowKit

def marksL : List UInt8 := [34, 40, 41, 58, 60, 62, 63, 64, 91, 92, 93, 123, 125]
def unsafeB (c : UInt8) : Bool := (decide (c.toNat < 32) && !decide (c.toNat = 9)) || decide (c.toNat = 127) || decide (0 ≤ Lib.indexByte marksL c)
set_option maxRecDepth 100000 in
set_option maxHeartbeats 1000000 in
theorem unsafe_any (c : UInt8) (w : World) :
    Calls Tryd.prog 89 #[.int .u8 (c.toNat : Int)] w fun e w' => e = .returned (.bool (unsafeB c)) ∧ w' = w := by
  by_cases h1 : c.toNat < 32 ∧ ¬ c.toNat = 9
  · obtain ⟨h1, h2⟩ := h1
    have hb := Lib.hid (show unsafeB c = true by unfold unsafeB; rw [decide_eq_true h1, decide_eq_false h2]; rfl)
    have i1 : (c.toNat : Int) < 32 := by omega
    have i2 : ¬ (c.toNat : Int) = 9 := by omega
    go_enter Tryd.func89, Tryd.ntmps89
    go_wp2
    go_ret
    exact ⟨ret_bool hb.out.symm, rfl⟩
  · by_cases h3 : c.toNat = 127
    · have hb := Lib.hid (show unsafeB c = true by unfold unsafeB; rw [decide_eq_true h3]; simp)
      have i1 : ¬ (c.toNat : Int) < 32 := by omega
      have i3 : (c.toNat : Int) = 127 := by omega
      go_enter Tryd.func89, Tryd.ntmps89
      go_wp2
      go_ret
      exact ⟨ret_bool hb.out.symm, rfl⟩
    · have hb := Lib.hid (show unsafeB c = decide (0 ≤ Lib.indexByte marksL c) by
        unfold unsafeB
        rw [decide_eq_false h3]
        by_cases h4 : c.toNat < 32
        · have h9 : c.toNat = 9 := by omega
          rw [decide_eq_true h4, decide_eq_true h9]; rfl
        · rw [decide_eq_false h4]; rfl)
      have HI := Lib.hid (show Calls Tryd.prog 103 #[.string ⟨#[34, 40, 41, 58, 60, 62, 63, 64, 91, 92, 93, 123, 125]⟩, .int .u8 (c.toNat : Int)] w fun e w' => e = .returned (.int .i64 (Lib.indexByte marksL c)) ∧ w' = w from
        (Tryd.strings_IndexByte ⟨#[34, 40, 41, 58, 60, 62, 63, 64, 91, 92, 93, 123, 125]⟩ c.toNat w).mono fun e w' ⟨he, hw⟩ => ⟨by
          have hc : ((c.toNat : Int).toNat.toUInt8) = c := by simp
          rw [hc] at he
          rw [he]; rfl, hw⟩)
      by_cases h4 : c.toNat < 32
      · have i1 : (c.toNat : Int) < 32 := by omega
        have i2 : (c.toNat : Int) = 9 := by omega
        have hi9 := HI.out
        rw [i2] at hi9
        have HI9 := Lib.hid hi9
        clear hi9
        have i3 : ((c.toNat : Int) == 127) = false := by rw [beq_eq_false_iff_ne]; omega
        go_enter Tryd.func89, Tryd.ntmps89
        go_wp2_with fail
        refine HI9.out.mono ?_
        rintro e u ⟨rfl, rfl⟩
        go_wp2
        go_ret
        first | exact ⟨ret_bool hb.out.symm, rfl⟩ | exact ⟨ret_bool (show (((c.toNat : Int) == 127) || decide (0 ≤ Lib.indexByte marksL c)) = unsafeB c by rw [i3, hb.out]; rfl), rfl⟩
      · have i1 : ¬ (c.toNat : Int) < 32 := by omega
        have i2 : ¬ (c.toNat : Int) = 127 := by omega
        have i3 : ((c.toNat : Int) == 127) = false := by rw [beq_eq_false_iff_ne]; exact i2
        go_enter Tryd.func89, Tryd.ntmps89
        go_wp2_with fail
        refine HI.out.mono ?_
        rintro e u ⟨rfl, rfl⟩
        go_wp2
        go_ret
        first | exact ⟨ret_bool hb.out.symm, rfl⟩ | exact ⟨ret_bool (show (((c.toNat : Int) == 127) || decide (0 ≤ Lib.indexByte marksL c)) = unsafeB c by rw [i3, hb.out]; rfl), rfl⟩

def langL : List UInt8 := [32, 42, 44, 45, 46, 59, 61]
def langC (c : UInt8) : Bool := alnumB c || decide (0 ≤ Lib.indexByte langL c)
def langB (s : ByteArray) : Bool := s.data.toList.all langC
def LaRel (s : ByteArray) (w : World) (i : Value) (wr : World) : Prop := ∃ k : Nat, k ≤ s.size ∧ i = .int .i64 k ∧ (s.data.toList.take k).all langC = true ∧ Fr noB w wr
set_option maxRecDepth 100000 in
set_option maxHeartbeats 2000000 in
theorem language_any (s : ByteArray) (w : World) (hs : s.size < 100000) :
    Calls Tryd.prog 90 #[.string s] w fun e w' => e = .returned (.bool (langB s)) ∧ Fr noB w w' := by
  go_enter Tryd.func90, Tryd.ntmps90
  go_wp2
  go_loopw [7] (LaRel s w) (fun i _ => s.size - (intOf i).toNat)
  case atStart => exact ⟨0, by omega, rfl, rfl, Fr.refl _ _⟩
  case round =>
    obtain ⟨k, hk, rfl, hall, hfr⟩ := hrel
    by_cases hks : k < s.size
    · have hki : (k : Int) < (s.size : Int) := by omega
      have hby := byte_at s k hks
      have HI := Lib.hid (show Calls Tryd.prog 103 #[.string ⟨#[32, 42, 44, 45, 46, 59, 61]⟩, .int .u8 (s[k].toNat : Int)] wr fun e w' => e = .returned (.int .i64 (Lib.indexByte langL s[k])) ∧ w' = wr from
        (Tryd.strings_IndexByte ⟨#[32, 42, 44, 45, 46, 59, 61]⟩ s[k].toNat wr).mono fun e w' ⟨he, hw⟩ => ⟨by
          have hc : ((s[k].toNat : Int).toNat.toUInt8) = s[k] := by simp
          rw [hc] at he
          rw [he]; rfl, hw⟩)
      have HYES := Lib.hid (show langC s[k] = true → (s.data.toList.take (k + 1)).all langC = true from fun h => by rw [List.take_add_one, hby, List.all_append, hall]; simp [h])
      have HNO := Lib.hid (show langC s[k] = false → langB s = false from fun h => by unfold langB; rw [List.all_eq_false]; exact ⟨s[k], List.mem_of_getElem? hby, by simp [h]⟩)
      have hlt := s[k].toNat_lt
      by_cases g0 : s[k].toNat ≤ 47
      · have q1 : (s[k].toNat : Int) < 48 := by omega
        have q2 : ¬ 57 < (s[k].toNat : Int) := by omega
        have q3 : (s[k].toNat : Int) < 97 := by omega
        have q4 : ¬ 122 < (s[k].toNat : Int) := by omega
        have q5 : (s[k].toNat : Int) < 65 := by omega
        have q6 : ¬ 90 < (s[k].toNat : Int) := by omega
        have hal : alnumB s[k] = false := by unfold alnumB; simp; omega
        have HAL := Lib.hid hal
        clear hal hby hall
        go_wp2_with fail
        refine HI.out.mono ?_
        rintro e u ⟨rfl, rfl⟩
        by_cases hix : 0 ≤ Lib.indexByte langL s[k]
        · have hix2 : ¬ Lib.indexByte langL s[k] < 0 := by omega
          have HY := Lib.hid (HYES.out (by unfold langC; rw [HAL.out, decide_eq_true hix]; rfl))
          go_wp2
          go_roundw
          case rel => exact ⟨k + 1, by omega, by go_num, HY.out, hfr⟩
          case measure => simp [intOf]; omega
        · have hix2 : Lib.indexByte langL s[k] < 0 := by omega
          have HN := Lib.hid (HNO.out (by unfold langC; rw [HAL.out, decide_eq_false hix]; rfl))
          go_wp2
          go_ret
          exact ⟨by rw [HN.out]; rfl, hfr⟩
      · skip
        by_cases g1 : s[k].toNat ≤ 57
        · have q1 : ¬ (s[k].toNat : Int) < 48 := by omega
          have q2 : ¬ 57 < (s[k].toNat : Int) := by omega
          have q3 : (s[k].toNat : Int) < 97 := by omega
          have q4 : ¬ 122 < (s[k].toNat : Int) := by omega
          have q5 : (s[k].toNat : Int) < 65 := by omega
          have q6 : ¬ 90 < (s[k].toNat : Int) := by omega
          have hy := HYES.out (by unfold langC alnumB; simp; omega)
          have HY := Lib.hid hy
          clear hy hall hby
          go_wp2
          go_roundw
          case rel => exact ⟨k + 1, by omega, by go_num, HY.out, hfr⟩
          case measure => simp [intOf]; omega
        · skip
          by_cases g2 : s[k].toNat ≤ 64
          · have q1 : ¬ (s[k].toNat : Int) < 48 := by omega
            have q2 : 57 < (s[k].toNat : Int) := by omega
            have q3 : (s[k].toNat : Int) < 97 := by omega
            have q4 : ¬ 122 < (s[k].toNat : Int) := by omega
            have q5 : (s[k].toNat : Int) < 65 := by omega
            have q6 : ¬ 90 < (s[k].toNat : Int) := by omega
            have hal : alnumB s[k] = false := by unfold alnumB; simp; omega
            have HAL := Lib.hid hal
            clear hal hby hall
            go_wp2_with fail
            refine HI.out.mono ?_
            rintro e u ⟨rfl, rfl⟩
            by_cases hix : 0 ≤ Lib.indexByte langL s[k]
            · have hix2 : ¬ Lib.indexByte langL s[k] < 0 := by omega
              have HY := Lib.hid (HYES.out (by unfold langC; rw [HAL.out, decide_eq_true hix]; rfl))
              go_wp2
              go_roundw
              case rel => exact ⟨k + 1, by omega, by go_num, HY.out, hfr⟩
              case measure => simp [intOf]; omega
            · have hix2 : Lib.indexByte langL s[k] < 0 := by omega
              have HN := Lib.hid (HNO.out (by unfold langC; rw [HAL.out, decide_eq_false hix]; rfl))
              go_wp2
              go_ret
              exact ⟨by rw [HN.out]; rfl, hfr⟩
          · skip
            by_cases g3 : s[k].toNat ≤ 90
            · have q1 : ¬ (s[k].toNat : Int) < 48 := by omega
              have q2 : 57 < (s[k].toNat : Int) := by omega
              have q3 : (s[k].toNat : Int) < 97 := by omega
              have q4 : ¬ 122 < (s[k].toNat : Int) := by omega
              have q5 : ¬ (s[k].toNat : Int) < 65 := by omega
              have q6 : ¬ 90 < (s[k].toNat : Int) := by omega
              have hy := HYES.out (by unfold langC alnumB; simp; omega)
              have HY := Lib.hid hy
              clear hy hall hby
              go_wp2
              go_roundw
              case rel => exact ⟨k + 1, by omega, by go_num, HY.out, hfr⟩
              case measure => simp [intOf]; omega
            · skip
              by_cases g4 : s[k].toNat ≤ 96
              · have q1 : ¬ (s[k].toNat : Int) < 48 := by omega
                have q2 : 57 < (s[k].toNat : Int) := by omega
                have q3 : (s[k].toNat : Int) < 97 := by omega
                have q4 : ¬ 122 < (s[k].toNat : Int) := by omega
                have q5 : ¬ (s[k].toNat : Int) < 65 := by omega
                have q6 : 90 < (s[k].toNat : Int) := by omega
                have hal : alnumB s[k] = false := by unfold alnumB; simp; omega
                have HAL := Lib.hid hal
                clear hal hby hall
                go_wp2_with fail
                refine HI.out.mono ?_
                rintro e u ⟨rfl, rfl⟩
                by_cases hix : 0 ≤ Lib.indexByte langL s[k]
                · have hix2 : ¬ Lib.indexByte langL s[k] < 0 := by omega
                  have HY := Lib.hid (HYES.out (by unfold langC; rw [HAL.out, decide_eq_true hix]; rfl))
                  go_wp2
                  go_roundw
                  case rel => exact ⟨k + 1, by omega, by go_num, HY.out, hfr⟩
                  case measure => simp [intOf]; omega
                · have hix2 : Lib.indexByte langL s[k] < 0 := by omega
                  have HN := Lib.hid (HNO.out (by unfold langC; rw [HAL.out, decide_eq_false hix]; rfl))
                  go_wp2
                  go_ret
                  exact ⟨by rw [HN.out]; rfl, hfr⟩
              · skip
                by_cases g5 : s[k].toNat ≤ 122
                · have q1 : ¬ (s[k].toNat : Int) < 48 := by omega
                  have q2 : 57 < (s[k].toNat : Int) := by omega
                  have q3 : ¬ (s[k].toNat : Int) < 97 := by omega
                  have q4 : ¬ 122 < (s[k].toNat : Int) := by omega
                  have q5 : ¬ (s[k].toNat : Int) < 65 := by omega
                  have q6 : 90 < (s[k].toNat : Int) := by omega
                  have hy := HYES.out (by unfold langC alnumB; simp; omega)
                  have HY := Lib.hid hy
                  clear hy hall hby
                  go_wp2
                  go_roundw
                  case rel => exact ⟨k + 1, by omega, by go_num, HY.out, hfr⟩
                  case measure => simp [intOf]; omega
                · skip
                  have q1 : ¬ (s[k].toNat : Int) < 48 := by omega
                  have q2 : 57 < (s[k].toNat : Int) := by omega
                  have q3 : ¬ (s[k].toNat : Int) < 97 := by omega
                  have q4 : 122 < (s[k].toNat : Int) := by omega
                  have q5 : ¬ (s[k].toNat : Int) < 65 := by omega
                  have q6 : 90 < (s[k].toNat : Int) := by omega
                  have hal : alnumB s[k] = false := by unfold alnumB; simp; omega
                  have HAL := Lib.hid hal
                  clear hal hby hall
                  go_wp2_with fail
                  refine HI.out.mono ?_
                  rintro e u ⟨rfl, rfl⟩
                  by_cases hix : 0 ≤ Lib.indexByte langL s[k]
                  · have hix2 : ¬ Lib.indexByte langL s[k] < 0 := by omega
                    have HY := Lib.hid (HYES.out (by unfold langC; rw [HAL.out, decide_eq_true hix]; rfl))
                    go_wp2
                    go_roundw
                    case rel => exact ⟨k + 1, by omega, by go_num, HY.out, hfr⟩
                    case measure => simp [intOf]; omega
                  · have hix2 : Lib.indexByte langL s[k] < 0 := by omega
                    have HN := Lib.hid (HNO.out (by unfold langC; rw [HAL.out, decide_eq_false hix]; rfl))
                    go_wp2
                    go_ret
                    exact ⟨by rw [HN.out]; rfl, hfr⟩
    · have hki : ¬ (k : Int) < (s.size : Int) := by omega
      have hfin := Lib.hid (show langB s = true by
        unfold langB
        rw [List.take_of_length_le (by simp; omega)] at hall
        exact hall)
      clear hall
      go_wp2
      go_ret
      exact ⟨by rw [hfin.out]; rfl, hfr⟩
end Go.Proofs.YtkoobhgedoanhaaDoor
