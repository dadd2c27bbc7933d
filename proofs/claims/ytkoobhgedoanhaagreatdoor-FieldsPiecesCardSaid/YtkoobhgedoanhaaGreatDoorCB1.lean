/- Small words of ours: frames of a call (which blocks may have turned), ends of walks. No program in sight. A slice of bytes that a call itself has made: append, and the text of it. Walks: coding.Lower, token.Same. Slices of strings: read, and made by the call itself; errors. Walks over the package token: bytes. Walks over the package token: the cursor's loops. Walks over the package token: texts between marks. Walks over the package token: Is, Quote. -/
import Derived.WalkKit
import Derived.Deep.QuietTactic
import Derived.BigQuiet
import Derived.Test.YtkoobhgedoanhaaGreatDoorRows
import Derived.WalkSpells
import Derived.WalkLawsBesides
import Derived.Lib.Hide
import Derived.Test.YtkoobhgedoanhaaGreatDoorShelf
import Derived.Deep.RegionWith
import Derived.Deep.LoopGhost
namespace Go.Proofs.YtkoobhgedoanhaaGreatDoor
open Go.RowKit

theorem ret_bool {a b : Bool} (h : a = b) : Ending.returned (.bool a) = .returned (.bool b) := by rw [h]
theorem ret_int {k : IntKind} {a b : Int} (h : a = b) : Ending.returned (.int k a) = .returned (.int k b) := by rw [h]
theorem ret_str {a b : ByteArray} (h : a = b) : Ending.returned (.string a) = .returned (.string b) := by rw [h]

/-- a callee that turns nothing, in a region that draws -/
theorem quiet_eq {P : Program} {f : FuncId} {args : Array Value} {w : World} {n : Nat} {v : Value}
    (h : Calls P f args (w.drewN n) fun e w' => e = .returned v ∧ w.drewN n = w') : Calls P f args (w.drewN n) fun e w'' => e = .returned v ∧ ∃ m, w'' = w.drewN m :=
  h.mono fun _ _ ⟨he, hm⟩ => ⟨he, n, hm.symm⟩

/-- .. behind a region that has drawn already -/
theorem quiet_eq2 {P : Program} {f : FuncId} {args : Array Value} {w : World} {q n : Nat} {v : Value}
    (h : Calls P f args (w.drewN (q + n)) fun e w' => e = .returned v ∧ w.drewN (q + n) = w') : Calls P f args (w.drewN (q + n)) fun e w'' => e = .returned v ∧ ∃ m, w'' = w.drewN (q + m) :=
  h.mono fun _ _ ⟨he, hm⟩ => ⟨he, n, hm.symm⟩

/-- FRAME: of the blocks that lay in w only those of S may have turned; streams as they were. -/
structure Fr (S : Nat → Prop) (w w' : World) : Prop where
  os : w'.os = w.os
  tape : w'.tape = w.tape
  output : w'.output = w.output
  size : w.heap.size ≤ w'.heap.size
  block : ∀ k, k < w.heap.size → ¬ S k → w'.heap[k]? = w.heap[k]?

namespace Fr
variable {S T : Nat → Prop} {a w w' w1 w2 : World}
theorem refl (S : Nat → Prop) (w : World) : Fr S w w := ⟨rfl, rfl, rfl, Nat.le_refl _, fun _ _ _ => rfl⟩
theorem mono (h : Fr S w w') (hs : ∀ k, k < w.heap.size → S k → T k) : Fr T w w' := ⟨h.os, h.tape, h.output, h.size, fun k hk hn => h.block k hk (fun hS => hn (hs k hk hS))⟩
theorem trans (h : Fr S a w) (g : Fr S w w') : Fr S a w' :=
  ⟨g.os.trans h.os, g.tape.trans h.tape, g.output.trans h.output, Nat.le_trans h.size g.size, fun k hk hn => (g.block k (Nat.lt_of_lt_of_le hk h.size) hn).trans (h.block k hk hn)⟩
/-- a step whose own writes lie in S, or in blocks that are new since a -/
theorem step (h : Fr S a w) (g : Fr T w w') (hs : ∀ k, k < a.heap.size → T k → S k) : Fr S a w' :=
  ⟨g.os.trans h.os, g.tape.trans h.tape, g.output.trans h.output, Nat.le_trans h.size g.size,
    fun k hk hn => (g.block k (Nat.lt_of_lt_of_le hk h.size) (fun ht => hn (hs k hk ht))).trans (h.block k hk hn)⟩
theorem keep (h : Fr S w w') {k : Nat} {o : Obj} (hk : w.heap[k]? = some o) (hn : ¬ S k) : w'.heap[k]? = some o :=
  (h.block k (by rcases Nat.lt_or_ge k w.heap.size with g | g; exact g; simp [Array.getElem?_eq_none g] at hk) hn).trans hk
theorem cell (h : Fr S w w') {p : Addr} (hp : p.block < w.heap.size) (hn : ¬ S p.block) : w'.cell? p = w.cell? p := World.cell?_of_block (w := w) (h.block p.block hp hn)
theorem frozen (h : Fr S w w') {p : Addr} (hp : p.block < w.heap.size) (hn : ¬ S p.block) : w'.frozen? p = w.frozen? p := World.frozen?_of_block (w := w) (h.block p.block hp hn)
theorem drewN (n : Nat) (h : Fr S a w) : Fr S a (w.drewN n) := ⟨h.os, h.tape, h.output, h.size, h.block⟩
theorem drew (h : Fr S a w) : Fr S a w.drew := ⟨h.os, h.tape, h.output, h.size, h.block⟩
theorem setCell (h : Fr S a w) {p : Addr} (hp : p.block < a.heap.size → S p.block) (u : Value) : Fr S a (w.setCell p u) :=
  ⟨h.os, h.tape, h.output, by simpa [World.setCell] using h.size, fun k hk hn => (Below.heap_setCell _ _ _ _ (fun e => by subst e; exact hn (hp hk))).trans (h.block k hk hn)⟩
theorem alloc (h : Fr S a w) (o : Obj) : Fr S a (w.alloc o) :=
  ⟨h.os, h.tape, h.output, Nat.le_trans h.size (by simp), fun k hk hn => (Below.heap_alloc _ _ _ (Nat.lt_of_lt_of_le hk h.size)).trans (h.block k hk hn)⟩
theorem grown {row : Option Nat} (h : Fr S a w) (hg : w.grownBy w' row) (hr : ∀ k, row = some k → k < a.heap.size → S k) : Fr S a w' :=
  ⟨hg.os.trans h.os, hg.tape.trans h.tape, hg.output.trans h.output, Nat.le_trans h.size hg.size,
    fun k hk hn => (hg.block k (Nat.lt_of_lt_of_le hk h.size) (fun e => hn (hr k e.symm hk))).trans (h.block k hk hn)⟩
theorem below {B : Nat} (h : Fr S w w') (hB : B ≤ w.heap.size) (hS : ∀ k, k < B → ¬ S k) : Below B w w' :=
  ⟨h.os, h.tape, h.output, h.size, fun k hk => h.block k (Nat.lt_of_lt_of_le hk hB) (hS k hk)⟩
theorem ofBelow {B : Nat} (h : Below B w w') (hS : ∀ k, k < w.heap.size → B ≤ k → S k) : Fr S w w' :=
  ⟨h.os, h.tape, h.output, h.size, fun k hk hn => h.block k (Nat.lt_of_not_le (fun hB => hn (hS k hk hB)))⟩
end Fr

/-- no block at all -/
def noB : Nat → Prop := fun _ => False
theorem Fr.none_below {w w' : World} (h : Fr noB w w') : Below w.heap.size w w' := h.below (Nat.le_refl _) (fun _ _ h => h)
theorem Fr.of_below {w w' : World} (h : Below w.heap.size w w') : Fr noB w w' := Fr.ofBelow h (fun _ hk hB => absurd hk (by omega))
/-- a store into, or an append to, a block that is new since a -/
theorem Fr.setNew {S : Nat → Prop} {a w : World} (h : Fr S a w) {p : Addr} (hp : a.heap.size ≤ p.block) (u : Value) : Fr S a (w.setCell p u) := h.setCell (fun hl => absurd hl (by omega)) u
theorem Fr.grownNew {S : Nat → Prop} {a w w' : World} {row : Option Nat} (h : Fr S a w) (hg : w.grownBy w' row) (hr : ∀ k, row = some k → a.heap.size ≤ k) : Fr S a w' :=
  h.grown hg (fun k hk hl => absurd hl (by have := hr k hk; omega))

theorem byte_at (s : ByteArray) (i : Nat) (h : i < s.size) : s.data.toList[i]? = some s[i] := by
  have h' : i < s.data.toList.length := by simpa using h
  rw [List.getElem?_eq_getElem h']; rfl
theorem byte_off (s : ByteArray) (i : Nat) (h : ¬ i < s.size) : s.data.toList[i]? = none := List.getElem?_eq_none (by simpa using h)

theorem lt_of_some {w : World} {k : Nat} {o : Obj} (h : w.heap[k]? = some o) : k < w.heap.size := by
  rcases Nat.lt_or_ge k w.heap.size with g | g
  · exact g
  · simp [Array.getElem?_eq_none g] at h
/-- a letter or a digit -/
def alnumB (c : UInt8) : Bool := (decide (48 ≤ c.toNat) && decide (c.toNat ≤ 57)) || (decide (97 ≤ c.toNat) && decide (c.toNat ≤ 122)) || (decide (65 ≤ c.toNat) && decide (c.toNat ≤ 90))
theorem drop_at {l : List UInt8} {k : Nat} {x : UInt8} (h : l[k]? = some x) : l.drop k = x :: l.drop (k + 1) := by
  obtain ⟨hk, e⟩ := List.getElem?_eq_some_iff.1 h
  rw [List.drop_eq_getElem_cons hk, e]
theorem drop_off {l : List UInt8} {k : Nat} (h : l[k]? = none) : l.drop k = [] := List.drop_eq_nil_of_le (List.getElem?_eq_none_iff.1 h)
def one (b : Nat) : Nat → Prop := fun k => k = b
theorem Fr.one_set (w : World) (b : Nat) (u : Value) (n : Nat) : Fr (one b) w ((w.setCell ⟨b, 1, none⟩ u).drewN n) := ((Fr.refl (one b) w).setCell (p := ⟨b, 1, none⟩) (fun _ => rfl) u).drewN n
theorem Fr.one_cell {a w : World} {b k : Nat} {u : Value} (h : Fr (one b) a w) : Fr (one b) a (w.setCell ⟨b, k, none⟩ u) := h.setCell (p := ⟨b, k, none⟩) (fun _ => rfl) u
end Go.Proofs.YtkoobhgedoanhaaGreatDoor

namespace Go.Proofs.YtkoobhgedoanhaaGreatDoor
open Go.RowKit

theorem info_u8 : (Tryz.prog.info? 5).map (fun i => (i.zero, i.size, i.bytes)) = some (some (.int .u8 0), 1, 1) := by kernel_rfl

def u8s (l : List UInt8) : List Value := l.map fun x => .int .u8 (x.toNat : Int)
theorem u8s_snoc (l : List UInt8) (c : UInt8) : u8s (l ++ [c]) = u8s l ++ [.int .u8 (c.toNat : Int)] := by simp [u8s]
theorem u8s_append (l m : List UInt8) : u8s (l ++ m) = u8s l ++ u8s m := by simp [u8s]
theorem u8s_length (l : List UInt8) : (u8s l).length = l.length := by simp [u8s]

/-- v is a slice of the call's own (blocks from base on) that holds the bytes l. -/
def Bytes (base : Nat) (w : World) (v : Value) (l : List UInt8) : Prop := w.ownsRow base 5 1 v l.length (u8s l)

theorem Bytes.nil (base : Nat) (w : World) : Bytes base w (.slice none 0 0) [] := World.ownsRow_nil _ _ _ _
theorem Bytes.alloc {base : Nat} {w : World} {v : Value} {l : List UInt8} (h : Bytes base w v l) (o : Obj) : Bytes base (w.alloc o) v l := World.ownsRow.alloc h o
theorem Bytes.drewN {base : Nat} {w : World} {v : Value} {l : List UInt8} {n : Nat} (h : Bytes base w v l) : Bytes base (w.drewN n) v l := h
theorem Bytes.drew {base : Nat} {w : World} {v : Value} {l : List UInt8} (h : Bytes base w v l) : Bytes base w.drew v l := h
theorem Bytes.setCell {base : Nat} {w : World} {v : Value} {l : List UInt8} {p : Addr} {u : Value} (hp : p.block < base) (h : Bytes base w v l) : Bytes base (w.setCell p u) v l := ownsRow_setCell_below h hp u
theorem new_cell (w : World) (v : Value) (t : TypeId) (f : Nat × Nat) : (w.alloc (.cells #[v] t f)).cell? ⟨w.heap.size, 0, none⟩ = some v := World.cell?_alloc_mark w #[v] t f 0
theorem new_block (w : World) (o : Obj) : (w.alloc o).heap[w.heap.size]? = some o := by
  show (w.heap.push o)[w.heap.size]? = _
  simp
/-- []byte{x} -/
theorem Bytes.new1 (w : World) (x : UInt8) : Bytes w.heap.size (w.alloc (.cells #[.int .u8 x.toNat] 5)) (.slice (some ⟨w.heap.size, 0, none⟩) 1 1) [x] :=
  ⟨rfl, Or.inr ⟨w.heap.size, 1, _, rfl, Nat.le_refl _, new_block _ _, Nat.le_refl _, by simp [maxLen], rfl, rfl⟩⟩
theorem Bytes.form {base : Nat} {w : World} {v : Value} {l : List UInt8} (h : Bytes base w v l) : ∃ a c, v = .slice a l.length c := by
  rcases h.2 with ⟨hv, hn⟩ | ⟨g, cap, cur, hv, _⟩
  · exact ⟨none, 0, by rw [hv, hn]⟩
  · exact ⟨_, _, hv⟩
/-- what is owned stays, where its own block stays -/
theorem Bytes.fr {base : Nat} {w w' : World} {v : Value} {l : List UInt8} {S : Nat → Prop} (h : Bytes base w v l) (hf : Fr S w w') (hS : ∀ k, S k → k < base) : Bytes base w' v l := by
  obtain ⟨h1, h2⟩ := h
  refine ⟨h1, ?_⟩
  rcases h2 with h2 | ⟨g, cap, cur, hv, hg, hh, r⟩
  · exact Or.inl h2
  · exact Or.inr ⟨g, cap, cur, hv, hg, hf.keep hh (fun hs => absurd (hS g hs) (by omega)), r⟩
theorem Bytes.block {base : Nat} {w : World} {v : Value} {l : List UInt8} (h : Bytes base w v l) : ∀ k, v.ownBlock = some k → base ≤ k := by
  intro k hk
  rcases h.2 with ⟨hv, _⟩ | ⟨g, cap, cur, hv, hg, _⟩
  · rw [hv] at hk; simp [Value.ownBlock] at hk
  · rw [hv] at hk; simp [Value.ownBlock] at hk; omega

/-- string(b) -/
theorem Bytes.text {base : Nat} {w : World} {a : Option Addr} {n c : Nat} {l : List UInt8} (h : Bytes base w (.slice a n c) l) :
    (convert 95 9 (.slice a n c)).run Tryz.prog w = .ok (.string ⟨l.toArray⟩) w := by
  obtain ⟨h1, h2⟩ := h
  rcases h2 with ⟨hv, hn⟩ | ⟨g, cap, cur, hv, hg, hh, h3, h4, h5, h6⟩
  · cases hv
    have : l = [] := List.eq_nil_of_length_eq_zero hn
    subst this
    exact run_convert_bytes_nil (P := Tryz.prog) w 95 5 Tryz.underlying95 Tryz.underlying5 0 0 9 Tryz.underlying9
  · cases hv
    refine run_convert_bytes_back (P := Tryz.prog) w 95 9 5 ⟨g, 0, none⟩ c l Tryz.underlying95 Tryz.underlying5 Tryz.underlying9 ?_
    intro j hj
    have hj2 : j < l.length * 1 := by omega
    have e : (cur.toList.take (l.length * 1))[j]? = some (.int .u8 (l[j].toNat : Int)) := by
      rw [h6]; simp [u8s, hj]
    rw [List.getElem?_take_of_lt hj2] at e
    have e2 : cur[j]? = some (.int .u8 (l[j].toNat : Int)) := by simpa using e
    have ea : (Addr.add ⟨g, 0, none⟩ j) = ⟨g, j, none⟩ := by unfold Addr.add; split <;> simp_all
    rw [ea]
    simp [World.cell?, hh, e2]

/-- b = append(b, x): one byte -/
theorem wpList_byte {ops : Array Oper} {rest : List Oper} {o : Oper} {a : Act} {Q : Exit → Act → World → Prop} {w : World} (hgd : o.guard = none) (s x : Operand)
    (ho : o.op = .call { callee := .builtin .append, args := #[s, x], argTypes := #[95, 95] }) (base : Nat) (v : Value) (l : List UInt8) (hs : a.eval s = v) (hown : Bytes base w v l)
    (ad : Addr) (c : Nat) (y : UInt8) (hx : a.eval x = .slice (some ad) 1 c) (hy : w.cell? ad = some (.int .u8 (y.toNat : Int))) (hlen : l.length < 70368744177664) (hbase : base ≤ w.heap.size)
    (h : ∀ v' w', Bytes base w' v' (l ++ [y]) → w.grownBy w' v.ownBlock → wpList Tryz.prog ops Q rest (a.put o.dst v') w') : wpList Tryz.prog ops Q (o :: rest) a w := by
  obtain ⟨i0, hi, hz0, hz1, hz2⟩ := info_parts info_u8
  refine wpList_append_own w hgd s x 95 ho base 5 i0 (.int .u8 0) 1 1 Tryz.underlying95 hi hz0 hz1 hz2 rfl (by decide) v l.length (u8s l) hs hown ad 1 c [.int .u8 (y.toNat : Int)] hx rfl ?_ ?_ ?_ ?_ hbase ?_
  · intro j u hj
    match j, hj with
    | 0, hj => simp at hj; subst hj; simpa [Addr.add] using hy
  · intro u hu; simp at hu; subst hu; rfl
  · unfold maxLen; omega
  · omega
  · intro v' w' h1 h2 _
    exact h v' w' (by unfold Bytes; rw [u8s_snoc]; simpa using h1) h2
end Go.Proofs.YtkoobhgedoanhaaGreatDoor

namespace Go.Proofs.YtkoobhgedoanhaaGreatDoor
open Go.RowKit

def lowB (c : UInt8) : UInt8 := if 65 ≤ c.toNat ∧ c.toNat ≤ 90 then c + 32 else c
def lowL (l : List UInt8) : List UInt8 := l.map lowB
theorem lowB_toNat (c : UInt8) : (lowB c).toNat = if 65 ≤ c.toNat ∧ c.toNat ≤ 90 then c.toNat + 32 else c.toNat := by
  unfold lowB
  split
  · rename_i h
    rw [UInt8.toNat_add]
    have : (32 : UInt8).toNat = 32 := rfl
    rw [this]; omega
  · rfl

/-- block g is what []byte(s) has laid: the bytes l, spare room, and a mark behind its end -/
def RowAt (w : World) (g : Nat) (l : List UInt8) : Prop := ∃ t : List Value, w.heap[g]? = some (.cells (u8s l ++ t).toArray 5 ((u8s l ++ t).length, (u8s l ++ t).length + 1))
theorem RowAt.cell {w : World} {g : Nat} {l : List UInt8} (h : RowAt w g l) {j : Nat} {c : UInt8} (hj : l[j]? = some c) : w.cell? ⟨g, j, none⟩ = some (.int .u8 (c.toNat : Int)) := by
  obtain ⟨t, h⟩ := h
  obtain ⟨hl, he⟩ := List.getElem?_eq_some_iff.1 hj
  simp only [World.cell?, h]
  simp [u8s, List.getElem?_append_left, hl, he]
theorem RowAt.free {w : World} {g : Nat} {l : List UInt8} (h : RowAt w g l) {j : Nat} (hj : j < l.length) : w.frozen? ⟨g, j, none⟩ = false := by
  obtain ⟨t, h⟩ := h
  simp only [World.frozen?, h]
  simp [u8s]; omega
theorem RowAt.set {w : World} {g : Nat} {l : List UInt8} (h : RowAt w g l) {j : Nat} (hj : j < l.length) (c : UInt8) : RowAt (w.setCell ⟨g, j, none⟩ (.int .u8 (c.toNat : Int))) g (l.set j c) := by
  obtain ⟨t, h⟩ := h
  refine ⟨t, ?_⟩
  simp only [World.setCell, Array.getElem?_modify, h]
  simp [u8s, hj, List.map_set]
theorem RowAt.new (w : World) (s : ByteArray) (cap : Nat) : RowAt (w.drew.alloc (.cells (bytesRow s cap) 5 ((bytesRow s cap).size, (bytesRow s cap).size + 1))) w.heap.size s.data.toList := by
  refine ⟨List.replicate (cap - s.size) (Value.int .u8 0), ?_⟩
  have e : bytesRow s cap = (u8s s.data.toList ++ List.replicate (cap - s.size) (Value.int .u8 0)).toArray := by
    apply Array.toList_inj.1
    simp [bytesRow, u8s]
  have h := new_block w.drew (.cells (bytesRow s cap) 5 ((bytesRow s cap).size, (bytesRow s cap).size + 1))
  have h' : (w.drew.alloc (.cells (bytesRow s cap) 5 ((bytesRow s cap).size, (bytesRow s cap).size + 1))).heap[w.heap.size]? = some (.cells (bytesRow s cap) 5 ((bytesRow s cap).size, (bytesRow s cap).size + 1)) := h
  rw [h', e]; simp
theorem RowAt.text {w : World} {g : Nat} {l : List UInt8} (h : RowAt w g l) (n c : Nat) (hn : n = l.length) :
    (convert 95 9 (.slice (some ⟨g, 0, none⟩) n c)).run Tryz.prog w = .ok (.string ⟨l.toArray⟩) w := by
  subst hn
  refine run_convert_bytes_back (P := Tryz.prog) w 95 9 5 ⟨g, 0, none⟩ c l Tryz.underlying95 Tryz.underlying5 Tryz.underlying9 ?_
  intro j hj
  have ea : (Addr.add ⟨g, 0, none⟩ j) = ⟨g, j, none⟩ := by unfold Addr.add; split <;> simp_all
  rw [ea]
  exact h.cell (List.getElem?_eq_getElem hj)

/-- the first k bytes turned -/
def lowTo (l : List UInt8) (k : Nat) : List UInt8 := lowL (l.take k) ++ l.drop k
theorem lowTo_len (l : List UInt8) (k : Nat) : (lowTo l k).length = l.length := by simp [lowTo, lowL]; omega
theorem lowTo_at {l : List UInt8} {k : Nat} {x : UInt8} (h : l[k]? = some x) : (lowTo l k)[k]? = some x := by
  have hk := (List.getElem?_eq_some_iff.1 h).1
  unfold lowTo
  rw [List.getElem?_append_right (by simp [lowL]; omega)]
  have e : k - (lowL (l.take k)).length = 0 := by simp [lowL]; omega
  rw [e, drop_at h]; rfl
theorem lowTo_succ {l : List UInt8} {k : Nat} {x : UInt8} (h : l[k]? = some x) : lowTo l (k + 1) = (lowTo l k).set k (lowB x) := by
  have hk := (List.getElem?_eq_some_iff.1 h).1
  have el : (lowL (l.take k)).length = k := by simp [lowL]; omega
  unfold lowTo
  rw [drop_at h, List.take_add_one, h, List.set_append]
  rw [if_neg (by omega), show k - (lowL (l.take k)).length = 0 from by omega]
  simp [lowL]
theorem lowTo_same {l : List UInt8} {k : Nat} {x : UInt8} (h : l[k]? = some x) (hx : lowB x = x) : lowTo l (k + 1) = lowTo l k := by
  rw [lowTo_succ h, hx]
  apply List.ext_getElem?
  intro j
  by_cases hj : k = j
  · subst hj
    rw [lowTo_at h, List.getElem?_set_self (by rw [lowTo_len]; exact (List.getElem?_eq_some_iff.1 h).1)]
  · rw [List.getElem?_set_ne hj]
theorem lowTo_all (l : List UInt8) (k : Nat) (h : l.length ≤ k) : lowTo l k = lowL l := by
  unfold lowTo; rw [List.take_of_length_le h, List.drop_eq_nil_of_le h]; simp

def LowRel (s : ByteArray) (w : World) (i : Value) (wr : World) : Prop :=
  ∃ k : Nat, k ≤ s.size ∧ i = .int .i64 k ∧ RowAt wr w.heap.size (lowTo s.data.toList k) ∧ Fr noB w wr

set_option maxRecDepth 100000 in
set_option maxHeartbeats 1000000 in
theorem Lower_any (s : ByteArray) (w : World) (hs : s.size < 17592186044416) :
    Calls Tryz.prog 76 #[.string s] w fun e w' => e = .returned (.string ⟨(lowL s.data.toList).toArray⟩) ∧ Fr noB w w' := by
  have kc := fun (wx : World) => run_bytes_of_string (P := Tryz.prog) wx 9 95 5 s Tryz.underlying9 Tryz.underlying95 Tryz.underlying5
  go_enter Tryz.func76, Tryz.ntmps76
  go_wp2
  go_loopw [10] (LowRel s w) (fun i _ => s.size - (intOf i).toNat)
  case atStart => exact ⟨0, Nat.zero_le _, rfl, RowAt.new w s _, ((Fr.refl _ w).drew).alloc _⟩
  case round =>
    obtain ⟨k, hk, rfl, hrow, hfr⟩ := hrel
    by_cases hks : k < s.size
    · have hat := Lib.hid (byte_at s k hks)
      generalize hx : s[k] = x at hat
      have hc := hrow.cell (lowTo_at hat.out)
      have hf := hrow.free (j := k) (by rw [lowTo_len]; simpa using hks)
      by_cases h1 : 65 ≤ x.toNat
      · by_cases h2 : x.toNat ≤ 90
        · have hset := Lib.hid (hrow.set (j := k) (by rw [lowTo_len]; simpa using hks) (lowB x))
          have hsc := Lib.hid (lowTo_succ hat.out)
          have hlb := Lib.hid (show ((lowB x).toNat : Int) = (x.toNat : Int) + 32 by rw [lowB_toNat, if_pos ⟨h1, h2⟩]; omega)
          go_wp2
          go_roundw
          case rel => exact ⟨k + 1, by omega, by go_num, by rw [hsc.out]; have h := hset.out; rw [hlb.out] at h; exact h, hfr.setNew (p := ⟨w.heap.size, k, none⟩) (Nat.le_refl _) _⟩
          case measure => simp [intOf]; omega
        · have hsm := Lib.hid (lowTo_same hat.out (by unfold lowB; rw [if_neg (by omega)]))
          go_wp2
          go_roundw
          case rel => exact ⟨k + 1, by omega, by go_num, by rw [hsm.out]; exact hrow, hfr⟩
          case measure => simp [intOf]; omega
      · have hsm := Lib.hid (lowTo_same hat.out (by unfold lowB; rw [if_neg (by omega)]))
        go_wp2
        go_roundw
        case rel => exact ⟨k + 1, by omega, by go_num, by rw [hsm.out]; exact hrow, hfr⟩
        case measure => simp [intOf]; omega
    · have hrow2 := hrow
      rw [lowTo_all s.data.toList k (by simp; omega)] at hrow2
      have htext := fun c => hrow2.text s.size c (by simp [lowL])
      go_wp2
      go_ret
      exact ⟨rfl, hfr⟩

/-- token.Same -/
def sameL (a b : List UInt8) : Bool := lowL a == lowL b
set_option maxHeartbeats 1000000 in
theorem Same_any (a b : ByteArray) (w : World) (ha : a.size < 17592186044416) (hb : b.size < 17592186044416) :
    Calls Tryz.prog 50 #[.string a, .string b] w fun e w' => e = .returned (.bool (sameL a.data.toList b.data.toList)) ∧ Fr noB w w' := by
  go_enter Tryz.func50, Tryz.ntmps50
  go_wp2_with fail
  refine (Lower_any a w ha).mono ?_
  rintro e w1 ⟨rfl, hf1⟩
  go_wp2_with fail
  refine (Lower_any b w1 hb).mono ?_
  rintro e w2 ⟨rfl, hf2⟩
  go_wp2
  go_ret
  exact ⟨ret_bool (by simp [sameL]), hf1.trans hf2⟩
end Go.Proofs.YtkoobhgedoanhaaGreatDoor

namespace Go.Proofs.YtkoobhgedoanhaaGreatDoor
open Go.RowKit

/-- v reads as the strings ss -/
def StrsAt (w : World) (v : Value) (ss : List ByteArray) : Prop :=
  (∃ a c, v = .slice a 0 c ∧ ss = [] ∧ (a = none → c = 0)) ∨
  ∃ bk o c, v = .slice (some ⟨bk, o, none⟩) ss.length c ∧ ss.length ≤ c ∧ c ≤ maxLen ∧ bk < w.heap.size ∧ ∀ (j : Nat) x, ss[j]? = some x → w.cell? ⟨bk, o + j, none⟩ = some (.string x)
theorem StrsAt.nil (w : World) : StrsAt w (.slice none 0 0) [] := Or.inl ⟨_, _, rfl, rfl, fun _ => rfl⟩
theorem StrsAt.fr {S : Nat → Prop} {w w' : World} {v : Value} {ss : List ByteArray} (h : StrsAt w v ss) (hf : Fr S w w') (hn : ∀ k, v.ownBlock = some k → ¬ S k) : StrsAt w' v ss := by
  rcases h with h | ⟨bk, o, c, hv, h1, h2, h3, h4⟩
  · exact Or.inl h
  · refine Or.inr ⟨bk, o, c, hv, h1, h2, Nat.lt_of_lt_of_le h3 hf.size, fun j x hj => ?_⟩
    rw [hf.cell (p := ⟨bk, o + j, none⟩) h3 (hn bk (by rw [hv]; rfl))]
    exact h4 j x hj
theorem StrsAt.frNone {w w' : World} {v : Value} {ss : List ByteArray} (h : StrsAt w v ss) (hf : Fr noB w w') : StrsAt w' v ss := h.fr hf (fun _ _ h => h)
theorem StrsAt.form {w : World} {v : Value} {ss : List ByteArray} (h : StrsAt w v ss) : ∃ a c, v = .slice a ss.length c := by
  rcases h with ⟨a, c, hv, hs, _⟩ | ⟨bk, o, c, hv, _⟩
  · exact ⟨a, c, by rw [hv, hs]; rfl⟩
  · exact ⟨_, _, hv⟩

theorem info_str : (Tryz.prog.info? 9).map (fun i => (i.zero, i.size, i.bytes)) = some (some (.string ⟨#[]⟩), 1, 16) := by kernel_rfl

/-- v is a slice of the call's own (blocks from base on) that holds the strings ss -/
def Strs (base : Nat) (w : World) (v : Value) (ss : List ByteArray) : Prop := w.ownsRow base 9 1 v ss.length (ss.map Value.string)
section
variable {base : Nat} {w w' : World} {v : Value} {ss : List ByteArray}
theorem Strs.nil (base : Nat) (w : World) : Strs base w (.slice none 0 0) [] := World.ownsRow_nil _ _ _ _
theorem Strs.alloc (h : Strs base w v ss) (o : Obj) : Strs base (w.alloc o) v ss := World.ownsRow.alloc h o
theorem Strs.drewN {n : Nat} (h : Strs base w v ss) : Strs base (w.drewN n) v ss := h
theorem Strs.drew (h : Strs base w v ss) : Strs base w.drew v ss := h
theorem Strs.form (h : Strs base w v ss) : ∃ a c, v = .slice a ss.length c := by
  rcases h.2 with ⟨hv, hn⟩ | ⟨g, cap, cur, hv, _⟩
  · exact ⟨none, 0, by rw [hv, hn]⟩
  · exact ⟨_, _, hv⟩
theorem Strs.fr {S : Nat → Prop} (h : Strs base w v ss) (hf : Fr S w w') (hS : ∀ k, S k → k < base) : Strs base w' v ss := by
  obtain ⟨h1, h2⟩ := h
  refine ⟨h1, ?_⟩
  rcases h2 with h2 | ⟨g, cap, cur, hv, hg, hh, r⟩
  · exact Or.inl h2
  · exact Or.inr ⟨g, cap, cur, hv, hg, hf.keep hh (fun hs => absurd (hS g hs) (by omega)), r⟩
theorem Strs.block (h : Strs base w v ss) : ∀ k, v.ownBlock = some k → base ≤ k := by
  intro k hk
  rcases h.2 with ⟨hv, _⟩ | ⟨g, cap, cur, hv, hg, _⟩
  · rw [hv] at hk; simp [Value.ownBlock] at hk
  · rw [hv] at hk; simp [Value.ownBlock] at hk; omega
theorem Strs.at (h : Strs base w v ss) : StrsAt w v ss := by
  obtain ⟨h1, h2⟩ := h
  rcases h2 with ⟨hv, hn⟩ | ⟨g, cap, cur, hv, hg, hh, h3, h4, h5, h6⟩
  · exact Or.inl ⟨none, 0, hv, List.eq_nil_of_length_eq_zero hn, fun _ => rfl⟩
  · refine Or.inr ⟨g, 0, cap, hv, h3, h4, lt_of_some hh, fun j x hj => ?_⟩
    have hl := (List.getElem?_eq_some_iff.1 hj).1
    have e : (cur.toList.take (ss.length * 1))[j]? = some (.string x) := by rw [h6]; simp [hj]
    rw [List.getElem?_take_of_lt (by omega)] at e
    have e2 : cur[j]? = some (.string x) := by simpa using e
    simp [World.cell?, hh, e2]
end

/-- l = append(l, x): one string -/
theorem wpList_str {ops : Array Oper} {rest : List Oper} {o : Oper} {a : Act} {Q : Exit → Act → World → Prop} {w : World} (hgd : o.guard = none) (s x : Operand)
    (ho : o.op = .call { callee := .builtin .append, args := #[s, x], argTypes := #[22, 22] }) (base : Nat) (v : Value) (l : List ByteArray) (hs : a.eval s = v) (hown : Strs base w v l)
    (ad : Addr) (c : Nat) (y : ByteArray) (hx : a.eval x = .slice (some ad) 1 c) (hy : w.cell? ad = some (.string y)) (hlen : l.length < 4398046511104) (hbase : base ≤ w.heap.size)
    (h : ∀ v' w', Strs base w' v' (l ++ [y]) → w.grownBy w' v.ownBlock → wpList Tryz.prog ops Q rest (a.put o.dst v') w') : wpList Tryz.prog ops Q (o :: rest) a w := by
  obtain ⟨i0, hi, hz0, hz1, hz2⟩ := info_parts info_str
  refine wpList_append_own w hgd s x 22 ho base 9 i0 (.string ⟨#[]⟩) 1 16 Tryz.underlying22 hi hz0 hz1 hz2 rfl (by decide) v l.length (l.map Value.string) hs hown ad 1 c [.string y] hx rfl ?_ ?_ ?_ ?_ hbase ?_
  · intro j u hj
    match j, hj with
    | 0, hj => simp at hj; subst hj; simpa [Addr.add] using hy
  · intro u hu; simp at hu; subst hu; rfl
  · unfold maxLen; omega
  · omega
  · intro v' w' h1 h2 _
    exact h v' w' (by unfold Strs; simpa using h1) h2

/-- slices.Equal at strings -/
theorem EqualS_any (v1 v2 : Value) (xs ys : List ByteArray) (w : World) (h1 : StrsAt w v1 xs) (h2 : StrsAt w v2 ys) (hl : ys.length ≤ maxLen) :
    Calls Tryz.prog 48 #[v1, v2] w fun e w' => e = .returned (.bool (decide (xs = ys))) ∧ ∃ q, w' = w.drewN q := by
  unfold maxLen at hl
  obtain ⟨a1, c1, f1⟩ := h1.form
  obtain ⟨a2, c2, f2⟩ := h2.form
  by_cases hn : xs.length = ys.length
  · by_cases h0 : xs.length = 0
    · have e1 : xs = [] := List.eq_nil_of_length_eq_zero h0
      have e2 : ys = [] := List.eq_nil_of_length_eq_zero (by omega)
      subst e1; subst e2
      rw [f1, f2]
      exact (Tryz.slices_Equal_string_empty a1 a2 c1 0 c2 w (by omega)).mono fun e w' ⟨he, hw⟩ => ⟨by rw [he]; simp, 0, hw⟩
    · rcases h1 with ⟨_, _, _, e, _⟩ | ⟨b1, o1, d1, g1, k1, k2, k3, k4⟩
      · rw [e] at h0; exact absurd rfl h0
      rcases h2 with ⟨_, _, _, e, _⟩ | ⟨b2, o2, d2, g2, l1, l2, l3, l4⟩
      · rw [e] at hn; exact absurd (hn.trans rfl) h0
      rw [g1, g2]
      have hcx : ∀ j, j < xs.length → w.cell? ⟨b1, o1 + j, none⟩ = some (.string (xs.getD j ByteArray.empty)) := fun j hj => k4 j _ (by simp [List.getD, hj])
      have hcy : ∀ j, j < ys.length → w.cell? ⟨b2, o2 + j, none⟩ = some (.string (ys.getD j ByteArray.empty)) := fun j hj => l4 j _ (by simp [List.getD, hj])
      refine (Tryz.slices_Equal_string b1 o1 xs.length d1 b2 o2 ys.length d2 xs ys w (Nat.le_refl _) (Nat.le_refl _) (by omega) (by omega) hcx hcy).mono fun e w' ⟨he, hw⟩ => ⟨?_, hw⟩
      rw [he]; simp
  · rw [f1, f2]
    refine (Tryz.slices_Equal_string_lens a1 a2 xs.length c1 ys.length c2 w hn).mono fun e w' ⟨he, hw⟩ => ⟨?_, 0, hw⟩
    rw [he, decide_eq_false (fun e => hn (by rw [e]))]

end Go.Proofs.YtkoobhgedoanhaaGreatDoor

namespace Go.Proofs.YtkoobhgedoanhaaGreatDoor
open Go.RowKit

/-- token.text -/
def textN (n : Nat) : Bool := n == 9 || (decide (32 ≤ n) && n != 127)
def textB (c : UInt8) : Bool := textN c.toNat

set_option maxHeartbeats 400000 in
theorem text_any (c : UInt8) (w : World) :
    Calls Tryz.prog 109 #[.int .u8 c.toNat] w fun e w' => e = .returned (.bool (textB c)) ∧ w = w' := by
  go_enter Tryz.func109, Tryz.ntmps109
  go_wp2
  all_goals
    go_ret
    refine ⟨ret_bool ?_, rfl⟩
    rw [Bool.eq_iff_iff]
    simp [textB, textN]
    omega

/-- token.Byte -/
def marks : List UInt8 := [33, 35, 36, 37, 38, 39, 42, 43, 45, 46, 94, 95, 124, 126, 96]
def isMark (c : UInt8) : Bool := decide (0 ≤ Lib.indexByte marks c)
theorem mark_iff (c : UInt8) : 0 ≤ Lib.indexByte [33, 35, 36, 37, 38, 39, 42, 43, 45, 46, 94, 95, 124, 126, 96] c ↔ isMark c = true := by
  unfold isMark marks; rw [decide_eq_true_iff]
def byteB (c : UInt8) : Bool := alnumB c || isMark c

set_option maxHeartbeats 400000 in
theorem Byte_any (c : UInt8) (w : World) :
    Calls Tryz.prog 110 #[.int .u8 c.toNat] w fun e w' => e = .returned (.bool (byteB c)) ∧ w = w' := by
  go_enter Tryz.func110, Tryz.ntmps110
  go_wp2_with (go_at_call 135; refine (Tryz.strings_IndexByte _ _ _).mono ?_; rintro e w' ⟨rfl, rfl⟩)
  all_goals
    go_ret
    refine ⟨ret_bool ?_, rfl⟩
    rw [Bool.eq_iff_iff]
    simp [byteB, alnumB, mark_iff]
    cases isMark c <;> simp <;> omega

/-- A cursor: a block of two cells, the text and the place. -/
def CurAt (w : World) (b : Nat) (s : ByteArray) (i : Nat) : Prop := w.heap[b]? = some (.cells #[.string s, .int .i64 i] 154 (0, 0))

theorem CurAt.cell0 {w : World} {b i : Nat} {s : ByteArray} (h : CurAt w b s i) : w.cell? ⟨b, 0, none⟩ = some (.string s) := by simp [World.cell?, show w.heap[b]? = _ from h]
theorem CurAt.cell1 {w : World} {b i : Nat} {s : ByteArray} (h : CurAt w b s i) : w.cell? ⟨b, 1, none⟩ = some (.int .i64 i) := by simp [World.cell?, show w.heap[b]? = _ from h]
theorem CurAt.free {w : World} {b i : Nat} {s : ByteArray} (h : CurAt w b s i) (k : Nat) : w.frozen? ⟨b, k, none⟩ = false := by simp [World.frozen?, show w.heap[b]? = _ from h]

set_option maxHeartbeats 400000 in
theorem On_any (s : ByteArray) (w : World) :
    Calls Tryz.prog 46 #[.string s] w fun e w' => e = .returned (.pointer (some ⟨w.heap.size, 0, none⟩)) ∧ w' = w.alloc (.cells #[.string s, .int .i64 0] 154 (0, 0)) := by
  go_enter Tryz.func46, Tryz.ntmps46
  go_wp2
  go_ret
  exact ⟨rfl, rfl⟩

set_option maxHeartbeats 400000 in
theorem At_any (b : Nat) (s : ByteArray) (i : Nat) (w : World) (h : CurAt w b s i) :
    Calls Tryz.prog 49 #[.pointer (some ⟨b, 0, none⟩)] w fun e w' => e = .returned (.int .i64 i) ∧ w = w' := by
  have h0 := h.cell0
  have h1 := h.cell1
  go_enter Tryz.func49, Tryz.ntmps49
  go_wp2
  go_ret
  exact ⟨rfl, rfl⟩

set_option maxHeartbeats 400000 in
theorem End_any (b : Nat) (s : ByteArray) (i : Nat) (w : World) (h : CurAt w b s i) :
    Calls Tryz.prog 58 #[.pointer (some ⟨b, 0, none⟩)] w fun e w' => e = .returned (.bool (decide (s.size ≤ i))) ∧ ∃ n, w' = w.drewN n := by
  have h0 := h.cell0
  have h1 := h.cell1
  go_enter Tryz.func58, Tryz.ntmps58
  go_wp2
  go_quiet (fail)
  go_wp2
  go_ret
  exact ⟨rfl, _, rfl⟩

/-- the block's number alone -/

theorem CurAt.setCell {w : World} {b i j : Nat} {s : ByteArray} (h : CurAt w b s i) : CurAt (w.setCell ⟨b, 1, none⟩ (.int .i64 j)) b s j := by
  unfold CurAt at *
  simp [World.setCell, Array.getElem?_modify, h]
theorem CurAt.drewN {w : World} {b i : Nat} {s : ByteArray} (h : CurAt w b s i) (n : Nat) : CurAt (w.drewN n) b s i := h
theorem CurAt.lt {w : World} {b i : Nat} {s : ByteArray} (h : CurAt w b s i) : b < w.heap.size := lt_of_some h


/-- a cursor over s, wherever it stands -/
def CurBlk (w : World) (b : Nat) (s : ByteArray) : Prop := ∃ v, w.heap[b]? = some (.cells #[.string s, v] 154 (0, 0))
theorem CurAt.blk {w : World} {b i : Nat} {s : ByteArray} (h : CurAt w b s i) : CurBlk w b s := ⟨_, h⟩
theorem CurBlk.set {w : World} {b : Nat} {s : ByteArray} {u : Value} (h : CurBlk w b s) : CurBlk (w.setCell ⟨b, 1, none⟩ u) b s := by
  obtain ⟨v, h⟩ := h
  exact ⟨u, by simp [World.setCell, Array.getElem?_modify, h]⟩
theorem CurBlk.drewN {w : World} {b n : Nat} {s : ByteArray} (h : CurBlk w b s) : CurBlk (w.drewN n) b s := h
theorem CurBlk.drew {w : World} {b : Nat} {s : ByteArray} (h : CurBlk w b s) : CurBlk w.drew b s := h
theorem CurBlk.at {w : World} {b j : Nat} {s : ByteArray} (h : CurBlk w b s) : CurAt (w.setCell ⟨b, 1, none⟩ (.int .i64 j)) b s j := by
  obtain ⟨v, h⟩ := h
  unfold CurAt
  simp [World.setCell, Array.getElem?_modify, h]
theorem CurAt.alloc {w : World} {b i : Nat} {s : ByteArray} {o : Obj} (h : CurAt w b s i) : CurAt (w.alloc o) b s i := by
  have hb := h.lt
  unfold CurAt at *
  rw [Below.heap_alloc _ _ _ hb]; exact h
theorem CurAt.fr {w w' : World} {b i : Nat} {s : ByteArray} {S : Nat → Prop} (h : CurAt w b s i) (hf : Fr S w w') (hn : ¬ S b) : CurAt w' b s i := hf.keep h hn

/-- Mark: whether the byte stands there. -/
def markB (s : ByteArray) (i : Nat) (c : UInt8) : Bool := decide (s.data.toList[i]? = some c)
/-- where the cursor is behind Mark -/
def markTo (s : ByteArray) (i : Nat) (c : UInt8) : Nat := if markB s i c then i + 1 else i
theorem markB_yes {s : ByteArray} {i : Nat} {c : UInt8} (hi : i < s.size) (hc : s[i] = c) : markB s i c = true := by simp [markB, byte_at s i hi, hc]
theorem markB_no {s : ByteArray} {i : Nat} {c : UInt8} (hi : i < s.size) (hc : ¬ s[i] = c) : markB s i c = false := by simp [markB, byte_at s i hi, hc]
theorem markB_end {s : ByteArray} {i : Nat} {c : UInt8} (hi : ¬ i < s.size) : markB s i c = false := by simp [markB, byte_off s i hi]
theorem markTo_yes {s : ByteArray} {i : Nat} {c : UInt8} (h : markB s i c = true) : markTo s i c = i + 1 := by simp [markTo, h]
theorem markTo_no {s : ByteArray} {i : Nat} {c : UInt8} (h : markB s i c = false) : markTo s i c = i := by simp [markTo, h]
theorem byte_ne {a c : UInt8} (h : ¬ a = c) : ((a.toNat : Int) == (c.toNat : Int)) = false := by
  rw [beq_eq_false_iff_ne]; intro e; exact h (UInt8.toNat_inj.1 (by omega))
set_option maxHeartbeats 400000 in
theorem Mark_any (b : Nat) (s : ByteArray) (i : Nat) (c : UInt8) (w : World) (h : CurAt w b s i) (hs : s.size ≤ maxLen) :
    Calls Tryz.prog 108 #[.pointer (some ⟨b, 0, none⟩), .int .u8 c.toNat] w fun e w' => e = .returned (.bool (markB s i c)) ∧ CurAt w' b s (markTo s i c) ∧ Fr (one b) w w' := by
  have h0 := h.cell0
  have h1 := h.cell1
  have hf := h.free 1
  unfold maxLen at hs
  by_cases hi : i < s.size
  · have hd : decide (i < s.size) = true := by simp [hi]
    by_cases hc : s[i] = c
    · rw [markB_yes hi hc, markTo_yes (markB_yes hi hc)]
      have hn : ((s[i].toNat : Int) == (c.toNat : Int)) = true := by simp [hc]
      clear hc
      go_enter Tryz.func108, Tryz.ntmps108
      go_wp2
      go_quiet (fail)
      go_wp2
      go_ret
      exact ⟨rfl, (h.setCell (j := i + 1)).drewN _, Fr.one_set w b _ _⟩
    · rw [markB_no hi hc, markTo_no (markB_no hi hc)]
      have hn := byte_ne hc
      clear hc
      go_enter Tryz.func108, Tryz.ntmps108
      go_wp2
      go_quiet (fail)
      go_wp2
      go_ret
      exact ⟨rfl, h.drewN _, (Fr.refl _ _).drewN _⟩
  · have hd : decide (i < s.size) = false := by simp; omega
    rw [markB_end hi, markTo_no (markB_end hi)]
    go_enter Tryz.func108, Tryz.ntmps108
    go_wp2
    go_quiet (fail)
    go_wp2
    go_ret
    exact ⟨rfl, h, (Fr.refl _ _).drewN _⟩

end Go.Proofs.YtkoobhgedoanhaaGreatDoor

namespace Go.Proofs.YtkoobhgedoanhaaGreatDoor
open Go.RowKit

/-- behind the longest stretch of bytes with p, from i on -/
def spanEnd (p : UInt8 → Bool) (l : List UInt8) (i : Nat) : Nat := i + ((l.drop i).takeWhile p).length
theorem spanEnd_step {p : UInt8 → Bool} {l : List UInt8} {i : Nat} {c : UInt8} (h : l[i]? = some c) (hp : p c = true) : spanEnd p l i = spanEnd p l (i + 1) := by
  have hi : i < l.length := by
    rcases Nat.lt_or_ge i l.length with g | g
    · exact g
    · simp [List.getElem?_eq_none g] at h
  unfold spanEnd
  have e : l.drop i = c :: l.drop (i + 1) := by
    rw [List.drop_eq_getElem_cons hi]
    rw [List.getElem?_eq_getElem hi] at h
    simp at h; rw [h]
  rw [e, List.takeWhile_cons_of_pos hp]
  simp; omega
theorem spanEnd_stop {p : UInt8 → Bool} {l : List UInt8} {i : Nat} (h : ∀ c, l[i]? = some c → p c = false) : spanEnd p l i = i := by
  unfold spanEnd
  rcases Nat.lt_or_ge i l.length with g | g
  · rw [List.drop_eq_getElem_cons g, List.takeWhile_cons_of_neg]
    · rfl
    · have := h l[i] (List.getElem?_eq_getElem g); simp [this]
  · simp [List.drop_eq_nil_of_le g]
theorem spanEnd_le {p : UInt8 → Bool} {l : List UInt8} {i : Nat} (h : i ≤ l.length) : spanEnd p l i ≤ l.length := by
  unfold spanEnd
  have := (List.takeWhile_prefix p (l := l.drop i)).length_le
  simp at this; omega
theorem spanEnd_ge {p : UInt8 → Bool} {l : List UInt8} {i : Nat} : i ≤ spanEnd p l i := by unfold spanEnd; omega

/-- the place of a cursor in a world -/
def curPos (w : World) (b : Nat) : Nat := match w.cell? ⟨b, 1, none⟩ with | some (.int _ n) => n.toNat | _ => 0
theorem CurAt.pos {w : World} {b i : Nat} {s : ByteArray} (h : CurAt w b s i) : curPos w b = i := by simp [curPos, h.cell1]

theorem meas_lt {w : World} {b k : Nat} {s : ByteArray} (h : CurAt w b s (k + 1)) (hk : k < s.size) : s.size - curPos w b < s.size - k := by rw [h.pos]; omega

def blankB (c : UInt8) : Bool := c == 32 || c == 9

theorem u8_eq {c : UInt8} (n : Nat) (hn : n < 256) : ((c.toNat : Int) == (n : Int)) = (c == n.toUInt8) := by
  rw [Bool.eq_iff_iff, beq_iff_eq, beq_iff_eq, ← UInt8.toNat_inj]
  have : (n.toUInt8).toNat = n := by simp; omega
  rw [this]; omega

set_option maxHeartbeats 1000000 in
theorem Blanks_any (b : Nat) (s : ByteArray) (i : Nat) (w : World) (h : CurAt w b s i) (hs : s.size ≤ maxLen) (hi : i ≤ s.size) :
    Calls Tryz.prog 106 #[.pointer (some ⟨b, 0, none⟩)] w fun e w' => e = .returned (.bool (decide (i < spanEnd blankB s.data.toList i))) ∧ CurAt w' b s (spanEnd blankB s.data.toList i) ∧ Fr (one b) w w' := by
  have h0 := h.cell0
  have h1 := h.cell1
  unfold maxLen at hs
  go_enter Tryz.func106, Tryz.ntmps106
  go_wp2
  clear h0 h1
  go_loopw [] (fun wr => ∃ k, i ≤ k ∧ k ≤ s.size ∧ CurAt wr b s k ∧ spanEnd blankB s.data.toList k = spanEnd blankB s.data.toList i ∧ Fr (one b) w wr) (fun wr => s.size - curPos wr b)
  case atStart => exact ⟨i, Nat.le_refl _, hi, h, rfl, Fr.refl _ _⟩
  case round =>
    obtain ⟨k, hik, hks, hc, hsp, hfr⟩ := hrel
    have HSP := Lib.hid hsp
    clear hsp
    have h0 := hc.cell0
    have h1 := hc.cell1
    have hf := hc.free 1
    have hpos := Lib.hid hc.pos
    by_cases hk : k < s.size
    · have hd : decide (k < s.size) = true := by simp [hk]
      have hat := Lib.hid (byte_at s k hk)
      generalize hx : s[k] = x at hat
      have go : blankB x = true → spanEnd blankB s.data.toList (k + 1) = spanEnd blankB s.data.toList i := fun hb => (spanEnd_step hat.out hb).symm.trans HSP.out
      have GO := Lib.hid go
      clear go
      cases e1 : x == 32
      · have n1 : ((x.toNat : Int) == 32) = false := by rw [← e1]; exact u8_eq 32 (by decide)
        cases e2 : x == 9
        · have n2 : ((x.toNat : Int) == 9) = false := by rw [← e2]; exact u8_eq 9 (by decide)
          have hstop := Lib.hid (spanEnd_stop (p := blankB) (l := s.data.toList) (i := k) (fun c hcc => by rw [hat.out] at hcc; cases hcc; simp [blankB, e1, e2]))
          clear e1 e2
          go_wp2
          go_quiet (fail)
          go_wp2
          go_ret
          rw [← HSP.out, hstop.out]
          exact ⟨rfl, hc, by repeat (first | exact hfr | apply Fr.drewN)⟩
        · have n2 : ((x.toNat : Int) == 9) = true := by rw [← e2]; exact u8_eq 9 (by decide)
          have hn := Lib.hid (GO.out (by simp [blankB, e2]))
          clear e1 e2
          go_wp2
          go_quiet (fail)
          go_wp2
          go_roundw
          case rel => exact ⟨k + 1, by omega, by omega, (hc.setCell (j := k + 1)).drewN _, hn.out, hfr.trans (Fr.one_set wr b _ _)⟩
          case measure => rw [hpos.out]; exact meas_lt (hc.setCell (j := k + 1)) hk
      · have n1 : ((x.toNat : Int) == 32) = true := by rw [← e1]; exact u8_eq 32 (by decide)
        have hn := Lib.hid (GO.out (by simp [blankB, e1]))
        clear e1
        go_wp2
        go_quiet (fail)
        go_wp2
        go_roundw
        case rel => exact ⟨k + 1, by omega, by omega, (hc.setCell (j := k + 1)).drewN _, hn.out, hfr.trans (Fr.one_set wr b _ _)⟩
        case measure => rw [hpos.out]; exact meas_lt (hc.setCell (j := k + 1)) hk
    · have hd : decide (k < s.size) = false := by simp; omega
      have hstop := Lib.hid (spanEnd_stop (p := blankB) (l := s.data.toList) (i := k) (fun c hcc => by rw [byte_off s k hk] at hcc; cases hcc))
      go_wp2
      go_quiet (fail)
      go_wp2
      go_ret
      rw [← HSP.out, hstop.out]
      exact ⟨rfl, hc, by repeat (first | exact hfr | apply Fr.drewN)⟩

set_option maxHeartbeats 1000000 in
theorem Word_any (b : Nat) (s : ByteArray) (i : Nat) (w : World) (h : CurAt w b s i) (hs : s.size ≤ maxLen) (hi : i ≤ s.size) :
    Calls Tryz.prog 107 #[.pointer (some ⟨b, 0, none⟩)] w fun e w' => e = .returned (.string (s.extract i (spanEnd byteB s.data.toList i))) ∧ CurAt w' b s (spanEnd byteB s.data.toList i) ∧ Fr (one b) w w' := by
  have h0 := h.cell0
  have h1 := h.cell1
  unfold maxLen at hs
  go_enter Tryz.func107, Tryz.ntmps107
  go_wp2
  clear h0 h1
  go_loopw [] (fun wr => ∃ k, i ≤ k ∧ k ≤ s.size ∧ CurAt wr b s k ∧ spanEnd byteB s.data.toList k = spanEnd byteB s.data.toList i ∧ Fr (one b) w wr) (fun wr => s.size - curPos wr b)
  case atStart => exact ⟨i, Nat.le_refl _, hi, h, rfl, Fr.refl _ _⟩
  case round =>
    obtain ⟨k, hik, hks, hc, hsp, hfr⟩ := hrel
    have HSP := Lib.hid hsp
    clear hsp
    have h0 := hc.cell0
    have h1 := hc.cell1
    have hf := hc.free 1
    have hpos := Lib.hid hc.pos
    by_cases hk : k < s.size
    · have hd : decide (k < s.size) = true := by simp [hk]
      have hat := Lib.hid (byte_at s k hk)
      generalize hx : s[k] = x at hat
      have go : byteB x = true → spanEnd byteB s.data.toList (k + 1) = spanEnd byteB s.data.toList i := fun hb => (spanEnd_step hat.out hb).symm.trans HSP.out
      have GO := Lib.hid go
      clear go
      cases e1 : byteB x
      · have hstop := Lib.hid (spanEnd_stop (p := byteB) (l := s.data.toList) (i := k) (fun c hcc => by rw [hat.out] at hcc; cases hcc; exact e1))
        go_wp2
        go_quiet ((go_at_call 110; exact quiet_eq (Byte_any _ _)))
        go_wp2
        go_quiet (fail)
        go_wp2
        go_ret
        rw [← HSP.out, hstop.out]
        exact ⟨rfl, hc, by repeat (first | exact hfr | apply Fr.drewN)⟩
      · have hn := Lib.hid (GO.out e1)
        go_wp2
        go_quiet ((go_at_call 110; exact quiet_eq (Byte_any _ _)))
        go_wp2
        go_roundw
        case rel => exact ⟨k + 1, by omega, by omega, (hc.setCell (j := k + 1)).drewN _, hn.out, hfr.trans (Fr.one_set wr b _ _)⟩
        case measure => rw [hpos.out]; exact meas_lt (hc.setCell (j := k + 1)) hk
    · have hd : decide (k < s.size) = false := by simp; omega
      have hstop := Lib.hid (spanEnd_stop (p := byteB) (l := s.data.toList) (i := k) (fun c hcc => by rw [byte_off s k hk] at hcc; cases hcc))
      go_wp2
      go_quiet (fail)
      go_wp2
      go_quiet (fail)
      go_wp2
      go_ret
      rw [← HSP.out, hstop.out]
      exact ⟨rfl, hc, by repeat (first | exact hfr | apply Fr.drewN)⟩
end Go.Proofs.YtkoobhgedoanhaaGreatDoor

namespace Go.Proofs.YtkoobhgedoanhaaGreatDoor
open Go.RowKit

/-- what stands between marks: the text, and what is left behind the closing mark -/
def qgo : List UInt8 → Option (List UInt8 × List UInt8)
  | [] => none
  | x :: r =>
    if x == 34 then some ([], r)
    else if x == 92 then
      match r with
      | [] => none
      | y :: r' => if textB y then (qgo r').map (fun p => (y :: p.1, p.2)) else none
    else if textB x then (qgo r).map (fun p => (x :: p.1, p.2)) else none

/-- .. from byte k on, behind the text a -/
def qres (l : List UInt8) (k : Nat) (a : List UInt8) : Option (List UInt8 × Nat) := (qgo (l.drop k)).map (fun p => (a ++ p.1, l.length - p.2.length))

theorem qres_end {l : List UInt8} {k : Nat} {a : List UInt8} (h : l[k]? = none) : qres l k a = none := by
  unfold qres; rw [drop_off h]; simp [qgo]
theorem qres_mark {l : List UInt8} {k : Nat} {a : List UInt8} (h : l[k]? = some 34) : qres l k a = some (a, k + 1) := by
  have hk := (List.getElem?_eq_some_iff.1 h).1
  unfold qres; rw [drop_at h, qgo.eq_def]; simp; omega
theorem qres_text {l : List UInt8} {k : Nat} {a : List UInt8} {x : UInt8} (h : l[k]? = some x) (h1 : (x == 34) = false) (h2 : (x == 92) = false) (h3 : textB x = true) : qres l k a = qres l (k + 1) (a ++ [x]) := by
  unfold qres; rw [drop_at h]
  rw [qgo.eq_def]; simp only [h1, h2, h3, Bool.false_eq_true, if_false, if_true]
  cases qgo (l.drop (k + 1)) <;> simp
theorem qres_bad {l : List UInt8} {k : Nat} {a : List UInt8} {x : UInt8} (h : l[k]? = some x) (h1 : (x == 34) = false) (h2 : (x == 92) = false) (h3 : textB x = false) : qres l k a = none := by
  unfold qres; rw [drop_at h]
  rw [qgo.eq_def]; simp only [h1, h2, h3, Bool.false_eq_true, if_false, Option.map_none]
theorem qres_last {l : List UInt8} {k : Nat} {a : List UInt8} (h : l[k]? = some 92) (h1 : l[k + 1]? = none) : qres l k a = none := by
  unfold qres; rw [drop_at h, drop_off h1, qgo.eq_def]; simp
theorem qres_esc {l : List UInt8} {k : Nat} {a : List UInt8} {y : UInt8} (h : l[k]? = some 92) (h1 : l[k + 1]? = some y) (h3 : textB y = true) : qres l k a = qres l (k + 2) (a ++ [y]) := by
  unfold qres; rw [drop_at h, drop_at h1]
  rw [qgo.eq_def]; simp only [show ((92 : UInt8) == 34) = false from rfl, show ((92 : UInt8) == 92) = true from rfl, h3, Bool.false_eq_true, if_false, if_true]
  cases qgo (l.drop (k + 1 + 1)) <;> simp
theorem qres_escbad {l : List UInt8} {k : Nat} {a : List UInt8} {y : UInt8} (h : l[k]? = some 92) (h1 : l[k + 1]? = some y) (h3 : textB y = false) : qres l k a = none := by
  unfold qres; rw [drop_at h, drop_at h1]
  rw [qgo.eq_def]; simp only [show ((92 : UInt8) == 34) = false from rfl, show ((92 : UInt8) == 92) = true from rfl, h3, Bool.false_eq_true, if_false, if_true, Option.map_none]

/-- Quoted, as a whole: the text between marks that begins at i, and the place behind it -/
def quotedAt (l : List UInt8) (i : Nat) : Option (List UInt8 × Nat) := if l[i]? = some 34 then qres l (i + 1) [] else none
def quotedEnd (l : List UInt8) (i : Nat) : Nat := match quotedAt l i with | some p => p.2 | none => i
def quotedText (l : List UInt8) (i : Nat) : List UInt8 := match quotedAt l i with | some p => p.1 | none => []
def QuotedPost (b : Nat) (s : ByteArray) (i : Nat) (w : World) (e : Ending) (w' : World) : Prop :=
  e = .returned (.tuple #[.string ⟨(quotedText s.data.toList i).toArray⟩, .bool (quotedAt s.data.toList i).isSome]) ∧ CurAt w' b s (quotedEnd s.data.toList i) ∧ Fr (one b) w w'

theorem QuotedPost.none {b i : Nat} {s : ByteArray} {w w' : World} (h : quotedAt s.data.toList i = none) (hc : CurAt w' b s i) (hf : Fr (one b) w w') :
    QuotedPost b s i w (.returned (.tuple #[.string ⟨#[]⟩, .bool false])) w' := by
  refine ⟨?_, ?_, hf⟩
  · simp [quotedText, h]
  · simpa [quotedEnd, h] using hc
theorem QuotedPost.some {b i j : Nat} {s : ByteArray} {w w' : World} {a : List UInt8} (h : quotedAt s.data.toList i = some (a, j)) (hc : CurAt w' b s j) (hf : Fr (one b) w w') :
    QuotedPost b s i w (.returned (.tuple #[.string ⟨a.toArray⟩, .bool true])) w' := by
  refine ⟨?_, ?_, hf⟩
  · simp [quotedText, h]
  · simpa [quotedEnd, h] using hc

/-- at the head of a round -/
def QRel (b : Nat) (s : ByteArray) (i : Nat) (w : World) (v : Value) (wr : World) : Prop :=
  ∃ k a, k ≤ s.size ∧ a.length ≤ k ∧ CurAt wr b s k ∧ Bytes w.heap.size wr v a ∧ Fr (one b) w wr ∧ quotedAt s.data.toList i = qres s.data.toList k a

theorem q_next {b i k j : Nat} {s : ByteArray} {w wr wx w2 : World} {v v' : Value} {a l : List UInt8} (hlt : b < w.heap.size) (hcx : CurAt wx b s j) (hfx : Fr (one b) w wx) (hg : wx.grownBy w2 v.ownBlock)
    (hown : Bytes w.heap.size wr v a) (hown2 : Bytes w.heap.size w2 v' l) (hj : j ≤ s.size) (hl : l.length ≤ j) (hres : quotedAt s.data.toList i = qres s.data.toList j l) (hkj : k < j) (hpos : curPos wr b = k) :
    QRel b s i w v' w2 ∧ s.size - curPos w2 b < s.size - curPos wr b := by
  have hv := hown.block
  have hc2 : CurAt w2 b s j := by
    unfold CurAt at hcx ⊢
    rw [hg.block b (lt_of_some hcx) (fun e => by have := hv b e.symm; omega)]
    exact hcx
  refine ⟨⟨j, l, hj, hl, hc2, hown2, hfx.grown hg (fun k hk hs => by have := hv k hk; omega), hres⟩, ?_⟩
  rw [hpos, hc2.pos]; omega

set_option maxRecDepth 100000 in
set_option maxHeartbeats 1000000 in
theorem Quoted_any (b : Nat) (s : ByteArray) (i : Nat) (w : World) (h : CurAt w b s i) (hs : s.size < 70368744177664) :
    Calls Tryz.prog 47 #[.pointer (some ⟨b, 0, none⟩)] w (QuotedPost b s i w) := by
  have h0 := h.cell0
  have h1 := h.cell1
  have hm : s.size ≤ maxLen := by unfold maxLen; omega
  cases e1 : markB s i 34
  · have hq := Lib.hid (show quotedAt s.data.toList i = none by unfold quotedAt; rw [if_neg (by simpa [markB] using e1)])
    go_enter Tryz.func47, Tryz.ntmps47
    go_wp2_with fail
    refine (Mark_any b s i 34 w h hm).mono ?_
    rintro e w1 ⟨rfl, hc1, hf1⟩
    rw [markTo_no e1] at hc1
    rw [e1]
    clear e1 h0 h1
    have c0 := hc1.cell0
    have c1 := hc1.cell1
    have cf := hc1.free 1
    have hcb := hc1.blk
    go_wp2
    refine wp_loop_rounds 1 ?_
    rw [rounds_succ]
    go_wp2
    go_quiet (fail)
    go_wp2
    go_ret2
    exact QuotedPost.none hq.out (CurBlk.at (j := i) (by repeat (first | exact hcb | apply CurBlk.set | apply CurBlk.drewN))) (by repeat (first | exact hf1 | apply Fr.drewN | apply Fr.one_cell))
  · have hq := Lib.hid (show quotedAt s.data.toList i = qres s.data.toList (i + 1) [] by unfold quotedAt; rw [if_pos (by simpa [markB] using e1)])
    have hi1 : i + 1 ≤ s.size := by
      have : s.data.toList[i]? = some 34 := by simpa [markB] using e1
      have := (List.getElem?_eq_some_iff.1 this).1
      have h2 : i < s.size := by simpa using this
      omega
    go_enter Tryz.func47, Tryz.ntmps47
    go_wp2_with fail
    refine (Mark_any b s i 34 w h hm).mono ?_
    rintro e w1 ⟨rfl, hc1, hf1⟩
    rw [markTo_yes e1] at hc1
    rw [e1]
    clear e1 h0 h1
    go_wp2
    go_loopw [5] (QRel b s i w) (fun _ wr => s.size - curPos wr b)
    case atStart => exact ⟨i + 1, [], hi1, by simp, hc1, Bytes.nil _ _, hf1, hq.out⟩
    case round =>
      rename_i v wr
      obtain ⟨k, a, hk, ha, hc, hown, hfr, hres⟩ := hrel
      have HRES := Lib.hid hres
      clear hres
      have c0 := hc.cell0
      have c1 := hc.cell1
      have cf := hc.free 1
      have hcb := hc.blk
      have hpos := Lib.hid hc.pos
      obtain ⟨av, cv, hv⟩ := hown.form
      subst hv
      have hbB : b < w.heap.size := h.lt
      have htext : ∀ n u, (convert 95 9 (.slice av a.length cv)).run Tryz.prog ((wr.drewN n).setCell ⟨b, 1, none⟩ u) = .ok (.string ⟨a.toArray⟩) ((wr.drewN n).setCell ⟨b, 1, none⟩ u) := fun n u =>
        Bytes.text (Bytes.setCell (p := ⟨b, 1, none⟩) hbB (Bytes.drewN hown))
      have hlt : b < w.heap.size := h.lt
      have hbase : w.heap.size ≤ wr.heap.size := hfr.size
      by_cases hks : k < s.size
      · have hd : decide (k < s.size) = true := by simp [hks]
        have hat := Lib.hid (byte_at s k hks)
        generalize hx : s[k] = x at hat
        cases e1 : x == 34
        · have n1 : ((x.toNat : Int) == 34) = false := by rw [← e1]; exact u8_eq 34 (by decide)
          cases e2 : x == 92
          · have n2 : ((x.toNat : Int) == 92) = false := by rw [← e2]; exact u8_eq 92 (by decide)
            cases e3 : textB x
            · have hfin := Lib.hid (show quotedAt s.data.toList i = none by rw [HRES.out, qres_bad hat.out e1 e2 e3])
              clear e1 e2
              go_wp2
              go_quiet (fail)
              go_wp2
              go_quiet (fail)
              go_wp2
              go_quiet (fail)
              go_wp2_with (go_at_call 109; refine (text_any _ _).mono ?_; rintro e w' ⟨rfl, rfl⟩)
              go_ret2
              exact QuotedPost.none hfin.out (CurBlk.at (j := i) (by repeat (first | exact hcb | apply CurBlk.set | apply CurBlk.drewN))) (by repeat (first | exact hfr | apply Fr.drewN | apply Fr.one_cell))
            · have hnx := Lib.hid (HRES.out.trans (qres_text (a := a) hat.out e1 e2 e3))
              clear e1 e2
              go_wp2
              go_quiet (fail)
              go_wp2
              go_quiet (fail)
              go_wp2
              go_quiet (fail)
              go_wp2_with (first | (at_builtin; go_must (refine wpList_byte rfl _ _ rfl w.heap.size (.slice av a.length cv) a rfl (by repeat (first | exact hown | apply Bytes.alloc | apply Bytes.setCell (p := ⟨b, 1, none⟩) hbB | apply Bytes.drewN | apply Bytes.drew)) ⟨wr.heap.size, 0, none⟩ 1 x rfl (by rw [World.cell?_alloc_at _ _ _ _ (by simp)]; rfl) (by omega) (by simp; omega) ?_); intro v' w2 hown2 hg2) | (go_at_call 109; refine (text_any _ _).mono ?_; rintro e w' ⟨rfl, rfl⟩))
              exact q_next hlt (by repeat (first | exact CurBlk.at (j := k + 1) (by repeat (first | exact hcb | apply CurBlk.set | apply CurBlk.drewN)) | apply CurAt.alloc | apply CurAt.drewN)) (by repeat (first | exact hfr | apply Fr.drewN | apply Fr.one_cell | apply Fr.alloc)) hg2 hown hown2 (by omega) (by simp; omega) hnx.out (Nat.lt_succ_self k) hpos.out
          · have hx92 : x = 92 := by simpa using e2
            clear e1 e2
            subst hx92
            by_cases hk1 : k + 1 < s.size
            · have hd1 : decide ((k : Int) + 1 < (s.size : Int)) = true := by simp; omega
              have hat1 := Lib.hid (byte_at s (k + 1) hk1)
              generalize hy : s[k + 1] = y at hat1
              cases e3 : textB y
              · have hfin := Lib.hid (show quotedAt s.data.toList i = none by rw [HRES.out, qres_escbad hat.out hat1.out e3])
                go_wp2
                go_quiet (fail)
                go_wp2
                go_quiet (fail)
                go_wp2
                go_quiet (fail)
                go_wp2
                go_quiet (fail)
                go_wp2_with (go_at_call 109; refine (text_any _ _).mono ?_; rintro e w' ⟨rfl, rfl⟩)
                go_ret2
                exact QuotedPost.none hfin.out (CurBlk.at (j := i) (by repeat (first | exact hcb | apply CurBlk.set | apply CurBlk.drewN))) (by repeat (first | exact hfr | apply Fr.drewN | apply Fr.one_cell | apply Fr.alloc))
              · have hnx := Lib.hid (HRES.out.trans (qres_esc (a := a) hat.out hat1.out e3))
                go_wp2
                go_quiet (fail)
                go_wp2
                go_quiet (fail)
                go_wp2
                go_quiet (fail)
                go_wp2
                go_quiet (fail)
                go_wp2_with (first | (at_builtin; go_must (refine wpList_byte rfl _ _ rfl w.heap.size (.slice av a.length cv) a rfl (by repeat (first | exact hown | apply Bytes.alloc | apply Bytes.setCell (p := ⟨b, 1, none⟩) hbB | apply Bytes.drewN | apply Bytes.drew)) ⟨wr.heap.size, 0, none⟩ 1 y rfl (by rw [World.cell?_alloc_at _ _ _ _ (by simp)]; rfl) (by omega) (by simp; omega) ?_); intro v' w2 hown2 hg2) | (go_at_call 109; refine (text_any _ _).mono ?_; rintro e w' ⟨rfl, rfl⟩))
                exact q_next hlt (by repeat (first | exact CurBlk.at (j := k + 1 + 1) (by repeat (first | exact hcb | apply CurBlk.set | apply CurBlk.drewN)) | apply CurAt.alloc | apply CurAt.drewN)) (by repeat (first | exact hfr | apply Fr.drewN | apply Fr.one_cell | apply Fr.alloc)) hg2 hown hown2 (by omega) (by simp; omega) hnx.out (by omega) hpos.out
            · have hd1 : decide ((k : Int) + 1 < (s.size : Int)) = false := by simp; omega
              have hfin := Lib.hid (show quotedAt s.data.toList i = none by rw [HRES.out, qres_last hat.out (byte_off s (k + 1) hk1)])
              go_wp2
              go_quiet (fail)
              go_wp2
              go_quiet (fail)
              go_wp2
              go_quiet (fail)
              go_wp2
              go_ret2
              exact QuotedPost.none hfin.out (CurBlk.at (j := i) (by repeat (first | exact hcb | apply CurBlk.set | apply CurBlk.drewN))) (by repeat (first | exact hfr | apply Fr.drewN | apply Fr.one_cell | apply Fr.alloc))
        · have n1 : ((x.toNat : Int) == 34) = true := by rw [← e1]; exact u8_eq 34 (by decide)
          have hfin := Lib.hid (show quotedAt s.data.toList i = some (a, k + 1) by rw [HRES.out, qres_mark (by rw [hat.out]; simpa using e1)])
          clear e1
          go_wp2
          go_quiet (fail)
          go_wp2
          go_quiet (fail)
          go_wp2
          go_ret2
          exact QuotedPost.some hfin.out (CurBlk.at (j := k + 1) (by repeat (first | exact hcb | apply CurBlk.set | apply CurBlk.drewN))) (by repeat (first | exact hfr | apply Fr.drewN | apply Fr.one_cell))
      · have hd : decide (k < s.size) = false := by simp; omega
        have hfin := Lib.hid (show quotedAt s.data.toList i = none by rw [HRES.out, qres_end (byte_off s k hks)])
        go_wp2
        go_quiet (fail)
        go_wp2
        go_ret2
        exact QuotedPost.none hfin.out (CurBlk.at (j := i) (by repeat (first | exact hcb | apply CurBlk.set | apply CurBlk.drewN))) (by repeat (first | exact hfr | apply Fr.drewN | apply Fr.one_cell))
end Go.Proofs.YtkoobhgedoanhaaGreatDoor

namespace Go.Proofs.YtkoobhgedoanhaaGreatDoor
open Go.RowKit

/-- token.Is -/
def isL (l : List UInt8) : Bool := l.all byteB && !l.isEmpty

theorem all_take_succ {p : UInt8 → Bool} {l : List UInt8} {k : Nat} {x : UInt8} (h : l[k]? = some x) : (l.take (k + 1)).all p = ((l.take k).all p && p x) := by
  rw [List.take_add_one, h]; simp
theorem all_false_of {p : UInt8 → Bool} {l : List UInt8} {k : Nat} {x : UInt8} (h : l[k]? = some x) (hp : p x = false) : l.all p = false := by
  rw [List.all_eq_false]
  exact ⟨x, List.mem_of_getElem? h, by simp [hp]⟩

set_option maxHeartbeats 1000000 in
theorem Is_any (s : ByteArray) (w : World) (hs : s.size < 17592186044416) :
    Calls Tryz.prog 51 #[.string s] w fun e w' => e = .returned (.bool (isL s.data.toList)) ∧ w = w' := by
  go_enter Tryz.func51, Tryz.ntmps51
  go_wp2
  go_loop [6] (fun i => ∃ k : Nat, k ≤ s.size ∧ i = .int .i64 k ∧ (s.data.toList.take k).all byteB = true) (fun i => s.size - (intOf i).toNat)
  case atStart => exact ⟨0, Nat.zero_le _, rfl, by simp⟩
  case round =>
    obtain ⟨k, hk, rfl, hall⟩ := hrel
    have HALL := Lib.hid hall
    clear hall
    by_cases hks : k < s.size
    · have hat := Lib.hid (byte_at s k hks)
      generalize hx : s[k] = x at hat
      cases e1 : byteB x
      · have hfin := Lib.hid (show isL s.data.toList = false by unfold isL; rw [all_false_of hat.out e1]; rfl)
        go_wp2_with (go_at_call 110; refine (Byte_any _ _).mono ?_; rintro e w' ⟨rfl, rfl⟩)
        go_ret
        rw [hfin.out]
        exact ⟨rfl, rfl⟩
      · have hnx := Lib.hid (show (s.data.toList.take (k + 1)).all byteB = true by rw [all_take_succ hat.out, HALL.out, e1]; rfl)
        go_wp2_with (go_at_call 110; refine (Byte_any _ _).mono ?_; rintro e w' ⟨rfl, rfl⟩)
        go_round
        case rel => exact ⟨k + 1, by omega, by go_num, hnx.out⟩
        case measure => simp [intOf]; omega
    · have hall2 := Lib.hid (show s.data.toList.all byteB = true by have h := HALL.out; rw [List.take_of_length_le (by simp; omega)] at h; exact h)
      go_wp2
      go_ret
      refine ⟨ret_bool ?_, rfl⟩
      unfold isL
      rw [hall2.out, ByteArray.toList_eq]
      simp

def escL (l : List UInt8) : List UInt8 := l.flatMap (fun c => if c == 34 || c == 92 then [92, c] else [c])
def quoteL (l : List UInt8) : List UInt8 := 34 :: (escL l ++ [34])
theorem escL_le (l : List UInt8) : (escL l).length ≤ 2 * l.length := by
  induction l with
  | nil => simp [escL]
  | cons c l ih => simp [escL] at ih ⊢; split <;> simp <;> omega
theorem escL_snoc {l : List UInt8} {k : Nat} {x : UInt8} (h : l[k]? = some x) : escL (l.take (k + 1)) = escL (l.take k) ++ (if x == 34 || x == 92 then [92, x] else [x]) := by
  rw [List.take_add_one, h]; simp [escL]
def textL (l : List UInt8) : Bool := l.all textB
def QuotePost (s : ByteArray) (w : World) (e : Ending) (w' : World) : Prop :=
  e = .returned (.tuple (if textL s.data.toList then #[.string ⟨(quoteL s.data.toList).toArray⟩, .nilIface] else #[.string ⟨#[]⟩, .iface 93 (.int .i64 3)])) ∧ Fr noB w w'
def QuRel (s : ByteArray) (w : World) (v i : Value) (wr : World) : Prop :=
  ∃ k : Nat, k ≤ s.size ∧ i = .int .i64 k ∧ Bytes w.heap.size wr v (34 :: escL (s.data.toList.take k)) ∧ Fr noB w wr ∧ (s.data.toList.take k).all textB = true

set_option maxRecDepth 100000 in
set_option maxHeartbeats 1000000 in
theorem Quote_any (s : ByteArray) (w : World) (hs : s.size < 17592186044416) :
    Calls Tryz.prog 45 #[.string s] w (QuotePost s w) := by
  go_enter Tryz.func45, Tryz.ntmps45
  go_wp2
  go_loopw [4, 9] (QuRel s w) (fun _ i _ => s.size - (intOf i).toNat)
  case atStart =>
    exact ⟨0, Nat.zero_le _, rfl, Bytes.new1 w 34, (Fr.refl _ _).alloc _, by simp⟩
  case round =>
    obtain ⟨k, hk, rfl, hown, hfr, hall⟩ := hrel
    have HALL := Lib.hid hall
    clear hall
    have hbase : w.heap.size ≤ wr.heap.size := hfr.size
    have HLE := Lib.hid (show (escL (s.data.toList.take k)).length ≤ 2 * k from Nat.le_trans (escL_le _) (Nat.mul_le_mul_left 2 (by simp; omega)))
    obtain ⟨av, cv, hv⟩ := hown.form
    subst hv
    by_cases hks : k < s.size
    · have hat := Lib.hid (byte_at s k hks)
      generalize hx : s[k] = x at hat
      cases e1 : textB x
      · have hfin := Lib.hid (show textL s.data.toList = false from all_false_of hat.out e1)
        go_wp2_with (go_at_call 109; refine (text_any _ _).mono ?_; rintro e w' ⟨rfl, rfl⟩)
        go_ret2
        refine ⟨?_, hfr⟩
        rw [hfin.out]
        rfl
      · have hnx := Lib.hid (show (s.data.toList.take (k + 1)).all textB = true by rw [all_take_succ hat.out, HALL.out, e1]; rfl)
        have hes := Lib.hid (escL_snoc hat.out)
        cases e2 : x == 34
        · cases e3 : x == 92
          · have n1 : ((x.toNat : Int) == 34) = false := by rw [← e2]; exact u8_eq 34 (by decide)
            have n2 : ((x.toNat : Int) == 92) = false := by rw [← e3]; exact u8_eq 92 (by decide)
            have hes2 := Lib.hid (show escL (s.data.toList.take (k + 1)) = escL (s.data.toList.take k) ++ [x] by rw [hes.out, e2, e3]; rfl)
            clear e2 e3
            go_wp2_with (first | (at_builtin; refine wpList_byte (o := ⟨some 36, _, _, _, _, _⟩) rfl _ _ rfl w.heap.size (.slice av _ cv) (34 :: escL (s.data.toList.take k)) rfl (by apply Bytes.alloc; exact hown) ⟨wr.heap.size, 0, none⟩ 1 x rfl (new_cell _ _ _ _) (by have := HLE.out; simp; omega) (by simp; omega) ?_; intro v' w2 hown2 hg2) | (go_at_call 109; refine (text_any _ _).mono ?_; rintro e w' ⟨rfl, rfl⟩))
            go_roundw
            case rel => exact ⟨k + 1, by omega, by go_num, by rw [hes2.out]; exact hown2, (hfr.alloc _).grownNew hg2 hown.block, hnx.out⟩
            case measure => simp [intOf]; omega
          · have n1 : ((x.toNat : Int) == 34) = false := by rw [← e2]; exact u8_eq 34 (by decide)
            have n2 : ((x.toNat : Int) == 92) = true := by rw [← e3]; exact u8_eq 92 (by decide)
            have hes2 := Lib.hid (show escL (s.data.toList.take (k + 1)) = escL (s.data.toList.take k) ++ [92, x] by rw [hes.out]; simp only [e2, e3, Bool.or_true, if_true])
            clear e2 e3
            go_wp2_with (first | (at_builtin; refine wpList_byte (o := ⟨some 30, _, _, _, _, _⟩) rfl _ _ rfl w.heap.size (.slice av _ cv) (34 :: escL (s.data.toList.take k)) rfl (by apply Bytes.alloc; exact hown) ⟨wr.heap.size, 0, none⟩ 1 92 rfl (new_cell _ _ _ _) (by have := HLE.out; simp; omega) (by simp; omega) ?_; intro v1 w1 hown1 hg1; have hb1 : wr.heap.size + 1 ≤ w1.heap.size := by simpa using hg1.size) | (at_builtin; refine wpList_byte (o := ⟨some 36, _, _, _, _, _⟩) rfl _ _ rfl w.heap.size v1 (34 :: escL (s.data.toList.take k) ++ [92]) rfl (by apply Bytes.alloc; exact hown1) ⟨w1.heap.size, 0, none⟩ 1 x rfl (new_cell _ _ _ _) (by have := HLE.out; simp; omega) (by simp; omega) ?_; intro v' w2 hown2 hg2) | (go_at_call 109; refine (text_any _ _).mono ?_; rintro e w' ⟨rfl, rfl⟩))
            go_roundw
            case rel => exact ⟨k + 1, by omega, by go_num, by rw [hes2.out]; simpa using hown2, ((((hfr.alloc _).grownNew hg1 hown.block).alloc _).grownNew hg2 hown1.block), hnx.out⟩
            case measure => simp [intOf]; omega
        · have n1 : ((x.toNat : Int) == 34) = true := by rw [← e2]; exact u8_eq 34 (by decide)
          have hes2 := Lib.hid (show escL (s.data.toList.take (k + 1)) = escL (s.data.toList.take k) ++ [92, x] by rw [hes.out]; simp only [e2, Bool.true_or, if_true])
          clear e2
          go_wp2_with (first | (at_builtin; refine wpList_byte (o := ⟨some 30, _, _, _, _, _⟩) rfl _ _ rfl w.heap.size (.slice av _ cv) (34 :: escL (s.data.toList.take k)) rfl (by apply Bytes.alloc; exact hown) ⟨wr.heap.size, 0, none⟩ 1 92 rfl (new_cell _ _ _ _) (by have := HLE.out; simp; omega) (by simp; omega) ?_; intro v1 w1 hown1 hg1; have hb1 : wr.heap.size + 1 ≤ w1.heap.size := by simpa using hg1.size) | (at_builtin; refine wpList_byte (o := ⟨some 36, _, _, _, _, _⟩) rfl _ _ rfl w.heap.size v1 (34 :: escL (s.data.toList.take k) ++ [92]) rfl (by apply Bytes.alloc; exact hown1) ⟨w1.heap.size, 0, none⟩ 1 x rfl (new_cell _ _ _ _) (by have := HLE.out; simp; omega) (by simp; omega) ?_; intro v' w2 hown2 hg2) | (go_at_call 109; refine (text_any _ _).mono ?_; rintro e w' ⟨rfl, rfl⟩))
          go_roundw
          case rel => exact ⟨k + 1, by omega, by go_num, by rw [hes2.out]; simpa using hown2, ((((hfr.alloc _).grownNew hg1 hown.block).alloc _).grownNew hg2 hown1.block), hnx.out⟩
          case measure => simp [intOf]; omega
    · have hall2 := Lib.hid (show s.data.toList.take k = s.data.toList from List.take_of_length_le (by simp; omega))
      go_wp2_with (at_builtin; refine wpList_byte (o := ⟨some 40, _, _, _, _, _⟩) rfl _ _ rfl w.heap.size (.slice av _ cv) (34 :: escL (s.data.toList.take k)) rfl (by apply Bytes.alloc; exact hown) ⟨wr.heap.size, 0, none⟩ 1 34 rfl (new_cell _ _ _ _) (by have := HLE.out; simp; omega) (by simp; omega) ?_; intro v1 w1 hown1 hg1; obtain ⟨a1, c1, hv1⟩ := hown1.form; subst hv1; have ht1 := hown1.text; simp only [List.length_append, List.length_cons, List.length_nil, Nat.zero_add] at ht1)
      go_ret2
      refine ⟨?_, (hfr.alloc _).grownNew hg1 hown.block⟩
      have hall3 : textL s.data.toList = true := by rw [← hall2.out]; exact HALL.out
      rw [if_pos hall3, hall2.out]
      rfl
end Go.Proofs.YtkoobhgedoanhaaGreatDoor
