/- A slice of bytes that a call itself has made: append, and the text of it. -/
import Derived.Test.YtkoobhgedoanhaaGreatDoorRows
import Derived.Test.YtkoobhgedoanhaaGreatDoorBase
import Derived.WalkSpells
import Derived.WalkLawsBesides
import Derived.Lib.Hide
namespace Go.Proofs.YtkoobhgedoanhaaGreatDoor
open Go.RowKit

theorem info_u8 : (Tryz.prog.info? 5).map (fun i => (i.zero, i.size, i.bytes)) = some (some (.int .u8 0), 1, 1) := by kernel_rfl

def u8s (l : List UInt8) : List Value := l.map fun x => .int .u8 (x.toNat : Int)
theorem u8s_snoc (l : List UInt8) (c : UInt8) : u8s (l ++ [c]) = u8s l ++ [.int .u8 (c.toNat : Int)] := by simp [u8s]
theorem u8s_append (l m : List UInt8) : u8s (l ++ m) = u8s l ++ u8s m := by simp [u8s]
theorem u8s_length (l : List UInt8) : (u8s l).length = l.length := by simp [u8s]

/-- v is a slice of the call's own (blocks from base on) that holds the bytes l. -/
def Bytes (base : Nat) (w : World) (v : Value) (l : List UInt8) : Prop := w.ownsRow base 5 1 v l.length (u8s l)

theorem Bytes.nil (base : Nat) (w : World) : Bytes base w (.slice none 0 0) [] := World.ownsRow_nil _ _ _ _
theorem Bytes.alloc {base : Nat} {w : World} {v : Value} {l : List UInt8} (h : Bytes base w v l) (o : Obj) : Bytes base (w.alloc o) v l := World.ownsRow.alloc h o
theorem Bytes.drewN {base : Nat} {w : World} {v : Value} {l : List UInt8} {n : Nat} (h : Bytes base w v l) : Bytes base (w.drewN n) v l := h
theorem Bytes.drew {base : Nat} {w : World} {v : Value} {l : List UInt8} (h : Bytes base w v l) : Bytes base w.drew v l := h
theorem Bytes.setCell {base : Nat} {w : World} {v : Value} {l : List UInt8} {p : Addr} {u : Value} (hp : p.block < base) (h : Bytes base w v l) : Bytes base (w.setCell p u) v l := ownsRow_setCell_below h hp u
theorem new_cell (w : World) (v : Value) (t : TypeId) (f : Nat × Nat) : (w.alloc (.cells #[v] t f)).cell? ⟨w.heap.size, 0, none⟩ = some v := World.cell?_alloc_mark w #[v] t f 0
theorem new_block (w : World) (o : Obj) : (w.alloc o).heap[w.heap.size]? = some o := by
  show (w.heap.push o)[w.heap.size]? = _
  simp
/-- []byte{x} -/
theorem Bytes.new1 (w : World) (x : UInt8) : Bytes w.heap.size (w.alloc (.cells #[.int .u8 x.toNat] 5)) (.slice (some ⟨w.heap.size, 0, none⟩) 1 1) [x] :=
  ⟨rfl, Or.inr ⟨w.heap.size, 1, _, rfl, Nat.le_refl _, new_block _ _, Nat.le_refl _, by simp [maxLen], rfl, rfl⟩⟩
theorem Bytes.form {base : Nat} {w : World} {v : Value} {l : List UInt8} (h : Bytes base w v l) : ∃ a c, v = .slice a l.length c := by
  rcases h.2 with ⟨hv, hn⟩ | ⟨g, cap, cur, hv, _⟩
  · exact ⟨none, 0, by rw [hv, hn]⟩
  · exact ⟨_, _, hv⟩
/-- what is owned stays, where its own block stays -/
theorem Bytes.fr {base : Nat} {w w' : World} {v : Value} {l : List UInt8} {S : Nat → Prop} (h : Bytes base w v l) (hf : Fr S w w') (hS : ∀ k, S k → k < base) : Bytes base w' v l := by
  obtain ⟨h1, h2⟩ := h
  refine ⟨h1, ?_⟩
  rcases h2 with h2 | ⟨g, cap, cur, hv, hg, hh, r⟩
  · exact Or.inl h2
  · exact Or.inr ⟨g, cap, cur, hv, hg, hf.keep hh (fun hs => absurd (hS g hs) (by omega)), r⟩
theorem Bytes.block {base : Nat} {w : World} {v : Value} {l : List UInt8} (h : Bytes base w v l) : ∀ k, v.ownBlock = some k → base ≤ k := by
  intro k hk
  rcases h.2 with ⟨hv, _⟩ | ⟨g, cap, cur, hv, hg, _⟩
  · rw [hv] at hk; simp [Value.ownBlock] at hk
  · rw [hv] at hk; simp [Value.ownBlock] at hk; omega

/-- string(b) -/
theorem Bytes.text {base : Nat} {w : World} {a : Option Addr} {n c : Nat} {l : List UInt8} (h : Bytes base w (.slice a n c) l) :
    (convert 95 9 (.slice a n c)).run Tryz.prog w = .ok (.string ⟨l.toArray⟩) w := by
  obtain ⟨h1, h2⟩ := h
  rcases h2 with ⟨hv, hn⟩ | ⟨g, cap, cur, hv, hg, hh, h3, h4, h5, h6⟩
  · cases hv
    have : l = [] := List.eq_nil_of_length_eq_zero hn
    subst this
    exact run_convert_bytes_nil (P := Tryz.prog) w 95 5 Tryz.underlying95 Tryz.underlying5 0 0 9 Tryz.underlying9
  · cases hv
    refine run_convert_bytes_back (P := Tryz.prog) w 95 9 5 ⟨g, 0, none⟩ c l Tryz.underlying95 Tryz.underlying5 Tryz.underlying9 ?_
    intro j hj
    have hj2 : j < l.length * 1 := by omega
    have e : (cur.toList.take (l.length * 1))[j]? = some (.int .u8 (l[j].toNat : Int)) := by
      rw [h6]; simp [u8s, hj]
    rw [List.getElem?_take_of_lt hj2] at e
    have e2 : cur[j]? = some (.int .u8 (l[j].toNat : Int)) := by simpa using e
    have ea : (Addr.add ⟨g, 0, none⟩ j) = ⟨g, j, none⟩ := by unfold Addr.add; split <;> simp_all
    rw [ea]
    simp [World.cell?, hh, e2]

/-- b = append(b, x): one byte -/
theorem wpList_byte {ops : Array Oper} {rest : List Oper} {o : Oper} {a : Act} {Q : Exit → Act → World → Prop} {w : World} (hgd : o.guard = none) (s x : Operand)
    (ho : o.op = .call { callee := .builtin .append, args := #[s, x], argTypes := #[95, 95] }) (base : Nat) (v : Value) (l : List UInt8) (hs : a.eval s = v) (hown : Bytes base w v l)
    (ad : Addr) (c : Nat) (y : UInt8) (hx : a.eval x = .slice (some ad) 1 c) (hy : w.cell? ad = some (.int .u8 (y.toNat : Int))) (hlen : l.length < 70368744177664) (hbase : base ≤ w.heap.size)
    (h : ∀ v' w', Bytes base w' v' (l ++ [y]) → w.grownBy w' v.ownBlock → wpList Tryz.prog ops Q rest (a.put o.dst v') w') : wpList Tryz.prog ops Q (o :: rest) a w := by
  obtain ⟨i0, hi, hz0, hz1, hz2⟩ := info_parts info_u8
  refine wpList_append_own w hgd s x 95 ho base 5 i0 (.int .u8 0) 1 1 Tryz.underlying95 hi hz0 hz1 hz2 rfl (by decide) v l.length (u8s l) hs hown ad 1 c [.int .u8 (y.toNat : Int)] hx rfl ?_ ?_ ?_ ?_ hbase ?_
  · intro j u hj
    match j, hj with
    | 0, hj => simp at hj; subst hj; simpa [Addr.add] using hy
  · intro u hu; simp at hu; subst hu; rfl
  · unfold maxLen; omega
  · omega
  · intro v' w' h1 h2 _
    exact h v' w' (by unfold Bytes; rw [u8s_snoc]; simpa using h1) h2
end Go.Proofs.YtkoobhgedoanhaaGreatDoor
