/- Slices of strings: read, and made by the call itself; errors. -/
import Derived.Test.YtkoobhgedoanhaaGreatDoorLower
import Derived.Test.YtkoobhgedoanhaaGreatDoorShelf
namespace Go.Proofs.YtkoobhgedoanhaaGreatDoor
open Go.RowKit

/-- v reads as the strings ss -/
def StrsAt (w : World) (v : Value) (ss : List ByteArray) : Prop :=
  (∃ a c, v = .slice a 0 c ∧ ss = [] ∧ (a = none → c = 0)) ∨
  ∃ bk o c, v = .slice (some ⟨bk, o, none⟩) ss.length c ∧ ss.length ≤ c ∧ c ≤ maxLen ∧ bk < w.heap.size ∧ ∀ (j : Nat) x, ss[j]? = some x → w.cell? ⟨bk, o + j, none⟩ = some (.string x)
theorem StrsAt.nil (w : World) : StrsAt w (.slice none 0 0) [] := Or.inl ⟨_, _, rfl, rfl, fun _ => rfl⟩
theorem StrsAt.fr {S : Nat → Prop} {w w' : World} {v : Value} {ss : List ByteArray} (h : StrsAt w v ss) (hf : Fr S w w') (hn : ∀ k, v.ownBlock = some k → ¬ S k) : StrsAt w' v ss := by
  rcases h with h | ⟨bk, o, c, hv, h1, h2, h3, h4⟩
  · exact Or.inl h
  · refine Or.inr ⟨bk, o, c, hv, h1, h2, Nat.lt_of_lt_of_le h3 hf.size, fun j x hj => ?_⟩
    rw [hf.cell (p := ⟨bk, o + j, none⟩) h3 (hn bk (by rw [hv]; rfl))]
    exact h4 j x hj
theorem StrsAt.frNone {w w' : World} {v : Value} {ss : List ByteArray} (h : StrsAt w v ss) (hf : Fr noB w w') : StrsAt w' v ss := h.fr hf (fun _ _ h => h)
theorem StrsAt.form {w : World} {v : Value} {ss : List ByteArray} (h : StrsAt w v ss) : ∃ a c, v = .slice a ss.length c := by
  rcases h with ⟨a, c, hv, hs, _⟩ | ⟨bk, o, c, hv, _⟩
  · exact ⟨a, c, by rw [hv, hs]; rfl⟩
  · exact ⟨_, _, hv⟩

theorem info_str : (Tryz.prog.info? 9).map (fun i => (i.zero, i.size, i.bytes)) = some (some (.string ⟨#[]⟩), 1, 16) := by kernel_rfl

/-- v is a slice of the call's own (blocks from base on) that holds the strings ss -/
def Strs (base : Nat) (w : World) (v : Value) (ss : List ByteArray) : Prop := w.ownsRow base 9 1 v ss.length (ss.map Value.string)
section
variable {base : Nat} {w w' : World} {v : Value} {ss : List ByteArray}
theorem Strs.nil (base : Nat) (w : World) : Strs base w (.slice none 0 0) [] := World.ownsRow_nil _ _ _ _
theorem Strs.alloc (h : Strs base w v ss) (o : Obj) : Strs base (w.alloc o) v ss := World.ownsRow.alloc h o
theorem Strs.drewN {n : Nat} (h : Strs base w v ss) : Strs base (w.drewN n) v ss := h
theorem Strs.drew (h : Strs base w v ss) : Strs base w.drew v ss := h
theorem Strs.form (h : Strs base w v ss) : ∃ a c, v = .slice a ss.length c := by
  rcases h.2 with ⟨hv, hn⟩ | ⟨g, cap, cur, hv, _⟩
  · exact ⟨none, 0, by rw [hv, hn]⟩
  · exact ⟨_, _, hv⟩
theorem Strs.fr {S : Nat → Prop} (h : Strs base w v ss) (hf : Fr S w w') (hS : ∀ k, S k → k < base) : Strs base w' v ss := by
  obtain ⟨h1, h2⟩ := h
  refine ⟨h1, ?_⟩
  rcases h2 with h2 | ⟨g, cap, cur, hv, hg, hh, r⟩
  · exact Or.inl h2
  · exact Or.inr ⟨g, cap, cur, hv, hg, hf.keep hh (fun hs => absurd (hS g hs) (by omega)), r⟩
theorem Strs.block (h : Strs base w v ss) : ∀ k, v.ownBlock = some k → base ≤ k := by
  intro k hk
  rcases h.2 with ⟨hv, _⟩ | ⟨g, cap, cur, hv, hg, _⟩
  · rw [hv] at hk; simp [Value.ownBlock] at hk
  · rw [hv] at hk; simp [Value.ownBlock] at hk; omega
theorem Strs.at (h : Strs base w v ss) : StrsAt w v ss := by
  obtain ⟨h1, h2⟩ := h
  rcases h2 with ⟨hv, hn⟩ | ⟨g, cap, cur, hv, hg, hh, h3, h4, h5, h6⟩
  · exact Or.inl ⟨none, 0, hv, List.eq_nil_of_length_eq_zero hn, fun _ => rfl⟩
  · refine Or.inr ⟨g, 0, cap, hv, h3, h4, lt_of_some hh, fun j x hj => ?_⟩
    have hl := (List.getElem?_eq_some_iff.1 hj).1
    have e : (cur.toList.take (ss.length * 1))[j]? = some (.string x) := by rw [h6]; simp [hj]
    rw [List.getElem?_take_of_lt (by omega)] at e
    have e2 : cur[j]? = some (.string x) := by simpa using e
    simp [World.cell?, hh, e2]
end

/-- l = append(l, x): one string -/
theorem wpList_str {ops : Array Oper} {rest : List Oper} {o : Oper} {a : Act} {Q : Exit → Act → World → Prop} {w : World} (hgd : o.guard = none) (s x : Operand)
    (ho : o.op = .call { callee := .builtin .append, args := #[s, x], argTypes := #[22, 22] }) (base : Nat) (v : Value) (l : List ByteArray) (hs : a.eval s = v) (hown : Strs base w v l)
    (ad : Addr) (c : Nat) (y : ByteArray) (hx : a.eval x = .slice (some ad) 1 c) (hy : w.cell? ad = some (.string y)) (hlen : l.length < 4398046511104) (hbase : base ≤ w.heap.size)
    (h : ∀ v' w', Strs base w' v' (l ++ [y]) → w.grownBy w' v.ownBlock → wpList Tryz.prog ops Q rest (a.put o.dst v') w') : wpList Tryz.prog ops Q (o :: rest) a w := by
  obtain ⟨i0, hi, hz0, hz1, hz2⟩ := info_parts info_str
  refine wpList_append_own w hgd s x 22 ho base 9 i0 (.string ⟨#[]⟩) 1 16 Tryz.underlying22 hi hz0 hz1 hz2 rfl (by decide) v l.length (l.map Value.string) hs hown ad 1 c [.string y] hx rfl ?_ ?_ ?_ ?_ hbase ?_
  · intro j u hj
    match j, hj with
    | 0, hj => simp at hj; subst hj; simpa [Addr.add] using hy
  · intro u hu; simp at hu; subst hu; rfl
  · unfold maxLen; omega
  · omega
  · intro v' w' h1 h2 _
    exact h v' w' (by unfold Strs; simpa using h1) h2

/-- slices.Equal at strings -/
theorem EqualS_any (v1 v2 : Value) (xs ys : List ByteArray) (w : World) (h1 : StrsAt w v1 xs) (h2 : StrsAt w v2 ys) (hl : ys.length ≤ maxLen) :
    Calls Tryz.prog 48 #[v1, v2] w fun e w' => e = .returned (.bool (decide (xs = ys))) ∧ ∃ q, w' = w.drewN q := by
  unfold maxLen at hl
  obtain ⟨a1, c1, f1⟩ := h1.form
  obtain ⟨a2, c2, f2⟩ := h2.form
  by_cases hn : xs.length = ys.length
  · by_cases h0 : xs.length = 0
    · have e1 : xs = [] := List.eq_nil_of_length_eq_zero h0
      have e2 : ys = [] := List.eq_nil_of_length_eq_zero (by omega)
      subst e1; subst e2
      rw [f1, f2]
      exact (Tryz.slices_Equal_string_empty a1 a2 c1 0 c2 w (by omega)).mono fun e w' ⟨he, hw⟩ => ⟨by rw [he]; simp, 0, hw⟩
    · rcases h1 with ⟨_, _, _, e, _⟩ | ⟨b1, o1, d1, g1, k1, k2, k3, k4⟩
      · rw [e] at h0; exact absurd rfl h0
      rcases h2 with ⟨_, _, _, e, _⟩ | ⟨b2, o2, d2, g2, l1, l2, l3, l4⟩
      · rw [e] at hn; exact absurd (hn.trans rfl) h0
      rw [g1, g2]
      have hcx : ∀ j, j < xs.length → w.cell? ⟨b1, o1 + j, none⟩ = some (.string (xs.getD j ByteArray.empty)) := fun j hj => k4 j _ (by simp [List.getD, hj])
      have hcy : ∀ j, j < ys.length → w.cell? ⟨b2, o2 + j, none⟩ = some (.string (ys.getD j ByteArray.empty)) := fun j hj => l4 j _ (by simp [List.getD, hj])
      refine (Tryz.slices_Equal_string b1 o1 xs.length d1 b2 o2 ys.length d2 xs ys w (Nat.le_refl _) (Nat.le_refl _) (by omega) (by omega) hcx hcy).mono fun e w' ⟨he, hw⟩ => ⟨?_, hw⟩
      rw [he]; simp
  · rw [f1, f2]
    refine (Tryz.slices_Equal_string_lens a1 a2 xs.length c1 ys.length c2 w hn).mono fun e w' ⟨he, hw⟩ => ⟨?_, 0, hw⟩
    rw [he, decide_eq_false (fun e => hn (by rw [e]))]

end Go.Proofs.YtkoobhgedoanhaaGreatDoor
