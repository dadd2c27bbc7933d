/- Slices of elements of k cells: read, and made by the call itself. No program in sight. -/
import Derived.Test.YtkoobhgedoanhaaGreatDoorBytes
import Derived.Shelf.SlicesQ.Load
namespace Go.Proofs.YtkoobhgedoanhaaGreatDoor
open Go.RowKit

/-- v reads as the elements xs, each of k cells -/
def RowsAt (k : Nat) (w : World) (v : Value) (xs : List (List Value)) : Prop :=
  (∀ x ∈ xs, x.length = k ∧ ∀ u ∈ x, u.oneCell' = true) ∧
  ((∃ a c, v = .slice a 0 c ∧ xs = [] ∧ (a = none → c = 0)) ∨
   ∃ bk o c, v = .slice (some ⟨bk, o, none⟩) xs.length c ∧ xs.length ≤ c ∧ c ≤ maxLen ∧ bk < w.heap.size ∧
     ∀ (j : Nat) x, xs[j]? = some x → ∀ (i : Nat) u, x[i]? = some u → w.cell? ⟨bk, o + j * k + i, none⟩ = some u)
section
variable {k : Nat} {w w' : World} {v : Value} {xs : List (List Value)}
theorem RowsAt.nil (k : Nat) (w : World) : RowsAt k w (.slice none 0 0) [] := ⟨by simp, Or.inl ⟨_, _, rfl, rfl, fun _ => rfl⟩⟩
theorem RowsAt.form (h : RowsAt k w v xs) : ∃ a c, v = .slice a xs.length c := by
  rcases h.2 with ⟨a, c, hv, hs, _⟩ | ⟨bk, o, c, hv, _⟩
  · exact ⟨a, c, by rw [hv, hs]; rfl⟩
  · exact ⟨_, _, hv⟩
theorem RowsAt.fr {S : Nat → Prop} (h : RowsAt k w v xs) (hf : Fr S w w') (hn : ∀ b, v.ownBlock = some b → ¬ S b) : RowsAt k w' v xs := by
  refine ⟨h.1, ?_⟩
  rcases h.2 with h | ⟨bk, o, c, hv, h1, h2, h3, h4⟩
  · exact Or.inl h
  · refine Or.inr ⟨bk, o, c, hv, h1, h2, Nat.lt_of_lt_of_le h3 hf.size, fun j x hj i u hi => ?_⟩
    rw [hf.cell (p := ⟨bk, o + j * k + i, none⟩) h3 (hn bk (by rw [hv]; rfl))]
    exact h4 j x hj i u hi
theorem RowsAt.frNone (h : RowsAt k w v xs) (hf : Fr noB w w') : RowsAt k w' v xs := h.fr hf (fun _ _ h => h)
end

/-- the cells of one element, loaded at once -/
theorem load_cells {P : Program} {w : World} {b o k : Nat} {x : List Value} (hk : x.length = k) (h : ∀ (i : Nat) u, x[i]? = some u → w.cell? ⟨b, o + i, none⟩ = some u) :
    Sem.run P (loadCellsFrom ⟨b, o, none⟩ 0 k #[]) w = .ok x.toArray w :=
  run_loadCellsFrom_list P w ⟨b, o, none⟩ x k hk (fun j v hj => by
    have ea : (Addr.add ⟨b, o, none⟩ j) = ⟨b, o + j, none⟩ := by unfold Addr.add; split <;> simp_all
    rw [ea]; exact h j v hj)

/-- v is a slice of the call's own (blocks from base on, elements of type e, k cells each) that holds xs -/
def OwnRows (base : Nat) (e : TypeId) (k : Nat) (w : World) (v : Value) (xs : List (List Value)) : Prop :=
  (∀ x ∈ xs, x.length = k ∧ ∀ u ∈ x, u.oneCell' = true) ∧ w.ownsRow base e k v xs.length xs.flatten
theorem flatten_at : ∀ {k : Nat} {xs : List (List Value)} (_ : ∀ x ∈ xs, x.length = k) {j : Nat} {x : List Value} (_ : xs[j]? = some x) {i : Nat} {u : Value} (_ : x[i]? = some u), xs.flatten[j * k + i]? = some u
  | k, [], _, j, x, hj, i, u, hi => by simp at hj
  | k, y :: ys, hl, 0, x, hj, i, u, hi => by
    simp at hj; subst hj
    have := (List.getElem?_eq_some_iff.1 hi).1
    simp only [List.flatten_cons, Nat.zero_mul, Nat.zero_add]
    rw [List.getElem?_append_left this]; exact hi
  | k, y :: ys, hl, j + 1, x, hj, i, u, hi => by
    have hy := hl y (by simp)
    have ih := flatten_at (k := k) (xs := ys) (fun z hz => hl z (List.mem_cons_of_mem _ hz)) (j := j) (by simpa using hj) hi
    simp only [List.flatten_cons]
    rw [List.getElem?_append_right (by rw [hy, Nat.succ_mul]; omega), hy, show (j + 1) * k + i - k = j * k + i from by rw [Nat.succ_mul]; omega]
    exact ih
theorem flatten_len : ∀ {k : Nat} {xs : List (List Value)} (_ : ∀ x ∈ xs, x.length = k), xs.flatten.length = xs.length * k
  | k, [], _ => by simp
  | k, y :: ys, hl => by
    have := flatten_len (k := k) (xs := ys) (fun z hz => hl z (List.mem_cons_of_mem _ hz))
    simp only [List.flatten_cons, List.length_append, this, hl y (by simp), List.length_cons, Nat.succ_mul]; omega
section
variable {base k : Nat} {e : TypeId} {w w' : World} {v : Value} {xs : List (List Value)}
theorem OwnRows.nil (base : Nat) (e : TypeId) (k : Nat) (w : World) : OwnRows base e k w (.slice none 0 0) [] := ⟨by simp, World.ownsRow_nil _ _ _ _⟩
theorem OwnRows.alloc (h : OwnRows base e k w v xs) (o : Obj) : OwnRows base e k (w.alloc o) v xs := ⟨h.1, World.ownsRow.alloc h.2 o⟩
theorem OwnRows.drewN {n : Nat} (h : OwnRows base e k w v xs) : OwnRows base e k (w.drewN n) v xs := h
theorem OwnRows.drew (h : OwnRows base e k w v xs) : OwnRows base e k w.drew v xs := h
theorem OwnRows.form (h : OwnRows base e k w v xs) : ∃ a c, v = .slice a xs.length c := by
  rcases h.2.2 with ⟨hv, hn⟩ | ⟨g, cap, cur, hv, _⟩
  · exact ⟨none, 0, by rw [hv, hn]⟩
  · exact ⟨_, _, hv⟩
theorem OwnRows.up {b' : Nat} (h : OwnRows b' e k w v xs) (hb : base ≤ b') : OwnRows base e k w v xs := by
  obtain ⟨h0, h1, h2⟩ := h
  refine ⟨h0, h1, ?_⟩
  rcases h2 with h2 | ⟨g, cap, cur, hv, hg, r⟩
  · exact Or.inl h2
  · exact Or.inr ⟨g, cap, cur, hv, Nat.le_trans hb hg, r⟩
theorem OwnRows.fr {S : Nat → Prop} (h : OwnRows base e k w v xs) (hf : Fr S w w') (hn : ∀ b, v.ownBlock = some b → ¬ S b) : OwnRows base e k w' v xs := by
  obtain ⟨h0, h1, h2⟩ := h
  refine ⟨h0, h1, ?_⟩
  rcases h2 with h2 | ⟨g, cap, cur, hv, hg, hh, r⟩
  · exact Or.inl h2
  · exact Or.inr ⟨g, cap, cur, hv, hg, hf.keep hh (hn g (by rw [hv]; rfl)), r⟩
theorem OwnRows.block (h : OwnRows base e k w v xs) : ∀ b, v.ownBlock = some b → base ≤ b := by
  intro b hb
  rcases h.2.2 with ⟨hv, _⟩ | ⟨g, cap, cur, hv, hg, _⟩
  · rw [hv] at hb; simp [Value.ownBlock] at hb
  · rw [hv] at hb; simp [Value.ownBlock] at hb; omega
theorem OwnRows.lt (h : OwnRows base e k w v xs) : ∀ b, v.ownBlock = some b → b < w.heap.size := by
  intro b hb
  rcases h.2.2 with ⟨hv, _⟩ | ⟨g, cap, cur, hv, hg, hh, _⟩
  · rw [hv] at hb; simp [Value.ownBlock] at hb
  · rw [hv] at hb; simp [Value.ownBlock] at hb; subst hb; exact lt_of_some hh
theorem OwnRows.at (h : OwnRows base e k w v xs) : RowsAt k w v xs := by
  obtain ⟨h0, h1, h2⟩ := h
  refine ⟨h0, ?_⟩
  rcases h2 with ⟨hv, hn⟩ | ⟨g, cap, cur, hv, hg, hh, h3, h4, h5, h6⟩
  · exact Or.inl ⟨none, 0, hv, List.eq_nil_of_length_eq_zero hn, fun _ => rfl⟩
  · refine Or.inr ⟨g, 0, cap, hv, h3, h4, lt_of_some hh, fun j x hj i u hi => ?_⟩
    have hlx := h0 x (List.mem_of_getElem? hj)
    have hji : j * k + i < xs.length * k := by
      have hj' := (List.getElem?_eq_some_iff.1 hj).1
      have hi' := (List.getElem?_eq_some_iff.1 hi).1
      have : (j + 1) * k ≤ xs.length * k := Nat.mul_le_mul_right _ hj'
      rw [Nat.succ_mul] at this; omega
    have e1 : (cur.toList.take (xs.length * k))[j * k + i]? = some u := by rw [h6]; exact flatten_at (fun z hz => (h0 z hz).1) hj hi
    rw [List.getElem?_take_of_lt hji] at e1
    have e2 : cur[j * k + i]? = some u := by simpa using e1
    simp [World.cell?, hh, e2]
end

/-- l = append(l, x): one element of k cells -/
theorem wpList_row {P : Program} {ops : Array Oper} {rest : List Oper} {o : Oper} {a : Act} {Q : Exit → Act → World → Prop} {w : World} (hgd : o.guard = none) (s x : Operand) (t e : TypeId)
    (ho : o.op = .call { callee := .builtin .append, args := #[s, x], argTypes := #[t, t] }) (k bytes : Nat) (z : Value) (ht : P.underlying t = some (.slice e))
    (hinf : (P.info? e).map (fun i => (i.zero, i.size, i.bytes)) = some (some z, k, bytes)) (hz : z.cells.size = k) (hk : 0 < k) (hb : bytes ≤ 1024)
    (base : Nat) (v : Value) (l : List (List Value)) (hs : a.eval s = v) (hown : OwnRows base e k w v l)
    (ad : Nat) (c : Nat) (y : List Value) (hx : a.eval x = .slice (some ⟨ad, 0, none⟩) 1 c) (hyk : y.length = k) (hy1 : ∀ u ∈ y, u.oneCell' = true) (hy : ∀ (i : Nat) u, y[i]? = some u → w.cell? ⟨ad, i, none⟩ = some u)
    (hlen : l.length < 68719476736) (hbase : base ≤ w.heap.size)
    (h : ∀ v' w', OwnRows base e k w' v' (l ++ [y]) → w.grownBy w' v.ownBlock → wpList P ops Q rest (a.put o.dst v') w') : wpList P ops Q (o :: rest) a w := by
  obtain ⟨i0, hi, hz0, hz1, hz2⟩ := info_parts hinf
  refine wpList_append_own w hgd s x t ho base e i0 z k bytes ht hi hz0 hz1 hz2 hz hk v l.length l.flatten hs hown.2 ⟨ad, 0, none⟩ 1 c y hx (by rw [hyk, Nat.one_mul]) ?_ hy1 ?_ ?_ hbase ?_
  · intro j u hj
    have ea : (Addr.add ⟨ad, 0, none⟩ j) = ⟨ad, j, none⟩ := by unfold Addr.add; split <;> simp_all
    rw [ea]; exact hy j u hj
  · unfold maxLen; omega
  · have : (l.length + 1) * bytes ≤ 68719476736 * 1024 := Nat.mul_le_mul (by omega) hb
    omega
  · intro v' w' h1 h2 _
    refine h v' w' ⟨?_, ?_⟩ h2
    · intro q hq
      rcases List.mem_append.1 hq with g | g
      · exact hown.1 q g
      · simp at g; subst g; exact ⟨hyk, hy1⟩
    · simpa using h1
end Go.Proofs.YtkoobhgedoanhaaGreatDoor
