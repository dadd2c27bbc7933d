/- Package pass: a book, and what Put's closures answer. -/
import Derived.Test.YtkoobhgedoanhaaDoorCovers
import Derived.Test.YtkoobhgedoanhaaDoorRowPaD
import Derived.Test.YtkoobhgedoanhaaDoorStill
namespace Go.Proofs.YtkoobhgedoanhaaDoor
open Go.RowKit

theorem OwnRows.kindP {b k : Nat} {e : TypeId} {w : World} {v : Value} {xs : List (List Value)} (h : OwnRows b e k w v xs) {g : Nat} (hg : own v g) : ∃ c, w.heap[g]? = some (.cells c e (0, 0)) := by
  obtain ⟨cap, cur, _, _, h2, _⟩ := h.open hg
  exact ⟨cur, h2⟩
/-- block b is a book that holds ps, its row v of the call's own -/
structure BookIs (base : Nat) (w : World) (b : Nat) (v : Value) (ps : List Pas) : Prop where
  low : base ≤ b
  blk : w.heap[b]? = some (.cells #[v] 57 (0, 0))
  rows : OwnRows base 63 12 w v (ps.map Pas.cells)
def bookF (b : Nat) (v : Value) : Nat → Prop := fun k => k = b ∨ own v k
def BookPost (base : Nat) (w : World) (b : Nat) (v : Value) (ps : List Pas) (w' : World) : Prop :=
  ∃ v', BookIs base w' b v' ps ∧ Fr (bookF b v) w w' ∧ ∀ k, bookF b v' k → bookF b v k ∨ w.heap.size ≤ k
section
variable {base : Nat} {w w' : World} {b : Nat} {v : Value} {ps : List Pas}
theorem BookIs.lt (h : BookIs base w b v ps) : b < w.heap.size := lt_of_some h.blk
theorem BookIs.c0 (h : BookIs base w b v ps) : w.cell? ⟨b, 0, none⟩ = some v := by simp [World.cell?, h.blk]
theorem BookIs.free (h : BookIs base w b v ps) (k : Nat) : w.frozen? ⟨b, k, none⟩ = false := by simp [World.frozen?, h.blk]
theorem BookIs.form (h : BookIs base w b v ps) : ∃ a c, v = .slice a ps.length c := by
  obtain ⟨a, c, e⟩ := h.rows.form
  exact ⟨a, c, by rw [e, List.length_map]⟩
theorem BookIs.own_lt (h : BookIs base w b v ps) {k : Nat} (hk : own v k) : k < w.heap.size := h.rows.lt k hk
theorem BookIs.nb (h : BookIs base w b v ps) : ¬ own v b := fun hk => by
  obtain ⟨c, e⟩ := h.rows.kindP hk
  rw [h.blk] at e; cases e
theorem BookIs.foot_lt (h : BookIs base w b v ps) {k : Nat} (hk : bookF b v k) : k < w.heap.size := by
  rcases hk with rfl | hk
  · exact h.lt
  · exact h.own_lt hk
theorem BookIs.fr {S : Nat → Prop} (h : BookIs base w b v ps) (hf : Fr S w w') (hn : ∀ k, bookF b v k → ¬ S k) : BookIs base w' b v ps :=
  ⟨h.low, hf.keep h.blk (hn b (Or.inl rfl)), h.rows.fr hf (fun k hk => hn k (Or.inr hk))⟩
theorem BookIs.frN (h : BookIs base w b v ps) (hf : Fr noB w w') : BookIs base w' b v ps := h.fr hf (fun _ _ h => h)
theorem BookPost.same (h : BookIs base w b v ps) (hf : Fr noB w w') : BookPost base w b v ps w' :=
  ⟨v, h.frN hf, hf.mono (fun _ _ h => absurd h (fun h => h)), fun _ hk => Or.inl hk⟩
end
/-- behind a row's new value stored into the book -/
theorem BookIs.set {base : Nat} {w : World} {b : Nat} {v0 v : Value} {ps : List Pas} (hl : base ≤ b) (hb : w.heap[b]? = some (.cells #[v0] 57 (0, 0))) (hr : OwnRows base 63 12 w v (ps.map Pas.cells)) :
    BookIs base (w.setCell ⟨b, 0, none⟩ v) b v ps := by
  have hfs : Fr (one b) w (w.setCell ⟨b, 0, none⟩ v) := (Fr.refl (one b) w).setCell (p := ⟨b, 0, none⟩) (fun _ => rfl) _
  refine ⟨hl, setCell_heap hb 0 v, hr.fr hfs ?_⟩
  rintro k hk rfl
  obtain ⟨c, e⟩ := hr.kindP hk
  rw [hb] at e; cases e
theorem BookIs.new (w : World) : BookIs w.heap.size (w.alloc (.cells #[.slice none 0 0] 57)) w.heap.size (.slice none 0 0) [] :=
  ⟨Nat.le_refl _, new_block _ _, OwnRows.nil _ _ _ _⟩

theorem run_eql_pas (p q : Pas) (w : World) : (binOp .eql 63 (.agg p.cells.toArray) (.agg q.cells.toArray)).run Tryd.prog w = .ok (.bool (p.eqB q)) w := by
  obtain ⟨⟨a, b, c⟩, ⟨d, e, f⟩, g, i, j, k, l, m⟩ := p
  obtain ⟨⟨a', b', c'⟩, ⟨d', e', f'⟩, g', i', j', k', l', m'⟩ := q
  unfold Pas.cells
  go_simp
  simp only [show ∀ (P : Prop) [Decidable P] (W : World) (b : Bool), (if P then (Result.ok (Value.bool b) W : Result Value) else .ok (.bool false) W) = .ok (.bool (decide P && b)) W from fun P _ W b => by by_cases h : P <;> simp [h]]
  congr 2
  rw [Bool.eq_iff_iff]
  simp only [Pas.eqB, Ori.eqB, Bool.and_eq_true, decide_eq_true_eq, beq_iff_eq, and_assoc, and_true]
end Go.Proofs.YtkoobhgedoanhaaDoor
