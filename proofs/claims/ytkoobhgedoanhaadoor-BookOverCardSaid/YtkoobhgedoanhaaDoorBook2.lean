/- Package pass: like, alive, and what Put's closures answer. -/
import Derived.Test.YtkoobhgedoanhaaDoorBook1
namespace Go.Proofs.YtkoobhgedoanhaaDoor
open Go.RowKit

set_option maxHeartbeats 1000000 in
set_option maxRecDepth 100000 in
theorem like_any (p q : Pas) (w : World) :
    Calls Tryd.prog 61 #[.agg p.cells.toArray, .agg q.cells.toArray] w fun e w' => e = .returned (.bool (p.like q)) ∧ Fr noB w w' := by
  have heq := run_eql_pas { p with til := q.til } q
  have HR := Lib.hid (show p.like q = ({ p with til := q.til } : Pas).eqB q from rfl)
  obtain ⟨W0, hW0⟩ : ∃ W0, W0 = (w.alloc (.cells p.cells.toArray 63)).alloc (.cells q.cells.toArray 63) := ⟨_, rfl⟩
  have hf0 : Fr noB w W0 := by rw [hW0]; exact ((Fr.refl noB w).alloc _).alloc _
  have h0 : W0.heap[w.heap.size]? = some (.cells p.cells.toArray 63 (0, 0)) := by rw [hW0]; exact ((Fr.refl noB _).alloc _).keep (new_block _ _) (fun h => h)
  have h1 : W0.heap[w.heap.size + 1]? = some (.cells q.cells.toArray 63 (0, 0)) := by
    have h := new_block (w.alloc (.cells p.cells.toArray 63)) (.cells q.cells.toArray 63)
    rw [World.size_alloc] at h
    rw [hW0]; exact h
  have c11 : W0.cell? ⟨w.heap.size + 1, 11, none⟩ = some (.int .i64 q.til) := by simp only [World.cell?, h1]; rfl
  have d11 : W0.cell? ⟨w.heap.size, 11, none⟩ = some (.int .i64 p.til) := by simp only [World.cell?, h0]; rfl
  have e11 : W0.frozen? ⟨w.heap.size, 11, none⟩ = false := by simp [World.frozen?, h0]
  clear h0 h1 hf0
  rw [hW0] at c11 d11 e11
  clear hW0
  have hF : Fr noB w ((w.alloc (.cells ({ p with til := q.til } : Pas).cells.toArray 63)).alloc (.cells q.cells.toArray 63)) := ((Fr.refl noB w).alloc _).alloc _
  have g0 : ((w.alloc (.cells ({ p with til := q.til } : Pas).cells.toArray 63)).alloc (.cells q.cells.toArray 63)).heap[w.heap.size]? = some (.cells ({ p with til := q.til } : Pas).cells.toArray 63 (0, 0)) := ((Fr.refl noB _).alloc _).keep (new_block _ _) (fun h => h)
  have g1 : ((w.alloc (.cells ({ p with til := q.til } : Pas).cells.toArray 63)).alloc (.cells q.cells.toArray 63)).heap[w.heap.size + 1]? = some (.cells q.cells.toArray 63 (0, 0)) := by
    have h := new_block (w.alloc (.cells ({ p with til := q.til } : Pas).cells.toArray 63)) (.cells q.cells.toArray 63)
    rw [World.size_alloc] at h
    exact h
  unfold Pas.cells at *
  dsimp only at heq hF g0 g1
  have G := Lib.hid (And.intro g0 g1)
  have HF := Lib.hid hF
  clear g0 g1 hF
  go_enter Tryd.func61, Tryd.ntmps61
  go_wp2_with (first | ((with_reducible refine wpList_at ⟨some 8, _, _, _, _, _⟩ ?_); go_must (refine wpList_load_row rfl 63 (.tmp 2) rfl w.heap.size rfl _ _ (0, 0) _ G.out.1 Tryd.underlying63 rfl (by kernel_rfl) ?_)) | ((with_reducible refine wpList_at ⟨some 9, _, _, _, _, _⟩ ?_); go_must (refine wpList_load_row rfl 63 (.tmp 3) rfl (w.heap.size + 1) rfl _ _ (0, 0) _ G.out.2 Tryd.underlying63 rfl (by kernel_rfl) ?_)) | fail)
  go_ret
  exact ⟨by rw [HR.out]; rfl, HF.out⟩
set_option maxHeartbeats 1000000 in
set_option maxRecDepth 100000 in
theorem alive_any (p : Pas) (now : Int) (w : World) :
    Calls Tryd.prog 63 #[.agg p.cells.toArray, .int .i64 now] w fun e w' => e = .returned (.bool (p.alive now)) ∧ Fr noB w w' := by
  have HR := Lib.hid (show p.alive now = decide (now < p.til) from rfl)
  have hfa : Fr noB w _ := (Fr.refl noB w).alloc (.cells p.cells.toArray 63)
  have h0 : (w.alloc (.cells p.cells.toArray 63)).heap[w.heap.size]? = some (.cells p.cells.toArray 63 (0, 0)) := new_block _ _
  have c11 : (w.alloc (.cells p.cells.toArray 63)).cell? ⟨w.heap.size, 11, none⟩ = some (.int .i64 p.til) := by simp only [World.cell?, h0]; rfl
  clear h0
  unfold Pas.cells at *
  go_enter Tryd.func63, Tryd.ntmps63
  go_wp2
  go_ret
  exact ⟨by rw [HR.out]; rfl, hfa⟩
def zPas : Pas := ⟨⟨false, ⟨#[]⟩, 0⟩, ⟨false, ⟨#[]⟩, 0⟩, ⟨#[]⟩, ⟨#[]⟩, false, ⟨#[]⟩, ⟨#[]⟩, 0⟩
theorem Pas.cells_one (p : Pas) : ∀ u ∈ p.cells, u.oneCell' = true := by
  unfold Pas.cells; simp [Value.oneCell']
set_option maxHeartbeats 1000000 in
set_option maxRecDepth 100000 in
/-- Put's first closure -/
theorem Put1_any (p q : Pas) (bp : Nat) (w : World) (hp : w.heap[bp]? = some (.cells p.cells.toArray 63 (0, 0))) :
    Calls Tryd.prog 60 #[.agg q.cells.toArray, .pointer (some ⟨bp, 0, none⟩)] w fun e w' => e = .returned (.bool (p.like q)) ∧ Fr noB w w' := by
  have hfa : Fr noB w (w.alloc (.cells q.cells.toArray 63)) := (Fr.refl noB w).alloc _
  have g0 := hfa.keep hp (fun h => h)
  have g1 : (w.alloc (.cells q.cells.toArray 63)).heap[w.heap.size]? = some (.cells q.cells.toArray 63 (0, 0)) := new_block _ _
  have HL := Lib.hid (like_any p q (w.alloc (.cells q.cells.toArray 63)))
  have G := Lib.hid (And.intro g0 g1)
  have HF := Lib.hid hfa
  clear hp g0 g1 hfa
  unfold Pas.cells at *
  go_enter Tryd.func60, Tryd.ntmps60
  go_wp2_with (first | ((with_reducible refine wpList_at ⟨some 4, _, _, _, _, _⟩ ?_); go_must (refine wpList_load_row rfl 63 (.tmp 1) rfl bp rfl _ _ (0, 0) _ G.out.1 Tryd.underlying63 rfl (by kernel_rfl) ?_)) | ((with_reducible refine wpList_at ⟨some 5, _, _, _, _, _⟩ ?_); go_must (refine wpList_load_row rfl 63 (.tmp 2) rfl w.heap.size rfl _ _ (0, 0) _ G.out.2 Tryd.underlying63 rfl (by kernel_rfl) ?_)) | fail)
  refine HL.out.mono ?_
  rintro e u ⟨rfl, hf⟩
  go_wp2
  go_ret
  exact ⟨rfl, HF.out.trans hf⟩
set_option maxHeartbeats 1000000 in
set_option maxRecDepth 100000 in
/-- Put's second closure -/
theorem Put2_any (q : Pas) (now : Int) (bn : Nat) (w : World) (hn : w.heap[bn]? = some (.cells #[.int .i64 now] 3 (0, 0))) :
    Calls Tryd.prog 62 #[.agg q.cells.toArray, .pointer (some ⟨bn, 0, none⟩)] w fun e w' => e = .returned (.bool (!q.alive now)) ∧ Fr noB w w' := by
  have hfa : Fr noB w (w.alloc (.cells q.cells.toArray 63)) := (Fr.refl noB w).alloc _
  have g0 := hfa.keep hn (fun h => h)
  have g1 : (w.alloc (.cells q.cells.toArray 63)).heap[w.heap.size]? = some (.cells q.cells.toArray 63 (0, 0)) := new_block _ _
  have cn : (w.alloc (.cells q.cells.toArray 63)).cell? ⟨bn, 0, none⟩ = some (.int .i64 now) := by simp only [World.cell?, g0]; rfl
  have HL := Lib.hid (alive_any q now (w.alloc (.cells q.cells.toArray 63)))
  have G := Lib.hid g1
  have HF := Lib.hid hfa
  clear hn g0 g1 hfa
  unfold Pas.cells at *
  go_enter Tryd.func62, Tryd.ntmps62
  go_wp2_with (first | ((with_reducible refine wpList_at ⟨some 4, _, _, _, _, _⟩ ?_); go_must (refine wpList_load_row rfl 63 (.tmp 2) rfl w.heap.size rfl _ _ (0, 0) _ G.out Tryd.underlying63 rfl (by kernel_rfl) ?_)) | fail)
  refine HL.out.mono ?_
  rintro e u ⟨rfl, hf⟩
  go_wp2
  go_ret
  exact ⟨rfl, HF.out.trans hf⟩
end Go.Proofs.YtkoobhgedoanhaaDoor
