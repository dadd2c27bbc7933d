/- The reading of an argument: passes. -/
import Derived.Test.YtkoobhgedoanhaaDoorOpenV
namespace Go.Proofs.YtkoobhgedoanhaaDoor
open Go.ChangeShapes Go.WideShapes Go.ChangeAt Go.RowKit Go.Deep

variable {H : Type} {enc : TypeId × Value → H} {W : World}
theorem cells_pas : Tryd.prog.cellsOf 63 = 12 := by kernel_rfl
theorem len12 {α : Type} {l : List α} (h : l.length = 12) : ∃ a b c d e f g i j k m n, l = [a, b, c, d, e, f, g, i, j, k, m, n] := by
  match l, h with
  | [a, b, c, d, e, f, g, i, j, k, m, n], _ => exact ⟨a, b, c, d, e, f, g, i, j, k, m, n, rfl⟩
theorem open_pas {fuel : Nat} {cs : List Value} {x : DataW H × List MemPlace} (h : DataW.trod enc Tryd.prog W 0 (fun _ => true) true fuel 63 cs = some x) :
    ∃ p : Pas, cs = p.cells ∧ cs.length = 12 ∧ (∀ u ∈ cs, u.oneCell' = true) ∧ (Light Tryd.prog 63 x.1 → p.Sized) := by
  obtain ⟨hl, n, hf⟩ := open_field Tryd.underlying63 h
  rw [cells_pas] at hl
  obtain ⟨c0, c1, c2, c3, c4, c5, c6, c7, c8, c9, c10, c11, rfl⟩ := len12 hl
  obtain ⟨y0, h0, l0⟩ := hf 0 24 0 _ rfl cells_ori
  obtain ⟨y1, h1, l1⟩ := hf 1 61 3 _ rfl cells_url
  obtain ⟨y2, h2, l2⟩ := hf 2 4 8 _ rfl cells_bool
  obtain ⟨y3, h3, l3⟩ := hf 3 9 9 _ rfl cells_string
  obtain ⟨y4, h4, l4⟩ := hf 4 9 10 _ rfl cells_string
  obtain ⟨y5, h5, l5⟩ := hf 5 3 11 _ rfl cells_int
  simp only [List.drop, List.take] at h0 h1 h2 h3 h4 h5
  obtain ⟨o, e0, w0, s0⟩ := open_ori h0
  obtain ⟨o1, pa, qu, e1, w1, s1⟩ := open_url h1
  obtain ⟨b2, e2⟩ := open_bool_field Tryd.underlying4 h2
  obtain ⟨b3, e3, w3⟩ := open_string_field Tryd.underlying9 h3
  obtain ⟨b4, e4, w4⟩ := open_string_field Tryd.underlying9 h4
  obtain ⟨b5, e5, w5⟩ := open_int_field Tryd.underlying3 h5
  unfold Ori.cells at e0 e1
  simp only [List.cons_append, List.nil_append, List.cons.injEq, and_true] at e0 e1 e2 e3 e4 e5
  obtain ⟨rfl, rfl, rfl⟩ := e0
  obtain ⟨rfl, rfl, rfl, rfl, rfl⟩ := e1
  subst e2 e3 e4 e5
  have hone : ∀ u ∈ (⟨o, o1, pa, qu, b2, b3, b4, b5⟩ : Pas).cells, u.oneCell' = true := by unfold Pas.cells; simp [Value.oneCell']
  refine ⟨⟨o, o1, pa, qu, b2, b3, b4, b5⟩, rfl, rfl, hone, fun hL => ?_⟩
  have := s1 (l1 hL)
  unfold Pas.Sized
  show _ ≤ reachBytes ∧ _ ≤ reachBytes ∧ _ ≤ reachBytes ∧ _ ≤ reachBytes ∧ _ ≤ reachBytes ∧ _ ≤ reachBytes
  exact ⟨w3 (l3 hL), w4 (l4 hL), this.2.1, this.2.2, this.1, s0 (l0 hL)⟩
set_option maxRecDepth 100000 in
/-- a slice of passes as an argument -/
theorem open_passesArg {base : Nat} {v : Value} {d : DataW H} {p : List MemPlace} (hv : Value.okWide Tryd.prog W .any base 53 v) (h : DataW.Trod enc Tryd.prog W 0 (fun _ => true) true 53 v d p) (hL : Light Tryd.prog 53 d) :
    ∃ ps : List Pas, PasAt W v ps ∧ ps.length ≤ 140737488355328 ∧ ∀ p ∈ ps, p.Sized := by
  obtain ⟨a, len, cap, rfl⟩ := okWide_slice Tryd.underlying53 hv
  obtain ⟨fuel, hf⟩ := h
  obtain ⟨v', css, bs, e, hr, hb, hs⟩ := open_rowsR (Q := fun cs (b : Pas) => cs = b.cells) (S := fun b => b.Sized) Tryd.underlying53 cells_pas (by decide) (by kernel_rfl : Tryd.prog.bytesOf 63 = 144) open_pas hf
  simp only [Value.cells, List.cons.injEq, and_true] at e
  subst e
  rw [both_eqR hb] at hr
  have h2 := hs hL
  refine ⟨bs, hr, ?_, h2.2⟩
  have hk : reachBytes = 140737488351232 := rfl
  have := h2.1
  omega
end Go.Proofs.YtkoobhgedoanhaaDoor
