/- The reading of an argument: a param. -/
import Derived.Test.YtkoobhgedoanhaaDoorOpenA
namespace Go.Proofs.YtkoobhgedoanhaaDoor
open Go.ChangeShapes Go.WideShapes Go.ChangeAt Go.RowKit Go.Deep
variable {H : Type} {enc : TypeId × Value → H} {W : World}
theorem cells_param : Tryd.prog.cellsOf 110 = 2 := by kernel_rfl
set_option maxRecDepth 100000 in
theorem open_paramArg {base : Nat} {v : Value} {d : DataW H} {p : List MemPlace} (hv : Value.okWide Tryd.prog W .any base 110 v) (h : DataW.Trod enc Tryd.prog W 0 (fun _ => true) true 110 v d p) (hL : Light Tryd.prog 110 d) :
    ∃ user pass : ByteArray, v = .agg #[.string user, .string pass] ∧ user.size ≤ reachBytes ∧ pass.size ≤ reachBytes := by
  obtain ⟨cs, rfl, _⟩ := okWide_struct Tryd.underlying110 hv
  obtain ⟨fuel, hf⟩ := h
  simp only [Value.cells] at hf
  obtain ⟨hl, n2, hf2⟩ := open_field Tryd.underlying110 hf
  rw [cells_param] at hl
  obtain ⟨c0, c1, e⟩ := len2 hl
  rw [e] at hf2
  obtain ⟨z0, j0, m0⟩ := hf2 0 9 0 _ rfl cells_string
  obtain ⟨z1, j1, m1⟩ := hf2 1 9 1 _ rfl cells_string
  simp only [List.drop, List.take] at j0 j1
  obtain ⟨u, eu, wu⟩ := open_string_field Tryd.underlying9 j0
  obtain ⟨q, eq, wq⟩ := open_string_field Tryd.underlying9 j1
  simp only [List.cons.injEq, and_true] at eu eq
  subst eu eq
  refine ⟨u, q, ?_, wu (m0 hL), wq (m1 hL)⟩
  congr 1
  apply Array.ext'
  rw [e]
end Go.Proofs.YtkoobhgedoanhaaDoor
