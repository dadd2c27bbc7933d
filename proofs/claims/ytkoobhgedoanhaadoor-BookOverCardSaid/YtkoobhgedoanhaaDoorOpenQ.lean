/- The reading of an argument: a slice of parameters. -/
import Derived.Test.YtkoobhgedoanhaaDoorOpenR
import Derived.Test.YtkoobhgedoanhaaDoorAskd
namespace Go.Proofs.YtkoobhgedoanhaaDoor
open Go.ChangeShapes Go.WideShapes Go.ChangeAt Go.RowKit Go.Deep
variable {H : Type} {enc : TypeId × Value → H} {W : World}
set_option maxRecDepth 100000 in
/-- a slice of parameters as an argument -/
theorem open_prmsArg {base : Nat} {v : Value} {d : DataW H} {p : List MemPlace} (hv : Value.okWide Tryd.prog W .any base 65 v) (h : DataW.Trod enc Tryd.prog W 0 (fun _ => true) true 65 v d p) (hL : Light Tryd.prog 65 d) :
    ∃ ps : List Prm, PrmsAt W v ps ∧ ps.length * 32 ≤ reachBytes ∧ ∀ p ∈ ps, p.1.size ≤ reachBytes ∧ p.2.size ≤ reachBytes := by
  obtain ⟨a, len, cap, rfl⟩ := okWide_slice Tryd.underlying65 hv
  obtain ⟨fuel, hf⟩ := h
  obtain ⟨v', ps, e, hr, hs⟩ := open_paramsR hf
  simp only [Value.cells, List.cons.injEq, and_true] at e
  subst e
  exact ⟨ps, hr, hs hL⟩
end Go.Proofs.YtkoobhgedoanhaaDoor
