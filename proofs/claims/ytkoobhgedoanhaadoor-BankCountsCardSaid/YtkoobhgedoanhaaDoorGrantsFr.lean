/- Grants among the arguments stay. -/
import Derived.Test.YtkoobhgedoanhaaDoorReadsDet
namespace Go.Proofs.YtkoobhgedoanhaaDoor
open Go.RowKit

theorem GrantsArg.frN {w w' : World} {v : Value} {gs : List (GrantOf Texts)} (h : GrantsArg w v gs) (hf : Fr noB w w') : GrantsArg w' v gs := by
  obtain ⟨rs, h1, h2, h3⟩ := h
  exact ⟨rs, h1.frNone hf, h2.mono (fun _ _ h => h.mono (fun _ _ h => h.frNone hf)), h3⟩
end Go.Proofs.YtkoobhgedoanhaaDoor
