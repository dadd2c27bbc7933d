/- slices.EqualFunc by sameGrant at grants of the call's own. -/
import Derived.Test.YtkoobhgedoanhaaDoorSameG
import Derived.Test.YtkoobhgedoanhaaDoorBank2
namespace Go.Proofs.YtkoobhgedoanhaaDoor
open Go.RowKit

/-- grants of the call's own are slices that EqualFunc compares -/
theorem GrantsIn.rows {base : Nat} {w : World} {v : Value} {gs : List (GrantOf Texts)} (h : GrantsIn base w v gs) : ∃ rs : List (GrantOf Value), RowsAt 16 w v (rs.map GrantOf.cells) ∧ Both (GrantOf.Reads (StrsAt w)) rs gs ∧ ∀ g ∈ gs, g.a.dom.length ≤ 9223372036854775807 ∧ g.paths.length ≤ 9223372036854775807 := by
  obtain ⟨rs, h1, h2⟩ := h
  refine ⟨rs, h1.at, h2.mono (fun _ _ h => h.mono (fun _ _ h => h.rd)), fun g hg => ?_⟩
  obtain ⟨k, hk⟩ := List.getElem?_of_mem hg
  obtain ⟨r, hr⟩ : ∃ r, rs[k]? = some r := ⟨_, List.getElem?_eq_getElem (by rw [h2.len]; exact (List.getElem?_eq_some_iff.1 hk).1)⟩
  obtain ⟨g', hg', hrd⟩ := h2.get hr
  rw [hk] at hg'
  cases hg'
  have := hrd.2.2.2.2.2.2.few
  have := hrd.2.2.2.2.1.2.2.2.2.2.2.2.few
  omega
theorem EqualG_in {base base' : Nat} {w : World} {v v' : Value} {gs : List (GrantOf Texts)} (h : GrantsIn base w v gs) (h' : GrantsIn base' w v' gs) :
    Calls Tryd.prog 18 #[v, v', .func (.func 19) #[] #[]] w fun e w' => e = .returned (.bool true) ∧ Fr noB w w' := by
  obtain ⟨rs, h1, h2, h3⟩ := h.rows
  obtain ⟨rs', h1', h2', _⟩ := h'.rows
  exact EqualG_same v v' rs rs' gs w h1 h1' h2 h2' h3

end Go.Proofs.YtkoobhgedoanhaaDoor
