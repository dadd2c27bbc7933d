/- Each realm of an origin once: plain laws. -/
import Derived.Test.YtkoobhgedoanhaaDoorFindLaw
import Derived.Test.YtkoobhgedoanhaaDoorHeld
namespace Go.Proofs.YtkoobhgedoanhaaDoor
open Go.RowKit

/-- each realm of an origin once -/
def Apart (fs : List (GrantOf Texts)) : Prop := fs.Pairwise (fun x y => sameG y.o y.proxy y.a.realm x = false)
theorem putL_apart {gs : List (GrantOf Texts)} {g : GrantOf Texts} (h : Apart gs) : Apart (putL gs g) := by
  unfold putL Apart
  refine List.Pairwise.drop ?_
  rw [List.pairwise_append]
  refine ⟨h.filter _, by simp, fun x hx y hy => ?_⟩
  simp at hy
  subst hy
  simpa using (List.mem_filter.1 hx).2
theorem filledL_apart (gs : List (GrantOf Texts)) : Apart (filledL gs) := by
  induction gs using snocInd with
  | h0 => exact List.Pairwise.nil
  | h1 l x ih => rw [filledL_snoc]; exact putL_apart ih
theorem putL_last (gs : List (GrantOf Texts)) (g : GrantOf Texts) : ∃ l, putL gs g = l ++ [g] := by
  unfold putL
  simp only [List.length_append, List.length_cons, List.length_nil]
  generalize gs.filter _ = l
  exact ⟨l.drop (l.length + (0 + 1) - 8), by rw [List.drop_append_of_le_length (by omega)]⟩
theorem filledL_last (gs : List (GrantOf Texts)) (g : GrantOf Texts) : ∃ l, filledL (gs ++ [g]) = l ++ [g] := by
  rw [filledL_snoc]; exact putL_last _ _
theorem Apart.at {fs : List (GrantOf Texts)} (h : Apart fs) {i k : Nat} (hk : k < i) (hi : i < fs.length) (h1 : fs[i].o.eqB fs[k].o = true) (h2 : fs[i].proxy = fs[k].proxy) : fs[i].a.realm ≠ fs[k].a.realm := by
  have := List.pairwise_iff_getElem.1 h k i (by omega) hi hk
  unfold sameG sameB at this
  rw [Ori.eqB_iff] at h1
  intro h3
  simp [h1, h2, h3, (Ori.eqB_iff _ _).2] at this

end Go.Proofs.YtkoobhgedoanhaaDoor
