/- The laws AskedOrder, AskedMore: what both want. -/
import Derived.Test.YtegbacpenolehaaDoorAskedLaw
import Derived.Test.YtegbacpenolehaaDoorFew
import Derived.Test.YtegbacpenolehaaDoorFetched
import Derived.Test.YtegbacpenolehaaDoorCoded
import Derived.Test.YtegbacpenolehaaDoorCloneRev
import Derived.Deep.RegionWith
import Derived.Deep.RegionHeld3
namespace Go.Proofs.YtegbacpenolehaaDoor
open Go.RowKit
theorem fewB_len {ps : List Prm} (h : fewB ps = true) : ps.length ≤ 40 ∧ ∀ p ∈ ps, p.1.size < 100000 ∧ p.2.size < 100000 := by
  unfold fewB at h
  simp only [Bool.and_eq_true, decide_eq_true_eq, Bool.not_eq_true', List.any_eq_false] at h
  refine ⟨h.1, fun p hp => ?_⟩
  have := h.2 p hp
  unfold bigP at this
  simp at this
  omega
/-- the text i, i + 1 of those that must be asked for -/
def OrRel (w : World) (n : Nat) (t : Value) (wr : World) : Prop := ∃ k : Nat, k ≤ n ∧ t = .int .i64 k ∧ Fr noB w wr
theorem StrsAt.cell {w : World} {a : Option Addr} {n c k : Nat} {ss : List ByteArray} {s : ByteArray} (h : StrsAt w (.slice a n c) ss) (hk : ss[k]? = some s) : ∃ bk o, a = some ⟨bk, o, none⟩ ∧ n ≤ c ∧ c ≤ maxLen ∧ w.cell? ⟨bk, o + k, none⟩ = some (.string s) := by
  rcases h with ⟨_, _, _, e, _⟩ | ⟨bk, o, c', hf, h1, h2, h3, h4⟩
  · subst e; simp at hk
  · cases hf
    exact ⟨bk, o, rfl, h1, h2, h4 k s hk⟩
/-- one param in a new block -/
theorem prm_new (u : World) (name value : ByteArray) : PrmsAt (u.alloc (.cells #[.string name, .string value] 103)) (.slice (some ⟨u.heap.size, 0, none⟩) 1 1) [(name, value)] := by
  refine ⟨fun x hx => ?_, Or.inr ⟨u.heap.size, 0, 1, rfl, Nat.le_refl _, by decide, by simp, fun j x hj i v hi => ?_⟩⟩
  · simp at hx; subst hx; exact ⟨rfl, fun v hv => by simp [Prm.cells] at hv; rcases hv with rfl | rfl <;> rfl⟩
  · have hjl := (List.getElem?_eq_some_iff.1 hj).1
    simp at hjl
    subst hjl
    cases hj
    have hil := (List.getElem?_eq_some_iff.1 hi).1
    have hil : i < 2 := hil
    have hd : i = 0 ∨ i = 1 := by omega
    rcases hd with rfl | rfl <;> cases hi
    · exact World.cell?_alloc_mark u #[.string name, .string value] 103 (0, 0) 0
    · exact World.cell?_alloc_mark u #[.string name, .string value] 103 (0, 0) 1
theorem few_one {name value : ByteArray} (h : fewB [(name, value)] = true) : name.size + value.size ≤ 300 := by
  unfold fewB bigP at h
  simp at h
  omega
theorem lowA_size (s : ByteArray) : (lowA s).size = s.size := by
  show ((lowL s.data.toList).toArray).size = _
  simp [lowL]
end Go.Proofs.YtegbacpenolehaaDoor
