/- Function values over rows; clear over rows. -/
import Derived.Test.YtkoobhgedoanhaaDoorStill
import Derived.Test.YtkoobhgedoanhaaDoorIdx
import Derived.Deep.RegionLaw
namespace Go.Proofs.YtkoobhgedoanhaaDoor
open Go.RowKit

/-- a function value that answers p at each row of xs, whatever was done to the blocks of S since w -/
def AnswersK (S : Nat → Prop) (w : World) (g : Nat) (cap : Array Value) (p : List Value → Bool) (xs : List (List Value)) : Prop :=
  ∀ x, x ∈ xs → ∀ u, Fr S w u → Calls Tryd.prog g (#[.agg x.toArray] ++ cap) u fun e u' => e = .returned (.bool (p x)) ∧ Fr noB u u'
theorem AnswersK.none {S : Nat → Prop} {w : World} {g : Nat} {cap : Array Value} {p : List Value → Bool} {xs : List (List Value)} (h : AnswersK S w g cap p xs) : AnswersK noB w g cap p xs :=
  fun x hx u hu => h x hx u (hu.mono (fun _ _ h => absurd h (fun h => h)))
theorem AnswersK.fr {S : Nat → Prop} {w w' : World} {g : Nat} {cap : Array Value} {p : List Value → Bool} {xs : List (List Value)} (h : AnswersK S w g cap p xs) (hf : Fr noB w w') : AnswersK S w' g cap p xs :=
  fun x hx u hu => h x hx u (Fr.step (hf.mono (fun _ _ h => absurd h (fun h => h))) hu (fun _ _ h => h))

/-- 'clear(l)', l of n > 0 structs -/
theorem run_clear_rows {P : Program} (w : World) (t e ty : TypeId) (zs : Array Value) (ht : P.underlying t = some (.slice e)) (hv : ∀ w, (zeroValue e).run P w = .ok (.agg zs) w) (hs : 0 < zs.size) (h1 : ∀ v ∈ zs.toList, v.oneCell' = true) (b o n c : Nat) (hn : 0 < n)
    (hc : w.there b o (n * zs.size)) :
    (Builtin.clear_ #[t] ty #[.slice (some ⟨b, o, none⟩) n c]).run P w = .ok (.tuple #[]) (w.setCells b o (Builtin.zeroCells zs n).toList) := by
  have hl : (Builtin.zeroCells zs n).toList.length = n * zs.size := by simp [Builtin.zeroCells]
  have hst := run_storeCells_cells (P := P) b o (Builtin.zeroCells zs n).toList 0 w (by rw [hl]; intro j hj; exact (hc j hj).1) (by rw [hl]; intro j hj; exact (hc j hj).2) (by
    intro v hv'
    rw [Builtin.zeroCells, Array.mem_toList_iff, Array.mem_map] at hv'
    obtain ⟨i, _, rfl⟩ := hv'
    have hm := Nat.mod_lt i hs
    rw [getElem!_pos zs _ hm]
    exact h1 _ (by simp))
  simp only [Nat.add_zero] at hst
  obtain ⟨m, rfl⟩ : ∃ m, n = m + 1 := ⟨n - 1, by omega⟩
  have hcells : (Value.agg zs).cells = zs := rfl
  simp [Builtin.clear_, run_underlying ht, hv, hcells, hst]
end Go.Proofs.YtkoobhgedoanhaaDoor
