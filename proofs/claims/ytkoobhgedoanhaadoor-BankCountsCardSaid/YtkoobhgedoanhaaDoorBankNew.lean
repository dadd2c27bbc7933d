/- A bank that is new; a literal of one text. -/
import Derived.Test.YtkoobhgedoanhaaDoorBank7
namespace Go.Proofs.YtkoobhgedoanhaaDoor
open Go.RowKit

theorem BankIs.new (w : World) : BankIs w.heap.size (w.alloc (.cells #[.slice none 0 0, .slice none 0 0] 88)) w.heap.size (.slice none 0 0) (.slice none 0 0) [] [] :=
  ⟨Nat.le_refl _, new_block _ _, ⟨[], OwnRows.nil _ _ _ _, .nil⟩, ⟨[], OwnRows.nil _ _ _ _, .nil⟩⟩
/-- a slice literal of one text -/
theorem StrsIn.lit1 (base : Nat) (w : World) (x : ByteArray) : StrsIn base (w.alloc (.cells #[.string x] 9)) (.slice (some ⟨w.heap.size, 0, none⟩) 1 1) [x] := by
  refine ⟨Or.inr ⟨w.heap.size, 0, 1, rfl, Nat.le_refl _, by simp [maxLen], by simp, fun j z hj => ?_⟩, fun k hk _ => ?_, by simp⟩
  · rw [Nat.zero_add, World.cell?_alloc_mark]
    match j, hj with
    | 0, hj => simp at hj; subst hj; rfl
  · simp [Value.ownBlock] at hk
    subst hk
    exact ⟨by simp, Or.inr ⟨_, _, new_block _ _⟩⟩
end Go.Proofs.YtkoobhgedoanhaaDoor
