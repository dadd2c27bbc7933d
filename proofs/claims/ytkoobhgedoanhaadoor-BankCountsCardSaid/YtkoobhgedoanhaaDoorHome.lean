/- The laws' home. -/
import Derived.Test.YtkoobhgedoanhaaDoorTypes
import Derived.Test.YtkoobhgedoanhaaDoorRowS
namespace Go.Proofs.YtkoobhgedoanhaaDoor
open Go.RowKit

/-- a.test, secure, 443 -/
def homeO : Ori := ⟨true, ⟨#[97, 46, 116, 101, 115, 116]⟩, 443⟩
set_option maxHeartbeats 1000000 in
theorem home_any (w : World) : Calls Tryd.prog 48 #[] w fun e w' => e = .returned (.agg homeO.cells.toArray) ∧ Fr noB w w' := by
  go_enter Tryd.func48, Tryd.ntmps48
  go_wp2
  refine bodyPost_ret (results_cell_row (by rfl) _ _ w.heap.size 24 #[.bool true, .string ⟨#[97, 46, 116, 101, 115, 116]⟩, .int .i64 443] (0, 0) _ rfl (new_block _ _) Tryd.underlying24 rfl (by kernel_rfl)) rfl ?_
  exact ⟨rfl, (Fr.refl _ _).alloc _⟩
end Go.Proofs.YtkoobhgedoanhaaDoor
