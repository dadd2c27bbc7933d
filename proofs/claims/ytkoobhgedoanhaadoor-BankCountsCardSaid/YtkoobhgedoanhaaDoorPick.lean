/- The laws' pick. -/
import Derived.Test.YtkoobhgedoanhaaDoorBytes
import Derived.IntWalk
namespace Go.Proofs.YtkoobhgedoanhaaDoor
open Go.RowKit

/-- pick: one of n that a number stands for -/
def pickI (a n : Int) : Int := (a % 18446744073709551616) % n
theorem pickI_range (a n : Int) (hn : 0 < n) : 0 ≤ pickI a n ∧ pickI a n < n := ⟨Int.emod_nonneg _ (by omega), Int.emod_lt_of_pos _ hn⟩
theorem pick_val (a n : Int) (hn : 0 < n) (hn2 : n < 4611686018427387904) : wrap64 ((IntKind.u64.wrap a).tmod n) = pickI a n := by
  have e : IntKind.u64.wrap a = a % 18446744073709551616 := by simp [IntKind.wrap, IntKind.signed, IntKind.bits]
  rw [e, Int.tmod_eq_emod_of_nonneg (Int.emod_nonneg _ (by decide))]
  have h := pickI_range a n hn
  unfold pickI at h ⊢
  exact IntWalk.wrap64_in _ ⟨by omega, by omega⟩
set_option maxHeartbeats 1000000 in
theorem pick_any (a n : Int) (w : World) (hn : 0 < n) (hn2 : n < 4611686018427387904) :
    Calls Tryd.prog 15 #[.int .i64 a, .int .i64 n] w fun e w' => e = .returned (.int .i64 (pickI a n)) ∧ w = w' := by
  go_enter Tryd.func15, Tryd.ntmps15
  go_wp2
  go_ret
  exact ⟨ret_int (pick_val a n hn hn2), rfl⟩
end Go.Proofs.YtkoobhgedoanhaaDoor
