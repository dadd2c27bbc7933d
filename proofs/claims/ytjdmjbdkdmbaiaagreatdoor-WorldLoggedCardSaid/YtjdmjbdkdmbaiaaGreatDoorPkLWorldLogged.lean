/- The law WorldLogged: whatever the input, the Go function returns true, and each argument reads behind the call as before. Its conditions: none beyond the row's own. -/
import Derived.Test.YtjdmjbdkdmbaiaaGreatDoorPkXWorldLogged
import Derived.SevenTiedAt
import Derived.Stop.Joined
namespace Go.Proofs.YtjdmjbdkdmbaiaaGreatDoor.worldLogged
open Go.ChangeShapes Go.WideShapes Go.ChangeAt Go.RowKit
open Go.ChangeMaps (open_string shut_string)
set_option maxHeartbeats 16000000 in
theorem joined : joinedFacts Tryz.pinned.checked.prog 8 Tryz.f8 Rows.worldLoggedSpec Rows.worldLoggedRow = true := by
  unfold joinedFacts
  simp only [Bool.and_eq_true]
  repeat' apply And.intro
  all_goals as_aux_lemma => kernel_rfl
set_option maxHeartbeats 16000000 in
theorem over : Rows.worldLoggedRow.holds Tryz.pinned (OpenSpec.ofChange Rows.worldLoggedSpec) :=
  OpenClaim.holds_of_wide 8 Tryz.f8 rfl rfl rfl rfl rfl rfl rfl ⟨rfl, rfl, rfl, rfl, rfl⟩ rfl rfl rfl rfl rfl (by as_aux_lemma => kernel_rfl) Tryz.func8 joined
    (of_decide_eq_true (by as_aux_lemma => kernel_rfl)) (by unfold Func.isWrapper; first | (rw [if_pos (by decide +kernel)]; kernel_rfl) | (rw [if_neg (by decide +kernel)]; exact ⟨rfl, rfl⟩))
    (fun os started H enc _ => lifted os started H enc)
set_option maxHeartbeats 16000000 in
theorem card : Rows.WorldLoggedCardSaid :=
  Claim7.holds_tied_plain_at .later [] Rows.worldLoggedCard.laidKinds true Rows.worldLoggedCard.stood.harness Rows.worldLoggedCard.stood.looks over (fun _ h => by cases h) (by as_aux_lemma => kernel_rfl) (fun _ h => by cases h) worldLogged_row_tie rfl ⟨rfl, rfl⟩ (by as_aux_lemma => kernel_rfl) rfl
    (fun f fn hf vY => by
      obtain rfl : f = 8 := Option.some.inj ((show Tryz.prog.funcNamed "gatepost/gatepostkeep.WorldLogged" = some 8 by kernel_rfl).symm.trans hf) |>.symm
      obtain rfl : fn = Tryz.f8 := (Option.some.inj (Tryz.func8.symm.trans vY)).symm
      exact ⟨by kernel_rfl, fun j t ht => by
        rw [Tryz.params8] at ht
        have hm : t ∈ [22, 33, 33] := by simpa using Array.mem_of_getElem? ht
        have dy : ([22, 33, 33].all fun u => !Tryz.prog.wantsStandIn u) = true := by kernel_rfl
        exact (show Tryz.prog.wantsStandIn t = false by simpa using List.all_eq_true.1 dy t hm)⟩)
    (by as_aux_lemma => kernel_rfl)
theorem proved : Rows.WorldLoggedCardSaid := card
#print axioms proved
end Go.Proofs.YtjdmjbdkdmbaiaaGreatDoor.worldLogged
