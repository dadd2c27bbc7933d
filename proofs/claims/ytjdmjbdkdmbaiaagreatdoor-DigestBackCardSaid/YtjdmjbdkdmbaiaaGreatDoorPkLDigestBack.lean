/- The law DigestBack: whatever the input, the Go function returns true, and each argument reads behind the call as before. Its conditions: none beyond the row's own. -/
import Derived.Test.YtjdmjbdkdmbaiaaGreatDoorPkXDigestBack
import Derived.SevenTiedAt
import Derived.Stop.Joined
namespace Go.Proofs.YtjdmjbdkdmbaiaaGreatDoor.digestBack
open Go.ChangeShapes Go.WideShapes Go.ChangeAt Go.RowKit
open Go.ChangeMaps (open_string shut_string)
set_option maxHeartbeats 16000000 in
theorem joined : joinedFacts Tryz.pinned.checked.prog 13 Tryz.f13 Rows.digestBackSpec Rows.digestBackRow = true := by
  unfold joinedFacts
  simp only [Bool.and_eq_true]
  repeat' apply And.intro
  all_goals as_aux_lemma => kernel_rfl
set_option maxHeartbeats 16000000 in
theorem over : Rows.digestBackRow.holds Tryz.pinned (OpenSpec.ofChange Rows.digestBackSpec) :=
  OpenClaim.holds_of_wide 13 Tryz.f13 rfl rfl rfl rfl rfl rfl rfl ⟨rfl, rfl, rfl, rfl, rfl⟩ rfl rfl rfl rfl rfl (by as_aux_lemma => kernel_rfl) Tryz.func13 joined
    (of_decide_eq_true (by as_aux_lemma => kernel_rfl)) (by unfold Func.isWrapper; first | (rw [if_pos (by decide +kernel)]; kernel_rfl) | (rw [if_neg (by decide +kernel)]; exact ⟨rfl, rfl⟩))
    (fun os started H enc _ => lifted os started H enc)
set_option maxHeartbeats 16000000 in
theorem card : Rows.DigestBackCardSaid :=
  Claim7.holds_tied_plain_at .later [] Rows.digestBackCard.laidKinds true Rows.digestBackCard.stood.harness Rows.digestBackCard.stood.looks over (fun _ h => by cases h) (by as_aux_lemma => kernel_rfl) (fun _ h => by cases h) digestBack_row_tie rfl ⟨rfl, rfl⟩ (by as_aux_lemma => kernel_rfl) rfl
    (fun f fn hf vY => by
      obtain rfl : f = 13 := Option.some.inj ((show Tryz.prog.funcNamed "gatepost/gatepostkeep.DigestBack" = some 13 by kernel_rfl).symm.trans hf) |>.symm
      obtain rfl : fn = Tryz.f13 := (Option.some.inj (Tryz.func13.symm.trans vY)).symm
      exact ⟨by kernel_rfl, fun j t ht => by
        rw [Tryz.params13] at ht
        have hm : t ∈ [47, 31, 9, 9, 9, 9, 3] := by simpa using Array.mem_of_getElem? ht
        have dy : ([47, 31, 9, 9, 9, 9, 3].all fun u => !Tryz.prog.wantsStandIn u) = true := by kernel_rfl
        exact (show Tryz.prog.wantsStandIn t = false by simpa using List.all_eq_true.1 dy t hm)⟩)
    (by as_aux_lemma => kernel_rfl)
theorem proved : Rows.DigestBackCardSaid := card
#print axioms proved
end Go.Proofs.YtjdmjbdkdmbaiaaGreatDoor.digestBack
