/- The law ScriptLonger: whatever the input, the Go function returns true, and each argument reads behind the call as before. Its conditions: none beyond the row's own. -/
import Derived.Test.YtpkkncoddhkfkaaGreatDoorPkScriptLonger
namespace Go.Proofs.YtpkkncoddhkfkaaGreatDoor.scriptLonger
open Go.ChangeShapes Go.WideShapes Go.ChangeAt Go.RowKit
open Go.ChangeMaps (open_string shut_string)
set_option maxHeartbeats 16000000 in
theorem joined : joinedFacts Tryz.pinned.checked.prog 4 Tryz.f4 Rows.scriptLongerSpec Rows.scriptLongerRow = true := by
  unfold joinedFacts
  simp only [Bool.and_eq_true]
  repeat' apply And.intro
  all_goals as_aux_lemma => kernel_rfl
set_option maxHeartbeats 16000000 in
theorem over : Rows.scriptLongerRow.holds Tryz.pinned (OpenSpec.ofChange Rows.scriptLongerSpec) :=
  OpenClaim.holds_of_wide 4 Tryz.f4 rfl rfl rfl rfl rfl rfl rfl ⟨rfl, rfl, rfl, rfl, rfl⟩ rfl rfl rfl rfl rfl (by as_aux_lemma => kernel_rfl) Tryz.func4 joined
    (of_decide_eq_true (by as_aux_lemma => kernel_rfl)) (by unfold Func.isWrapper; first | (rw [if_pos (by decide +kernel)]; kernel_rfl) | (rw [if_neg (by decide +kernel)]; exact ⟨rfl, rfl⟩))
    (fun os started H enc _ => lifted os started H enc)
set_option maxHeartbeats 16000000 in
theorem card : Rows.ScriptLongerCardSaid :=
  Claim7.holds_tied_plain_at .later [] Rows.scriptLongerCard.laidKinds true Rows.scriptLongerCard.stood.harness Rows.scriptLongerCard.stood.looks over (fun _ h => by cases h) (by as_aux_lemma => kernel_rfl) (fun _ h => by cases h) scriptLonger_row_tie rfl ⟨rfl, rfl⟩ (by as_aux_lemma => kernel_rfl) rfl
    (fun f fn hf Bw => by
      obtain rfl : f = 4 := Option.some.inj ((show Tryz.prog.funcNamed "gatepost/gatepostkeep.ScriptLonger" = some 4 by kernel_rfl).symm.trans hf) |>.symm
      obtain rfl : fn = Tryz.f4 := (Option.some.inj (Tryz.func4.symm.trans Bw)).symm
      exact ⟨by kernel_rfl, fun j t ht => by
        rw [Tryz.params4] at ht
        have hm : t ∈ [9, 9] := by simpa using Array.mem_of_getElem? ht
        have fV : ([9, 9].all fun u => !Tryz.prog.wantsStandIn u) = true := by kernel_rfl
        exact (show Tryz.prog.wantsStandIn t = false by simpa using List.all_eq_true.1 fV t hm)⟩)
    (by as_aux_lemma => kernel_rfl)
theorem proved : Rows.ScriptLongerCardSaid := card
#print axioms proved
end Go.Proofs.YtpkkncoddhkfkaaGreatDoor.scriptLonger
