/- The law TabsAlone: whatever the input, the Go function returns true, and each argument reads behind the call as before. Its conditions: none beyond the row's own. -/
import Derived.Test.YtnckmcnffadjoaaGreatDoorPmJTabsAlone
import Derived.Test.YtnckmcnffadjoaaGreatDoorPm21
namespace Go.Proofs.YtnckmcnffadjoaaGreatDoor.tabsAlone
open Go.ChangeShapes Go.WideShapes Go.ChangeAt Go.RowKit
open Go.ChangeMaps (open_string shut_string)
set_option maxHeartbeats 16000000 in
theorem over : Rows.tabsAloneRow.holds Tryz.pinned (OpenSpec.ofChange Rows.tabsAloneSpec) :=
  OpenClaim.holds_of_wide 6 Tryz.f6 rfl rfl rfl rfl rfl rfl rfl ⟨rfl, rfl, rfl, rfl, rfl⟩ rfl rfl rfl rfl rfl (by as_aux_lemma => kernel_rfl) Tryz.func6 joined
    (of_decide_eq_true (by as_aux_lemma => kernel_rfl)) (by unfold Func.isWrapper; first | (rw [if_pos (by decide +kernel)]; kernel_rfl) | (rw [if_neg (by decide +kernel)]; exact ⟨rfl, rfl⟩))
    (fun os started H enc _ => lifted os started H enc)
set_option maxHeartbeats 16000000 in
theorem card : Rows.TabsAloneCardSaid :=
  Claim7.holds_tied_plain_at .later [] Rows.tabsAloneCard.laidKinds true Rows.tabsAloneCard.stood.harness Rows.tabsAloneCard.stood.looks over (fun _ h => by cases h) (by as_aux_lemma => kernel_rfl) (fun _ h => by cases h) tabsAlone_row_tie rfl ⟨rfl, rfl⟩ (by as_aux_lemma => kernel_rfl) rfl
    (fun f fn hf Gg => by
      obtain rfl : f = 6 := Option.some.inj ((show Tryz.prog.funcNamed "gatepost/gatepostkeep.TabsAlone" = some 6 by kernel_rfl).symm.trans hf) |>.symm
      obtain rfl : fn = Tryz.f6 := (Option.some.inj (Tryz.func6.symm.trans Gg)).symm
      exact ⟨by kernel_rfl, fun j t ht => by
        rw [Tryz.params6] at ht
        have hm : t ∈ [22, 3, 41] := by simpa using Array.mem_of_getElem? ht
        have iX : ([22, 3, 41].all fun u => !Tryz.prog.wantsStandIn u) = true := by kernel_rfl
        exact (show Tryz.prog.wantsStandIn t = false by simpa using List.all_eq_true.1 iX t hm)⟩)
    (by as_aux_lemma => kernel_rfl)
theorem proved : Rows.TabsAloneCardSaid := card
#print axioms proved
end Go.Proofs.YtnckmcnffadjoaaGreatDoor.tabsAlone
