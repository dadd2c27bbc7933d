/- The law TabsLeave: whatever the input, the Go function returns true, and each argument reads behind the call as before. Its conditions: none beyond the row's own. -/
import Derived.Test.YtjndhcngnghpiaaGreatDoorPnJTabsLeave
import Derived.Test.YtjndhcngnghpiaaGreatDoorPn20
namespace Go.Proofs.YtjndhcngnghpiaaGreatDoor.tabsLeave
open Go.ChangeShapes Go.WideShapes Go.ChangeAt Go.RowKit
open Go.ChangeMaps (open_string shut_string)
set_option maxHeartbeats 16000000 in
theorem over : Rows.tabsLeaveRow.holds Tryz.pinned (OpenSpec.ofChange Rows.tabsLeaveSpec) :=
  OpenClaim.holds_of_wide 4 Tryz.f4 rfl rfl rfl rfl rfl rfl rfl ⟨rfl, rfl, rfl, rfl, rfl⟩ rfl rfl rfl rfl rfl (by as_aux_lemma => kernel_rfl) Tryz.func4 joined
    (of_decide_eq_true (by as_aux_lemma => kernel_rfl)) (by unfold Func.isWrapper; first | (rw [if_pos (by decide +kernel)]; kernel_rfl) | (rw [if_neg (by decide +kernel)]; exact ⟨rfl, rfl⟩))
    (fun os started H enc _ => lifted os started H enc)
set_option maxHeartbeats 16000000 in
theorem card : Rows.TabsLeaveCardSaid :=
  Claim7.holds_tied_plain_at .later [] Rows.tabsLeaveCard.laidKinds true Rows.tabsLeaveCard.stood.harness Rows.tabsLeaveCard.stood.looks over (fun _ h => by cases h) (by as_aux_lemma => kernel_rfl) (fun _ h => by cases h) tabsLeave_row_tie rfl ⟨rfl, rfl⟩ (by as_aux_lemma => kernel_rfl) rfl
    (fun f fn hf FQ => by
      obtain rfl : f = 4 := Option.some.inj ((show Tryz.prog.funcNamed "gatepost/gatepostkeep.TabsLeave" = some 4 by kernel_rfl).symm.trans hf) |>.symm
      obtain rfl : fn = Tryz.f4 := (Option.some.inj (Tryz.func4.symm.trans FQ)).symm
      exact ⟨by kernel_rfl, fun j t ht => by
        rw [Tryz.params4] at ht
        have hm : t ∈ [22, 3, 3, 33] := by simpa using Array.mem_of_getElem? ht
        have iL : ([22, 3, 3, 33].all fun u => !Tryz.prog.wantsStandIn u) = true := by kernel_rfl
        exact (show Tryz.prog.wantsStandIn t = false by simpa using List.all_eq_true.1 iL t hm)⟩)
    (by as_aux_lemma => kernel_rfl)
theorem proved : Rows.TabsLeaveCardSaid := card
#print axioms proved
end Go.Proofs.YtjndhcngnghpiaaGreatDoor.tabsLeave
