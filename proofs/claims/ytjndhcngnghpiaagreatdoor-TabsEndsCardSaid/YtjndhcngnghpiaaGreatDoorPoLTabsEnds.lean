/- The law TabsEnds: whatever the input, the Go function returns true, and each argument reads behind the call as before. Its conditions: none beyond the row's own. -/
import Derived.Test.YtjndhcngnghpiaaGreatDoorPoJTabsEnds
import Derived.Test.YtjndhcngnghpiaaGreatDoorPo21
namespace Go.Proofs.YtjndhcngnghpiaaGreatDoor.tabsEnds
open Go.ChangeShapes Go.WideShapes Go.ChangeAt Go.RowKit
open Go.ChangeMaps (open_string shut_string)
set_option maxHeartbeats 16000000 in
theorem over : Rows.tabsEndsRow.holds Tryz.pinned (OpenSpec.ofChange Rows.tabsEndsSpec) :=
  OpenClaim.holds_of_wide 3 Tryz.f3 rfl rfl rfl rfl rfl rfl rfl ⟨rfl, rfl, rfl, rfl, rfl⟩ rfl rfl rfl rfl rfl (by as_aux_lemma => kernel_rfl) Tryz.func3 joined
    (of_decide_eq_true (by as_aux_lemma => kernel_rfl)) (by unfold Func.isWrapper; first | (rw [if_pos (by decide +kernel)]; kernel_rfl) | (rw [if_neg (by decide +kernel)]; exact ⟨rfl, rfl⟩))
    (fun os started H enc _ => lifted os started H enc)
set_option maxHeartbeats 16000000 in
theorem card : Rows.TabsEndsCardSaid :=
  Claim7.holds_tied_plain_at .later [] Rows.tabsEndsCard.laidKinds true Rows.tabsEndsCard.stood.harness Rows.tabsEndsCard.stood.looks over (fun _ h => by cases h) (by as_aux_lemma => kernel_rfl) (fun _ h => by cases h) tabsEnds_row_tie rfl ⟨rfl, rfl⟩ (by as_aux_lemma => kernel_rfl) rfl
    (fun f fn hf Fk => by
      obtain rfl : f = 3 := Option.some.inj ((show Tryz.prog.funcNamed "gatepost/gatepostkeep.TabsEnds" = some 3 by kernel_rfl).symm.trans hf) |>.symm
      obtain rfl : fn = Tryz.f3 := (Option.some.inj (Tryz.func3.symm.trans Fk)).symm
      exact ⟨by kernel_rfl, fun j t ht => by
        rw [Tryz.params3] at ht
        have hm : t ∈ [22, 22, 3, 33] := by simpa using Array.mem_of_getElem? ht
        have iE : ([22, 22, 3, 33].all fun u => !Tryz.prog.wantsStandIn u) = true := by kernel_rfl
        exact (show Tryz.prog.wantsStandIn t = false by simpa using List.all_eq_true.1 iE t hm)⟩)
    (by as_aux_lemma => kernel_rfl)
theorem proved : Rows.TabsEndsCardSaid := card
#print axioms proved
end Go.Proofs.YtjndhcngnghpiaaGreatDoor.tabsEnds
