/- The law TabsParts: whatever the input, the Go function returns true, and each argument reads behind the call as before. Its conditions: none beyond the row's own. -/
import Derived.Test.YtjndhcngnghpiaaGreatDoorPpJTabsParts
import Derived.Test.YtjndhcngnghpiaaGreatDoorPp21
namespace Go.Proofs.YtjndhcngnghpiaaGreatDoor.tabsParts
open Go.ChangeShapes Go.WideShapes Go.ChangeAt Go.RowKit
open Go.ChangeMaps (open_string shut_string)
set_option maxHeartbeats 16000000 in
theorem over : Rows.tabsPartsRow.holds Tryz.pinned (OpenSpec.ofChange Rows.tabsPartsSpec) :=
  OpenClaim.holds_of_wide 5 Tryz.f5 rfl rfl rfl rfl rfl rfl rfl ⟨rfl, rfl, rfl, rfl, rfl⟩ rfl rfl rfl rfl rfl (by as_aux_lemma => kernel_rfl) Tryz.func5 joined
    (of_decide_eq_true (by as_aux_lemma => kernel_rfl)) (by unfold Func.isWrapper; first | (rw [if_pos (by decide +kernel)]; kernel_rfl) | (rw [if_neg (by decide +kernel)]; exact ⟨rfl, rfl⟩))
    (fun os started H enc _ => lifted os started H enc)
set_option maxHeartbeats 16000000 in
theorem card : Rows.TabsPartsCardSaid :=
  Claim7.holds_tied_plain_at .later [] Rows.tabsPartsCard.laidKinds true Rows.tabsPartsCard.stood.harness Rows.tabsPartsCard.stood.looks over (fun _ h => by cases h) (by as_aux_lemma => kernel_rfl) (fun _ h => by cases h) tabsParts_row_tie rfl ⟨rfl, rfl⟩ (by as_aux_lemma => kernel_rfl) rfl
    (fun f fn hf EP => by
      obtain rfl : f = 5 := Option.some.inj ((show Tryz.prog.funcNamed "gatepost/gatepostkeep.TabsParts" = some 5 by kernel_rfl).symm.trans hf) |>.symm
      obtain rfl : fn = Tryz.f5 := (Option.some.inj (Tryz.func5.symm.trans EP)).symm
      exact ⟨by kernel_rfl, fun j t ht => by
        rw [Tryz.params5] at ht
        have hm : t ∈ [33, 33, 59] := by simpa using Array.mem_of_getElem? ht
        have iH : ([33, 33, 59].all fun u => !Tryz.prog.wantsStandIn u) = true := by kernel_rfl
        exact (show Tryz.prog.wantsStandIn t = false by simpa using List.all_eq_true.1 iH t hm)⟩)
    (by as_aux_lemma => kernel_rfl)
theorem proved : Rows.TabsPartsCardSaid := card
#print axioms proved
end Go.Proofs.YtjndhcngnghpiaaGreatDoor.tabsParts
