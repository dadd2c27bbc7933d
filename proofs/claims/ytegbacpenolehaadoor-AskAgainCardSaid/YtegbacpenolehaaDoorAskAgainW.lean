/- The law AskAgain: its walk. -/
import Derived.Test.YtegbacpenolehaaDoorAskOk
namespace Go.Proofs.YtegbacpenolehaaDoor
open Go.RowKit
set_option maxRecDepth 100000 in
set_option maxHeartbeats 4000000 in
theorem AskAgain_walk (s : ByteArray) (z0 : s.size ≤ 140737488351232) (w : World) :
    Calls Tryd.prog 4 #[.string s] w fun e w' => e = .returned (.bool true) ∧ Below w.heap.size w w' := by
  go_enter Tryd.func4, Tryd.ntmps4
  go_wp2_with fail
  refine (asked_any w).mono ?_
  rintro e w1 ⟨rfl, hf1⟩
  by_cases h5 : 500 < s.size
  · have h5' : (500 : Int) < (s.size : Int) := by omega
    go_wp2
    go_ret
    exact ⟨rfl, hf1.none_below⟩
  · have h5' : ¬ (500 : Int) < (s.size : Int) := by omega
    cases hp : chasL s.data.toList with
    | error n =>
      go_wp2_with fail
      refine (Parse_bad z0 hp).mono ?_
      rintro e w2 ⟨t, x, rfl, _, hf2⟩
      go_wp2
      go_ret
      exact ⟨rfl, (hf1.trans hf2).none_below⟩
    | ok l =>
      have hok := chasL_ok hp
      have hfit := chasL_fit hp
      have hall : l.all okC = true := by rw [List.all_eq_true]; exact fun x hx => okC_of (hok.1 x hx)
      have hle := chasT_le hfit hok.2
      have hpp := Lib.hid (chasT_parse hok.1 hok.2)
      have HFIT := Lib.hid hfit
      have HALL := Lib.hid hall
      clear hfit hall
      go_wp2_with fail
      refine (Parse_ok z0 hp).mono ?_
      rintro e w2 ⟨a, c, rfl, hc2, hf2⟩
      have HF2 := Lib.hid (hf1.trans hf2)
      clear hf1 hf2 hp
      go_wp2_with fail
      refine (Print_ok hc2 hok.2 HFIT.out HALL.out).mono ?_
      rintro e w3 ⟨rfl, hf3⟩
      have HF3 := Lib.hid (HF2.out.trans hf3)
      have hc3 := hc2.frNone hf3
      clear hf3 hc2
      have hsz : (bA (chasT l)).size = (chasT l).length := rfl
      rcases hpp.out with ⟨hl3, hq⟩ | ⟨hl3, hq⟩
      · go_wp2_with fail
        refine (Parse_ok (s := bA (chasT l)) (by omega) (by rw [bA_data]; exact hq)).mono ?_
        rintro e w4 ⟨a', c', rfl, hc4, hf4⟩
        have HF4 := Lib.hid (HF3.out.trans hf4)
        have hc5 := hc3.frNone hf4
        clear hf4 hc3
        go_wp2_with fail
        refine (EqualC_same _ _ l w4 hc5 hc4).mono ?_
        rintro e w5 ⟨rfl, hf5⟩
        go_wp2
        go_ret
        exact ⟨rfl, (HF4.out.trans hf5).none_below⟩
      · have hl3' : (3000 : Int) < ((bA (chasT l)).size : Int) := by omega
        go_wp2_with fail
        refine (Parse_bad (s := bA (chasT l)) (by omega) (by rw [bA_data]; exact hq)).mono ?_
        rintro e w4 ⟨t, x, rfl, _, hf4⟩
        go_wp2
        go_ret
        exact ⟨ret_bool (decide_eq_true (by omega)), (HF3.out.trans hf4).none_below⟩
end Go.Proofs.YtegbacpenolehaaDoor
