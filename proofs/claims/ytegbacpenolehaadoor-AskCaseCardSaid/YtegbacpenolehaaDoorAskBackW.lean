/- The law AskBack: its walk. -/
import Derived.Test.YtegbacpenolehaaDoorAskOk
import Derived.Test.YtegbacpenolehaaDoorFair
import Derived.Test.YtegbacpenolehaaDoorOpenC
import Derived.Test.YtegbacpenolehaaDoorWorded
namespace Go.Proofs.YtegbacpenolehaaDoor
open Go.RowKit
theorem Cha.Sized.near {x : Cha} (h : x.Sized) : x.Near := by
  have e : reachBytes = 140737488351232 := rfl
  obtain ⟨h1, h2, h3, h4⟩ := h
  rw [e] at h1 h2 h3 h4
  exact ⟨by omega, by omega, by omega, fun p hp => by have := h4 p hp; omega⟩
set_option maxRecDepth 100000 in
set_option maxHeartbeats 4000000 in
theorem AskBack_walk (v : Value) (xs : List Cha) (w : World) (st : ChasAt w v xs ∧ xs.length * 56 ≤ reachBytes ∧ ∀ x ∈ xs, x.Sized) :
    Calls Tryd.prog 6 #[v] w fun e w' => e = .returned (.bool true) ∧ Below w.heap.size w w' := by
  obtain ⟨hx, hl, hz⟩ := st
  have er : reachBytes = 140737488351232 := rfl
  rw [er] at hl
  have HZ := Lib.hid (fun x hx => (hz x hx).near)
  clear hz
  obtain ⟨av, cv, rfl⟩ := hx.form
  go_enter Tryd.func6, Tryd.ntmps6
  go_wp2_with fail
  refine (asked_any w).mono ?_
  rintro e w1 ⟨rfl, hf1⟩
  go_wp2_with fail
  refine (worded_any w1).mono ?_
  rintro e w2 ⟨rfl, hf2⟩
  have HF2 := Lib.hid (hf1.trans hf2)
  clear hf1 hf2
  go_wp2_with fail
  refine (fair_any _ xs w2 (hx.frNone HF2.out) (by omega) HZ.out).mono ?_
  rintro e w3 ⟨hf3, b, rfl, hb⟩
  have HF3 := Lib.hid (HF2.out.trans hf3)
  clear hf3
  cases b with
  | false =>
    go_wp2
    go_ret
    exact ⟨rfl, HF3.out.none_below⟩
  | true =>
    obtain ⟨h8, hfair⟩ := hb rfl
    have HFA := Lib.hid hfair
    have HFI := Lib.hid (show ∀ x ∈ xs, x.Fit from fun x hx => (hfair x hx).fit)
    clear hb hfair
    cases hok : xs.all okC with
    | false =>
      go_wp2_with fail
      refine (Print_bad (hx.frNone HF3.out) h8 HFI.out hok).mono ?_
      rintro e w4 ⟨t, y, rfl, hf4⟩
      go_wp2
      go_ret
      exact ⟨rfl, (HF3.out.trans hf4).none_below⟩
    | true =>
      have HOK := Lib.hid (show ∀ x ∈ xs, x.Ok from fun x hx => (HFA.out x hx).ok (List.all_eq_true.1 hok x hx))
      have hpp := Lib.hid (chasT_parse HOK.out h8)
      have hle := chasT_le HFI.out h8
      go_wp2_with fail
      refine (Print_ok (hx.frNone HF3.out) h8 HFI.out hok).mono ?_
      rintro e w4 ⟨rfl, hf4⟩
      have HF4 := Lib.hid (HF3.out.trans hf4)
      clear hf4 hok
      have hsz : (bA (chasT xs)).size = (chasT xs).length := rfl
      rcases hpp.out with ⟨hl3, hq⟩ | ⟨hl3, hq⟩
      · have hl3' : ¬ (3000 : Int) < ((bA (chasT xs)).size : Int) := by omega
        go_wp2_with fail
        refine (Parse_ok (s := bA (chasT xs)) (by omega) (by rw [bA_data]; exact hq)).mono ?_
        rintro e w5 ⟨a', c', rfl, hc5, hf5⟩
        have HF5 := Lib.hid (HF4.out.trans hf5)
        clear hf5
        go_wp2_with fail
        refine (EqualC_same _ _ xs w5 (hx.frNone HF5.out) hc5).mono ?_
        rintro e w6 ⟨rfl, hf6⟩
        go_wp2
        go_ret
        exact ⟨rfl, (HF5.out.trans hf6).none_below⟩
      · have hl3' : (3000 : Int) < ((bA (chasT xs)).size : Int) := by omega
        go_wp2
        go_ret
        exact ⟨rfl, HF4.out.none_below⟩
end Go.Proofs.YtegbacpenolehaaDoor
