/- slices' functions at api.Param (rows of 2 cells), printed by wip/rowfn.py. -/
import Derived.Test.YtkoobhgedoanhaaDoorRowF
namespace Go.Proofs.YtkoobhgedoanhaaDoor
open Go.RowKit

/-- a block of the kind before anything is stored -/
abbrev zPr : Array Value := #[.string ⟨#[]⟩, .string ⟨#[]⟩]
theorem zPr_size : zPr.size = 2 := rfl
theorem zPr_one : ∀ v ∈ zPr.toList, v.oneCell' = true := by decide +kernel
theorem sizePr {x : List Value} (h : x.length = 2) : (Tryd.prog.info? 110).map (·.size) = some x.length := by rw [h]; kernel_rfl

def IRelPr (w : World) (p : List Value → Bool) (xs : List (List Value)) (i : Value) (wr : World) : Prop :=
  ∃ k : Nat, k ≤ xs.length ∧ i = .int .i64 k ∧ (xs.take k).any p = false ∧ Fr noB w wr
set_option maxRecDepth 100000 in
set_option maxHeartbeats 1000000 in
theorem IndexFunc_Pr (g : Nat) (cap : Array Value) (p : List Value → Bool) (v : Value) (xs : List (List Value)) (w : World) (eg : ∀ args w, (callFunc g args).run Tryd.prog w = .ok (.enter g args) w) (hp : AnswersK noB w g cap p xs) (hv : RowsAt 2 w v xs) :
    Calls Tryd.prog 102 #[v, .func (.func g) #[] cap] w fun e w' => e = .returned (.int .i64 (idxP p xs 0)) ∧ Fr noB w w' := by
  obtain ⟨av, cv, hform⟩ := hv.form
  subst hform
  have hone := Lib.hid hv.1
  go_enter Tryd.func102, Tryd.ntmps102
  go_wp2
  go_loopw [8] (IRelPr w p xs) (fun i _ => xs.length - (intOf i).toNat)
  case atStart => exact ⟨0, Nat.zero_le _, rfl, rfl, Fr.refl _ _⟩
  case round =>
    obtain ⟨k, hk, rfl, hn, hfr⟩ := hrel
    have HN := Lib.hid hn
    clear hn
    by_cases hks : k < xs.length
    · rcases (hv.frNone hfr).2 with ⟨_, _, _, e, _⟩ | ⟨bk, of, c, hf, h1, h2, h3, h4⟩
      · rw [e] at hks; exact absurd hks (Nat.not_lt_zero _)
      · cases hf
        unfold maxLen at h2
        have hat := Lib.hid (List.getElem?_eq_getElem hks)
        have hcell := h4 k _ hat.out
        have hmem := Lib.hid (List.getElem_mem hks)
        generalize xs[k] = x at hat hcell hmem
        have hcall := Lib.hid (hp x hmem.out wr hfr)
        have hxk := (hone.out x hmem.out).1
        clear h4
        cases hpx : p x
        · have hnx := Lib.hid (any_take_succ hat.out HN.out hpx)
          go_wp2_with (first | ((with_reducible refine wpList_at ⟨some 15, _, _, _, _, _⟩ ?_); go_must (refine wpList_load_mid rfl 110 (.tmp 14) rfl bk (of + k * 2) rfl x _ hcell Tryd.underlying110 rfl (sizePr hxk) ?_)) | fail)
          refine hcall.out.mono ?_
          rintro e w1 ⟨rfl, hf1⟩
          rw [hpx]
          go_wp2
          go_roundw
          case rel => exact ⟨k + 1, by omega, by go_num, hnx.out, hfr.trans hf1⟩
          case measure => simp [intOf]; omega
        · have hfin := Lib.hid (idxP_hit (i := 0) hat.out hpx HN.out)
          go_wp2_with (first | ((with_reducible refine wpList_at ⟨some 15, _, _, _, _, _⟩ ?_); go_must (refine wpList_load_mid rfl 110 (.tmp 14) rfl bk (of + k * 2) rfl x _ hcell Tryd.underlying110 rfl (sizePr hxk) ?_)) | fail)
          refine hcall.out.mono ?_
          rintro e w1 ⟨rfl, hf1⟩
          rw [hpx]
          go_wp2
          go_ret
          rw [hfin.out, Nat.zero_add]
          exact ⟨rfl, hfr.trans hf1⟩
    · have hfin := Lib.hid (show idxP p xs 0 = -1 from idxP_none (by have h := HN.out; rw [List.take_of_length_le (by omega)] at h; exact h))
      go_wp2
      go_ret
      rw [hfin.out]
      exact ⟨rfl, hfr⟩

set_option maxHeartbeats 1000000 in
theorem ContainsFunc_Pr (g : Nat) (cap : Array Value) (p : List Value → Bool) (v : Value) (xs : List (List Value)) (w : World) (eg : ∀ args w, (callFunc g args).run Tryd.prog w = .ok (.enter g args) w) (hp : AnswersK noB w g cap p xs) (hv : RowsAt 2 w v xs) :
    Calls Tryd.prog 84 #[v, .func (.func g) #[] cap] w fun e w' => e = .returned (.bool (xs.any p)) ∧ Fr noB w w' := by
  have hb := Lib.hid (idxP_any p xs 0)
  go_enter Tryd.func84, Tryd.ntmps84
  go_wp2_with fail
  refine (IndexFunc_Pr g cap p v xs w eg hp hv).mono ?_
  rintro e w1 ⟨rfl, hf1⟩
  go_wp2
  go_ret
  exact ⟨ret_bool hb.out, hf1⟩

end Go.Proofs.YtkoobhgedoanhaaDoor
