/- The law AskBest: its walk. -/
import Derived.Test.YtegbacpenolehaaDoorAskBackW
import Derived.Test.YtegbacpenolehaaDoorCloneRev
namespace Go.Proofs.YtegbacpenolehaaDoor
open Go.RowKit
theorem Both.rev {α β : Type} {R : α → β → Prop} {l : List α} {m : List β} (h : Both R l m) : Both R l.reverse m.reverse := by
  induction h with
  | nil => exact .nil
  | cons h _ ih => rw [List.reverse_cons, List.reverse_cons]; exact ih.app (.cons h .nil)
/-- the challenges in the other order -/
theorem ChasAt.cloneRev {w : World} {v : Value} {xs : List Cha} (h : ChasAt w v xs) (hl : xs.length ≤ 1000) :
    Calls Tryd.prog 37 #[v] w fun e w1 => ∃ a c, e = .returned (.slice a xs.length c) ∧ Fr noB w w1 ∧
      Calls Tryd.prog 38 #[.slice a xs.length c] w1 fun e w2 => e = .returned (.tuple #[]) ∧ ChasAt w2 (.slice a xs.length c) xs.reverse ∧ Fr noB w w2 := by
  obtain ⟨rs, h1, h2⟩ := h
  have hlen := h2.len
  refine (CloneRev_C v (rs.map chaC) w h1 (by rw [List.length_map]; omega)).mono ?_
  rintro e w1 ⟨v', rfl, ho, hf, hr⟩
  obtain ⟨a, c, hv⟩ := ho.form
  rw [List.length_map, hlen] at hv
  subst hv
  refine ⟨a, c, rfl, hf, hr.mono ?_⟩
  rintro e w2 ⟨rfl, h3, h4⟩
  exact ⟨rfl, ⟨rs.reverse, by rw [List.map_reverse]; exact h3, (h2.mono (fun _ _ g => g.frNone h4)).rev⟩, h4⟩
def BsRel (w : World) (xs : List Cha) (bb : Nat) (r : AskOf Value) (f t : Value) (wr : World) : Prop :=
  ∃ k : Nat, k ≤ xs.length ∧ t = .int .i64 k ∧ f = .bool ((xs.take k).any (asksB (bestL xs))) ∧ AskBlk wr bb r ∧ Fr noB w wr
set_option maxRecDepth 100000 in
set_option maxHeartbeats 8000000 in
theorem AskBest_walk (v : Value) (xs : List Cha) (w : World) (st : ChasAt w v xs ∧ xs.length * 56 ≤ reachBytes ∧ ∀ x ∈ xs, x.Sized) :
    Calls Tryd.prog 5 #[v] w fun e w' => e = .returned (.bool true) ∧ Below w.heap.size w w' := by
  obtain ⟨hx, hl, hz⟩ := st
  have er : reachBytes = 140737488351232 := rfl
  rw [er] at hl
  have HZ := Lib.hid (fun x hx => (hz x hx).near)
  clear hz
  obtain ⟨av, cv, rfl⟩ := hx.form
  go_enter Tryd.func5, Tryd.ntmps5
  go_wp2_with fail
  refine (asked_any w).mono ?_
  rintro e w1 ⟨rfl, hf1⟩
  go_wp2_with fail
  refine (fair_any _ xs w1 (hx.frNone hf1) (by omega) HZ.out).mono ?_
  rintro e w3 ⟨hf3, b, rfl, hb⟩
  have HF3 := Lib.hid (hf1.trans hf3)
  clear hf3 hf1
  cases b with
  | false =>
    go_wp2
    go_ret
    exact ⟨rfl, HF3.out.none_below⟩
  | true =>
    obtain ⟨h8, hfair⟩ := hb rfl
    have HFI := Lib.hid (show ∀ x ∈ xs, x.Fit from fun x hx => (hfair x hx).fit)
    have HFR := Lib.hid (show ∀ x ∈ xs.reverse, x.Fit from fun x hx => (hfair x (by simpa using hx)).fit)
    clear hb hfair
    go_wp2_with fail
    refine (Best_any _ xs w3 (hx.frNone HF3.out) (by omega) HFI.out).mono ?_
    rintro e w4 ⟨hf4, r, hrd, rfl⟩
    have HF4 := Lib.hid (HF3.out.trans hf4)
    have hone := Lib.hid (ask_one r (Reads.dom1 hrd))
    obtain ⟨e0, e1, e2, _⟩ := hrd
    have HR := Lib.hid (show r.scheme = (bestL xs).scheme ∧ r.realm = (bestL xs).realm ∧ r.nonce = (bestL xs).nonce from ⟨e0, e1, e2⟩)
    clear hf4 e0 e1 e2
    obtain ⟨y, hy⟩ : ∃ y, y = r.cells.toArray := ⟨_, rfl⟩
    have hyk : y.size = 8 := by rw [hy]; rfl
    have hro : y.all (·.oneCell') = true := by rw [hy]; exact all_oneCell_toArray hone.out
    have hri : (Tryd.prog.info? 32).map (·.size) = some y.size := by rw [hyk]; kernel_rfl
    have hyz : zAskA.size = y.size := by rw [hyk]; rfl
    obtain ⟨w5, hw5⟩ : ∃ w5, w5 = w4.alloc (.cells y 32) := ⟨_, rfl⟩
    have hb5 : AskBlk w5 w4.heap.size r := by rw [hw5, hy]; exact new_block _ _
    have HF5 := Lib.hid (show Fr noB w w5 by rw [hw5]; exact HF4.out.alloc _)
    have HW5 := Lib.hid hw5
    obtain ⟨bst, hbst⟩ : ∃ bst, bst = bestL xs := ⟨_, rfl⟩
    have HB := Lib.hid hbst
    have HKN := Lib.hid (show ∀ x ∈ xs, ∀ b, knownL x = some b → b.scheme ≤ bst.scheme ∧ 0 < bst.scheme from fun x hx b hb => by rw [hbst]; exact ⟨bestL_known hx hb, bestL_ok hx hb⟩)
    have HANY := Lib.hid (show xs.any (asksB bst) = decide (0 < bst.scheme) by rw [hbst]; exact asks_best xs)
    have HREV := Lib.hid (show (bestL xs.reverse).scheme = bst.scheme by rw [hbst]; exact bestL_rev xs)
    obtain ⟨okb, hokb⟩ : ∃ okb, okb = decide (0 < bst.scheme) := ⟨_, rfl⟩
    have HOKB := Lib.hid hokb
    rw [← hy, ← hbst, ← hokb]
    clear hokb
    rw [← hbst] at HR
    have HB5 := Lib.hid hb5
    clear hbst hw5 hy hb5 hone
    go_wp2_with (first | ((with_reducible refine wpList_at ⟨none, .store 32 (.tmp 3) (.tmp 21), _, _, _, _⟩ ?_); go_must (refine wpList_store_new rfl 32 (.tmp 3) (.tmp 21) rfl zAskA y rfl rfl hri hyz hro ?_); rw [← HW5.out]) | fail)
    generalize w4.heap.size = bb at *
    clear hri hro hyz hyk HW5
    go_loopw [5, 25] (BsRel w5 xs bb r) (fun _ t _ => xs.length - (intOf t).toNat)
    case atStart => exact ⟨0, Nat.zero_le _, rfl, rfl, HB5.out, Fr.refl _ _⟩
    case round =>
      obtain ⟨k, hk, rfl, rfl, hbb, hfr⟩ := hrel
      rw [← HB.out]
      obtain ⟨fk, hfk⟩ : ∃ b, b = (xs.take k).any (asksB bst) := ⟨_, rfl⟩
      rw [← hfk]
      have HFK := Lib.hid hfk
      clear hfk
      by_cases hks : k < xs.length
      case neg =>
        have hki : ¬ (k : Int) < (xs.length : Int) := by omega
        have hfo : fk = okb := by rw [HFK.out, List.take_of_length_le (by omega), HANY.out, HOKB.out]
        subst hfo
        have HFx := Lib.hid (HF5.out.trans hfr)
        go_wp2_with fail
        refine ((hx.frNone HFx.out).cloneRev (by omega)).mono ?_
        rintro e w6 ⟨am, cm, rfl, hf6, hrv⟩
        go_wp2_with fail
        refine hrv.mono ?_
        rintro e w7 ⟨rfl, hm7, hf7⟩
        have HF7 := Lib.hid (HFx.out.trans hf7)
        have hbb7 : AskBlk w7 bb r := hf7.keep hbb (fun h => h)
        clear hf6 hf7 hrv hbb hfr
        go_wp2_with fail
        rw [← List.length_reverse]
        refine (Best_any _ xs.reverse w7 (by rw [List.length_reverse] at *; exact hm7) (by rw [List.length_reverse]; omega) HFR.out).mono ?_
        rintro e w8 ⟨hf8, r2, hrd2, rfl⟩
        rw [HREV.out, ← HOKB.out]
        obtain ⟨y2, hy2⟩ : ∃ y2, y2 = r2.cells.toArray := ⟨_, rfl⟩
        have hyk2 : y2.size = 8 := by rw [hy2]; rfl
        have hro2 : y2.all (·.oneCell') = true := by rw [hy2]; exact ask_all r2 (Reads.dom1 hrd2)
        have hri2 : (Tryd.prog.info? 32).map (·.size) = some y2.size := by rw [hyk2]; kernel_rfl
        have hyz2 : zAskA.size = y2.size := by rw [hyk2]; rfl
        obtain ⟨w9, hw9⟩ : ∃ w9, w9 = w8.alloc (.cells y2 32) := ⟨_, rfl⟩
        have hb9 : AskBlk w9 w8.heap.size r2 := by rw [hw9, hy2]; exact new_block _ _
        have hf9 : Fr noB w7 w9 := by rw [hw9]; exact hf8.alloc _
        have hbb9 : AskBlk w9 bb r := hf9.keep hbb7 (fun h => h)
        have n0 : w9.cell? ⟨w8.heap.size, 0, none⟩ = some (.int .i64 bst.scheme) := by rw [← HREV.out, ← hrd2.1]; exact hb9.cell rfl
        have m0 : w9.cell? ⟨bb, 0, none⟩ = some (.int .i64 bst.scheme) := by rw [← HR.out.1]; exact hbb9.cell rfl
        have HF9 := Lib.hid (HF7.out.trans hf9)
        have HW9 := Lib.hid hw9
        rw [← hy2]
        clear hy2 hw9 hb9 hbb9 hf9 hf8 hrd2 hbb7 hm7
        cases fk <;>
          (go_wp2_with (first | ((with_reducible refine wpList_at ⟨none, .store 32 (.tmp 11) (.tmp 79), _, _, _, _⟩ ?_); go_must (refine wpList_store_new rfl 32 (.tmp 11) (.tmp 79) rfl zAskA y2 rfl rfl hri2 hyz2 hro2 ?_); rw [← HW9.out]) | fail)
           go_ret
           exact ⟨rfl, HF9.out.none_below⟩)
      case pos =>
        have hki : (k : Int) < (xs.length : Int) := by omega
        have hat := Lib.hid (List.getElem?_eq_getElem hks)
        have HM := Lib.hid (List.getElem_mem hks)
        generalize xs[k] = x at hat HM
        have HZX := Lib.hid (HFI.out x HM.out)
        have HKX := Lib.hid (HKN.out x HM.out)
        obtain ⟨bk, of, pv, rfl, h1, h2, c0, c1, c2, hp⟩ := (hx.frNone (HF5.out.trans hfr)).cells hat.out
        unfold maxLen at h2
        obtain ⟨a1, c1', e1⟩ := hp.form
        subst e1
        obtain ⟨wb, hwb⟩ : ∃ wb, wb = wr.alloc (.cells #[.string (bA x.scheme), .string (bA x.token), .slice a1 x.params.length c1'] 61) := ⟨_, rfl⟩
        have hfb : Fr noB wr wb := by rw [hwb]; exact (Fr.refl noB wr).alloc _
        have hbx : ChaAt wb wr.heap.size (bA x.scheme) (bA x.token) (.slice a1 x.params.length c1') := by rw [hwb]; exact new_block _ _
        have x0 := hbx.cell0
        have x1 := hbx.cell1
        have x2 := hbx.cell2
        have KN := Lib.hid (Known_any x _ wb (RowsAt.frNone hp hfb) HZX.out)
        have HWB := Lib.hid hwb
        have HSUC := Lib.hid (show (xs.take (k + 1)).any (asksB bst) = (fk || asksB bst x) by rw [HFK.out, List.take_add_one, hat.out]; simp)
        clear hwb hp
        go_wp2_with fail
        rw [← HWB.out]
        refine KN.out.mono ?_
        intro e w6 hkp
        obtain ⟨hf6, hkm⟩ := hkp
        have hbb6 : AskBlk w6 bb r := (hfb.trans hf6).keep hbb (fun h => h)
        have HF6 := Lib.hid ((hfr.trans hfb).trans hf6)
        have hlt6 : bb < w6.heap.size := lt_of_some hbb6
        clear x0 x1 x2 c0 c1 c2 hbx hbb
        cases hkn : knownL x with
        | none =>
          rw [hkn] at hkm
          subst hkm
          obtain ⟨w7, hw7⟩ : ∃ w7, w7 = w6.alloc (.cells zAskA 32) := ⟨_, rfl⟩
          have hf7 : Fr noB w6 w7 := by rw [hw7]; exact (Fr.refl _ _).alloc _
          have hbb7 : AskBlk w7 bb r := hf7.keep hbb6 (fun h => h)
          have HF7 := Lib.hid (HF6.out.trans hf7)
          have HW7 := Lib.hid hw7
          have HNO := Lib.hid (show fk = (xs.take (k + 1)).any (asksB bst) by rw [HSUC.out]; unfold asksB; rw [hkn]; simp)
          have hri : (Tryd.prog.info? 32).map (·.size) = some zAskA.size := by kernel_rfl
          clear hw7 hf7 hbb6 hkn
          cases fk with
          | true =>
            go_wp2_with (first | ((with_reducible refine wpList_at ⟨none, .store 32 (.tmp 8) (.tmp 32), _, _, _, _⟩ ?_); go_must (refine wpList_store_new rfl 32 (.tmp 8) (.tmp 32) rfl zAskA zAskA rfl rfl hri rfl zAskA_all ?_); rw [← HW7.out]) | fail)
            go_roundw
            case rel => exact ⟨k + 1, by omega, by go_num, by rw [← HB.out, ← HNO.out], hbb7, HF7.out⟩
            case measure => simp [intOf]; omega
          | false =>
            go_wp2_with (first | ((with_reducible refine wpList_at ⟨none, .store 32 (.tmp 8) (.tmp 32), _, _, _, _⟩ ?_); go_must (refine wpList_store_new rfl 32 (.tmp 8) (.tmp 32) rfl zAskA zAskA rfl rfl hri rfl zAskA_all ?_); rw [← HW7.out]) | fail)
            go_roundw
            case rel => exact ⟨k + 1, by omega, by go_num, by rw [← HB.out, ← HNO.out], hbb7, HF7.out⟩
            case measure => simp [intOf]; omega
        | some a =>
          rw [hkn] at hkm
          obtain ⟨r2, hr2d, rfl⟩ := hkm
          obtain ⟨hle, hpos⟩ := HKX.out a hkn
          have hgt : ¬ bst.scheme < a.scheme := by omega
          obtain rfl : okb = true := by rw [HOKB.out]; exact decide_eq_true hpos
          obtain ⟨y2, hy2⟩ : ∃ y2, y2 = r2.cells.toArray := ⟨_, rfl⟩
          have hyk2 : y2.size = 8 := by rw [hy2]; rfl
          have hro2 : y2.all (·.oneCell') = true := by rw [hy2]; exact ask_all r2 (Reads.dom1 hr2d)
          have hri2 : (Tryd.prog.info? 32).map (·.size) = some y2.size := by rw [hyk2]; kernel_rfl
          have hyz2 : zAskA.size = y2.size := by rw [hyk2]; rfl
          obtain ⟨w7, hw7⟩ : ∃ w7, w7 = w6.alloc (.cells y2 32) := ⟨_, rfl⟩
          have hb7 : AskBlk w7 w6.heap.size r2 := by rw [hw7, hy2]; exact new_block _ _
          have hf7 : Fr noB w6 w7 := by rw [hw7]; exact (Fr.refl _ _).alloc _
          have hbb7 : AskBlk w7 bb r := hf7.keep hbb6 (fun h => h)
          have n0 : w7.cell? ⟨w6.heap.size, 0, none⟩ = some (.int .i64 a.scheme) := by rw [← hr2d.1]; exact hb7.cell rfl
          have n1 : w7.cell? ⟨w6.heap.size, 1, none⟩ = some (.string a.realm) := by rw [← hr2d.2.1]; exact hb7.cell rfl
          have n2 : w7.cell? ⟨w6.heap.size, 2, none⟩ = some (.string a.nonce) := by rw [← hr2d.2.2.1]; exact hb7.cell rfl
          have m0 : w7.cell? ⟨bb, 0, none⟩ = some (.int .i64 bst.scheme) := by rw [← HR.out.1]; exact hbb7.cell rfl
          have m1 : w7.cell? ⟨bb, 1, none⟩ = some (.string bst.realm) := by rw [← HR.out.2.1]; exact hbb7.cell rfl
          have m2 : w7.cell? ⟨bb, 2, none⟩ = some (.string bst.nonce) := by rw [← HR.out.2.2]; exact hbb7.cell rfl
          have HF7 := Lib.hid (HF6.out.trans hf7)
          have HW7 := Lib.hid hw7
          have HBB7 := Lib.hid hbb7
          have HAS := Lib.hid (show asksB bst x = (a.scheme == bst.scheme && (a.realm.toList == bst.realm.toList && a.nonce.toList == bst.nonce.toList)) by unfold asksB; rw [hkn])
          rw [← hy2]
          clear hy2 hw7 hb7 hbb7 hf7 hr2d hbb6 hkn hle hpos
          cases fk with
          | true =>
            go_wp2_with (first | ((with_reducible refine wpList_at ⟨none, .store 32 (.tmp 8) (.tmp 32), _, _, _, _⟩ ?_); go_must (refine wpList_store_new rfl 32 (.tmp 8) (.tmp 32) rfl zAskA y2 rfl rfl hri2 hyz2 hro2 ?_); rw [← HW7.out]) | fail)
            go_roundw
            case rel => exact ⟨k + 1, by omega, by go_num, by rw [← HB.out, HSUC.out, Bool.true_or], HBB7.out, HF7.out⟩
            case measure => simp [intOf]; omega
          | false =>
            by_cases g1 : a.scheme = bst.scheme
            case neg =>
              have HNX := Lib.hid (show (xs.take (k + 1)).any (asksB bst) = false by rw [HSUC.out, HAS.out, Bool.false_or, beq_eq_false_iff_ne.2 g1]; rfl)
              go_wp2_with (first | ((with_reducible refine wpList_at ⟨none, .store 32 (.tmp 8) (.tmp 32), _, _, _, _⟩ ?_); go_must (refine wpList_store_new rfl 32 (.tmp 8) (.tmp 32) rfl zAskA y2 rfl rfl hri2 hyz2 hro2 ?_); rw [← HW7.out]) | fail)
              go_roundw
              case rel => exact ⟨k + 1, by omega, by go_num, by rw [← HB.out, HNX.out], HBB7.out, HF7.out⟩
              case measure => simp [intOf]; omega
            case pos =>
            by_cases g2 : a.realm.toList = bst.realm.toList
            case neg =>
              have g2' : (a.realm.toList == bst.realm.toList) = false := beq_eq_false_iff_ne.2 g2
              have HNX := Lib.hid (show (xs.take (k + 1)).any (asksB bst) = false by rw [HSUC.out, HAS.out, g2']; simp)
              go_wp2_with (first | ((with_reducible refine wpList_at ⟨none, .store 32 (.tmp 8) (.tmp 32), _, _, _, _⟩ ?_); go_must (refine wpList_store_new rfl 32 (.tmp 8) (.tmp 32) rfl zAskA y2 rfl rfl hri2 hyz2 hro2 ?_); rw [← HW7.out]) | fail)
              go_roundw
              case rel => exact ⟨k + 1, by omega, by go_num, by rw [← HB.out, HNX.out], HBB7.out, HF7.out⟩
              case measure => simp [intOf]; omega
            case pos =>
            have g2' : (a.realm.toList == bst.realm.toList) = true := beq_iff_eq.2 g2
            by_cases g3 : a.nonce.toList = bst.nonce.toList
            case neg =>
              have g3' : (a.nonce.toList == bst.nonce.toList) = false := beq_eq_false_iff_ne.2 g3
              have HNX := Lib.hid (show (xs.take (k + 1)).any (asksB bst) = false by rw [HSUC.out, HAS.out, g3']; simp)
              go_wp2_with (first | ((with_reducible refine wpList_at ⟨none, .store 32 (.tmp 8) (.tmp 32), _, _, _, _⟩ ?_); go_must (refine wpList_store_new rfl 32 (.tmp 8) (.tmp 32) rfl zAskA y2 rfl rfl hri2 hyz2 hro2 ?_); rw [← HW7.out]) | fail)
              go_roundw
              case rel => exact ⟨k + 1, by omega, by go_num, by rw [← HB.out, HNX.out], HBB7.out, HF7.out⟩
              case measure => simp [intOf]; omega
            case pos =>
              have g3' : (a.nonce.toList == bst.nonce.toList) = true := beq_iff_eq.2 g3
              have HNX := Lib.hid (show (xs.take (k + 1)).any (asksB bst) = true by rw [HSUC.out, HAS.out, g3', g2', beq_iff_eq.2 g1]; rfl)
              go_wp2_with (first | ((with_reducible refine wpList_at ⟨none, .store 32 (.tmp 8) (.tmp 32), _, _, _, _⟩ ?_); go_must (refine wpList_store_new rfl 32 (.tmp 8) (.tmp 32) rfl zAskA y2 rfl rfl hri2 hyz2 hro2 ?_); rw [← HW7.out]) | fail)
              go_roundw
              case rel => exact ⟨k + 1, by omega, by go_num, by rw [← HB.out, HNX.out], HBB7.out, HF7.out⟩
              case measure => simp [intOf]; omega
end Go.Proofs.YtegbacpenolehaaDoor
