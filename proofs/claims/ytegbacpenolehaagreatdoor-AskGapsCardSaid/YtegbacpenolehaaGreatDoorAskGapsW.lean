/- The law AskGaps: its walk. -/
import Derived.Test.YtegbacpenolehaaGreatDoorAskOk
import Derived.Test.YtegbacpenolehaaGreatDoorAskGap
import Derived.Test.YtegbacpenolehaaGreatDoorTellZ
import Derived.Test.YtegbacpenolehaaGreatDoorPick
namespace Go.Proofs.YtegbacpenolehaaGreatDoor
open Go.RowKit

theorem rep_gaps {l : Bs} (h : l.all gapB = true) : ∀ k, (Lib.repeatL l k).all gapB = true
  | 0 => by simp [Lib.repeatL]
  | k + 1 => by
    have ih := rep_gaps h k
    rw [Lib.repeatL, List.all_append, h, ih]; rfl
theorem ErrN.keep {n : Nat} {er : Value} {w w' : World} (h : ErrN n er w) (hf : Fr noB w w') : ErrN n er w' := by
  rcases h with rfl | ⟨g, p, rfl, hat⟩
  · exact Or.inl rfl
  · exact Or.inr ⟨g, p, rfl, hf.keep hat (fun h => h)⟩
theorem ChasAt.none (w : World) : ChasAt w (.slice none 0 0) [] := ⟨[], RowsAt.nil _ _, .nil⟩
theorem pick4 (n : Int) : ∃ k : Nat, pickI n 4 = (k : Int) ∧ k < 4 := by
  have := pickI_range n 4 (by decide)
  exact ⟨(pickI n 4).toNat, by omega, by omega⟩
set_option maxRecDepth 100000 in
set_option maxHeartbeats 4000000 in
theorem AskGaps_walk (s : ByteArray) (n m : Int) (z0 : s.size ≤ 140737488351232) (w : World) (hg : ErrTy w) :
    Calls Tryz.prog 3 #[.string s, .int .i64 n, .int .i64 m] w fun e w' => e = .returned (.bool true) ∧ Below w.heap.size w w' := by
  have HG := Lib.hid hg
  clear hg
  go_enter Tryz.func3, Tryz.ntmps3
  go_wp2_with fail
  refine (asked_any w).mono ?_
  rintro e w1 ⟨rfl, hf1⟩
  by_cases h4 : 400 < s.size
  · have h4' : (400 : Int) < (s.size : Int) := by omega
    go_wp2
    go_ret
    exact ⟨rfl, hf1.none_below⟩
  have h4' : ¬ (400 : Int) < (s.size : Int) := by omega
  obtain ⟨k, hk, hk4⟩ := pick4 n
  obtain ⟨q, hq, hq4⟩ := pick4 m
  have hsl : s.data.toList.length = s.size := by simp
  have hr1 : (Lib.repeatL [44, 32, 9] k : Bs).length = 3 * k := by rw [Lib.repeatL_length]; simp; omega
  have hr2 : (Lib.repeatL [32, 44] q : Bs).length = 2 * q := by rw [Lib.repeatL_length]; simp; omega
  obtain ⟨ra, hra⟩ : ∃ ra : ByteArray, ra = ⟨(Lib.repeatL [44, 32, 9] k : Bs).toArray⟩ := ⟨_, rfl⟩
  obtain ⟨rb, hrb⟩ : ∃ rb : ByteArray, rb = ⟨(Lib.repeatL [32, 44] q : Bs).toArray⟩ := ⟨_, rfl⟩
  have hda : (ra ++ s).data.toList = Lib.repeatL [44, 32, 9] k ++ s.data.toList := by rw [hra]; simp [ByteArray.data_append]
  have hdb : (s ++ rb).data.toList = s.data.toList ++ Lib.repeatL [32, 44] q := by rw [hrb]; simp [ByteArray.data_append]
  have hza : (ra ++ s).size ≤ 1000 := by
    have e : (ra ++ s).size = (ra ++ s).data.toList.length := by simp
    rw [e, hda, List.length_append, hr1]; omega
  have hzb : (s ++ rb).size ≤ 1000 := by
    have e : (s ++ rb).size = (s ++ rb).data.toList.length := by simp
    rw [e, hdb, List.length_append, hr2]; omega
  have hzr : ra.size ≤ 12 := by rw [hra]; show (Lib.repeatL [44, 32, 9] k).toArray.size ≤ 12; rw [List.size_toArray, hr1]; omega
  have hzs : rb.size ≤ 8 := by rw [hrb]; show (Lib.repeatL [32, 44] q).toArray.size ≤ 8; rw [List.size_toArray, hr2]; omega
  have HAH := Lib.hid (show chasL (ra ++ s).data.toList = chasL s.data.toList by rw [hda]; exact chasL_ahead (rep_gaps (by decide) k) (by rw [hr1]; omega))
  have HBE := Lib.hid (show ∀ l, chasL s.data.toList = .ok l → chasL (s ++ rb).data.toList = .ok l from fun l hl => by rw [hdb]; exact chasL_behind (rep_gaps (by decide) q) hl (by rw [hr2]; omega))
  have RA := Lib.hid (show ∀ U, Calls Tryz.prog 14 #[.string ⟨#[44, 32, 9]⟩, .int .i64 k] U fun e w' => e = .returned (.string ra) ∧ Fr noB U w' from fun U => by
    refine (Tryz.strings_Repeat ⟨#[44, 32, 9]⟩ k U (by omega) (by show 3 * k ≤ _; omega)).mono ?_
    rintro e w' ⟨rfl, hb⟩
    exact ⟨by rw [hra], Fr.of_below hb⟩)
  have RB := Lib.hid (show ∀ U, Calls Tryz.prog 14 #[.string ⟨#[32, 44]⟩, .int .i64 q] U fun e w' => e = .returned (.string rb) ∧ Fr noB U w' from fun U => by
    refine (Tryz.strings_Repeat ⟨#[32, 44]⟩ q U (by omega) (by show 2 * q ≤ _; omega)).mono ?_
    rintro e w' ⟨rfl, hb⟩
    exact ⟨by rw [hrb], Fr.of_below hb⟩)
  clear hda hdb hra hrb hr1 hr2 hsl
  cases hp : chasL s.data.toList with
  | error c =>
    have hpa : chasL (ra ++ s).data.toList = .error c := by rw [HAH.out, hp]
    go_wp2_with fail
    refine (Parse_bad z0 hp).mono ?_
    rintro e w2 ⟨t1, x1, rfl, he1, hf2⟩
    have HF2 := Lib.hid (hf1.trans hf2)
    clear hf1 hf2
    go_wp2_with fail
    refine (pick_any n 4 w2 (by decide) (by decide)).mono ?_
    rintro e w3 ⟨rfl, rfl⟩
    rw [hk]
    go_wp2_with fail
    refine (RA.out w2).mono ?_
    rintro e w4 ⟨rfl, hf4⟩
    have HF4 := Lib.hid (HF2.out.trans hf4)
    have he4 := he1.keep hf4
    clear hf4 he1
    go_wp2_with fail
    refine (Parse_bad (by omega) hpa).mono ?_
    rintro e w5 ⟨t2, x2, rfl, he2, hf5⟩
    have HF5 := Lib.hid (HF4.out.trans hf5)
    have he5 := he4.keep hf5
    clear hf5 he4
    go_wp2_with fail
    refine (Tell_err he5 (HG.out.fr HF5.out (fun h => h))).mono ?_
    rintro e w6 ⟨rfl, hf6⟩
    have HF6 := Lib.hid (HF5.out.trans hf6)
    have he6 := he2.keep hf6
    clear hf6 he5 he2
    go_wp2_with fail
    refine (Tell_err he6 (HG.out.fr HF6.out (fun h => h))).mono ?_
    rintro e w7 ⟨rfl, hf7⟩
    have HF7 := Lib.hid (HF6.out.trans hf7)
    clear hf7 he6
    go_wp2_with fail
    refine (EqualC_same _ _ [] w7 (ChasAt.none _) (ChasAt.none _)).mono ?_
    rintro e w8 ⟨rfl, hf8⟩
    go_wp2
    go_ret
    exact ⟨rfl, (HF7.out.trans hf8).none_below⟩
  | ok l =>
    have hpa : chasL (ra ++ s).data.toList = .ok l := by rw [HAH.out, hp]
    have hpb := HBE.out l hp
    go_wp2_with fail
    refine (Parse_ok z0 hp).mono ?_
    rintro e w2 ⟨a1, c1, rfl, hc1, hf2⟩
    have HF2 := Lib.hid (hf1.trans hf2)
    clear hf1 hf2
    go_wp2_with fail
    refine (pick_any n 4 w2 (by decide) (by decide)).mono ?_
    rintro e w3 ⟨rfl, rfl⟩
    rw [hk]
    go_wp2_with fail
    refine (RA.out w2).mono ?_
    rintro e w4 ⟨rfl, hf4⟩
    have HF4 := Lib.hid (HF2.out.trans hf4)
    have hc4 := hc1.frNone hf4
    clear hf4 hc1
    go_wp2_with fail
    refine (Parse_ok (by omega) hpa).mono ?_
    rintro e w5 ⟨a2, c2, rfl, hd2, hf5⟩
    have HF5 := Lib.hid (HF4.out.trans hf5)
    have hc5 := hc4.frNone hf5
    clear hf5 hc4
    go_wp2_with fail
    refine (Tell_nil w5).mono ?_
    rintro e w6 ⟨rfl, hf6⟩
    have HF6 := Lib.hid (HF5.out.trans hf6)
    have hc6 := hc5.frNone hf6
    have hd6 := hd2.frNone hf6
    clear hf6 hc5 hd2
    go_wp2_with fail
    refine (Tell_nil w6).mono ?_
    rintro e w7 ⟨rfl, hf7⟩
    have HF7 := Lib.hid (HF6.out.trans hf7)
    have hc7 := hc6.frNone hf7
    have hd7 := hd6.frNone hf7
    clear hf7 hc6 hd6
    go_wp2_with fail
    refine (EqualC_same _ _ l w7 hc7 hd7).mono ?_
    rintro e w8 ⟨rfl, hf8⟩
    have HF8 := Lib.hid (HF7.out.trans hf8)
    have hc8 := hc7.frNone hf8
    clear hf8 hc7 hd7
    go_wp2_with fail
    refine (pick_any m 4 w8 (by decide) (by decide)).mono ?_
    rintro e w9 ⟨rfl, rfl⟩
    rw [hq]
    go_wp2_with fail
    refine (RB.out w8).mono ?_
    rintro e w10 ⟨rfl, hf10⟩
    have HF10 := Lib.hid (HF8.out.trans hf10)
    have hc10 := hc8.frNone hf10
    clear hf10 hc8
    go_wp2_with fail
    refine (Parse_ok (by omega) hpb).mono ?_
    rintro e w11 ⟨a3, c3, rfl, hd3, hf11⟩
    have HF11 := Lib.hid (HF10.out.trans hf11)
    have hc11 := hc10.frNone hf11
    clear hf11 hc10
    go_wp2_with fail
    refine (EqualC_same _ _ l w11 hc11 hd3).mono ?_
    rintro e w12 ⟨rfl, hf12⟩
    go_wp2
    go_ret
    exact ⟨rfl, (HF11.out.trans hf12).none_below⟩
end Go.Proofs.YtegbacpenolehaaGreatDoor
