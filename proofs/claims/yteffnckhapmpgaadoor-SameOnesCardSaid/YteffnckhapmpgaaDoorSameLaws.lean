/- The law SameOnes: its walk. -/
import Derived.Test.YteffnckhapmpgaaDoorCoded
import Derived.Test.YteffnckhapmpgaaDoorWorded
namespace Go.Proofs.YteffnckhapmpgaaDoor
open Go.RowKit

theorem lowB_all : ∀ n : Fin 256, lowB (lowB n.val.toUInt8) = lowB n.val.toUInt8 := by decide +kernel
theorem lowB_lowB (c : UInt8) : lowB (lowB c) = lowB c := by
  have h := lowB_all ⟨c.toNat, c.toNat_lt⟩
  simpa using h
theorem lowL_lowL (l : List UInt8) : lowL (lowL l) = lowL l := by
  unfold lowL
  rw [List.map_map]
  apply List.map_congr_left
  intro c _
  exact lowB_lowB c
theorem lowL_len (l : List UInt8) : (lowL l).length = l.length := by unfold lowL; simp
theorem sameL_self (a : List UInt8) : sameL a a = true := by unfold sameL; simp
theorem sameL_sym (a b : List UInt8) : sameL b a = sameL a b := by unfold sameL; rw [Bool.eq_iff_iff, beq_iff_eq, beq_iff_eq]; exact eq_comm
theorem sameL_trans {a b c : List UInt8} (h1 : sameL a b = true) (h2 : sameL b c = true) : sameL a c = true := by
  unfold sameL at *
  rw [beq_iff_eq] at *
  rw [h1, h2]
theorem sameL_low (a : List UInt8) : sameL a (lowL a) = true := by unfold sameL; rw [lowL_lowL]; simp
theorem lowSize (a : ByteArray) : (⟨(lowL a.data.toList).toArray⟩ : ByteArray).size = a.size := by
  show (lowL a.data.toList).toArray.size = a.size
  have h : a.data.toList.length = a.size := rfl
  simp [lowL_len]

set_option maxRecDepth 100000 in
set_option maxHeartbeats 4000000 in
theorem SameOnes_walk (a0 a1 a2 : ByteArray) (z0 : a0.size ≤ 140737488351232) (z1 : a1.size ≤ 140737488351232) (z2 : a2.size ≤ 140737488351232) (w : World) :
    Calls Tryd.prog 9 #[.string a0, .string a1, .string a2] w fun e w' => e = .returned (.bool true) ∧ Below w.heap.size w w' := by
  have S0 := Lib.hid (sameL_self a0.data.toList)
  have S1 := Lib.hid (sameL_sym a0.data.toList a1.data.toList)
  have S2 := Lib.hid (sameL_low a0.data.toList)
  have S3 := Lib.hid (lowSize a0)
  go_enter Tryd.func9, Tryd.ntmps9
  go_wp2_with fail
  refine (worded_any w).mono ?_
  rintro e u0 ⟨rfl, hf0⟩
  go_wp2_with fail
  refine (coded_any u0).mono ?_
  rintro e u1 ⟨rfl, hf1⟩
  have HF1 := hf0.trans hf1
  clear hf0 hf1
  by_cases hlen : 400 < a0.size + a1.size + a2.size
  · have hlen' : (400 : Int) < (a0.size : Int) + (a1.size : Int) + (a2.size : Int) := by omega
    go_wp2
    go_ret
    exact ⟨rfl, HF1.none_below⟩
  · have hlen' : ¬ (400 : Int) < (a0.size : Int) + (a1.size : Int) + (a2.size : Int) := by omega
    go_wp2_with fail
    refine (Same_any a0 a0 u1 (by omega) (by omega)).mono ?_
    rintro e u2 ⟨rfl, hf2⟩
    rw [S0.out]
    go_wp2_with fail
    refine (Same_any a0 a1 u2 (by omega) (by omega)).mono ?_
    rintro e u3 ⟨rfl, hf3⟩
    go_wp2_with fail
    refine (Same_any a1 a0 u3 (by omega) (by omega)).mono ?_
    rintro e u4 ⟨rfl, hf4⟩
    rw [S1.out]
    have HF4 := ((HF1.trans hf2).trans hf3).trans hf4
    clear hf2 hf3 hf4 HF1
    cases hab : sameL a0.data.toList a1.data.toList
    · go_wp2_with fail
      refine (Same_any a0 a1 u4 (by omega) (by omega)).mono ?_
      rintro e u5 ⟨rfl, hf5⟩
      rw [hab]
      go_wp2_with fail
      refine (Lower_any a0 u5 (by omega)).mono ?_
      rintro e u6 ⟨rfl, hf6⟩
      go_wp2_with fail
      refine (Same_any a0 ⟨(lowL a0.data.toList).toArray⟩ u6 (by omega) (by rw [S3.out]; omega)).mono ?_
      rintro e u7 ⟨rfl, hf7⟩
      rw [S2.out]
      go_wp2
      go_ret
      exact ⟨rfl, (((HF4.trans hf5).trans hf6).trans hf7).none_below⟩
    · have HAB := Lib.hid hab
      go_wp2_with fail
      refine (Same_any a0 a1 u4 (by omega) (by omega)).mono ?_
      rintro e u5 ⟨rfl, hf5⟩
      rw [HAB.out]
      go_wp2_with fail
      refine (Same_any a1 a2 u5 (by omega) (by omega)).mono ?_
      rintro e u6 ⟨rfl, hf6⟩
      cases hbc : sameL a1.data.toList a2.data.toList
      · go_wp2_with fail
        refine (Lower_any a0 u6 (by omega)).mono ?_
        rintro e u7 ⟨rfl, hf7⟩
        go_wp2_with fail
        refine (Same_any a0 ⟨(lowL a0.data.toList).toArray⟩ u7 (by omega) (by rw [S3.out]; omega)).mono ?_
        rintro e u8 ⟨rfl, hf8⟩
        rw [S2.out]
        go_wp2
        go_ret
        exact ⟨rfl, ((((HF4.trans hf5).trans hf6).trans hf7).trans hf8).none_below⟩
      · have hac := Lib.hid (sameL_trans HAB.out hbc)
        go_wp2_with fail
        refine (Same_any a0 a2 u6 (by omega) (by omega)).mono ?_
        rintro e u7 ⟨rfl, hf7⟩
        rw [hac.out]
        go_wp2_with fail
        refine (Lower_any a0 u7 (by omega)).mono ?_
        rintro e u8 ⟨rfl, hf8⟩
        go_wp2_with fail
        refine (Same_any a0 ⟨(lowL a0.data.toList).toArray⟩ u8 (by omega) (by rw [S3.out]; omega)).mono ?_
        rintro e u9 ⟨rfl, hf9⟩
        rw [S2.out]
        go_wp2
        go_ret
        exact ⟨rfl, (((((HF4.trans hf5).trans hf6).trans hf7).trans hf8).trans hf9).none_below⟩
end Go.Proofs.YteffnckhapmpgaaDoor
