/- Package fetch: Plain. -/
import Derived.Test.YtkoobhgedoanhaaDoorFetch1
import Derived.Test.YtkoobhgedoanhaaDoorTrim
import Derived.Test.YtkoobhgedoanhaaDoorCut1
namespace Go.Proofs.YtkoobhgedoanhaaDoor
open Go.RowKit

def marksL : List UInt8 := [34, 40, 41, 58, 60, 62, 63, 64, 91, 92, 93, 123, 125]
def unsafeB (c : UInt8) : Bool := (decide (c.toNat < 32) && !decide (c.toNat = 9)) || decide (c.toNat = 127) || decide (0 ≤ Lib.indexByte marksL c)
set_option maxRecDepth 100000 in
set_option maxHeartbeats 1000000 in
theorem unsafe_any (c : UInt8) (w : World) :
    Calls Tryd.prog 89 #[.int .u8 (c.toNat : Int)] w fun e w' => e = .returned (.bool (unsafeB c)) ∧ w' = w := by
  by_cases h1 : c.toNat < 32 ∧ ¬ c.toNat = 9
  · obtain ⟨h1, h2⟩ := h1
    have hb := Lib.hid (show unsafeB c = true by unfold unsafeB; rw [decide_eq_true h1, decide_eq_false h2]; rfl)
    have i1 : (c.toNat : Int) < 32 := by omega
    have i2 : ¬ (c.toNat : Int) = 9 := by omega
    go_enter Tryd.func89, Tryd.ntmps89
    go_wp2
    go_ret
    exact ⟨ret_bool hb.out.symm, rfl⟩
  · by_cases h3 : c.toNat = 127
    · have hb := Lib.hid (show unsafeB c = true by unfold unsafeB; rw [decide_eq_true h3]; simp)
      have i1 : ¬ (c.toNat : Int) < 32 := by omega
      have i3 : (c.toNat : Int) = 127 := by omega
      go_enter Tryd.func89, Tryd.ntmps89
      go_wp2
      go_ret
      exact ⟨ret_bool hb.out.symm, rfl⟩
    · have hb := Lib.hid (show unsafeB c = decide (0 ≤ Lib.indexByte marksL c) by
        unfold unsafeB
        rw [decide_eq_false h3]
        by_cases h4 : c.toNat < 32
        · have h9 : c.toNat = 9 := by omega
          rw [decide_eq_true h4, decide_eq_true h9]; rfl
        · rw [decide_eq_false h4]; rfl)
      have HI := Lib.hid (show Calls Tryd.prog 103 #[.string ⟨#[34, 40, 41, 58, 60, 62, 63, 64, 91, 92, 93, 123, 125]⟩, .int .u8 (c.toNat : Int)] w fun e w' => e = .returned (.int .i64 (Lib.indexByte marksL c)) ∧ w' = w from
        (Tryd.strings_IndexByte ⟨#[34, 40, 41, 58, 60, 62, 63, 64, 91, 92, 93, 123, 125]⟩ c.toNat w).mono fun e w' ⟨he, hw⟩ => ⟨by
          have hc : ((c.toNat : Int).toNat.toUInt8) = c := by simp
          rw [hc] at he
          rw [he]; rfl, hw⟩)
      by_cases h4 : c.toNat < 32
      · have i1 : (c.toNat : Int) < 32 := by omega
        have i2 : (c.toNat : Int) = 9 := by omega
        have hi9 := HI.out
        rw [i2] at hi9
        have HI9 := Lib.hid hi9
        clear hi9
        have i3 : ((c.toNat : Int) == 127) = false := by rw [beq_eq_false_iff_ne]; omega
        go_enter Tryd.func89, Tryd.ntmps89
        go_wp2_with fail
        refine HI9.out.mono ?_
        rintro e u ⟨rfl, rfl⟩
        go_wp2
        go_ret
        first | exact ⟨ret_bool hb.out.symm, rfl⟩ | exact ⟨ret_bool (show (((c.toNat : Int) == 127) || decide (0 ≤ Lib.indexByte marksL c)) = unsafeB c by rw [i3, hb.out]; rfl), rfl⟩
      · have i1 : ¬ (c.toNat : Int) < 32 := by omega
        have i2 : ¬ (c.toNat : Int) = 127 := by omega
        have i3 : ((c.toNat : Int) == 127) = false := by rw [beq_eq_false_iff_ne]; exact i2
        go_enter Tryd.func89, Tryd.ntmps89
        go_wp2_with fail
        refine HI.out.mono ?_
        rintro e u ⟨rfl, rfl⟩
        go_wp2
        go_ret
        first | exact ⟨ret_bool hb.out.symm, rfl⟩ | exact ⟨ret_bool (show (((c.toNat : Int) == 127) || decide (0 ≤ Lib.indexByte marksL c)) = unsafeB c by rw [i3, hb.out]; rfl), rfl⟩

def langL : List UInt8 := [32, 42, 44, 45, 46, 59, 61]
def langC (c : UInt8) : Bool := alnumB c || decide (0 ≤ Lib.indexByte langL c)
def langB (s : ByteArray) : Bool := s.data.toList.all langC
def LaRel (s : ByteArray) (w : World) (i : Value) (wr : World) : Prop := ∃ k : Nat, k ≤ s.size ∧ i = .int .i64 k ∧ (s.data.toList.take k).all langC = true ∧ Fr noB w wr
set_option maxRecDepth 100000 in
set_option maxHeartbeats 2000000 in
theorem language_any (s : ByteArray) (w : World) (hs : s.size < 100000) :
    Calls Tryd.prog 90 #[.string s] w fun e w' => e = .returned (.bool (langB s)) ∧ Fr noB w w' := by
  go_enter Tryd.func90, Tryd.ntmps90
  go_wp2
  go_loopw [7] (LaRel s w) (fun i _ => s.size - (intOf i).toNat)
  case atStart => exact ⟨0, by omega, rfl, rfl, Fr.refl _ _⟩
  case round =>
    obtain ⟨k, hk, rfl, hall, hfr⟩ := hrel
    by_cases hks : k < s.size
    · have hki : (k : Int) < (s.size : Int) := by omega
      have hby := byte_at s k hks
      have HI := Lib.hid (show Calls Tryd.prog 103 #[.string ⟨#[32, 42, 44, 45, 46, 59, 61]⟩, .int .u8 (s[k].toNat : Int)] wr fun e w' => e = .returned (.int .i64 (Lib.indexByte langL s[k])) ∧ w' = wr from
        (Tryd.strings_IndexByte ⟨#[32, 42, 44, 45, 46, 59, 61]⟩ s[k].toNat wr).mono fun e w' ⟨he, hw⟩ => ⟨by
          have hc : ((s[k].toNat : Int).toNat.toUInt8) = s[k] := by simp
          rw [hc] at he
          rw [he]; rfl, hw⟩)
      have HYES := Lib.hid (show langC s[k] = true → (s.data.toList.take (k + 1)).all langC = true from fun h => by rw [List.take_add_one, hby, List.all_append, hall]; simp [h])
      have HNO := Lib.hid (show langC s[k] = false → langB s = false from fun h => by unfold langB; rw [List.all_eq_false]; exact ⟨s[k], List.mem_of_getElem? hby, by simp [h]⟩)
      have hlt := s[k].toNat_lt
      by_cases g0 : s[k].toNat ≤ 47
      · have q1 : (s[k].toNat : Int) < 48 := by omega
        have q2 : ¬ 57 < (s[k].toNat : Int) := by omega
        have q3 : (s[k].toNat : Int) < 97 := by omega
        have q4 : ¬ 122 < (s[k].toNat : Int) := by omega
        have q5 : (s[k].toNat : Int) < 65 := by omega
        have q6 : ¬ 90 < (s[k].toNat : Int) := by omega
        have hal : alnumB s[k] = false := by unfold alnumB; simp; omega
        have HAL := Lib.hid hal
        clear hal hby hall
        go_wp2_with fail
        refine HI.out.mono ?_
        rintro e u ⟨rfl, rfl⟩
        by_cases hix : 0 ≤ Lib.indexByte langL s[k]
        · have hix2 : ¬ Lib.indexByte langL s[k] < 0 := by omega
          have HY := Lib.hid (HYES.out (by unfold langC; rw [HAL.out, decide_eq_true hix]; rfl))
          go_wp2
          go_roundw
          case rel => exact ⟨k + 1, by omega, by go_num, HY.out, hfr⟩
          case measure => simp [intOf]; omega
        · have hix2 : Lib.indexByte langL s[k] < 0 := by omega
          have HN := Lib.hid (HNO.out (by unfold langC; rw [HAL.out, decide_eq_false hix]; rfl))
          go_wp2
          go_ret
          exact ⟨by rw [HN.out]; rfl, hfr⟩
      · skip
        by_cases g1 : s[k].toNat ≤ 57
        · have q1 : ¬ (s[k].toNat : Int) < 48 := by omega
          have q2 : ¬ 57 < (s[k].toNat : Int) := by omega
          have q3 : (s[k].toNat : Int) < 97 := by omega
          have q4 : ¬ 122 < (s[k].toNat : Int) := by omega
          have q5 : (s[k].toNat : Int) < 65 := by omega
          have q6 : ¬ 90 < (s[k].toNat : Int) := by omega
          have hy := HYES.out (by unfold langC alnumB; simp; omega)
          have HY := Lib.hid hy
          clear hy hall hby
          go_wp2
          go_roundw
          case rel => exact ⟨k + 1, by omega, by go_num, HY.out, hfr⟩
          case measure => simp [intOf]; omega
        · skip
          by_cases g2 : s[k].toNat ≤ 64
          · have q1 : ¬ (s[k].toNat : Int) < 48 := by omega
            have q2 : 57 < (s[k].toNat : Int) := by omega
            have q3 : (s[k].toNat : Int) < 97 := by omega
            have q4 : ¬ 122 < (s[k].toNat : Int) := by omega
            have q5 : (s[k].toNat : Int) < 65 := by omega
            have q6 : ¬ 90 < (s[k].toNat : Int) := by omega
            have hal : alnumB s[k] = false := by unfold alnumB; simp; omega
            have HAL := Lib.hid hal
            clear hal hby hall
            go_wp2_with fail
            refine HI.out.mono ?_
            rintro e u ⟨rfl, rfl⟩
            by_cases hix : 0 ≤ Lib.indexByte langL s[k]
            · have hix2 : ¬ Lib.indexByte langL s[k] < 0 := by omega
              have HY := Lib.hid (HYES.out (by unfold langC; rw [HAL.out, decide_eq_true hix]; rfl))
              go_wp2
              go_roundw
              case rel => exact ⟨k + 1, by omega, by go_num, HY.out, hfr⟩
              case measure => simp [intOf]; omega
            · have hix2 : Lib.indexByte langL s[k] < 0 := by omega
              have HN := Lib.hid (HNO.out (by unfold langC; rw [HAL.out, decide_eq_false hix]; rfl))
              go_wp2
              go_ret
              exact ⟨by rw [HN.out]; rfl, hfr⟩
          · skip
            by_cases g3 : s[k].toNat ≤ 90
            · have q1 : ¬ (s[k].toNat : Int) < 48 := by omega
              have q2 : 57 < (s[k].toNat : Int) := by omega
              have q3 : (s[k].toNat : Int) < 97 := by omega
              have q4 : ¬ 122 < (s[k].toNat : Int) := by omega
              have q5 : ¬ (s[k].toNat : Int) < 65 := by omega
              have q6 : ¬ 90 < (s[k].toNat : Int) := by omega
              have hy := HYES.out (by unfold langC alnumB; simp; omega)
              have HY := Lib.hid hy
              clear hy hall hby
              go_wp2
              go_roundw
              case rel => exact ⟨k + 1, by omega, by go_num, HY.out, hfr⟩
              case measure => simp [intOf]; omega
            · skip
              by_cases g4 : s[k].toNat ≤ 96
              · have q1 : ¬ (s[k].toNat : Int) < 48 := by omega
                have q2 : 57 < (s[k].toNat : Int) := by omega
                have q3 : (s[k].toNat : Int) < 97 := by omega
                have q4 : ¬ 122 < (s[k].toNat : Int) := by omega
                have q5 : ¬ (s[k].toNat : Int) < 65 := by omega
                have q6 : 90 < (s[k].toNat : Int) := by omega
                have hal : alnumB s[k] = false := by unfold alnumB; simp; omega
                have HAL := Lib.hid hal
                clear hal hby hall
                go_wp2_with fail
                refine HI.out.mono ?_
                rintro e u ⟨rfl, rfl⟩
                by_cases hix : 0 ≤ Lib.indexByte langL s[k]
                · have hix2 : ¬ Lib.indexByte langL s[k] < 0 := by omega
                  have HY := Lib.hid (HYES.out (by unfold langC; rw [HAL.out, decide_eq_true hix]; rfl))
                  go_wp2
                  go_roundw
                  case rel => exact ⟨k + 1, by omega, by go_num, HY.out, hfr⟩
                  case measure => simp [intOf]; omega
                · have hix2 : Lib.indexByte langL s[k] < 0 := by omega
                  have HN := Lib.hid (HNO.out (by unfold langC; rw [HAL.out, decide_eq_false hix]; rfl))
                  go_wp2
                  go_ret
                  exact ⟨by rw [HN.out]; rfl, hfr⟩
              · skip
                by_cases g5 : s[k].toNat ≤ 122
                · have q1 : ¬ (s[k].toNat : Int) < 48 := by omega
                  have q2 : 57 < (s[k].toNat : Int) := by omega
                  have q3 : ¬ (s[k].toNat : Int) < 97 := by omega
                  have q4 : ¬ 122 < (s[k].toNat : Int) := by omega
                  have q5 : ¬ (s[k].toNat : Int) < 65 := by omega
                  have q6 : 90 < (s[k].toNat : Int) := by omega
                  have hy := HYES.out (by unfold langC alnumB; simp; omega)
                  have HY := Lib.hid hy
                  clear hy hall hby
                  go_wp2
                  go_roundw
                  case rel => exact ⟨k + 1, by omega, by go_num, HY.out, hfr⟩
                  case measure => simp [intOf]; omega
                · skip
                  have q1 : ¬ (s[k].toNat : Int) < 48 := by omega
                  have q2 : 57 < (s[k].toNat : Int) := by omega
                  have q3 : ¬ (s[k].toNat : Int) < 97 := by omega
                  have q4 : 122 < (s[k].toNat : Int) := by omega
                  have q5 : ¬ (s[k].toNat : Int) < 65 := by omega
                  have q6 : 90 < (s[k].toNat : Int) := by omega
                  have hal : alnumB s[k] = false := by unfold alnumB; simp; omega
                  have HAL := Lib.hid hal
                  clear hal hby hall
                  go_wp2_with fail
                  refine HI.out.mono ?_
                  rintro e u ⟨rfl, rfl⟩
                  by_cases hix : 0 ≤ Lib.indexByte langL s[k]
                  · have hix2 : ¬ Lib.indexByte langL s[k] < 0 := by omega
                    have HY := Lib.hid (HYES.out (by unfold langC; rw [HAL.out, decide_eq_true hix]; rfl))
                    go_wp2
                    go_roundw
                    case rel => exact ⟨k + 1, by omega, by go_num, HY.out, hfr⟩
                    case measure => simp [intOf]; omega
                  · have hix2 : Lib.indexByte langL s[k] < 0 := by omega
                    have HN := Lib.hid (HNO.out (by unfold langC; rw [HAL.out, decide_eq_false hix]; rfl))
                    go_wp2
                    go_ret
                    exact ⟨by rw [HN.out]; rfl, hfr⟩
    · have hki : ¬ (k : Int) < (s.size : Int) := by omega
      have hfin := Lib.hid (show langB s = true by
        unfold langB
        rw [List.take_of_length_le (by simp; omega)] at hall
        exact hall)
      clear hall
      go_wp2
      go_ret
      exact ⟨by rw [hfin.out]; rfl, hfr⟩
end Go.Proofs.YtkoobhgedoanhaaDoor
