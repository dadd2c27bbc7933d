/- Package fetch: Plain, the whole. -/
import Derived.Test.YtkoobhgedoanhaaDoorPlain
namespace Go.Proofs.YtkoobhgedoanhaaDoor
open Go.RowKit

def safeB (s : ByteArray) : Bool := s.data.toList.all fun c => !unsafeB c
def kindsB : List ByteArray := [⟨#[97, 112, 112, 108, 105, 99, 97, 116, 105, 111, 110, 47, 120, 45, 119, 119, 119, 45, 102, 111, 114, 109, 45, 117, 114, 108, 101, 110, 99, 111, 100, 101, 100]⟩, ⟨#[109, 117, 108, 116, 105, 112, 97, 114, 116, 47, 102, 111, 114, 109, 45, 100, 97, 116, 97]⟩, ⟨#[116, 101, 120, 116, 47, 112, 108, 97, 105, 110]⟩]
def beforeB (s : ByteArray) (c : UInt8) : ByteArray := if 0 ≤ Lib.indexByte s.data.toList c then s.extract 0 (Lib.indexByte s.data.toList c).toNat else s
def kindB (s : ByteArray) : ByteArray := ⟨(lowL (Lib.trimS (beforeB s 59).data.toList [32, 9])).toArray⟩
/-- fetch.Plain -/
def plainB (name value : ByteArray) : Bool :=
  if 128 < value.size then false
  else if lowL name.data.toList = [97, 99, 99, 101, 112, 116] then safeB value
  else if lowL name.data.toList = [97, 99, 99, 101, 112, 116, 45, 108, 97, 110, 103, 117, 97, 103, 101] then langB value
  else if lowL name.data.toList = [99, 111, 110, 116, 101, 110, 116, 45, 108, 97, 110, 103, 117, 97, 103, 101] then langB value
  else if lowL name.data.toList = [99, 111, 110, 116, 101, 110, 116, 45, 116, 121, 112, 101] then safeB value && Lib.containsS kindsB (kindB value)
  else false
theorem dropWhile_le (p : UInt8 → Bool) : ∀ l : List UInt8, (l.dropWhile p).length ≤ l.length
  | [] => Nat.le_refl _
  | a :: l => by
    rw [List.dropWhile_cons]
    split
    · exact Nat.le_succ_of_le (dropWhile_le p l)
    · exact Nat.le_refl _
theorem trimS_le (l cs : List UInt8) : (Lib.trimS l cs).length ≤ l.length := by
  unfold Lib.trimS Lib.trimLeftS Lib.trimRightS
  refine Nat.le_trans (dropWhile_le _ _) ?_
  rw [List.length_reverse]
  refine Nat.le_trans (dropWhile_le _ _) ?_
  rw [List.length_reverse]
  exact Nat.le_refl _
def PlRel (s : ByteArray) (w : World) (b i : Value) (wr : World) : Prop := ∃ k : Nat, k ≤ s.size ∧ i = .int .i64 k ∧ b = .bool ((s.data.toList.take k).all fun c => !unsafeB c) ∧ Fr noB w wr
set_option maxRecDepth 100000 in
set_option maxHeartbeats 4000000 in
theorem Plain_any (name value : ByteArray) (w : World) (hn : name.size < 100000) (hv : value.size < 100000) :
    Calls Tryd.prog 71 #[.agg #[.string name, .string value]] w fun e w' => e = .returned (.bool (plainB name value)) ∧ Fr noB w w' := by
  obtain ⟨wb, hwb⟩ : ∃ wb, wb = w.alloc (.cells #[.string name, .string value] 110) := ⟨_, rfl⟩
  have hfb : Fr noB w wb := by rw [hwb]; exact (Fr.refl noB w).alloc _
  have hk1 : wb.heap[w.heap.size]? = some (.cells #[.string name, .string value] 110 (0, 0)) := by rw [hwb]; exact new_block _ _
  have HC := Lib.hid (show ∀ U, Fr noB wb U → U.cell? ⟨w.heap.size, 0, none⟩ = some (.string name) ∧ U.cell? ⟨w.heap.size, 1, none⟩ = some (.string value) from fun U hU => by
    have j1 := hU.keep hk1 (fun h => h)
    simp [World.cell?, j1])
  have HWB := Lib.hid hwb
  have HFB := Lib.hid hfb
  clear hwb hfb hk1
  by_cases h128 : 128 < value.size
  · have HP := Lib.hid (show plainB name value = false by unfold plainB; rw [if_pos h128])
    have i128 : (128 : Int) < (value.size : Int) := by omega
    go_enter Tryd.func71, Tryd.ntmps71
    go_wp2
    rw [← HWB.out]
    go_ret
    exact ⟨by rw [HP.out]; rfl, HFB.out⟩
  · have HP := Lib.hid (show plainB name value = if lowL name.data.toList = [97, 99, 99, 101, 112, 116] then safeB value
  else if lowL name.data.toList = [97, 99, 99, 101, 112, 116, 45, 108, 97, 110, 103, 117, 97, 103, 101] then langB value
  else if lowL name.data.toList = [99, 111, 110, 116, 101, 110, 116, 45, 108, 97, 110, 103, 117, 97, 103, 101] then langB value
  else if lowL name.data.toList = [99, 111, 110, 116, 101, 110, 116, 45, 116, 121, 112, 101] then safeB value && Lib.containsS kindsB (kindB value)
  else false by unfold plainB; rw [if_neg h128])
    have i128 : ¬ (128 : Int) < (value.size : Int) := by omega
    go_enter Tryd.func71, Tryd.ntmps71
    go_wp2
    rw [← HWB.out]
    go_loopw [3, 15] (PlRel value wb) (fun _ i _ => value.size - (intOf i).toNat)
    case atStart => exact ⟨0, by omega, rfl, rfl, Fr.refl _ _⟩
    case round =>
      obtain ⟨k, hk, rfl, rfl, hfr⟩ := hrel
      obtain ⟨c0, c1⟩ := HC.out wr hfr
      by_cases hks : k < value.size
      · have hki : (k : Int) < (value.size : Int) := by omega
        have hby := byte_at value k hks
        have HST := Lib.hid (show ((value.data.toList.take (k + 1)).all fun c => !unsafeB c) = (((value.data.toList.take k).all fun c => !unsafeB c) && !unsafeB value[k]) by rw [List.take_add_one, hby, List.all_append]; simp)
        clear hby
        cases hb : (value.data.toList.take k).all fun c => !unsafeB c
        · have HS2 := Lib.hid (show ((value.data.toList.take (k + 1)).all fun c => !unsafeB c) = false by rw [HST.out, hb]; rfl)
          clear hb
          go_wp2
          go_roundw
          case rel => exact ⟨k + 1, by omega, by go_num, by rw [HS2.out], hfr⟩
          case measure => simp [intOf]; omega
        · have HS2 := Lib.hid (show ((value.data.toList.take (k + 1)).all fun c => !unsafeB c) = !unsafeB value[k] by rw [HST.out, hb]; rfl)
          clear hb
          go_wp2_with fail
          refine (unsafe_any value[k] _).mono ?_
          rintro e u ⟨rfl, rfl⟩
          go_wp2
          go_roundw
          case rel => exact ⟨k + 1, by omega, by go_num, by rw [HS2.out], hfr⟩
          case measure => simp [intOf]; omega
      · have hki : ¬ (k : Int) < (value.size : Int) := by omega
        rw [show ((value.data.toList.take k).all fun c => !unsafeB c) = safeB value from by rw [List.take_of_length_le (by simp; omega)]; rfl]
        generalize safeB value = sf at *
        go_wp2_with fail
        refine (Lower_any name wr (by omega)).mono ?_
        rintro e u1 ⟨rfl, hf1⟩
        have HF1 := Lib.hid (hfr.trans hf1)
        clear hf1 c0 c1
        obtain ⟨c0, c1⟩ := HC.out u1 HF1.out
        generalize lowL name.data.toList = nl at *
        by_cases a1 : nl = [97, 99, 99, 101, 112, 116]
        · subst a1
          have HE := Lib.hid (show plainB name value = sf by rw [HP.out, if_pos rfl])
          go_wp2
          go_ret
          exact ⟨by rw [HE.out]; rfl, HFB.out.trans HF1.out⟩
        have HP1 := Lib.hid (by have h := HP.out; rw [if_neg a1] at h; exact h)
        have b1 : (nl == [97, 99, 99, 101, 112, 116]) = false := beq_eq_false_iff_ne.2 a1
        by_cases a2 : nl = [97, 99, 99, 101, 112, 116, 45, 108, 97, 110, 103, 117, 97, 103, 101]
        · subst a2
          have HE := Lib.hid (show plainB name value = langB value by rw [HP1.out, if_pos rfl])
          clear b1 a1
          go_wp2_with fail
          refine (language_any value u1 hv).mono ?_
          rintro e u2 ⟨rfl, hf2⟩
          go_wp2
          go_ret
          exact ⟨by rw [HE.out]; rfl, HFB.out.trans (HF1.out.trans hf2)⟩
        have HP2 := Lib.hid (by have h := HP1.out; rw [if_neg a2] at h; exact h)
        have b2 : (nl == [97, 99, 99, 101, 112, 116, 45, 108, 97, 110, 103, 117, 97, 103, 101]) = false := beq_eq_false_iff_ne.2 a2
        by_cases a3 : nl = [99, 111, 110, 116, 101, 110, 116, 45, 108, 97, 110, 103, 117, 97, 103, 101]
        · subst a3
          have HE := Lib.hid (show plainB name value = langB value by rw [HP2.out, if_pos rfl])
          clear b1 a1 b2 a2
          go_wp2_with fail
          refine (language_any value u1 hv).mono ?_
          rintro e u2 ⟨rfl, hf2⟩
          go_wp2
          go_ret
          exact ⟨by rw [HE.out]; rfl, HFB.out.trans (HF1.out.trans hf2)⟩
        have HP3 := Lib.hid (by have h := HP2.out; rw [if_neg a3] at h; exact h)
        have b3 : (nl == [99, 111, 110, 116, 101, 110, 116, 45, 108, 97, 110, 103, 117, 97, 103, 101]) = false := beq_eq_false_iff_ne.2 a3
        by_cases a4 : nl = [99, 111, 110, 116, 101, 110, 116, 45, 116, 121, 112, 101]
        · subst a4
          have HE := Lib.hid (show plainB name value = (sf && Lib.containsS kindsB (kindB value)) by rw [HP3.out, if_pos rfl])
          clear b1 a1 b2 a2 b3 a3
          have HCUT := Lib.hid (show Calls Tryd.prog 91 #[.string value, .string ⟨#[59]⟩] u1 fun e w' => (∃ r f, e = .returned (.tuple #[.string (beforeB value 59), .string r, .bool f])) ∧ Fr noB u1 w' by
            by_cases hc : 0 ≤ Lib.indexByte value.data.toList 59
            · obtain ⟨i, hi⟩ : ∃ i : Nat, Lib.indexByte value.data.toList 59 = (i : Int) := ⟨(Lib.indexByte value.data.toList 59).toNat, by omega⟩
              have hl : i < value.size := by
                have h := (Lib.indexByte_some hi).1
                have := (List.getElem?_eq_some_iff.1 h).1
                simpa using this
              refine (cut1_hit value 59 i u1 (by omega) hi hl).mono ?_
              rintro e w' ⟨rfl, n, rfl⟩
              refine ⟨⟨value.extract (i + 1) value.size, true, ?_⟩, (Fr.refl noB u1).drewN n⟩
              unfold beforeB
              rw [if_pos hc, hi]; rfl
            · refine (cut1_miss value 59 u1 hc).mono ?_
              rintro e w' ⟨rfl, rfl⟩
              refine ⟨⟨⟨#[]⟩, false, ?_⟩, Fr.refl _ _⟩
              unfold beforeB
              rw [if_neg hc])
          have hbz : (beforeB value 59).size ≤ value.size := by
            unfold beforeB
            split
            · simp [ByteArray.size_extract]; omega
            · exact Nat.le_refl _
          have HKB := Lib.hid (show kindB value = ⟨(lowL (Lib.trimS (beforeB value 59).data.toList [32, 9])).toArray⟩ from rfl)
          generalize beforeB value 59 = bv at *
          go_wp2_with fail
          refine HCUT.out.mono ?_
          rintro e u2 ⟨⟨r, f, rfl⟩, hf2⟩
          have HF2 := Lib.hid (HF1.out.trans hf2)
          clear HCUT hf2
          go_wp2_with fail
          refine (TrimSet_any bv ⟨#[32, 9]⟩ u2 (by omega) (by decide) (by decide) (by decide)).mono ?_
          rintro e u3 ⟨rfl, hf3⟩
          have HF3 := Lib.hid (HF2.out.trans hf3)
          clear hf3
          have htl := trimS_le bv.data.toList [32, 9]
          have hbs : bv.data.toList.length = bv.size := by simp
          rw [show (⟨#[32, 9]⟩ : ByteArray).data.toList = [32, 9] from rfl]
          generalize Lib.trimS bv.data.toList [32, 9] = tl at *
          have htz : (⟨tl.toArray⟩ : ByteArray).size < 17592186044416 := by show tl.toArray.size < _; simp; omega
          go_wp2_with fail
          refine (Lower_any ⟨tl.toArray⟩ u3 htz).mono ?_
          rintro e u4 ⟨rfl, hf4⟩
          have HF4 := Lib.hid (HF3.out.trans hf4)
          rw [show (⟨(lowL (⟨tl.toArray⟩ : ByteArray).data.toList).toArray⟩ : ByteArray) = kindB value from by rw [HKB.out]]
          clear hf4 htl htz hbs
          generalize kindB value = kv at *
          cases sf
          · go_wp2
            go_ret
            exact ⟨by rw [HE.out]; rfl, HFB.out.trans (Fr.trans HF4.out (by repeat (first | exact Fr.refl _ _ | apply Fr.alloc)))⟩
          · have HCO := Lib.hid (Tryd.slices_Contains_string u4.heap.size 0 3 3 kindsB kv (u4.alloc (.cells (kindsB.map Value.string).toArray 9)) (Nat.le_of_ble_eq_true rfl) (Nat.le_of_ble_eq_true rfl) (fun j hj => by
              have h := new_block u4 (.cells (kindsB.map Value.string).toArray 9)
              have e : (kindsB.map Value.string)[j]? = some (.string (kindsB.getD j ByteArray.empty)) := by rw [List.getElem?_map, List.getElem?_eq_getElem hj, List.getD_eq_getElem?_getD, List.getElem?_eq_getElem hj]; rfl
              rw [Nat.zero_add]
              simp only [World.cell?, h]
              simpa using e))
            have HF5 := Lib.hid (show Fr noB wb (u4.alloc (.cells (kindsB.map Value.string).toArray 9)) from HF4.out.alloc _)
            go_wp2_with fail
            refine HCO.out.mono ?_
            rintro e u5 ⟨rfl, rfl⟩
            rw [show kindsB.take 3 = kindsB from rfl]
            go_wp2
            go_ret
            exact ⟨by rw [HE.out]; rfl, HFB.out.trans HF5.out⟩
        have b4 : (nl == [99, 111, 110, 116, 101, 110, 116, 45, 116, 121, 112, 101]) = false := beq_eq_false_iff_ne.2 a4
        have HE := Lib.hid (show plainB name value = false by rw [HP3.out, if_neg a4])
        go_wp2
        go_ret
        exact ⟨by rw [HE.out]; rfl, HFB.out.trans HF1.out⟩
end Go.Proofs.YtkoobhgedoanhaaDoor
