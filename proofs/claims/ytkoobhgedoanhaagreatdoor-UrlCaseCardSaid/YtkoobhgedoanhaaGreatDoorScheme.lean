/- Package url: scheme. -/
import Derived.Test.YtkoobhgedoanhaaGreatDoorHost2
import Derived.Test.YtkoobhgedoanhaaGreatDoorUrlPure
import Derived.Deep.RegionHeld3
namespace Go.Proofs.YtkoobhgedoanhaaGreatDoor
open Go.RowKit

/-- what scheme answers -/
def schemeV (l : List UInt8) : Value :=
  match schemeL l with
  | some (sec, rest) => .tuple #[.bool sec, .string ⟨rest.toArray⟩, .bool true]
  | none => .tuple #[.bool false, .string ⟨#[]⟩, .bool false]
theorem schemeV_http {s : ByteArray} (h1 : 7 ≤ s.size) (h2 : lowL (s.extract 0 7).data.toList = httpL) : schemeV s.data.toList = .tuple #[.bool false, .string (s.extract 7 s.size), .bool true] := by
  have hz : s.data.toList.length = s.size := by simp
  have e : (s.extract 0 7).data.toList = s.data.toList.take 7 := by rw [Lib.extract_data]; simp
  rw [e] at h2
  unfold schemeV schemeL
  rw [if_pos ⟨by omega, h2⟩, ofList_extract, List.take_of_length_le (by simp)]
theorem schemeV_https {s : ByteArray} (h0 : ¬ (7 ≤ s.size ∧ lowL (s.extract 0 7).data.toList = httpL)) (h1 : 8 ≤ s.size) (h2 : lowL (s.extract 0 8).data.toList = httpsL) : schemeV s.data.toList = .tuple #[.bool true, .string (s.extract 8 s.size), .bool true] := by
  have hz : s.data.toList.length = s.size := by simp
  have e : (s.extract 0 7).data.toList = s.data.toList.take 7 := by rw [Lib.extract_data]; simp
  have e8 : (s.extract 0 8).data.toList = s.data.toList.take 8 := by rw [Lib.extract_data]; simp
  rw [e] at h0
  rw [e8] at h2
  unfold schemeV schemeL
  rw [if_neg (by rw [hz]; exact h0), if_pos ⟨by omega, h2⟩, ofList_extract, List.take_of_length_le (by simp)]
theorem schemeV_none {s : ByteArray} (h0 : ¬ (7 ≤ s.size ∧ lowL (s.extract 0 7).data.toList = httpL)) (h1 : ¬ (8 ≤ s.size ∧ lowL (s.extract 0 8).data.toList = httpsL)) : schemeV s.data.toList = .tuple #[.bool false, .string ⟨#[]⟩, .bool false] := by
  have hz : s.data.toList.length = s.size := by simp
  have e : (s.extract 0 7).data.toList = s.data.toList.take 7 := by rw [Lib.extract_data]; simp
  have e8 : (s.extract 0 8).data.toList = s.data.toList.take 8 := by rw [Lib.extract_data]; simp
  rw [e] at h0
  rw [e8] at h1
  unfold schemeV schemeL
  rw [if_neg (by rw [hz]; exact h0), if_neg (by rw [hz]; exact h1)]
set_option maxRecDepth 100000 in
set_option maxHeartbeats 4000000 in
theorem scheme_any (s : ByteArray) (w : World) (hs : s.size < 100000) :
    Calls Tryz.prog 88 #[.string s] w fun e w' => e = .returned (schemeV s.data.toList) ∧ Fr noB w w' := by
  have hix0 : ∀ u, Sem.run Tryz.prog (Instr.index 170 (.agg #[.string ⟨#[104, 116, 116, 112, 58, 47, 47]⟩, .bool false, .string ⟨#[104, 116, 116, 112, 115, 58, 47, 47]⟩, .bool true]) (.int .i64 0)) u = .ok (.agg #[.string ⟨#[104, 116, 116, 112, 58, 47, 47]⟩, .bool false]) u := fun u => by kernel_rfl
  have hix1 : ∀ u, Sem.run Tryz.prog (Instr.index 170 (.agg #[.string ⟨#[104, 116, 116, 112, 58, 47, 47]⟩, .bool false, .string ⟨#[104, 116, 116, 112, 115, 58, 47, 47]⟩, .bool true]) (.int .i64 1)) u = .ok (.agg #[.string ⟨#[104, 116, 116, 112, 115, 58, 47, 47]⟩, .bool true]) u := fun u => by kernel_rfl
  go_enter Tryz.func88, Tryz.ntmps88
  go_wp2
  refine wp_loop_rounds 3 ?_
  obtain ⟨W1, hW1⟩ : ∃ W1, W1 = (w).alloc (.cells #[.string ⟨#[104, 116, 116, 112, 58, 47, 47]⟩, .bool false] 169) := ⟨_, rfl⟩
  have hf1 : Fr noB w W1 := by rw [hW1]; exact (Fr.refl noB w).alloc _
  have hb1 : W1.heap[(w).heap.size]? = some (.cells #[.string ⟨#[104, 116, 116, 112, 58, 47, 47]⟩, .bool false] 169 (0, 0)) := by rw [hW1]; exact new_block _ _
  have HC1 := Lib.hid (show ∀ U, Fr noB W1 U → U.cell? ⟨(w).heap.size, 0, none⟩ = some (.string ⟨#[104, 116, 116, 112, 58, 47, 47]⟩) ∧ U.cell? ⟨(w).heap.size, 1, none⟩ = some (.bool false) from fun U hU => by
    have j1 := hU.keep hb1 (fun h => h)
    simp [World.cell?, j1])
  have HW1 := Lib.hid hW1
  have HF1 := Lib.hid hf1
  clear hW1 hf1 hb1
  rw [rounds_succ]
  go_wp2_with fail
  rw [← HW1.out]
  obtain ⟨c0, c1⟩ := HC1.out W1 (Fr.refl _ _)
  by_cases a1 : 7 ≤ s.size
  · have i1 : (7 : Int) ≤ (s.size : Int) := by omega
    by_cases b1 : lowL (s.extract 0 7).data.toList = httpL
    · have HP := Lib.hid (schemeV_http a1 b1)
      obtain ⟨z1, hz⟩ : ∃ z1 : ByteArray, z1 = ⟨(lowL (s.extract 0 7).data.toList).toArray⟩ := ⟨_, rfl⟩
      have hz1 : z1.toList = [104, 116, 116, 112, 58, 47, 47] := by rw [ByteArray.toList_eq, hz]; exact b1
      have hz2 : (z1.toList == [104, 116, 116, 112, 58, 47, 47]) = true := beq_iff_eq.2 hz1
      have LOW1 := Lib.hid (show ∀ U, Calls Tryz.prog 76 #[.string (s.extract 0 7)] U fun e w' => e = .returned (.string z1) ∧ Fr noB U w' from fun U => by rw [hz]; exact Lower_any _ U (by rw [ByteArray.size_extract]; omega))
      clear hz b1
      go_region_held3 (fun U => U.cell? ⟨w.heap.size, 0, none⟩ = some (.string ⟨#[104, 116, 116, 112, 58, 47, 47]⟩)) ((refine (HC1.out _ ?_).1; repeat (first | exact Fr.refl _ _ | apply Fr.alloc | apply Fr.drew | refine Fr.trans ?_ (by assumption)))) ((go_at_call 76; refine (LOW1.out _).mono ?_; rintro e v1 ⟨rfl, hv1⟩))
      all_goals
        obtain ⟨k0, k1⟩ := HC1.out v1 (by repeat (first | exact Fr.refl _ _ | apply Fr.alloc | apply Fr.drew | apply Fr.drewN | refine Fr.trans ?_ (by assumption)))
        go_wp2_with fail
        go_quiet (fail)
        all_goals
          go_wp2
          go_ret3
          exact ⟨by rw [HP.out]; rfl, HF1.out.trans (by repeat (first | exact Fr.refl _ _ | apply Fr.alloc | apply Fr.drew | apply Fr.drewN | refine Fr.trans ?_ (by assumption)))⟩
    · obtain ⟨z1, hz⟩ : ∃ z1 : ByteArray, z1 = ⟨(lowL (s.extract 0 7).data.toList).toArray⟩ := ⟨_, rfl⟩
      have hz1 : ¬ z1.toList = [104, 116, 116, 112, 58, 47, 47] := by rw [ByteArray.toList_eq, hz]; exact b1
      have hz2 : (z1.toList == [104, 116, 116, 112, 58, 47, 47]) = false := beq_eq_false_iff_ne.2 hz1
      have LOW1 := Lib.hid (show ∀ U, Calls Tryz.prog 76 #[.string (s.extract 0 7)] U fun e w' => e = .returned (.string z1) ∧ Fr noB U w' from fun U => by rw [hz]; exact Lower_any _ U (by rw [ByteArray.size_extract]; omega))
      have B1 := Lib.hid b1
      clear hz b1
      go_region_held3 (fun U => U.cell? ⟨w.heap.size, 0, none⟩ = some (.string ⟨#[104, 116, 116, 112, 58, 47, 47]⟩)) ((refine (HC1.out _ ?_).1; repeat (first | exact Fr.refl _ _ | apply Fr.alloc | apply Fr.drew | refine Fr.trans ?_ (by assumption)))) ((go_at_call 76; refine (LOW1.out _).mono ?_; rintro e v1 ⟨rfl, hv1⟩))
      all_goals
        have HFV1 := Lib.hid (show Fr noB w v1 from HF1.out.trans (by repeat (first | exact Fr.refl _ _ | apply Fr.alloc | apply Fr.drew | apply Fr.drewN | refine Fr.trans ?_ (by assumption))))
        clear c0 c1
        go_wp2_with fail
        have N1 := Lib.hid (show ¬ (7 ≤ s.size ∧ lowL (s.extract 0 7).data.toList = httpL) from fun h => B1.out h.2)
        obtain ⟨W2, hW2⟩ : ∃ W2, W2 = (v1).alloc (.cells #[.string ⟨#[104, 116, 116, 112, 115, 58, 47, 47]⟩, .bool true] 169) := ⟨_, rfl⟩
        have hf2 : Fr noB w W2 := by rw [hW2]; exact (HFV1.out).alloc _
        have hb2 : W2.heap[(v1).heap.size]? = some (.cells #[.string ⟨#[104, 116, 116, 112, 115, 58, 47, 47]⟩, .bool true] 169 (0, 0)) := by rw [hW2]; exact new_block _ _
        have HC2 := Lib.hid (show ∀ U, Fr noB W2 U → U.cell? ⟨(v1).heap.size, 0, none⟩ = some (.string ⟨#[104, 116, 116, 112, 115, 58, 47, 47]⟩) ∧ U.cell? ⟨(v1).heap.size, 1, none⟩ = some (.bool true) from fun U hU => by
          have j1 := hU.keep hb2 (fun h => h)
          simp [World.cell?, j1])
        have HW2 := Lib.hid hW2
        have HF2 := Lib.hid hf2
        clear hW2 hf2 hb2
        rw [rounds_succ]
        go_wp2_with fail
        rw [← HW2.out]
        obtain ⟨c0, c1⟩ := HC2.out W2 (Fr.refl _ _)
        by_cases a2 : 8 ≤ s.size
        · have i2 : (8 : Int) ≤ (s.size : Int) := by omega
          by_cases b2 : lowL (s.extract 0 8).data.toList = httpsL
          · have HP := Lib.hid (schemeV_https N1.out a2 b2)
            obtain ⟨z2, hz⟩ : ∃ z2 : ByteArray, z2 = ⟨(lowL (s.extract 0 8).data.toList).toArray⟩ := ⟨_, rfl⟩
            have hz1 : z2.toList = [104, 116, 116, 112, 115, 58, 47, 47] := by rw [ByteArray.toList_eq, hz]; exact b2
            have hz2 : (z2.toList == [104, 116, 116, 112, 115, 58, 47, 47]) = true := beq_iff_eq.2 hz1
            have LOW2 := Lib.hid (show ∀ U, Calls Tryz.prog 76 #[.string (s.extract 0 8)] U fun e w' => e = .returned (.string z2) ∧ Fr noB U w' from fun U => by rw [hz]; exact Lower_any _ U (by rw [ByteArray.size_extract]; omega))
            clear hz b2
            go_region_held3 (fun U => U.cell? ⟨v1.heap.size, 0, none⟩ = some (.string ⟨#[104, 116, 116, 112, 115, 58, 47, 47]⟩)) ((refine (HC2.out _ ?_).1; repeat (first | exact Fr.refl _ _ | apply Fr.alloc | apply Fr.drew | refine Fr.trans ?_ (by assumption)))) ((go_at_call 76; refine (LOW2.out _).mono ?_; rintro e v2 ⟨rfl, hv2⟩))
            all_goals
              obtain ⟨k0, k1⟩ := HC2.out v2 (by repeat (first | exact Fr.refl _ _ | apply Fr.alloc | apply Fr.drew | apply Fr.drewN | refine Fr.trans ?_ (by assumption)))
              go_wp2_with fail
              go_quiet (fail)
              all_goals
                go_wp2
                go_ret3
                exact ⟨by rw [HP.out]; rfl, HF2.out.trans (by repeat (first | exact Fr.refl _ _ | apply Fr.alloc | apply Fr.drew | apply Fr.drewN | refine Fr.trans ?_ (by assumption)))⟩
          · obtain ⟨z2, hz⟩ : ∃ z2 : ByteArray, z2 = ⟨(lowL (s.extract 0 8).data.toList).toArray⟩ := ⟨_, rfl⟩
            have hz1 : ¬ z2.toList = [104, 116, 116, 112, 115, 58, 47, 47] := by rw [ByteArray.toList_eq, hz]; exact b2
            have hz2 : (z2.toList == [104, 116, 116, 112, 115, 58, 47, 47]) = false := beq_eq_false_iff_ne.2 hz1
            have LOW2 := Lib.hid (show ∀ U, Calls Tryz.prog 76 #[.string (s.extract 0 8)] U fun e w' => e = .returned (.string z2) ∧ Fr noB U w' from fun U => by rw [hz]; exact Lower_any _ U (by rw [ByteArray.size_extract]; omega))
            have B2 := Lib.hid b2
            clear hz b2
            go_region_held3 (fun U => U.cell? ⟨v1.heap.size, 0, none⟩ = some (.string ⟨#[104, 116, 116, 112, 115, 58, 47, 47]⟩)) ((refine (HC2.out _ ?_).1; repeat (first | exact Fr.refl _ _ | apply Fr.alloc | apply Fr.drew | refine Fr.trans ?_ (by assumption)))) ((go_at_call 76; refine (LOW2.out _).mono ?_; rintro e v2 ⟨rfl, hv2⟩))
            all_goals
              have HFV2 := Lib.hid (show Fr noB w v2 from HF2.out.trans (by repeat (first | exact Fr.refl _ _ | apply Fr.alloc | apply Fr.drew | apply Fr.drewN | refine Fr.trans ?_ (by assumption))))
              clear c0 c1
              go_wp2_with fail
              have N2 := Lib.hid (show ¬ (8 ≤ s.size ∧ lowL (s.extract 0 8).data.toList = httpsL) from fun h => B2.out h.2)
              rw [rounds_succ]
              go_wp2
              go_ret3
              exact ⟨by rw [schemeV_none N1.out N2.out]; rfl, HFV2.out⟩
        · have i2 : ¬ (8 : Int) ≤ (s.size : Int) := by omega
          go_quiet (fail)
          go_wp2_with fail
          clear c0 c1
          obtain ⟨x2, hx⟩ : ∃ x2, x2 = W2.drewN nq := ⟨_, rfl⟩
          have HX2 := Lib.hid (show Fr noB w x2 by rw [hx]; exact HF2.out.drewN nq)
          rw [← hx]
          clear hx
          have N2 := Lib.hid (show ¬ (8 ≤ s.size ∧ lowL (s.extract 0 8).data.toList = httpsL) from fun h => a2 h.1)
          rw [rounds_succ]
          go_wp2
          go_ret3
          exact ⟨by rw [schemeV_none N1.out N2.out]; rfl, HX2.out⟩
  · have i1 : ¬ (7 : Int) ≤ (s.size : Int) := by omega
    go_quiet (fail)
    go_wp2_with fail
    clear c0 c1
    obtain ⟨x1, hx⟩ : ∃ x1, x1 = W1.drewN nq := ⟨_, rfl⟩
    have HX1 := Lib.hid (show Fr noB w x1 by rw [hx]; exact HF1.out.drewN nq)
    rw [← hx]
    clear hx
    have N1 := Lib.hid (show ¬ (7 ≤ s.size ∧ lowL (s.extract 0 7).data.toList = httpL) from fun h => a1 h.1)
    obtain ⟨W2, hW2⟩ : ∃ W2, W2 = (x1).alloc (.cells #[.string ⟨#[104, 116, 116, 112, 115, 58, 47, 47]⟩, .bool true] 169) := ⟨_, rfl⟩
    have hf2 : Fr noB w W2 := by rw [hW2]; exact (HX1.out).alloc _
    have hb2 : W2.heap[(x1).heap.size]? = some (.cells #[.string ⟨#[104, 116, 116, 112, 115, 58, 47, 47]⟩, .bool true] 169 (0, 0)) := by rw [hW2]; exact new_block _ _
    have HC2 := Lib.hid (show ∀ U, Fr noB W2 U → U.cell? ⟨(x1).heap.size, 0, none⟩ = some (.string ⟨#[104, 116, 116, 112, 115, 58, 47, 47]⟩) ∧ U.cell? ⟨(x1).heap.size, 1, none⟩ = some (.bool true) from fun U hU => by
      have j1 := hU.keep hb2 (fun h => h)
      simp [World.cell?, j1])
    have HW2 := Lib.hid hW2
    have HF2 := Lib.hid hf2
    clear hW2 hf2 hb2
    rw [rounds_succ]
    go_wp2_with fail
    rw [← HW2.out]
    obtain ⟨c0, c1⟩ := HC2.out W2 (Fr.refl _ _)
    by_cases a2 : 8 ≤ s.size
    · have i2 : (8 : Int) ≤ (s.size : Int) := by omega
      by_cases b2 : lowL (s.extract 0 8).data.toList = httpsL
      · have HP := Lib.hid (schemeV_https N1.out a2 b2)
        obtain ⟨z2, hz⟩ : ∃ z2 : ByteArray, z2 = ⟨(lowL (s.extract 0 8).data.toList).toArray⟩ := ⟨_, rfl⟩
        have hz1 : z2.toList = [104, 116, 116, 112, 115, 58, 47, 47] := by rw [ByteArray.toList_eq, hz]; exact b2
        have hz2 : (z2.toList == [104, 116, 116, 112, 115, 58, 47, 47]) = true := beq_iff_eq.2 hz1
        have LOW2 := Lib.hid (show ∀ U, Calls Tryz.prog 76 #[.string (s.extract 0 8)] U fun e w' => e = .returned (.string z2) ∧ Fr noB U w' from fun U => by rw [hz]; exact Lower_any _ U (by rw [ByteArray.size_extract]; omega))
        clear hz b2
        go_region_held3 (fun U => U.cell? ⟨x1.heap.size, 0, none⟩ = some (.string ⟨#[104, 116, 116, 112, 115, 58, 47, 47]⟩)) ((refine (HC2.out _ ?_).1; repeat (first | exact Fr.refl _ _ | apply Fr.alloc | apply Fr.drew | refine Fr.trans ?_ (by assumption)))) ((go_at_call 76; refine (LOW2.out _).mono ?_; rintro e v2 ⟨rfl, hv2⟩))
        all_goals
          obtain ⟨k0, k1⟩ := HC2.out v2 (by repeat (first | exact Fr.refl _ _ | apply Fr.alloc | apply Fr.drew | apply Fr.drewN | refine Fr.trans ?_ (by assumption)))
          go_wp2_with fail
          go_quiet (fail)
          all_goals
            go_wp2
            go_ret3
            exact ⟨by rw [HP.out]; rfl, HF2.out.trans (by repeat (first | exact Fr.refl _ _ | apply Fr.alloc | apply Fr.drew | apply Fr.drewN | refine Fr.trans ?_ (by assumption)))⟩
      · obtain ⟨z2, hz⟩ : ∃ z2 : ByteArray, z2 = ⟨(lowL (s.extract 0 8).data.toList).toArray⟩ := ⟨_, rfl⟩
        have hz1 : ¬ z2.toList = [104, 116, 116, 112, 115, 58, 47, 47] := by rw [ByteArray.toList_eq, hz]; exact b2
        have hz2 : (z2.toList == [104, 116, 116, 112, 115, 58, 47, 47]) = false := beq_eq_false_iff_ne.2 hz1
        have LOW2 := Lib.hid (show ∀ U, Calls Tryz.prog 76 #[.string (s.extract 0 8)] U fun e w' => e = .returned (.string z2) ∧ Fr noB U w' from fun U => by rw [hz]; exact Lower_any _ U (by rw [ByteArray.size_extract]; omega))
        have B2 := Lib.hid b2
        clear hz b2
        go_region_held3 (fun U => U.cell? ⟨x1.heap.size, 0, none⟩ = some (.string ⟨#[104, 116, 116, 112, 115, 58, 47, 47]⟩)) ((refine (HC2.out _ ?_).1; repeat (first | exact Fr.refl _ _ | apply Fr.alloc | apply Fr.drew | refine Fr.trans ?_ (by assumption)))) ((go_at_call 76; refine (LOW2.out _).mono ?_; rintro e v2 ⟨rfl, hv2⟩))
        all_goals
          have HFV2 := Lib.hid (show Fr noB w v2 from HF2.out.trans (by repeat (first | exact Fr.refl _ _ | apply Fr.alloc | apply Fr.drew | apply Fr.drewN | refine Fr.trans ?_ (by assumption))))
          clear c0 c1
          go_wp2_with fail
          have N2 := Lib.hid (show ¬ (8 ≤ s.size ∧ lowL (s.extract 0 8).data.toList = httpsL) from fun h => B2.out h.2)
          rw [rounds_succ]
          go_wp2
          go_ret3
          exact ⟨by rw [schemeV_none N1.out N2.out]; rfl, HFV2.out⟩
    · have i2 : ¬ (8 : Int) ≤ (s.size : Int) := by omega
      go_quiet (fail)
      go_wp2_with fail
      clear c0 c1
      obtain ⟨x2, hx⟩ : ∃ x2, x2 = W2.drewN nq := ⟨_, rfl⟩
      have HX2 := Lib.hid (show Fr noB w x2 by rw [hx]; exact HF2.out.drewN nq)
      rw [← hx]
      clear hx
      have N2 := Lib.hid (show ¬ (8 ≤ s.size ∧ lowL (s.extract 0 8).data.toList = httpsL) from fun h => a2 h.1)
      rw [rounds_succ]
      go_wp2
      go_ret3
      exact ⟨by rw [schemeV_none N1.out N2.out]; rfl, HX2.out⟩
end Go.Proofs.YtkoobhgedoanhaaGreatDoor
