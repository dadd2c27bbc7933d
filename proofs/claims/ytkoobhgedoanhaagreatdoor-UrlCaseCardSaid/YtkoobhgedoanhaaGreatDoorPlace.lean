/- Package url: place, Origin. -/
import Derived.Test.YtkoobhgedoanhaaGreatDoorUrl1
import Derived.Test.YtkoobhgedoanhaaGreatDoorScheme
import Derived.Test.YtkoobhgedoanhaaGreatDoorCut1
import Derived.Test.YtkoobhgedoanhaaGreatDoorRowS
import Derived.Deep.RegionWith
namespace Go.Proofs.YtkoobhgedoanhaaGreatDoor
open Go.RowKit

def digitSet : ByteArray := ⟨#[48, 49, 50, 51, 52, 53, 54, 55, 56, 57]⟩
theorem digitSet_ascii : ∀ b ∈ digitSet.data.toList, b.toNat < 128 := by decide +kernel
theorem digitSet_has : ∀ n : Fin 256, digitSet.data.toList.contains n.val.toUInt8 = digitB n.val.toUInt8 := by decide +kernel
theorem digitSet_all (l : List UInt8) : l.all (digitSet.data.toList.contains ·) = l.all digitB := by
  congr 1; funext c
  have h := digitSet_has ⟨c.toNat, c.toNat_lt⟩
  simpa using h
def OriL.toB (o : OriL) : Ori := ⟨o.secure, ⟨o.host.toArray⟩, o.port⟩
/-- what place answers -/
def placeV (sec : Bool) (l : List UInt8) : Value := .tuple #[.agg (placeL sec l).1.toB.cells.toArray, .bool (placeL sec l).2]
theorem cut_miss {c : UInt8} {s : ByteArray} (h : ¬ 0 ≤ Lib.indexByte s.data.toList c) : cutL c s.data.toList = (s.data.toList, [], false) :=
  cutL_miss c _ (fun hc => (idx_neg _ _).1 h c hc rfl)
theorem cut_hit {c : UInt8} {s : ByteArray} {i : Nat} (h : Lib.indexByte s.data.toList c = (i : Int)) : cutL c s.data.toList = (s.data.toList.take i, s.data.toList.drop (i + 1), true) := by
  obtain ⟨e, hn⟩ := idx_split _ _ _ h
  have := cutL_hit c (s.data.toList.take i) (s.data.toList.drop (i + 1)) hn
  rw [← e] at this
  exact this
theorem put3 {v : World} {g : Nat} {a b c x y z : Value} {t : TypeId} {f : Nat × Nat} (h : v.heap[g]? = some (.cells #[a, b, c] t f)) :
    (((v.setCell ⟨g, 0, none⟩ x).setCell ⟨g, 1, none⟩ y).setCell ⟨g, 2, none⟩ z).heap[g]? = some (.cells #[x, y, z] t f) := by
  simp [World.setCell, Array.getElem?_modify, h]
set_option maxRecDepth 100000 in
set_option maxHeartbeats 8000000 in
theorem place_any (sec : Bool) (s : ByteArray) (w : World) (hs : s.size < 100000) :
    Calls Tryz.prog 89 #[.bool sec, .string s] w fun e w' => e = .returned (placeV sec s.data.toList) ∧ Fr noB w w' := by
  obtain ⟨w1, hw1⟩ : ∃ w1, w1 = w.alloc (.cells #[.bool false, .string ⟨#[]⟩, .int .i64 0] 49) := ⟨_, rfl⟩
  have hf1 : Fr noB w w1 := by rw [hw1]; exact (Fr.refl noB w).alloc _
  have hb1 : w1.heap[w.heap.size]? = some (.cells #[.bool false, .string ⟨#[]⟩, .int .i64 0] 49 (0, 0)) := by rw [hw1]; exact new_block _ _
  have HW1 := Lib.hid hw1
  clear hw1
  go_enter Tryz.func89, Tryz.ntmps89
  go_wp2_with fail
  first | rw [← HW1.out] | skip
  refine (Lower_any s w1 (by omega)).mono ?_
  rintro e u1 ⟨rfl, hf2⟩
  have hfu := hf1.trans hf2
  have hbu := hf2.keep hb1 (fun h => h)
  have hlt := lt_of_some hbu
  clear hf1 hf2 hb1 HW1
  go_wp2_with fail
  refine (Port_any sec u1).mono ?_
  rintro e x ⟨rfl, rfl⟩
  obtain ⟨lo, hlo⟩ : ∃ lo : ByteArray, lo = ⟨(lowL s.data.toList).toArray⟩ := ⟨_, rfl⟩
  have hlz : lo.size < 100000 := by rw [hlo]; show (lowL s.data.toList).toArray.size < _; simp [lowL]; exact hs
  rw [← hlo]
  obtain ⟨w2, hw2⟩ : ∃ w2, w2 = u1.alloc (.cells #[.bool sec, .string lo, .int .i64 (portB sec)] 49) := ⟨_, rfl⟩
  have hf2 : Fr noB u1 w2 := by rw [hw2]; exact (Fr.refl noB u1).alloc _
  have hb2 : w2.heap[u1.heap.size]? = some (.cells #[.bool sec, .string lo, .int .i64 (portB sec)] 49 (0, 0)) := by rw [hw2]; exact new_block _ _
  have hr2 := hf2.keep hbu (fun h => h)
  have HW2 := Lib.hid hw2
  clear hw2
  by_cases hix : 0 ≤ Lib.indexByte s.data.toList 58
  · obtain ⟨i, hi⟩ : ∃ i : Nat, Lib.indexByte s.data.toList 58 = (i : Int) := ⟨(Lib.indexByte s.data.toList 58).toNat, by omega⟩
    have hil : i < s.size := by have := idx_lt hi; simpa using this
    have HCU := Lib.hid (cut_hit hi)
    have HCT := Lib.hid (cut1_hit s 58 i w2 (by omega) hi hil)
    clear hi hix hlo
    go_wp2_with fail
    rw [← HW2.out]
    refine HCT.out.mono ?_
    rintro e x ⟨rfl, n, rfl⟩
    obtain ⟨hh, hhh⟩ : ∃ hh : ByteArray, hh = s.extract 0 i := ⟨_, rfl⟩
    obtain ⟨p, hp⟩ : ∃ p : ByteArray, p = s.extract (i + 1) s.size := ⟨_, rfl⟩
    have hhz : hh.size < 100000 := by rw [hhh, ByteArray.size_extract]; omega
    have hpz : p.size < 100000 := by rw [hp, ByteArray.size_extract]; omega
    have hpl : s.data.toList.drop (i + 1) = p.data.toList := by rw [hp, Lib.extract_data, List.take_of_length_le (by simp)]
    have hhl : s.data.toList.take i = hh.data.toList := by rw [hhh, Lib.extract_data]; simp
    rw [← hhh, ← hp]
    replace HCU := Lib.hid (HCU.out)
    rw [hpl, hhl] at HCU
    have HPL := Lib.hid hpl
    clear hhh hp hpl hhl
    go_wp2_with fail
    refine (Lower_any hh _ (by omega)).mono ?_
    rintro e u2 ⟨rfl, hf3⟩
    obtain ⟨lh, hlh⟩ : ∃ lh : ByteArray, lh = ⟨(lowL hh.data.toList).toArray⟩ := ⟨_, rfl⟩
    replace hlz : lh.size < 100000 := by rw [hlh]; show (lowL hh.data.toList).toArray.size < _; simp [lowL]; exact hhz
    rw [← hlh]
    have HLH := Lib.hid hlh
    clear hlh
    have hb3 := (((Fr.refl noB w2).drewN n).trans hf3).keep hb2 (fun h => h)
    have hr3 := (((Fr.refl noB w2).drewN n).trans hf3).keep hr2 (fun h => h)
    have hfu2 := (hfu.trans hf2).trans (((Fr.refl noB w2).drewN n).trans hf3)
    have q0 : u2.cell? ⟨u1.heap.size, 1, none⟩ = some (.string lo) := by simp [World.cell?, hb3]
    have q1 : u2.frozen? ⟨u1.heap.size, 1, none⟩ = false := by simp [World.frozen?, hb3]
    obtain ⟨w3, hw3⟩ : ∃ w3, w3 = u2.setCell ⟨u1.heap.size, 1, none⟩ (.string lh) := ⟨_, rfl⟩
    have hb4 : w3.heap[u1.heap.size]? = some (.cells #[.bool sec, .string lh, .int .i64 (portB sec)] 49 (0, 0)) := by rw [hw3]; simp [World.setCell, Array.getElem?_modify, hb3]
    have hr4 : w3.heap[w.heap.size]? = some (.cells #[.bool false, .string ⟨#[]⟩, .int .i64 0] 49 (0, 0)) := by rw [hw3]; exact (Below.heap_setCell _ _ _ _ (by simp; omega)).trans hr3
    have hfw3 : Fr noB w w3 := by rw [hw3]; exact hfu2.setNew (p := ⟨u1.heap.size, 1, none⟩) (by show w.heap.size ≤ u1.heap.size; omega) _
    have HW3 := Lib.hid hw3
    clear hw3 hb3 hr3 hf3
    have d0 : w3.cell? ⟨w.heap.size, 0, none⟩ = some (.bool false) := by simp [World.cell?, hr4]
    have d1 : w3.cell? ⟨w.heap.size, 1, none⟩ = some (.string ⟨#[]⟩) := by simp [World.cell?, hr4]
    have d2 : w3.cell? ⟨w.heap.size, 2, none⟩ = some (.int .i64 0) := by simp [World.cell?, hr4]
    have f0 : w3.frozen? ⟨w.heap.size, 0, none⟩ = false := by simp [World.frozen?, hr4]
    have f1 : w3.frozen? ⟨w.heap.size, 1, none⟩ = false := by simp [World.frozen?, hr4]
    have f2 : w3.frozen? ⟨w.heap.size, 2, none⟩ = false := by simp [World.frozen?, hr4]
    rw [HW3.out] at d0 d1 d2 f0 f1 f2
    by_cases hp0 : p.size = 0
    · have hpn : p.data.toList = [] := by apply List.eq_nil_of_length_eq_zero; simpa using hp0
      have t1 : p.toList = [] := by rw [ByteArray.toList_eq, hpn]
      have t2 : p.toList.isEmpty = true := by rw [t1]; rfl
      have HP := Lib.hid (show placeV sec s.data.toList = .tuple #[.agg #[.bool false, .string ⟨#[]⟩, .int .i64 0], .bool false] by
        unfold placeV placeL
        rw [HCU.out]
        simp only [if_true]
        rw [if_pos (Or.inl hpn)]
        rfl)
      have HR3 := Lib.hid hr4
      have HF3 := Lib.hid hfw3
      rw [HW3.out] at HR3 HF3
      clear hpn
      go_wp2_with fail
      refine bodyPost_ret (results_cell_tmp (by rfl) _ _ w.heap.size 49 #[.bool false, .string ⟨#[]⟩, .int .i64 0] (0, 0) _ rfl (put3 HR3.out) Tryz.underlying49 rfl (by kernel_rfl)) rfl ?_
      exact ⟨by rw [HP.out]; rfl, ((HF3.out.setNew (p := ⟨w.heap.size, 0, none⟩) (Nat.le_refl _) _).setNew (p := ⟨w.heap.size, 1, none⟩) (Nat.le_refl _) _).setNew (p := ⟨w.heap.size, 2, none⟩) (Nat.le_refl _) _⟩
    · have t1 : ¬ p.toList = [] := by rw [ByteArray.toList_eq]; intro h; apply hp0; have := congrArg List.length h; simpa using this
      have t2 : p.toList.isEmpty = false := by simpa using t1
      by_cases hp5 : 5 < p.size
      · have i5 : (5 : Int) < (p.size : Int) := by omega
        have HP := Lib.hid (show placeV sec s.data.toList = .tuple #[.agg #[.bool false, .string ⟨#[]⟩, .int .i64 0], .bool false] by
          unfold placeV placeL
          rw [HCU.out]
          simp only [if_true]
          rw [if_pos (Or.inr (Or.inl (by simpa using hp5)))]
          rfl)
        have HR3 := Lib.hid hr4
        have HF3 := Lib.hid hfw3
        rw [HW3.out] at HR3 HF3
        go_wp2_with fail
        refine bodyPost_ret (results_cell_tmp (by rfl) _ _ w.heap.size 49 #[.bool false, .string ⟨#[]⟩, .int .i64 0] (0, 0) _ rfl (put3 HR3.out) Tryz.underlying49 rfl (by kernel_rfl)) rfl ?_
        exact ⟨by rw [HP.out]; rfl, ((HF3.out.setNew (p := ⟨w.heap.size, 0, none⟩) (Nat.le_refl _) _).setNew (p := ⟨w.heap.size, 1, none⟩) (Nat.le_refl _) _).setNew (p := ⟨w.heap.size, 2, none⟩) (Nat.le_refl _) _⟩
      · have i5 : ¬ (5 : Int) < (p.size : Int) := by omega
        have hpne : ¬ p.data.toList = [] := by rw [← ByteArray.toList_eq]; exact t1
        have HTR := Lib.hid (TrimSet_any p digitSet w3 (by omega) (by decide) (by decide) digitSet_ascii)
        clear d0 d1 d2 f0 f1 f2
        go_wp2_with fail
        rw [← HW3.out]
        refine HTR.out.mono ?_
        rintro e u3 ⟨rfl, hf5⟩
        have hb5 := hf5.keep hb4 (fun h => h)
        have hr5 := hf5.keep hr4 (fun h => h)
        have hfu3 := hfw3.trans hf5
        have d0 : u3.cell? ⟨w.heap.size, 0, none⟩ = some (.bool false) := by simp [World.cell?, hr5]
        have d1 : u3.cell? ⟨w.heap.size, 1, none⟩ = some (.string ⟨#[]⟩) := by simp [World.cell?, hr5]
        have d2 : u3.cell? ⟨w.heap.size, 2, none⟩ = some (.int .i64 0) := by simp [World.cell?, hr5]
        have f0 : u3.frozen? ⟨w.heap.size, 0, none⟩ = false := by simp [World.frozen?, hr5]
        have f1 : u3.frozen? ⟨w.heap.size, 1, none⟩ = false := by simp [World.frozen?, hr5]
        have f2 : u3.frozen? ⟨w.heap.size, 2, none⟩ = false := by simp [World.frozen?, hr5]
        clear hb4 hr4
        cases hall : p.data.toList.all digitB
        · have htn : Lib.trimS p.data.toList digitSet.data.toList ≠ [] := fun h => by rw [trimS_nil, digitSet_all, hall] at h; cases h
          have s1 : ¬ (⟨(Lib.trimS p.data.toList digitSet.data.toList).toArray⟩ : ByteArray).toList = [] := by rw [ByteArray.toList_eq]; simpa using htn
          have s2 : (⟨(Lib.trimS p.data.toList digitSet.data.toList).toArray⟩ : ByteArray).toList.isEmpty = false := by simpa using s1
          have HP := Lib.hid (show placeV sec s.data.toList = .tuple #[.agg #[.bool false, .string ⟨#[]⟩, .int .i64 0], .bool false] by
            unfold placeV placeL
            rw [HCU.out]
            simp only [if_true]
            rw [if_pos (Or.inr (Or.inr (by rw [hall]; simp)))]
            rfl)
          have HR3 := Lib.hid hr5
          have HF3 := Lib.hid hfu3
          clear htn hall HTR
          generalize (⟨(Lib.trimS p.data.toList digitSet.data.toList).toArray⟩ : ByteArray) = z at *
          go_wp2_with fail
          refine bodyPost_ret (results_cell_tmp (by rfl) _ _ w.heap.size 49 #[.bool false, .string ⟨#[]⟩, .int .i64 0] (0, 0) _ rfl (put3 HR3.out) Tryz.underlying49 rfl (by kernel_rfl)) rfl ?_
          exact ⟨by rw [HP.out]; rfl, ((HF3.out.setNew (p := ⟨w.heap.size, 0, none⟩) (Nat.le_refl _) _).setNew (p := ⟨w.heap.size, 1, none⟩) (Nat.le_refl _) _).setNew (p := ⟨w.heap.size, 2, none⟩) (Nat.le_refl _) _⟩
        · have htn : Lib.trimS p.data.toList digitSet.data.toList = [] := by rw [trimS_nil, digitSet_all, hall]
          rw [htn]
          have hat := atoi_all hall hpne
          have HP := Lib.hid (show placeV sec s.data.toList = .tuple #[.agg #[.bool sec, .string lh, .int .i64 (decV p.data.toList)], .bool (rightO ⟨sec, lh, decV p.data.toList⟩)] by
            unfold placeV placeL
            rw [HCU.out]
            simp only [if_true]
            rw [if_neg (by rw [hall]; simp only [not_or]; exact ⟨hpne, by simpa using hp5, by simp⟩), HLH.out]
            rfl)
          have HAT := Lib.hid ((Tryz.strconv_Atoi p (decV p.data.toList) (by omega) hat u3).mono (R' := fun e w' => e = .returned (.tuple #[.int .i64 (decV p.data.toList), .nilIface]) ∧ Fr noB u3 w') fun e w' h => by
            obtain ⟨he, t, rfl⟩ := h
            exact ⟨he, Fr.of_below (Go.Joins.below_bytesWorld _ _ _ _ (Nat.le_refl _))⟩)
          clear htn hall HTR hat hpne
          generalize decV p.data.toList = dv at *
          go_wp2_with fail
          refine HAT.out.mono ?_
          rintro e u4 ⟨rfl, hf6⟩
          have hb6 := hf6.keep hb5 (fun h => h)
          have hr6 := hf6.keep hr5 (fun h => h)
          have hfu4 := hfu3.trans hf6
          clear d0 d1 d2 f0 f1 f2 hb5 hr5
          have q2 : u4.cell? ⟨u1.heap.size, 2, none⟩ = some (.int .i64 (portB sec)) := by simp [World.cell?, hb6]
          have q3 : u4.frozen? ⟨u1.heap.size, 2, none⟩ = false := by simp [World.frozen?, hb6]
          obtain ⟨w5, hw5⟩ : ∃ w5, w5 = u4.setCell ⟨u1.heap.size, 2, none⟩ (.int .i64 dv) := ⟨_, rfl⟩
          have hb7 : w5.heap[u1.heap.size]? = some (.cells #[.bool sec, .string lh, .int .i64 dv] 49 (0, 0)) := by rw [hw5]; simp [World.setCell, Array.getElem?_modify, hb6]
          have hr7 : w5.heap[w.heap.size]? = some (.cells #[.bool false, .string ⟨#[]⟩, .int .i64 0] 49 (0, 0)) := by rw [hw5]; exact (Below.heap_setCell _ _ _ _ (by simp; omega)).trans hr6
          have hfw5 : Fr noB w w5 := by rw [hw5]; exact hfu4.setNew (p := ⟨u1.heap.size, 2, none⟩) (by show w.heap.size ≤ u1.heap.size; omega) _
          have HW5 := Lib.hid hw5
          clear hw5 hb6 hr6
          go_wp2_with fail
          rw [← HW5.out]
          clear q2 q3
          have HS := Lib.hid (show ∀ U, Fr noB w5 U → (U.cell? ⟨u1.heap.size, 0, none⟩ = some (.bool sec) ∧ U.cell? ⟨u1.heap.size, 1, none⟩ = some (.string lh) ∧ U.cell? ⟨u1.heap.size, 2, none⟩ = some (.int .i64 dv)) ∧ (U.cell? ⟨w.heap.size, 0, none⟩ = some (.bool false) ∧ U.cell? ⟨w.heap.size, 1, none⟩ = some (.string ⟨#[]⟩) ∧ U.cell? ⟨w.heap.size, 2, none⟩ = some (.int .i64 0)) ∧ (U.frozen? ⟨w.heap.size, 0, none⟩ = false ∧ U.frozen? ⟨w.heap.size, 1, none⟩ = false ∧ U.frozen? ⟨w.heap.size, 2, none⟩ = false) from fun U hU => by
            have j1 := hU.keep hb7 (fun h => h)
            have j2 := hU.keep hr7 (fun h => h)
            simp [World.cell?, World.frozen?, j1, j2])
          have HRK := Lib.hid (show ∀ U, Fr noB w5 U → U.heap[w.heap.size]? = some (.cells #[.bool false, .string ⟨#[]⟩, .int .i64 0] 49 (0, 0)) from fun U hU => hU.keep hr7 (fun h => h))
          obtain ⟨⟨c0, c1, c2⟩, ⟨d0, d1, d2⟩, ⟨f0, f1, f2⟩⟩ := HS.out w5 (Fr.refl _ _)
          have RA := Lib.hid (fun U => Right_any ⟨sec, lh, dv⟩ U hlz)
          have HFW := Lib.hid (hfw5)
          clear hb7 hr7
          first | go_region_with (go_at_call 134; refine (RA.out _).mono ?_; rintro e v ⟨rfl, hv⟩; obtain ⟨⟨k0, k1, k2⟩, ⟨l0, l1, l2⟩, ⟨m0, m1, m2⟩⟩ := HS.out v (by repeat (first | exact Fr.refl _ _ | apply Fr.alloc | apply Fr.drew | refine Fr.trans ?_ (by assumption)))) | fail
          all_goals
            go_wp2_with fail
            have hvv : Fr noB w5 v := (by repeat (first | exact Fr.refl _ _ | apply Fr.alloc | apply Fr.drew | refine Fr.trans ?_ (by assumption)))
            refine bodyPost_ret (results_cell_tmp (by rfl) _ _ w.heap.size 49 #[.bool sec, .string lh, .int .i64 dv] (0, 0) _ rfl (put3 (HRK.out v hvv)) Tryz.underlying49 rfl (by kernel_rfl)) rfl ?_
            exact ⟨by rw [HP.out]; rfl, (((HFW.out.trans hvv).setNew (p := ⟨w.heap.size, 0, none⟩) (Nat.le_refl _) _).setNew (p := ⟨w.heap.size, 1, none⟩) (Nat.le_refl _) _).setNew (p := ⟨w.heap.size, 2, none⟩) (Nat.le_refl _) _⟩
  · have HP := Lib.hid (show placeV sec s.data.toList = .tuple #[.agg #[.bool sec, .string lo, .int .i64 (portB sec)], .bool (rightO ⟨sec, lo, portB sec⟩)] by
      unfold placeV placeL
      rw [cut_miss hix, hlo]
      rfl)
    have HCM := Lib.hid ((cut1_miss s 58 w2 hix).mono (R' := fun e w' => e = .returned (.tuple #[.string s, .string ⟨#[]⟩, .bool false]) ∧ w2 = w') fun e w' h => ⟨h.1, h.2.symm⟩)
    clear hix hlo
    go_wp2_with fail
    rw [← HW2.out]
    refine HCM.out.mono ?_
    rintro e x ⟨rfl, rfl⟩
    go_wp2_with fail
    have hfw := hfu.trans hf2
    generalize portB sec = pt at *
    have HS := Lib.hid (show ∀ U, Fr noB w2 U → (U.cell? ⟨u1.heap.size, 0, none⟩ = some (.bool sec) ∧ U.cell? ⟨u1.heap.size, 1, none⟩ = some (.string lo) ∧ U.cell? ⟨u1.heap.size, 2, none⟩ = some (.int .i64 pt)) ∧ (U.cell? ⟨w.heap.size, 0, none⟩ = some (.bool false) ∧ U.cell? ⟨w.heap.size, 1, none⟩ = some (.string ⟨#[]⟩) ∧ U.cell? ⟨w.heap.size, 2, none⟩ = some (.int .i64 0)) ∧ (U.frozen? ⟨w.heap.size, 0, none⟩ = false ∧ U.frozen? ⟨w.heap.size, 1, none⟩ = false ∧ U.frozen? ⟨w.heap.size, 2, none⟩ = false) from fun U hU => by
      have j1 := hU.keep hb2 (fun h => h)
      have j2 := hU.keep hr2 (fun h => h)
      simp [World.cell?, World.frozen?, j1, j2])
    have HRK := Lib.hid (show ∀ U, Fr noB w2 U → U.heap[w.heap.size]? = some (.cells #[.bool false, .string ⟨#[]⟩, .int .i64 0] 49 (0, 0)) from fun U hU => hU.keep hr2 (fun h => h))
    obtain ⟨⟨c0, c1, c2⟩, ⟨d0, d1, d2⟩, ⟨f0, f1, f2⟩⟩ := HS.out w2 (Fr.refl _ _)
    have RA := Lib.hid (fun U => Right_any ⟨sec, lo, pt⟩ U hlz)
    have HFW := Lib.hid (hfw)
    clear hb2 hr2
    first | go_region_with (go_at_call 134; refine (RA.out _).mono ?_; rintro e v ⟨rfl, hv⟩; obtain ⟨⟨k0, k1, k2⟩, ⟨l0, l1, l2⟩, ⟨m0, m1, m2⟩⟩ := HS.out v (by repeat (first | exact Fr.refl _ _ | apply Fr.alloc | apply Fr.drew | refine Fr.trans ?_ (by assumption)))) | fail
    all_goals
      go_wp2_with fail
      have hvv : Fr noB w2 v := (by repeat (first | exact Fr.refl _ _ | apply Fr.alloc | apply Fr.drew | refine Fr.trans ?_ (by assumption)))
      refine bodyPost_ret (results_cell_tmp (by rfl) _ _ w.heap.size 49 #[.bool sec, .string lo, .int .i64 pt] (0, 0) _ rfl (put3 (HRK.out v hvv)) Tryz.underlying49 rfl (by kernel_rfl)) rfl ?_
      exact ⟨by rw [HP.out]; rfl, (((HFW.out.trans hvv).setNew (p := ⟨w.heap.size, 0, none⟩) (Nat.le_refl _) _).setNew (p := ⟨w.heap.size, 1, none⟩) (Nat.le_refl _) _).setNew (p := ⟨w.heap.size, 2, none⟩) (Nat.le_refl _) _⟩
end Go.Proofs.YtkoobhgedoanhaaGreatDoor
