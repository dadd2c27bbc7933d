/- The law PlainCase: its walk. -/
import Derived.Test.YtghimbpihmehoaaDoorFew
import Derived.Test.YtghimbpihmehoaaDoorFetched
import Derived.Test.YtghimbpihmehoaaDoorCoded
import Derived.Deep.RegionWith
namespace Go.Proofs.YtghimbpihmehoaaDoor
open Go.RowKit

/-- one param in a new block -/
theorem prm_new (u : World) (name value : ByteArray) : PrmsAt (u.alloc (.cells #[.string name, .string value] 51)) (.slice (some ⟨u.heap.size, 0, none⟩) 1 1) [(name, value)] := by
  refine ⟨fun x hx => ?_, Or.inr ⟨u.heap.size, 0, 1, rfl, Nat.le_refl _, by decide, by simp, fun j x hj i v hi => ?_⟩⟩
  · simp at hx; subst hx; exact ⟨rfl, fun v hv => by simp [Prm.cells] at hv; rcases hv with rfl | rfl <;> rfl⟩
  · have hjl := (List.getElem?_eq_some_iff.1 hj).1
    simp at hjl
    subst hjl
    cases hj
    have hil := (List.getElem?_eq_some_iff.1 hi).1
    have hil : i < 2 := hil
    have hd : i = 0 ∨ i = 1 := by omega
    rcases hd with rfl | rfl <;> cases hi
    · exact World.cell?_alloc_mark u #[.string name, .string value] 51 (0, 0) 0
    · exact World.cell?_alloc_mark u #[.string name, .string value] 51 (0, 0) 1
theorem few_one {name value : ByteArray} (h : fewB [(name, value)] = true) : name.size + value.size ≤ 300 := by
  unfold fewB bigP at h
  simp at h
  omega
theorem lowA_size (s : ByteArray) : (lowA s).size = s.size := by
  show ((lowL s.data.toList).toArray).size = _
  simp [lowL]
set_option maxRecDepth 100000 in
set_option maxHeartbeats 8000000 in
theorem PlainCase_walk (name value : ByteArray) (w : World) (st : name.size ≤ reachBytes ∧ value.size ≤ reachBytes) :
    Calls Tryd.prog 9 #[.agg #[.string name, .string value]] w fun e w' => e = .returned (.bool true) ∧ Below w.heap.size w w' := by
  have er : reachBytes = 140737488351232 := rfl
  obtain ⟨z1, z2⟩ := st
  rw [er] at z1 z2
  have HFE := Lib.hid fetched_any
  obtain ⟨wb, hwb⟩ : ∃ wb, wb = w.alloc (.cells #[.string name, .string value] 51) := ⟨_, rfl⟩
  have hfb : Fr noB w wb := by rw [hwb]; exact (Fr.refl noB w).alloc _
  have hk1 : wb.heap[w.heap.size]? = some (.cells #[.string name, .string value] 51 (0, 0)) := by rw [hwb]; exact new_block _ _
  have HC := Lib.hid (show ∀ U, Fr noB wb U → U.cell? ⟨w.heap.size, 0, none⟩ = some (.string name) ∧ U.cell? ⟨w.heap.size, 1, none⟩ = some (.string value) from fun U hU => by
    have j1 := hU.keep hk1 (fun h => h)
    simp [World.cell?, j1])
  have HWB := Lib.hid hwb
  have HFB := Lib.hid hfb
  clear hwb hfb hk1
  have HSZ := Lib.hid (show fewB [(name, value)] = true → name.size + value.size ≤ 300 from few_one)
  have HPL := Lib.hid (plain_lower name value)
  have HLS := Lib.hid (lowA_size name)
  have HFOUR := Lib.hid (show plainB name value = true → Lib.containsS fourB (lowA name) = true from fun h => (Lib.containsS_iff _ _).2 (plain_four name value h))
  have HLOW := Lib.hid (show name.size + value.size ≤ 300 → ∀ U, Calls Tryd.prog 37 #[.string name] U fun e w' => e = .returned (.string (lowA name)) ∧ Fr noB U w' from fun hz U => Lower_any name U (by omega))
  have HP2 := Lib.hid (show name.size + value.size ≤ 300 → ∀ U, Calls Tryd.prog 38 #[.agg #[.string (lowA name), .string value]] U fun e w' => e = .returned (.bool (plainB name value)) ∧ Fr noB U w' from fun hz U => by
    have := Plain_any (lowA name) value U (by rw [lowA_size]; omega) (by omega)
    rw [show plainB (lowA name) value = plainB name value from plain_lower name value] at this
    exact this)
  have HP1 := Lib.hid (show name.size + value.size ≤ 300 → ∀ U, Calls Tryd.prog 38 #[.agg #[.string name, .string value]] U fun e w' => e = .returned (.bool (plainB name value)) ∧ Fr noB U w' from fun hz U => Plain_any name value U (by omega) (by omega))
  have HCON := Lib.hid (show ∀ (lo : ByteArray) (U : World) (g : Nat), U.heap[g]? = some (.cells (fourB.map Value.string).toArray 9 (0, 0)) → Lib.containsS fourB lo = true → Calls Tryd.prog 39 #[.slice (some ⟨g, 0, none⟩) 4 4, .string lo] U fun e w' => e = .returned (.bool true) ∧ U = w' from fun lo U g hg hb => by
    refine (Tryd.slices_Contains_string g 0 4 4 fourB lo U (Nat.le_of_ble_eq_true rfl) (Nat.le_of_ble_eq_true rfl) (fun j hj => ?_)).mono ?_
    · have e : (fourB.map Value.string)[j]? = some (.string (fourB.getD j ByteArray.empty)) := by rw [List.getElem?_map, List.getElem?_eq_getElem hj, List.getD_eq_getElem?_getD, List.getElem?_eq_getElem hj]; rfl
      rw [Nat.zero_add]
      simp only [World.cell?, hg]
      simpa using e
    · rintro e w' ⟨rfl, rfl⟩
      exact ⟨by rw [show fourB.take 4 = fourB from rfl, hb], rfl⟩)
  generalize hlo : lowA name = lo at *
  have HLO := Lib.hid hlo
  clear hlo
  generalize hpb : plainB name value = pb at *
  have HPB := Lib.hid hpb
  clear hpb
  go_enter Tryd.func9, Tryd.ntmps9
  go_wp2_with fail
  rw [← HWB.out]
  refine (HFE.out wb).mono ?_
  rintro e u1 ⟨rfl, hf1⟩
  go_wp2_with fail
  refine (coded_any u1).mono ?_
  rintro e u2 ⟨rfl, hf2⟩
  have HF2 := Lib.hid (hf1.trans hf2)
  clear hf1 hf2
  obtain ⟨c0, c1⟩ := HC.out u2 HF2.out
  go_wp2_with fail
  refine (few_any _ [(name, value)] _ (prm_new u2 name value) (by simp) (fun p hp => by simp at hp; subst hp; exact ⟨z1, z2⟩)).mono ?_
  rintro e u3 ⟨rfl, hf3⟩
  have HF3 := Lib.hid ((HF2.out.alloc _).trans hf3)
  clear hf3 c0 c1
  obtain ⟨c0, c1⟩ := HC.out u3 HF3.out
  cases hfew : fewB [(name, value)]
  · go_wp2
    go_ret
    exact ⟨rfl, (HFB.out.trans HF3.out).none_below⟩
  · have hz := HSZ.out hfew
    have P1 := Lib.hid (HP1.out hz)
    have P2 := Lib.hid (HP2.out hz)
    clear hfew
    have LOW := Lib.hid (HLOW.out hz)
    obtain ⟨k0, k1⟩ := HC.out (u3.alloc (.cells #[.string name, .string value] 51)) (HF3.out.alloc _)
    go_wp2_with fail
    refine (LOW.out _).mono ?_
    rintro e u4 ⟨rfl, hf4⟩
    have hq := hf4.keep (new_block u3 (.cells #[.string name, .string value] 51)) (fun h => h)
    have q0 : u4.cell? ⟨u3.heap.size, 0, none⟩ = some (.string name) := by simp [World.cell?, hq]
    have q1 : u4.frozen? ⟨u3.heap.size, 0, none⟩ = false := by simp [World.frozen?, hq]
    obtain ⟨W5, hW5⟩ : ∃ W5, W5 = u4.setCell ⟨u3.heap.size, 0, none⟩ (.string lo) := ⟨_, rfl⟩
    have hq5 : W5.heap[u3.heap.size]? = some (.cells #[.string lo, .string value] 51 (0, 0)) := by rw [hW5]; simp [World.setCell, Array.getElem?_modify, hq]
    have HF5 := Lib.hid (show Fr noB wb W5 by rw [hW5]; exact ((HF3.out.alloc _).trans hf4).setNew (p := ⟨u3.heap.size, 0, none⟩) HF3.out.size _)
    have HH := Lib.hid (show ∀ U, Fr noB W5 U → (U.cell? ⟨w.heap.size, 0, none⟩ = some (.string name) ∧ U.cell? ⟨w.heap.size, 1, none⟩ = some (.string value)) ∧ U.cell? ⟨u3.heap.size, 0, none⟩ = some (.string lo) ∧ U.cell? ⟨u3.heap.size, 1, none⟩ = some (.string value) from fun U hU => by
      have j1 := hU.keep hq5 (fun h => h)
      exact ⟨HC.out U (HF5.out.trans hU), by simp [World.cell?, j1], by simp [World.cell?, j1]⟩)
    have HW5 := Lib.hid hW5
    have HOUT := Lib.hid (HFB.out.trans HF5.out)
    clear hW5 hq hf4 hq5 k0 k1 c0 c1
    go_wp2_with fail
    rw [← HW5.out]
    clear q0 q1
    obtain ⟨⟨c0, c1⟩, c2, c3⟩ := HH.out W5 (Fr.refl _ _)
    cases pb
    · first | go_region_with (first | (go_at_call 38; (with_reducible refine (P1.out _).mono ?_); rintro e w6 ⟨rfl, hf6⟩; obtain ⟨⟨k0, k1⟩, k2, k3⟩ := HH.out w6 (by repeat (first | exact Fr.refl _ _ | apply Fr.alloc | apply Fr.drew | refine Fr.trans ?_ (by assumption)))) | (go_at_call 38; (with_reducible refine (P2.out _).mono ?_); rintro e w6 ⟨rfl, hf6⟩; obtain ⟨⟨k0, k1⟩, k2, k3⟩ := HH.out w6 (by repeat (first | exact Fr.refl _ _ | apply Fr.alloc | apply Fr.drew | refine Fr.trans ?_ (by assumption))))) | fail
      all_goals
        go_wp2
        go_ret
        exact ⟨rfl, (HOUT.out.trans (by repeat (first | exact Fr.refl _ _ | apply Fr.alloc | apply Fr.drew | refine Fr.trans ?_ (by assumption)))).none_below⟩
    · have hfb := HFOUR.out rfl
      first | go_region_with (first | (go_at_call 38; (with_reducible refine (P1.out _).mono ?_); rintro e w6 ⟨rfl, hf6⟩; obtain ⟨⟨k0, k1⟩, k2, k3⟩ := HH.out w6 (by repeat (first | exact Fr.refl _ _ | apply Fr.alloc | apply Fr.drew | refine Fr.trans ?_ (by assumption))); obtain ⟨_, k4, _⟩ := HH.out (w6.alloc (.cells #[.string ⟨#[97, 99, 99, 101, 112, 116]⟩, .string ⟨#[97, 99, 99, 101, 112, 116, 45, 108, 97, 110, 103, 117, 97, 103, 101]⟩, .string ⟨#[99, 111, 110, 116, 101, 110, 116, 45, 108, 97, 110, 103, 117, 97, 103, 101]⟩, .string ⟨#[99, 111, 110, 116, 101, 110, 116, 45, 116, 121, 112, 101]⟩] 9)) (by repeat (first | exact Fr.refl _ _ | apply Fr.alloc | apply Fr.drew | refine Fr.trans ?_ (by assumption)))) | (go_at_call 38; (with_reducible refine (P2.out _).mono ?_); rintro e w6 ⟨rfl, hf6⟩; obtain ⟨⟨k0, k1⟩, k2, k3⟩ := HH.out w6 (by repeat (first | exact Fr.refl _ _ | apply Fr.alloc | apply Fr.drew | refine Fr.trans ?_ (by assumption))); obtain ⟨_, k4, _⟩ := HH.out (w6.alloc (.cells #[.string ⟨#[97, 99, 99, 101, 112, 116]⟩, .string ⟨#[97, 99, 99, 101, 112, 116, 45, 108, 97, 110, 103, 117, 97, 103, 101]⟩, .string ⟨#[99, 111, 110, 116, 101, 110, 116, 45, 108, 97, 110, 103, 117, 97, 103, 101]⟩, .string ⟨#[99, 111, 110, 116, 101, 110, 116, 45, 116, 121, 112, 101]⟩] 9)) (by repeat (first | exact Fr.refl _ _ | apply Fr.alloc | apply Fr.drew | refine Fr.trans ?_ (by assumption)))) | (go_at_call 39; refine (HCON.out lo _ _ (by first | exact new_block _ _ | (apply Eq.trans; rfl; exact new_block _ _)) hfb).mono ?_; rintro e w8 ⟨rfl, rfl⟩)) | fail
      all_goals
        go_wp2
        go_ret
        exact ⟨rfl, (HOUT.out.trans (by repeat (first | exact Fr.refl _ _ | apply Fr.alloc | apply Fr.drew | refine Fr.trans ?_ (by assumption)))).none_below⟩
end Go.Proofs.YtghimbpihmehoaaDoor
