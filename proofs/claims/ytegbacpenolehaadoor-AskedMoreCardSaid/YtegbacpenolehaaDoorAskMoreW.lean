/- The law AskedMore: its walk. -/
import Derived.Test.YtegbacpenolehaaDoorAskOrd0
import Derived.Deep.RegionLaw
import Derived.Deep.AppendLies
namespace Go.Proofs.YtegbacpenolehaaDoor
open Go.RowKit
theorem ContainsS_at {w : World} {v : Value} {ss : List ByteArray} (x : ByteArray) (h : StrsAt w v ss) (hl : ss.length ≤ 1000000) :
    Calls Tryd.prog 70 #[v, .string x] w fun e w' => e = .returned (.bool (Lib.containsS ss x)) ∧ Fr noB w w' := by
  rcases h with ⟨a, c, rfl, rfl, _⟩ | ⟨bk, o, c, rfl, h1, h2, h3, h4⟩
  · refine (Tryd.slices_Contains_string_empty a c x w).mono ?_
    rintro e w' ⟨rfl, rfl⟩
    exact ⟨rfl, Fr.refl _ _⟩
  · refine (Tryd.slices_Contains_string bk o ss.length c ss x w (Nat.le_refl _) (by omega) (fun j hj => h4 j _ (by simp [List.getD, hj]))).mono ?_
    rintro e w' ⟨rfl, rfl⟩
    rw [List.take_length]
    exact ⟨rfl, Fr.refl _ _⟩
def MrRel (w : World) (n : Nat) (t : Value) (wr : World) : Prop := ∃ k : Nat, k ≤ n ∧ t = .int .i64 k ∧ Fr noB w wr
set_option maxRecDepth 100000 in
set_option maxHeartbeats 8000000 in
theorem AskedMore_walk (v : Value) (ps : List Prm) (name value : ByteArray) (w : World) (st : PrmsAt w v ps ∧ ps.length * 32 ≤ reachBytes ∧ ∀ p ∈ ps, p.1.size ≤ reachBytes ∧ p.2.size ≤ reachBytes) (st1 : name.size ≤ reachBytes ∧ value.size ≤ reachBytes) :
    Calls Tryd.prog 12 #[v, .agg #[.string name, .string value]] w fun e w' => e = .returned (.bool true) ∧ Below w.heap.size w w' := by
  have er : reachBytes = 140737488351232 := rfl
  obtain ⟨hx, hl, hz⟩ := st
  obtain ⟨z1, z2⟩ := st1
  rw [er] at hl hz z1 z2
  obtain ⟨av, cv, hform⟩ := hx.form
  rw [List.length_map] at hform
  subst hform
  have HZ := Lib.hid hz
  clear hz
  obtain ⟨wb, hwb⟩ : ∃ wb, wb = w.alloc (.cells #[.string name, .string value] 103) := ⟨_, rfl⟩
  have hfb : Fr noB w wb := by rw [hwb]; exact (Fr.refl noB w).alloc _
  have hk1 : wb.heap[w.heap.size]? = some (.cells #[.string name, .string value] 103 (0, 0)) := by rw [hwb]; exact new_block _ _
  have HC := Lib.hid (show ∀ U, Fr noB wb U → U.cell? ⟨w.heap.size, 0, none⟩ = some (.string name) ∧ U.cell? ⟨w.heap.size, 1, none⟩ = some (.string value) from fun U hU => by
    have j1 := hU.keep hk1 (fun h => h)
    simp [World.cell?, j1])
  have HWB := Lib.hid hwb
  have HFB := Lib.hid hfb
  clear hwb hfb hk1
  go_enter Tryd.func12, Tryd.ntmps12
  go_wp2_with fail
  rw [← HWB.out]
  refine (fetched_any wb).mono ?_
  rintro e w1 ⟨rfl, hf1⟩
  go_wp2_with fail
  refine (coded_any w1).mono ?_
  rintro e w2 ⟨rfl, hf2⟩
  have HF2 := Lib.hid (hf1.trans hf2)
  clear hf1 hf2
  go_wp2_with fail
  refine (few_any _ ps w2 (RowsAt.frNone (RowsAt.frNone hx HFB.out) HF2.out) (by omega) HZ.out).mono ?_
  rintro e w3 ⟨rfl, hf3⟩
  have HF3 := Lib.hid (HF2.out.trans hf3)
  clear hf3
  cases hfew : fewB ps with
  | false =>
    go_wp2
    go_ret
    exact ⟨rfl, (HFB.out.trans HF3.out).none_below⟩
  | true =>
    obtain ⟨h40, hsz⟩ := fewB_len hfew
    have HS := Lib.hid hsz
    clear hsz hfew
    obtain ⟨c0, c1⟩ := HC.out w3 HF3.out
    go_wp2_with fail
    refine (few_any _ [(name, value)] _ (prm_new w3 name value) (by simp) (fun p hp => by simp at hp; subst hp; exact ⟨z1, z2⟩)).mono ?_
    rintro e w4 ⟨rfl, hf4⟩
    have HF4 := Lib.hid ((HF3.out.alloc _).trans hf4)
    clear hf4 c0 c1
    cases hfew1 : fewB [(name, value)] with
    | false =>
      go_wp2
      go_ret
      exact ⟨rfl, (HFB.out.trans HF4.out).none_below⟩
    | true =>
      have hnv := few_one hfew1
      obtain ⟨c0, c1⟩ := HC.out w4 HF4.out
      go_wp2_with fail
      refine (Asked_any ps _ w4 (RowsAt.frNone (RowsAt.frNone hx HFB.out) HF4.out) (by omega) HS.out).mono ?_
      rintro e w5 ⟨u, rfl, hu5, hf5⟩
      have HF5 := Lib.hid (HF4.out.trans hf5)
      have HU5 := Lib.hid hu5.at
      have HX5 := Lib.hid (RowsAt.frNone (RowsAt.frNone hx HFB.out) HF5.out)
      have HCC := Lib.hid (show ∀ U, Fr noB w5 U → U.cell? ⟨w.heap.size, 0, none⟩ = some (.string name) ∧ U.cell? ⟨w.heap.size, 1, none⟩ = some (.string value) from fun U hU => HC.out U (HF5.out.trans hU))
      have HCL := Lib.hid (show ∀ U, Fr noB w5 U → Calls Tryd.prog 66 #[.slice av ps.length cv] U fun e w' => ∃ v', e = .returned v' ∧ OwnRows w5.heap.size 103 2 w' v' (ps.map Prm.cells) ∧ Fr noB U w' from fun U hU => by
        refine (Clone_P _ (ps.map Prm.cells) U (RowsAt.frNone HX5.out hU) (by rw [List.length_map]; omega)).mono ?_
        rintro e w' ⟨v', rfl, h1, h2⟩
        exact ⟨v', rfl, h1.up hU.size, h2⟩)
      have HAS := Lib.hid (show ∀ (U : World) (b : Value), OwnRows w5.heap.size 103 2 U b ((ps ++ [(name, value)]).map Prm.cells) → Calls Tryd.prog 55 #[b] U fun e w' => ∃ u, e = .returned u ∧ StrsAt w' u (askedB (ps ++ [(name, value)])) ∧ Fr noB U w' from fun U b hb => by
        refine (Asked_any (ps ++ [(name, value)]) b U hb.at (by simp; omega) (fun p hp => by
          rcases List.mem_append.1 hp with g | g
          · exact HS.out p g
          · simp at g; subst g; exact ⟨by show name.size < _; omega, by show value.size < _; omega⟩)).mono ?_
        rintro e w' ⟨u, rfl, h1, h2⟩
        exact ⟨u, rfl, h1.at, h2⟩)
      obtain ⟨i0, hi0, hz0, hz1, hz2⟩ := info_parts info_Px
      clear hf5 hu5 c0 c1
      obtain ⟨au, cu, rfl⟩ := HU5.out.form
      have HLE := Lib.hid (askedB_len ps)
      have HLE2 := Lib.hid (askedB_len (ps ++ [(name, value)]))
      have HMORE := Lib.hid (askedB_more ps (name, value))
      obtain ⟨c0, c1⟩ := HCC.out w5 (Fr.refl _ _)
      have hzl : (ps.map Prm.cells).length = ps.length := List.length_map _
      go_wp2_with fail
      have HALL := Lib.hid (show ∀ x ∈ (ps ++ [(name, value)]).map Prm.cells, x.length = 2 ∧ ∀ u ∈ x, u.oneCell' = true from fun x hx => by
        obtain ⟨p, _, rfl⟩ := List.mem_map.1 hx
        exact ⟨rfl, fun u hu => by simp [Prm.cells] at hu; rcases hu with rfl | rfl <;> rfl⟩)
      have HE1 := Lib.hid (show ((ps ++ [(name, value)]).map Prm.cells).length = (ps.map Prm.cells).length + 1 by simp)
      have HE2 := Lib.hid (show ((ps ++ [(name, value)]).map Prm.cells).flatten = (ps.map Prm.cells).flatten ++ [.string name, .string value] by simp [Prm.cells])
      go_region_law (first
        | ((with_reducible refine step_at ⟨some 27, _, _, _, _, _⟩ ?_)
           refine step_call rfl 66 _ (by go_simp) (HCL.out _ (by repeat (first | exact Fr.refl _ _ | apply Fr.alloc | apply Fr.drew))) ?_
           rintro e w6 ⟨v6, rfl, ho6, hf6⟩
           refine ⟨_, rfl, ?_⟩
           have HF56 : Fr noB w5 w6 := Fr.trans (by repeat (first | exact Fr.refl _ _ | apply Fr.alloc | apply Fr.drew)) hf6
           obtain ⟨k0, k1⟩ := HCC.out w6 HF56)
        | ((with_reducible refine step_at ⟨some 30, _, _, _, _, _⟩ ?_)
           refine step_append_lies _ (by rfl) _ _ _ (by rfl) w5.heap.size 103 i0 _ 2 32 Tryd.underlying59 hi0 hz0 hz1 hz2 rfl (by decide) v6 (ps.map Prm.cells).length _ (by rfl) (by first | exact ho6.2 | exact World.ownsRow.alloc ho6.2 _) _ 1 1 [.string name, .string value] (by rfl) (by rfl) (by first | exact new_cells w6 [.string name, .string value] _ | exact fun j u hj => (hf6.cell (World.block_lt_of_cell? _ _ (new_cells _ [.string name, .string value] _ j u hj)) (fun h => h)).trans (new_cells _ [.string name, .string value] _ j u hj)) (fun u hu => by simp at hu; rcases hu with rfl | rfl <;> rfl) (by decide) (by unfold maxLen; omega) (by omega) (by first | exact HF56.size | (have := HF56.size; simp; omega)) _ rfl ?_
           intro gg cap w7 hown7 hgrow hat hlt
           have HF57 : Fr noB w5 w7 := by first | exact HF56.grownNew hgrow ho6.block | exact (HF56.alloc _).grownNew hgrow ho6.block
           have ho7 : OwnRows w5.heap.size 103 2 w7 (.slice (some ⟨gg, 0, none⟩) ((ps.map Prm.cells).length + 1) cap) ((ps ++ [(name, value)]).map Prm.cells) := ⟨HALL.out, by rw [HE1.out, HE2.out]; exact hown7⟩)
        | ((with_reducible refine step_at ⟨some 31, _, _, _, _, _⟩ ?_)
           refine step_call rfl 55 _ (by go_simp) (HAS.out _ _ ho7) ?_
           rintro e w8 ⟨u8, rfl, hu8, hf8⟩
           refine ⟨_, rfl, ?_⟩))
      all_goals
        have HF8 := Lib.hid (HF57.trans hf8)
        have HU8 := Lib.hid hu8
        have H5 := Lib.hid (HU5.out.frNone HF8.out)
        obtain ⟨a8, c8, rfl⟩ := hu8.form
        have hle : (askedB ps).length ≤ 80 := by have := HLE.out; omega
        have hle2 : (askedB (ps ++ [(name, value)])).length ≤ 82 := by have := HLE2.out; rw [List.length_append] at this; simp at this; omega
        have CON := Lib.hid (show ∀ x, x ∈ askedB (ps ++ [(name, value)]) → ∀ U, Fr noB w8 U → Calls Tryd.prog 70 #[.slice a8 (askedB (ps ++ [(name, value)])).length c8, .string x] U fun e w' => e = .returned (.bool true) ∧ Fr noB U w' from fun x hx U hU => by
          refine (ContainsS_at x (HU8.out.frNone hU) (by omega)).mono ?_
          rintro e w' ⟨rfl, hf⟩
          exact ⟨by rw [(Lib.containsS_iff _ _).2 hx], hf⟩)
        have HFA := Lib.hid (HFB.out.trans (HF5.out.trans HF8.out))
        have HCC8 := Lib.hid (show ∀ U, Fr noB w8 U → U.cell? ⟨w.heap.size, 0, none⟩ = some (.string name) ∧ U.cell? ⟨w.heap.size, 1, none⟩ = some (.string value) from fun U hU => HCC.out U (HF8.out.trans hU))
        clear hf8 hu8 HF57 HF56 k0 k1 c0 c1 hf6 ho6 ho7 hgrow hat hlt hown7
        generalize hb8 : (askedB (ps ++ [(name, value)])).length = n8 at *
        clear hb8
        obtain ⟨zs, hzs⟩ : ∃ zs, zs = askedB ps := ⟨_, rfl⟩
        have HIN := Lib.hid (show ∀ x ∈ zs, x ∈ askedB (ps ++ [(name, value)]) from fun x hx => HMORE.out.1 x (by rw [← hzs]; exact hx))
        rw [← hzs] at H5 hle ⊢
        clear hzs
        go_wp2
        go_loopw [34] (MrRel w8 zs.length) (fun t _ => zs.length - (intOf t).toNat)
        case atStart => exact ⟨0, Nat.zero_le _, rfl, Fr.refl _ _⟩
        case round =>
          obtain ⟨k, hk, rfl, hfr⟩ := hrel
          by_cases hks : k < zs.length
          · have hki : (k : Int) < (zs.length : Int) := by omega
            have hat := Lib.hid (List.getElem?_eq_getElem hks)
            have hxi := HIN.out _ (List.getElem_mem hks)
            generalize zs[k] = x at hat hxi
            obtain ⟨bk, of, rfl, g1, g2, d0⟩ := (H5.out.frNone hfr).cell hat.out
            unfold maxLen at g2
            have CX := Lib.hid (CON.out x hxi wr hfr)
            have HFR := Lib.hid hfr
            clear hxi hfr
            go_wp2_with fail
            refine CX.out.mono ?_
            rintro e w9 ⟨rfl, hf9⟩
            have HF9 := Lib.hid (HFR.out.trans hf9)
            go_wp2
            go_roundw
            case rel => exact ⟨k + 1, by omega, by go_num, HF9.out⟩
            case measure => simp [intOf]; omega
          · have hki : ¬ (k : Int) < (zs.length : Int) := by omega
            obtain ⟨c0, c1⟩ := HCC8.out wr hfr
            have HFR := Lib.hid hfr
            clear hfr
            go_wp2_with fail
            refine (Plain_any name value wr (by omega) (by omega)).mono ?_
            rintro e w9 ⟨rfl, hf9⟩
            have HF9 := Lib.hid (HFR.out.trans hf9)
            clear c0 c1 hf9
            cases hpl : plainB name value with
            | true =>
              go_wp2
              go_ret
              exact ⟨rfl, (HFA.out.trans HF9.out).none_below⟩
            | false =>
              have hin := HMORE.out.2 hpl
              obtain ⟨c0, c1⟩ := HCC8.out w9 HF9.out
              go_wp2_with fail
              refine (Lower_any name w9 (by omega)).mono ?_
              rintro e w10 ⟨rfl, hf10⟩
              have HF10 := Lib.hid (HF9.out.trans hf10)
              clear hf10 c0 c1
              go_wp2_with fail
              refine (CON.out (lowA name) hin w10 HF10.out).mono ?_
              rintro e w11 ⟨rfl, hf11⟩
              go_wp2
              go_ret
              exact ⟨rfl, (HFA.out.trans (HF10.out.trans hf11)).none_below⟩
end Go.Proofs.YtegbacpenolehaaDoor
