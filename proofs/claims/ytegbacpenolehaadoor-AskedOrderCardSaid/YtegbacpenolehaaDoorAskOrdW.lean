/- The law AskedOrder: its walk. -/
import Derived.Test.YtegbacpenolehaaDoorAskOrd0
namespace Go.Proofs.YtegbacpenolehaaDoor
open Go.RowKit
set_option linter.unusedSimpArgs false in
set_option maxRecDepth 100000 in
set_option maxHeartbeats 8000000 in
theorem AskedOrder_walk (v : Value) (ps : List Prm) (w : World) (st : PrmsAt w v ps ∧ ps.length * 32 ≤ reachBytes ∧ ∀ p ∈ ps, p.1.size ≤ reachBytes ∧ p.2.size ≤ reachBytes) :
    Calls Tryd.prog 13 #[v] w fun e w' => e = .returned (.bool true) ∧ Below w.heap.size w w' := by
  have er : reachBytes = 140737488351232 := rfl
  obtain ⟨hx, hl, hz⟩ := st
  rw [er] at hl hz
  obtain ⟨av, cv, hform⟩ := hx.form
  rw [List.length_map] at hform
  subst hform
  have HZ := Lib.hid hz
  clear hz
  go_enter Tryd.func13, Tryd.ntmps13
  go_wp2_with fail
  refine (fetched_any w).mono ?_
  rintro e w1 ⟨rfl, hf1⟩
  go_wp2_with fail
  refine (coded_any w1).mono ?_
  rintro e w2 ⟨rfl, hf2⟩
  have HF2 := Lib.hid (hf1.trans hf2)
  clear hf1 hf2
  go_wp2_with fail
  refine (few_any _ ps w2 (RowsAt.frNone hx HF2.out) (by omega) HZ.out).mono ?_
  rintro e w3 ⟨rfl, hf3⟩
  have HF3 := Lib.hid (HF2.out.trans hf3)
  clear hf3
  cases hfew : fewB ps with
  | false =>
    go_wp2
    go_ret
    exact ⟨rfl, HF3.out.none_below⟩
  | true =>
    obtain ⟨h40, hsz⟩ := fewB_len hfew
    have HS := Lib.hid hsz
    have HSR := Lib.hid (show ∀ p ∈ ps.reverse, p.1.size < 100000 ∧ p.2.size < 100000 from fun p hp => hsz p (by simpa using hp))
    clear hsz hfew
    go_wp2_with fail
    refine (Asked_any ps _ w3 (RowsAt.frNone hx HF3.out) (by omega) HS.out).mono ?_
    rintro e w4 ⟨u, rfl, hu4, hf4⟩
    have HF4 := Lib.hid (HF3.out.trans hf4)
    clear hf4
    go_wp2_with fail
    refine (CloneRev_P _ (ps.map Prm.cells) w4 (RowsAt.frNone hx HF4.out) (by rw [List.length_map]; omega)).mono ?_
    rintro e w5 ⟨m, rfl, hm5, hf5, hrev⟩
    obtain ⟨am, cm, hmf⟩ := hm5.form
    subst hmf
    rw [List.length_map] at hrev
    go_wp2_with fail
    refine hrev.mono ?_
    rintro e w6 ⟨rfl, hm6, hf6⟩
    have HM6 := Lib.hid (show PrmsAt w6 (.slice am ps.length cm) ps.reverse by unfold PrmsAt; rw [List.map_reverse]; exact hm6)
    have HU6 := Lib.hid (hu4.at.frNone hf6)
    have HF6 := Lib.hid (HF4.out.trans hf6)
    clear hm5 hm6 hrev hf5 hf6 hu4
    have HLE := Lib.hid (askedB_len ps)
    have HEQ := Lib.hid (askedB_rev ps)
    obtain ⟨zs, hzs⟩ : ∃ zs, zs = askedB ps := ⟨_, rfl⟩
    have HLOW := Lib.hid (show ∀ x ∈ zs, lowA x = x ∧ x.size < 100000 from fun x hx => by
      rw [hzs] at hx
      obtain ⟨h1, p, hp, e⟩ := askedB_low hx
      exact ⟨h1, by rw [e]; exact (HS.out p hp).1⟩)
    have HRISE := Lib.hid (show ∀ i x y, zs[i]? = some x → zs[i + 1]? = some y → x.data.toList < y.data.toList from fun i x y h1 h2 => askedB_rises ps i x y (by rw [← hzs]; exact h1) (by rw [← hzs]; exact h2))
    rw [← hzs] at HU6 HLE HEQ
    have ASK := Lib.hid (show ∀ U, Fr noB w6 U → Calls Tryd.prog 55 #[.slice am ps.length cm] U fun e w' => ∃ u, e = .returned u ∧ StrsAt w' u zs ∧ Fr noB U w' from fun U hU => by
      refine (Asked_any ps.reverse _ U (RowsAt.frNone HM6.out hU) (by rw [List.length_reverse]; omega) HSR.out).mono ?_
      rintro e w' ⟨u, rfl, h1, h2⟩
      rw [HEQ.out] at h1
      exact ⟨u, rfl, h1.at, h2⟩)
    obtain ⟨au, cu, huf⟩ := HU6.out.form
    subst huf
    clear hzs
    go_wp2
    go_loopw [5] (OrRel w6 zs.length) (fun t _ => zs.length - (intOf t).toNat)
    case atStart => exact ⟨0, Nat.zero_le _, rfl, Fr.refl _ _⟩
    case round =>
      obtain ⟨k, hk, rfl, hfr⟩ := hrel
      by_cases hks : k < zs.length
      case neg =>
        have hki : ¬ (k : Int) < (zs.length : Int) := by omega
        have HFX := Lib.hid (HF6.out.trans hfr)
        go_wp2_with fail
        refine (ASK.out wr hfr).mono ?_
        rintro e w7 ⟨u7, rfl, hu7, hf7⟩
        have HF7 := Lib.hid (HFX.out.trans hf7)
        have hu6 := HU6.out.frNone (hfr.trans hf7)
        clear hf7 hfr
        go_wp2_with fail
        refine (EqualS_any _ _ zs zs w7 hu7 hu6 (by have := HLE.out; unfold maxLen; omega)).mono ?_
        rintro e w8 ⟨rfl, q, rfl⟩
        rw [decide_eq_true (rfl : zs = zs)]
        go_wp2
        go_ret
        exact ⟨rfl, (HF7.out.drewN q).none_below⟩
      case pos =>
        have hki : (k : Int) < (zs.length : Int) := by omega
        have hki0 : (0 : Int) ≤ (k : Int) := by omega
        have hat := Lib.hid (List.getElem?_eq_getElem hks)
        have HX := Lib.hid (HLOW.out _ (List.getElem_mem hks))
        generalize zs[k] = x at hat HX
        have LOW := Lib.hid (show ∀ U, Calls Tryd.prog 65 #[.string x] U fun e w' => e = .returned (.string x) ∧ Fr noB U w' from fun U => by
          have := Lower_any x U (by have := HX.out.2; omega)
          rw [show (⟨(lowL x.data.toList).toArray⟩ : ByteArray) = x from HX.out.1] at this
          exact this)
        obtain ⟨bk, of, rfl, g1, g2, c0⟩ := (HU6.out.frNone hfr).cell hat.out
        have HC := Lib.hid (show ∀ U, Fr noB wr U → U.cell? ⟨bk, of + k, none⟩ = some (.string x) from fun U hU => (hU.cell (p := ⟨bk, of + k, none⟩) (World.block_lt_of_cell? _ _ c0) (fun h => h)).trans c0)
        unfold maxLen at g2
        by_cases hk0 : k = 0
        · subst hk0
          have HC0 := Lib.hid (show ∀ U, Fr noB wr U → U.cell? ⟨bk, of, none⟩ = some (.string x) from fun U hU => HC.out U hU)
          have c00 := HC0.out wr (Fr.refl _ _)
          clear c0
          go_wp2_with fail
          refine wp_region_held_drew (S := fun U => U.cell? ⟨bk, of, none⟩ = some (.string x)) (by kernel_rfl) (HC0.out _ (Fr.refl noB wr).drew) ?_
          intro hS0
          refine wpAnyH_take (i := 0) (oi := ⟨some 27, _, _, _, _, _⟩) (v := ?_) rfl (by kernel_rfl) (by kernel_rfl) (by kernel_rfl) (fun _ _ _ h => h) (Or.inl ⟨by rfl, ?hy⟩) (by assumption) ?_
          case hy => (intro w hSw; (try dsimp only at hSw); go_simp <;> with_reducible rfl)
          try simp only [Act.put, List.setIfInBounds_toArray, List.set_cons_zero, List.set_cons_succ]
          refine wpAnyH_take (i := 1) (oi := ⟨some 28, _, _, _, _, _⟩) (v := ?_) rfl (by kernel_rfl) (by kernel_rfl) (by kernel_rfl) (fun _ _ _ h => h) (Or.inl ⟨by rfl, ?hy⟩) (by assumption) ?_
          case hy => (intro w hSw; (try dsimp only at hSw); go_simp <;> with_reducible rfl)
          try simp only [Act.put, List.setIfInBounds_toArray, List.set_cons_zero, List.set_cons_succ]
          refine wpAnyH_take (i := 2) (oi := ⟨some 29, _, _, _, _, _⟩) (v := ?_) rfl (by kernel_rfl) (by kernel_rfl) (by kernel_rfl) (fun _ _ _ h => h) (Or.inl ⟨by rfl, ?hy⟩) (by assumption) ?_
          case hy => (intro w hSw; (try dsimp only at hSw); go_simp <;> with_reducible rfl)
          try simp only [Act.put, List.setIfInBounds_toArray, List.set_cons_zero, List.set_cons_succ]
          refine wpAnyH_take (i := 3) (oi := ⟨some 30, _, _, _, _, _⟩) (v := ?_) rfl (by kernel_rfl) (by kernel_rfl) (by kernel_rfl) (fun _ _ _ h => h) (Or.inl ⟨by rfl, ?hy⟩) (by assumption) ?_
          case hy => (intro w hSw; (try dsimp only at hSw); go_simp <;> with_reducible rfl)
          try simp only [Act.put, List.setIfInBounds_toArray, List.set_cons_zero, List.set_cons_succ]
          refine wpAnyH_take (i := 5) (oi := ⟨some 32, _, _, _, _, _⟩) (v := ?_) rfl (by kernel_rfl) (by kernel_rfl) (by kernel_rfl) (fun _ _ _ h => h) (Or.inl ⟨by rfl, ?hy⟩) (by assumption) ?_
          case hy => (intro w hSw; (try dsimp only at hSw); go_simp <;> with_reducible rfl)
          try simp only [Act.put, List.setIfInBounds_toArray, List.set_cons_zero, List.set_cons_succ]
          refine wpAnyH_take (i := 6) (oi := ⟨some 33, _, _, _, _, _⟩) (v := ?_) rfl (by kernel_rfl) (by kernel_rfl) (by kernel_rfl) (fun _ _ _ h => h) (Or.inl ⟨by rfl, ?hy⟩) (by assumption) ?_
          case hy => (intro w hSw; (try dsimp only at hSw); go_simp <;> with_reducible rfl)
          try simp only [Act.put, List.setIfInBounds_toArray, List.set_cons_zero, List.set_cons_succ]
          refine wpAnyH_take (i := 7) (oi := ⟨some 34, _, _, _, _, _⟩) (v := ?_) rfl (by kernel_rfl) (by kernel_rfl) (by kernel_rfl) (fun _ _ _ h => h) (Or.inl ⟨by rfl, ?hy⟩) (by assumption) ?_
          case hy => (intro w hSw; (try dsimp only at hSw); go_simp <;> with_reducible rfl)
          try simp only [Act.put, List.setIfInBounds_toArray, List.set_cons_zero, List.set_cons_succ]
          refine wpAnyH_take (i := 8) (oi := ⟨some 35, _, _, _, _, _⟩) (v := ?_) rfl (by kernel_rfl) (by kernel_rfl) (by kernel_rfl) (fun _ _ _ h => h) (Or.inl ⟨by rfl, ?hy⟩) (by assumption) ?_
          case hy => (intro w hSw; (try dsimp only at hSw); go_simp <;> with_reducible rfl)
          try simp only [Act.put, List.setIfInBounds_toArray, List.set_cons_zero, List.set_cons_succ]
          refine wpAnyH_ready (rs := [4]) (by kernel_rfl) (by simp) ?_
          refine AllReadyH.cons rfl (fun K hK => ?_) AllReadyH.nil
          go_simp
          refine (LOW.out _).mono ?_
          rintro e v1 ⟨rfl, hv1⟩
          have HF1 := Lib.hid (show Fr noB wr v1 from ((Fr.refl noB wr).drew).trans hv1)
          refine hK.out _ _ (HC0.out _ HF1.out) ?_
          intro hS1
          clear hK hS0 hv1 K
          try simp only [Act.put, List.setIfInBounds_toArray, List.set_cons_zero, List.set_cons_succ]
          refine wpAnyH_take (i := 9) (oi := ⟨some 36, _, _, _, _, _⟩) (v := ?_) rfl (by kernel_rfl) (by kernel_rfl) (by kernel_rfl) (fun _ _ _ h => h) (Or.inl ⟨by rfl, ?hy⟩) (by assumption) ?_
          case hy => (intro w hSw; (try dsimp only at hSw); go_simp <;> with_reducible rfl)
          try simp only [Act.put, List.setIfInBounds_toArray, List.set_cons_zero, List.set_cons_succ]
          refine wpAnyH_take (i := 10) (oi := ⟨some 37, _, _, _, _, _⟩) (v := ?_) rfl (by kernel_rfl) (by kernel_rfl) (by kernel_rfl) (fun _ _ _ h => h) (Or.inl ⟨by rfl, ?hy⟩) (by assumption) ?_
          case hy => (intro w hSw; (try dsimp only at hSw); go_simp <;> with_reducible rfl)
          try simp only [Act.put, List.setIfInBounds_toArray, List.set_cons_zero, List.set_cons_succ]
          refine wpAnyH_take (i := 11) (oi := ⟨some 38, _, _, _, _, _⟩) (v := ?_) rfl (by kernel_rfl) (by kernel_rfl) (by kernel_rfl) (fun _ _ _ h => h) (Or.inl ⟨by rfl, ?hy⟩) (by assumption) ?_
          case hy => (intro w hSw; (try dsimp only at hSw); go_simp <;> with_reducible rfl)
          try simp only [Act.put, List.setIfInBounds_toArray, List.set_cons_zero, List.set_cons_succ]
          refine wpAnyH_take (i := 12) (oi := ⟨some 39, _, _, _, _, _⟩) (v := ?_) rfl (by kernel_rfl) (by kernel_rfl) (by kernel_rfl) (fun _ _ _ h => h) (Or.inl ⟨by rfl, ?hy⟩) (by assumption) ?_
          case hy => (intro w hSw; (try dsimp only at hSw); go_simp <;> with_reducible rfl)
          try simp only [Act.put, List.setIfInBounds_toArray, List.set_cons_zero, List.set_cons_succ]
          refine wpAnyH_take (i := 13) (oi := ⟨some 40, _, _, _, _, _⟩) (v := ?_) rfl (by kernel_rfl) (by kernel_rfl) (by kernel_rfl) (fun _ _ _ h => h) (Or.inl ⟨by rfl, ?hy⟩) (by assumption) ?_
          case hy => (intro w hSw; (try dsimp only at hSw); go_simp <;> with_reducible rfl)
          try simp only [Act.put, List.setIfInBounds_toArray, List.set_cons_zero, List.set_cons_succ]
          refine wpAnyH_take (i := 14) (oi := ⟨some 41, _, _, _, _, _⟩) (v := undef) rfl (by kernel_rfl) (by kernel_rfl) (by kernel_rfl) (fun _ _ _ h => h) (Or.inr ⟨by rfl, rfl⟩) (by assumption) ?_
          try simp only [Act.put, List.setIfInBounds_toArray, List.set_cons_zero, List.set_cons_succ]
          refine wpAnyH_take (i := 15) (oi := ⟨some 42, _, _, _, _, _⟩) (v := undef) rfl (by kernel_rfl) (by kernel_rfl) (by kernel_rfl) (fun _ _ _ h => h) (Or.inr ⟨by rfl, rfl⟩) (by assumption) ?_
          try simp only [Act.put, List.setIfInBounds_toArray, List.set_cons_zero, List.set_cons_succ]
          refine wpAnyH_take (i := 16) (oi := ⟨some 43, _, _, _, _, _⟩) (v := undef) rfl (by kernel_rfl) (by kernel_rfl) (by kernel_rfl) (fun _ _ _ h => h) (Or.inr ⟨by rfl, rfl⟩) (by assumption) ?_
          try simp only [Act.put, List.setIfInBounds_toArray, List.set_cons_zero, List.set_cons_succ]
          refine wpAnyH_take (i := 17) (oi := ⟨some 44, _, _, _, _, _⟩) (v := undef) rfl (by kernel_rfl) (by kernel_rfl) (by kernel_rfl) (fun _ _ _ h => h) (Or.inr ⟨by rfl, rfl⟩) (by assumption) ?_
          try simp only [Act.put, List.setIfInBounds_toArray, List.set_cons_zero, List.set_cons_succ]
          refine wpAnyH_take (i := 18) (oi := ⟨some 45, _, _, _, _, _⟩) (v := undef) rfl (by kernel_rfl) (by kernel_rfl) (by kernel_rfl) (fun _ _ _ h => h) (Or.inr ⟨by rfl, rfl⟩) (by assumption) ?_
          try simp only [Act.put, List.setIfInBounds_toArray, List.set_cons_zero, List.set_cons_succ]
          refine wpAnyH_take (i := 19) (oi := ⟨some 46, _, _, _, _, _⟩) (v := undef) rfl (by kernel_rfl) (by kernel_rfl) (by kernel_rfl) (fun _ _ _ h => h) (Or.inr ⟨by rfl, rfl⟩) (by assumption) ?_
          try simp only [Act.put, List.setIfInBounds_toArray, List.set_cons_zero, List.set_cons_succ]
          refine wpAnyH_take (i := 20) (oi := ⟨some 47, _, _, _, _, _⟩) (v := undef) rfl (by kernel_rfl) (by kernel_rfl) (by kernel_rfl) (fun _ _ _ h => h) (Or.inr ⟨by rfl, rfl⟩) (by assumption) ?_
          try simp only [Act.put, List.setIfInBounds_toArray, List.set_cons_zero, List.set_cons_succ]
          refine wpAnyH_take (i := 21) (oi := ⟨some 48, _, _, _, _, _⟩) (v := undef) rfl (by kernel_rfl) (by kernel_rfl) (by kernel_rfl) (fun _ _ _ h => h) (Or.inr ⟨by rfl, rfl⟩) (by assumption) ?_
          try simp only [Act.put, List.setIfInBounds_toArray, List.set_cons_zero, List.set_cons_succ]
          refine wpAnyH_take (i := 22) (oi := ⟨some 49, _, _, _, _, _⟩) (v := undef) rfl (by kernel_rfl) (by kernel_rfl) (by kernel_rfl) (fun _ _ _ h => h) (Or.inr ⟨by rfl, rfl⟩) (by assumption) ?_
          try simp only [Act.put, List.setIfInBounds_toArray, List.set_cons_zero, List.set_cons_succ]
          refine wpAnyH_take (i := 23) (oi := ⟨some 50, _, _, _, _, _⟩) (v := undef) rfl (by kernel_rfl) (by kernel_rfl) (by kernel_rfl) (fun _ _ _ h => h) (Or.inr ⟨by rfl, rfl⟩) (by assumption) ?_
          try simp only [Act.put, List.setIfInBounds_toArray, List.set_cons_zero, List.set_cons_succ]
          refine wpAnyH_take (i := 24) (oi := ⟨some 51, _, _, _, _, _⟩) (v := ?_) rfl (by kernel_rfl) (by kernel_rfl) (by kernel_rfl) (fun _ _ _ h => h) (Or.inl ⟨by rfl, ?hy⟩) (by assumption) ?_
          case hy => (intro w hSw; (try dsimp only at hSw); go_simp <;> with_reducible rfl)
          try simp only [Act.put, List.setIfInBounds_toArray, List.set_cons_zero, List.set_cons_succ]
          refine wpAnyH_take (i := 25) (oi := ⟨some 52, _, _, _, _, _⟩) (v := ?_) rfl (by kernel_rfl) (by kernel_rfl) (by kernel_rfl) (fun _ _ _ h => h) (Or.inl ⟨by rfl, ?hy⟩) (by assumption) ?_
          case hy => (intro w hSw; (try dsimp only at hSw); go_simp <;> with_reducible rfl)
          try simp only [Act.put, List.setIfInBounds_toArray, List.set_cons_zero, List.set_cons_succ]
          refine wpAnyH_done (by kernel_rfl) ?_ _
          have HF7 := Lib.hid (hfr.trans HF1.out)
          clear hfr
          go_wp2
          go_roundw
          case rel => exact ⟨1, by omega, by go_num, HF7.out⟩
          case measure => simp [intOf]; omega
        · obtain ⟨m, rfl⟩ : ∃ m, k = m + 1 := ⟨k - 1, by omega⟩
          have hwm : IntKind.i64.wrap (m : Int) = (m : Int) := by unfold IntKind.wrap; simp [IntKind.bits, IntKind.signed]; omega
          have hm0 : (0 : Int) ≤ (m : Int) := by omega
          have hm1 : (0 : Int) ≤ (m : Int) + 1 := by omega
          have hm2 : (m : Int) + 1 < (zs.length : Int) := by omega
          have hmi : (m : Int) < (zs.length : Int) := by omega
          have hat2 := Lib.hid (List.getElem?_eq_getElem (show m < zs.length by omega))
          generalize zs[m] = y at hat2
          have HR := Lib.hid (HRISE.out m y x hat2.out hat.out)
          obtain ⟨bk2, of2, e2, _, _, d0⟩ := (HU6.out.frNone hfr).cell hat2.out
          injection e2 with e2
          injection e2 with e3 e4
          subst e3 e4
          have HC2 := Lib.hid (show ∀ U, Fr noB wr U → U.cell? ⟨bk, of + (m + 1), none⟩ = some (.string x) ∧ U.cell? ⟨bk, of + m, none⟩ = some (.string y) from fun U hU => ⟨HC.out U hU, (hU.cell (p := ⟨bk, of + m, none⟩) (World.block_lt_of_cell? _ _ d0) (fun h => h)).trans d0⟩)
          have hb1 : Op.bytesLess x.toList y.toList = false := by
            rw [Go.Proofs.bytesLess_eq, ByteArray.toList_eq, ByteArray.toList_eq]
            exact decide_eq_false (fun h => List.lt_irrefl _ (List.lt_trans h HR.out))
          have hb2 : (x.toList == y.toList) = false := by
            rw [ByteArray.toList_eq, ByteArray.toList_eq]
            exact beq_eq_false_iff_ne.2 (fun h => by have h2 := HR.out; rw [h] at h2; exact List.lt_irrefl _ h2)
          clear hk0
          go_wp2_with fail
          first | go_region_held3 (fun U => U.cell? ⟨bk, of + (m + 1), none⟩ = some (.string x) ∧ U.cell? ⟨bk, of + m, none⟩ = some (.string y)) ((refine HC2.out _ ?_; repeat (first | exact Fr.refl _ _ | apply Fr.alloc | apply Fr.drew | refine Fr.trans ?_ (by assumption)))) ((go_at_call 65; refine (LOW.out _).mono ?_; rintro e v1 ⟨rfl, hv1⟩)) | fail
          have HF7 := Lib.hid (hfr.trans (show Fr noB wr v1 from by repeat (first | exact Fr.refl _ _ | apply Fr.drew | refine Fr.trans ?_ (by assumption))))
          clear hv1 hfr
          go_wp2
          go_roundw
          case rel => exact ⟨m + 1 + 1, by omega, by go_num, HF7.out⟩
          case measure => simp [intOf]; omega
end Go.Proofs.YtegbacpenolehaaDoor
