/- The law BookSound: its walk. The law BookGone: its closures, and two books side by side. The law BookGone: its walk. The reading of an argument: passes. -/
import Derived.Test.YtkoobhgedoanhaaDoorBookGoneB6
import Derived.Test.YtkoobhgedoanhaaDoorBookGoneB5
import Derived.Test.YtkoobhgedoanhaaDoorBookGoneB4
import Derived.Deep.RegionHeld3
namespace Go.Proofs.YtkoobhgedoanhaaDoor
open Go.RowKit

theorem fewB_small {hs : List Prm} (h : fewB hs = true) : hs.length ≤ 40 ∧ ∀ p ∈ hs, p.1.size + p.2.size ≤ 300 := by
  unfold fewB at h
  simp only [Bool.and_eq_true, decide_eq_true_eq, Bool.not_eq_true', List.any_eq_false] at h
  refine ⟨h.1, fun p hp => ?_⟩
  have := h.2 p hp
  unfold bigP at this
  simp only [decide_eq_true_eq] at this
  omega
theorem ReqOk.of {r : ReqOf Value} {hs : List Prm} (hb : rightfulB r hs = true) : ReqOk r hs := by
  unfold rightfulB at hb
  simp only [Bool.and_eq_true, decide_eq_true_eq] at hb
  obtain ⟨h1, h2⟩ := hb
  obtain ⟨g1, g2⟩ := fewB_small h1
  exact ⟨by omega, by omega, fun p hp => by have := g2 p hp; omega⟩
set_option maxHeartbeats 8000000 in
set_option maxRecDepth 100000 in
theorem BookSound_walk (v : Value) (ls : List Pas) (r : ReqOf Value) (hs : List Prm) (t : Int) (w : World) (st0 : PasAt w v ls ∧ ls.length ≤ 140737488355328 ∧ ∀ p ∈ ls, p.Sized) (st1 : ReqFit w r hs) :
    Calls Tryd.prog 6 #[v, .agg r.cells.toArray, .int .i64 t] w fun e w' => e = .returned (.bool true) ∧ Below w.heap.size w w' := by
  obtain ⟨h1, l1, z1⟩ := st0
  obtain ⟨h2, l2, z2, z3, _, _, _, _⟩ := st1
  obtain ⟨a1, c1, hf1⟩ := RowsAt.form h1
  rw [List.length_map] at hf1
  subst hf1
  obtain ⟨n, hn⟩ : ∃ n, n = w.heap.size := ⟨_, rfl⟩
  obtain ⟨w1, hw1⟩ : ∃ w1, w1 = ((w.alloc (.cells #[.slice a1 ls.length c1] 53)).alloc (.cells r.cells.toArray 67)).alloc (.cells #[.int .i64 t] 3) := ⟨_, rfl⟩
  have hfb : Fr noB w w1 := by rw [hw1]; exact (((Fr.refl noB w).alloc _).alloc _).alloc _
  have hk1 : w1.heap[n]? = some (.cells #[.slice a1 ls.length c1] 53 (0, 0)) := by rw [hw1, hn]; exact (((Fr.refl noB _).alloc _).alloc _).keep (new_block _ _) (fun h => h)
  have hk2 : w1.heap[n + 1]? = some (.cells r.cells.toArray 67 (0, 0)) := by
    have h := new_block (w.alloc (.cells #[.slice a1 ls.length c1] 53)) (.cells r.cells.toArray 67)
    rw [World.size_alloc, ← hn] at h
    rw [hw1]; exact ((Fr.refl noB _).alloc _).keep h (fun h => h)
  have hk3 : w1.heap[n + 1 + 1]? = some (.cells #[.int .i64 t] 3 (0, 0)) := by
    have h := new_block ((w.alloc (.cells #[.slice a1 ls.length c1] 53)).alloc (.cells r.cells.toArray 67)) (.cells #[.int .i64 t] 3)
    rw [World.size_alloc, World.size_alloc, ← hn] at h
    rw [hw1]; exact h
  have HL := Lib.hid (show ∀ U, Fr noB w1 U → PasAt U (.slice a1 ls.length c1) ls from fun U hU => RowsAt.frNone h1 (hfb.trans hU))
  have HX := Lib.hid (show ∀ U, Fr noB w1 U → ReqLie U (n + 1) r from fun U hU => ReqLie.blk (hU.keep hk2 (fun h => h)))
  have HX1 := Lib.hid (show ∀ U, Fr noB w1 U → U.cell? ⟨n, 0, none⟩ = some (.slice a1 ls.length c1) from fun U hU => by simp [World.cell?, hU.keep hk1 (fun h => h)])
  have HX3 := Lib.hid (show ∀ U, Fr noB w1 U → U.cell? ⟨n + 1 + 1, 0, none⟩ = some (.int .i64 t) from fun U hU => by simp [World.cell?, hU.keep hk3 (fun h => h)])
  have HPS := Lib.hid (show ∀ U, Fr noB w1 U → Calls Tryd.prog 24 #[.slice a1 ls.length c1] U fun e w' => e = .returned (.bool (passesB ls)) ∧ Fr noB U w' from fun U hU => passes_any _ ls U (HL.out U hU) l1 z1)
  have HRF := Lib.hid (show ∀ U, Fr noB w1 U → Calls Tryd.prog 27 #[.agg r.cells.toArray] U fun e w' => e = .returned (.bool (rightfulB r hs)) ∧ Fr noB U w' from fun U hU => rightful_any r hs U (RowsAt.frNone h2 (hfb.trans hU)) l2 z2 z3)
  have HND := Lib.hid (show rightfulB r hs = true → ∀ U, Fr noB w1 U → Calls Tryd.prog 31 #[.agg r.cells.toArray] U fun e w' => e = .returned (.bool (r.toL hs).needs) ∧ Fr noB U w' from fun hz U hU => Needs_any r hs U (RowsAt.frNone h2 (hfb.trans hU)) (ReqOk.of hz))
  have HCV := Lib.hid (show rightfulB r hs = true → ∀ U, Fr noB w1 U → ∀ (base b : Nat) (bv : Value) (ps : List Pas), BookIs base U b bv ps → ps.length ≤ 32 → Calls Tryd.prog 30 #[.pointer (some ⟨b, 0, none⟩), .agg r.cells.toArray, .int .i64 t] U fun e w' => e = .returned (.bool (bookCovers ps (r.toL hs) t)) ∧ Fr noB U w' from fun hz U hU base b bv ps hb hl => BCovers_any base U b bv ps r hs t hb (by omega) (RowsAt.frNone h2 (hfb.trans hU)) (ReqOk.of hz))
  have HMT := Lib.hid (show rightfulB r hs = true → ∀ U, Calls Tryd.prog 35 #[.string r.method] U fun e w' => e = .returned (.string (methodB r.method)) ∧ Fr noB U w' from fun hz U => Method_any r.method U (ReqOk.of hz).1)
  have HASK := Lib.hid (show rightfulB r hs = true → ∀ U, Fr noB w1 U → Calls Tryd.prog 38 #[r.heads] U fun e w' => ∃ u, e = .returned u ∧ Strs U.heap.size w' u (askedB hs) ∧ Fr noB U w' from fun hz U hU => Asked_any hs _ U (RowsAt.frNone h2 (hfb.trans hU)) (ReqOk.of hz).2.1 (ReqOk.of hz).2.2)
  have HCL2 := Lib.hid (show ∀ U, Fr noB w1 U → ∀ (bm : Nat) (m : ByteArray), U.heap[bm]? = some (.cells #[.string m] 9 (0, 0)) → Calls Tryd.prog 32 #[.func (.func 37) #[] #[.pointer (some ⟨bm, 0, none⟩), .pointer (some ⟨n + 1, 0, none⟩)], .pointer (some ⟨n, 0, none⟩), .pointer (some ⟨n + 1 + 1, 0, none⟩), .pointer (some ⟨n + 1, 0, none⟩)] U fun e w' => e = .returned (.bool (ls.any (fun p => (r.toL hs).mine t p && p.lets m r.wth))) ∧ Fr noB U w' from fun U hU bm m hm =>
    Sou1_any _ ls r hs t _ _ (fun p => p.lets m r.wth) _ _ _ U Tryd.call37 (fun p _ u hu => Sou2_any p m r bm (n + 1) u (hu.keep hm (fun h => h)) ((hU.trans hu).keep hk2 (fun h => h))) (hU.keep hk1 (fun h => h)) (HL.out U hU) (hU.keep hk3 (fun h => h)) (hU.keep hk2 (fun h => h)))
  have HCL3 := Lib.hid (show ∀ U, Fr noB w1 U → ∀ (bm : Nat) (m : ByteArray), U.heap[bm]? = some (.cells #[.string m] 9 (0, 0)) → Calls Tryd.prog 32 #[.func (.func 39) #[] #[.pointer (some ⟨bm, 0, none⟩), .pointer (some ⟨n + 1, 0, none⟩)], .pointer (some ⟨n, 0, none⟩), .pointer (some ⟨n + 1 + 1, 0, none⟩), .pointer (some ⟨n + 1, 0, none⟩)] U fun e w' => e = .returned (.bool (ls.any (fun p => (r.toL hs).mine t p && p.letsH m r.wth))) ∧ Fr noB U w' from fun U hU bm m hm =>
    Sou1_any _ ls r hs t _ _ (fun p => p.letsH m r.wth) _ _ _ U Tryd.call39 (fun p _ u hu => Sou3_any p m r bm (n + 1) u (hu.keep hm (fun h => h)) ((hU.trans hu).keep hk2 (fun h => h))) (hU.keep hk1 (fun h => h)) (HL.out U hU) (hU.keep hk3 (fun h => h)) (hU.keep hk2 (fun h => h)))
  have LAW := Lib.hid (show (r.toL hs).needs = true → bookCovers (bookPut [] ls t) (r.toL hs) t = true → (simpleB (methodB r.method) = false → ls.any (fun p => (r.toL hs).mine t p && p.lets (methodB r.method) r.wth) = true) ∧ ∀ h ∈ askedB hs, ls.any (fun p => (r.toL hs).mine t p && p.letsH h r.wth) = true from sound_law)
  have HLT := Lib.hid (show ls ≠ [] → ∀ k, (Value.slice a1 ls.length c1).ownBlock = some k → k < w.heap.size from fun hne k hk => RowsAt.lt h1 (by simpa using hne) k hk)
  obtain ⟨ah, ch, hhf⟩ := RowsAt.form h2
  rw [List.length_map] at hhf
  have HFB := Lib.hid hfb
  have HHF := Lib.hid hhf
  have hw1' := hw1
  clear h1 l1 z1 h2 l2 z2 z3 hk1 hk2 hk3 hfb
  obtain ⟨part, ⟨fs, fh, fp⟩, ⟨os, oh, op⟩, path, query, method, heads, wth, body⟩ := r
  simp only at hhf
  subst hhf
  obtain ⟨R, hR⟩ : ∃ R : ReqOf Value, R = ⟨part, ⟨fs, fh, fp⟩, ⟨os, oh, op⟩, path, query, method, .slice ah hs.length ch, wth, body⟩ := ⟨_, rfl⟩
  have HRF2 := HRF
  rw [← hR] at HX HRF HND HCV HMT HASK HCL2 HCL3 LAW
  unfold ReqOf.cells at hw1
  have HARG := Lib.hid (show R.cells.toArray = #[.int .i64 part, .bool fs, .string fh, .int .i64 fp, .bool os, .string oh, .int .i64 op, .string path, .string query, .string method, .slice ah hs.length ch, .bool wth, .string body] by rw [hR]; rfl)
  have HRL := Lib.hid (show ∀ U, Fr noB w1 U → ReqLie U (n + 1) ⟨part, ⟨fs, fh, fp⟩, ⟨os, oh, op⟩, path, query, method, .slice ah hs.length ch, wth, body⟩ from by rw [← hR]; exact HX.out)
  have HMR := Lib.hid (show R.method = method by rw [hR])
  have HHR := Lib.hid (show R.heads = .slice ah hs.length ch by rw [hR])
  clear HX HRF2
  rw [HARG.out] at HRF HND HCV
  rw [HMR.out] at HMT LAW
  rw [HHR.out] at HASK
  have HX := HRL
  unfold ReqLie at HX
  dsimp only at HX
  unfold ReqOf.cells
  dsimp only
  clear hR HARG HMR HHR HRL HHF
  generalize rightfulB R hs = rf at *
  generalize (R.toL hs).needs = nd at *
  generalize methodB method = m at *
  subst hn
  go_enter Tryd.func6, Tryd.ntmps6
  go_wp2_with fail
  rw [← hw1]
  clear hw1
  refine (booked_any w1).mono ?_
  rintro e u0 ⟨rfl, hu0⟩
  have HU0 := Lib.hid hu0
  have d1 := HX1.out u0 hu0
  clear hu0
  go_wp2_with fail
  refine (HPS.out u0 HU0.out).mono ?_
  rintro e u1 ⟨rfl, hu1⟩
  have HU1 := Lib.hid (HU0.out.trans hu1)
  clear hu1 d1
  cases hps : passesB ls
  · clear hps
    go_wp2
    go_ret
    exact ⟨rfl, (HFB.out.trans HU1.out).none_below⟩
  have hlen : ls.length ≤ 60 := by
    unfold passesB at hps
    simp only [Bool.and_eq_true, decide_eq_true_eq] at hps
    exact hps.1
  clear hps
  obtain ⟨e0, e1, e2, e3, e4, e5, e6, e7, e8, e9, e10, e11, e12⟩ := HX.out u1 HU1.out
  go_wp2_with fail
  refine (HRF.out u1 HU1.out).mono ?_
  rintro e u2 ⟨rfl, hu2⟩
  have HU2 := Lib.hid (HU1.out.trans hu2)
  clear hu2 e0 e1 e2 e3 e4 e5 e6 e7 e8 e9 e10 e11 e12
  cases rf
  · go_wp2
    go_ret
    exact ⟨rfl, (HFB.out.trans HU2.out).none_below⟩
  replace HND := Lib.hid (HND.out (by simp))
  replace HCV := Lib.hid (HCV.out (by simp))
  replace HMT := Lib.hid (HMT.out (by simp))
  replace HASK := Lib.hid (HASK.out (by simp))
  have hb0 := BookIs.new u2
  have hfb2 : Fr noB u2 (u2.alloc (.cells #[.slice none 0 0] 57)) := (Fr.refl _ _).alloc _
  have hu2lt := HU2.out.size
  have hput := BookPut_any u2.heap.size _ u2.heap.size _ [] _ ls t hb0 (HL.out _ (HU2.out.trans hfb2)) (fun hne k hk h => by
    have hlt := HLT.out (by simpa using hne) k hk
    rcases h with h | h
    · have := HFB.out.size; omega
    · simp [own, Value.ownBlock] at h) (by simp; omega)
  have HPUT := Lib.hid hput
  have HFB2 := Lib.hid (HU2.out.trans hfb2)
  have g1 := HX1.out _ HFB2.out
  have g3 := HX3.out _ HFB2.out
  clear hput hfb2 hb0
  go_wp2_with fail
  refine HPUT.out.mono ?_
  rintro e u3 ⟨rfl, v3, hb3, hf3, _⟩
  have HU3 := Lib.hid (Fr.step (S := noB) HFB2.out hf3 (fun k hk h => by
    rcases h with h | h
    · omega
    · simp [own, Value.ownBlock] at h))
  have HB3 := Lib.hid hb3
  clear hb3 hf3 g1 g3 HPUT HFB2
  obtain ⟨e0, e1, e2, e3, e4, e5, e6, e7, e8, e9, e10, e11, e12⟩ := HX.out u3 HU3.out
  go_wp2_with fail
  refine (HND.out u3 HU3.out).mono ?_
  rintro e u4 ⟨rfl, hu4⟩
  have HU4 := Lib.hid (HU3.out.trans hu4)
  have HB4 := Lib.hid (HB3.out.frN hu4)
  clear hu4 e0 e1 e2 e3 e4 e5 e6 e7 e8 e9 e10 e11 e12 HB3
  cases nd
  · go_wp2
    go_ret
    exact ⟨rfl, (HFB.out.trans HU4.out).none_below⟩
  replace LAW := Lib.hid (LAW.out (by simp))
  obtain ⟨e0, e1, e2, e3, e4, e5, e6, e7, e8, e9, e10, e11, e12⟩ := HX.out u4 HU4.out
  have g3 := HX3.out _ HU4.out
  have HCVC := Lib.hid (HCV.out u4 HU4.out _ _ _ _ HB4.out (bookPut_len _ _ _))
  clear HCV HB4
  generalize bookCovers (bookPut [] ls t) (R.toL hs) t = cv at *
  go_wp2_with fail
  refine HCVC.out.mono ?_
  rintro e u5 ⟨rfl, hu5⟩
  have HU5 := Lib.hid (HU4.out.trans hu5)
  clear hu5 e0 e1 e2 e3 e4 e5 e6 e7 e8 e9 e10 e11 e12 g3 HCVC
  cases cv
  · go_wp2
    go_ret
    exact ⟨rfl, (HFB.out.trans HU5.out).none_below⟩
  replace LAW := Lib.hid (LAW.out (by simp))
  have LAWM := Lib.hid LAW.out.1
  have LAWH := Lib.hid LAW.out.2
  clear LAW
  obtain ⟨_, _, _, _, _, _, _, _, _, e9, _⟩ := HX.out u5 HU5.out
  go_wp2_with fail
  refine (HMT.out u5).mono ?_
  rintro e u6 ⟨rfl, hu6⟩
  obtain ⟨w2, hw2⟩ : ∃ w2, w2 = u6.alloc (.cells #[.string m] 9) := ⟨_, rfl⟩
  have hmb : w2.heap[u6.heap.size]? = some (.cells #[.string m] 9 (0, 0)) := by rw [hw2]; exact new_block _ _
  have HW2F := Lib.hid (show Fr noB w1 w2 from by rw [hw2]; exact (HU5.out.trans hu6).alloc _)
  have HC2 := Lib.hid (HCL2.out w2 HW2F.out u6.heap.size m hmb)
  have HW2 := Lib.hid hw2
  have k0 : w2.cell? ⟨u6.heap.size, 0, none⟩ = some (.string m) := by simp [World.cell?, hmb]
  clear hu6 e9 hw2 hmb HMT
  go_wp2_with fail
  rw [← HW2.out]
  refine (Simple_any m w2).mono ?_
  rintro e u2' ⟨rfl, rfl⟩
  cases hsm : simpleB m
  · have hany := LAWM.out hsm
    rw [hany] at HC2
    clear hsm hany LAWM
    go_wp2_with fail
    refine HC2.out.mono ?_
    rintro e u3 ⟨rfl, hf3⟩
    have HF3 := Lib.hid (show Fr noB w1 u3 from HW2F.out.trans hf3)
    obtain ⟨_, _, _, _, _, _, _, _, _, _, c10, _⟩ := HX.out _ HF3.out
    go_wp2_with fail
    refine (HASK.out u3 HF3.out).mono ?_
    rintro e u4 ⟨uv, rfl, hst, hf4⟩
    obtain ⟨au, cu, huf⟩ := hst.form
    obtain ⟨nl, hnl⟩ : ∃ nl, nl = askedB hs := ⟨_, rfl⟩
    rw [← hnl] at hst huf LAWH
    subst huf
    have HF4 := Lib.hid (HF3.out.trans hf4)
    have HST := Lib.hid hst.at
    clear hf4 hst hnl c10 HASK HCL2
    go_wp2
    go_loopw [55] (BfRel nl.length u4) (fun i _ => nl.length - (intOf i).toNat)
    case atStart => exact ⟨0, Nat.zero_le _, rfl, Fr.refl _ _⟩
    case round =>
      obtain ⟨k, hk, rfl, hfr⟩ := hrel
      by_cases hks : k < nl.length
      · have hki : (k : Int) < (nl.length : Int) := by omega
        rcases HST.out.frNone hfr with ⟨_, _, _, e, _⟩ | ⟨bk, o, c, hf, h1, h2, h3, h4⟩
        · rw [e] at hks; exact absurd hks (Nat.not_lt_zero _)
        · cases hf
          unfold maxLen at h2
          have hmem := Lib.hid (List.getElem_mem hks)
          have hc := h4 k _ (List.getElem?_eq_getElem hks)
          generalize nl[k] = x at hmem hc
          clear h4
          obtain ⟨wx, hwx⟩ : ∃ wx, wx = wr.alloc (.cells #[.string x] 9) := ⟨_, rfl⟩
          have hxb : wx.heap[wr.heap.size]? = some (.cells #[.string x] 9 (0, 0)) := by rw [hwx]; exact new_block _ _
          have hfx : Fr noB wr wx := by rw [hwx]; exact (Fr.refl _ _).alloc _
          have HFX := Lib.hid ((HF4.out.trans hfr).trans hfx)
          have hany := LAWH.out x hmem.out
          have HCX := Lib.hid (HCL3.out wx HFX.out wr.heap.size x hxb)
          rw [hany] at HCX
          have HWX := Lib.hid hwx
          have HFR := Lib.hid (hfr.trans hfx)
          clear hwx hany hxb hfx
          go_wp2_with fail
          rw [← HWX.out]
          refine HCX.out.mono ?_
          rintro e u6 ⟨rfl, hf6⟩
          go_wp2
          go_roundw
          case rel => exact ⟨k + 1, by omega, by go_num, HFR.out.trans hf6⟩
          case measure => simp [intOf]; omega
      · have hki : ¬ (k : Int) < (nl.length : Int) := by omega
        go_wp2
        go_ret
        exact ⟨rfl, (HFB.out.trans (HF4.out.trans hfr)).none_below⟩
  · obtain ⟨u3, hu3⟩ : ∃ u3, u3 = w2 := ⟨_, rfl⟩
    rw [← hu3] at HW2F k0 ⊢
    clear hsm LAWM HC2 HW2 hu3
    have HF3 := Lib.hid (show Fr noB w1 u3 from HW2F.out)
    obtain ⟨_, _, _, _, _, _, _, _, _, _, c10, _⟩ := HX.out _ HF3.out
    go_wp2_with fail
    refine (HASK.out u3 HF3.out).mono ?_
    rintro e u4 ⟨uv, rfl, hst, hf4⟩
    obtain ⟨au, cu, huf⟩ := hst.form
    obtain ⟨nl, hnl⟩ : ∃ nl, nl = askedB hs := ⟨_, rfl⟩
    rw [← hnl] at hst huf LAWH
    subst huf
    have HF4 := Lib.hid (HF3.out.trans hf4)
    have HST := Lib.hid hst.at
    clear hf4 hst hnl c10 HASK HCL2
    go_wp2
    go_loopw [55] (BfRel nl.length u4) (fun i _ => nl.length - (intOf i).toNat)
    case atStart => exact ⟨0, Nat.zero_le _, rfl, Fr.refl _ _⟩
    case round =>
      obtain ⟨k, hk, rfl, hfr⟩ := hrel
      by_cases hks : k < nl.length
      · have hki : (k : Int) < (nl.length : Int) := by omega
        rcases HST.out.frNone hfr with ⟨_, _, _, e, _⟩ | ⟨bk, o, c, hf, h1, h2, h3, h4⟩
        · rw [e] at hks; exact absurd hks (Nat.not_lt_zero _)
        · cases hf
          unfold maxLen at h2
          have hmem := Lib.hid (List.getElem_mem hks)
          have hc := h4 k _ (List.getElem?_eq_getElem hks)
          generalize nl[k] = x at hmem hc
          clear h4
          obtain ⟨wx, hwx⟩ : ∃ wx, wx = wr.alloc (.cells #[.string x] 9) := ⟨_, rfl⟩
          have hxb : wx.heap[wr.heap.size]? = some (.cells #[.string x] 9 (0, 0)) := by rw [hwx]; exact new_block _ _
          have hfx : Fr noB wr wx := by rw [hwx]; exact (Fr.refl _ _).alloc _
          have HFX := Lib.hid ((HF4.out.trans hfr).trans hfx)
          have hany := LAWH.out x hmem.out
          have HCX := Lib.hid (HCL3.out wx HFX.out wr.heap.size x hxb)
          rw [hany] at HCX
          have HWX := Lib.hid hwx
          have HFR := Lib.hid (hfr.trans hfx)
          clear hwx hany hxb hfx
          go_wp2_with fail
          rw [← HWX.out]
          refine HCX.out.mono ?_
          rintro e u6 ⟨rfl, hf6⟩
          go_wp2
          go_roundw
          case rel => exact ⟨k + 1, by omega, by go_num, HFR.out.trans hf6⟩
          case measure => simp [intOf]; omega
      · have hki : ¬ (k : Int) < (nl.length : Int) := by omega
        go_wp2
        go_ret
        exact ⟨rfl, (HFB.out.trans (HF4.out.trans hfr)).none_below⟩
end Go.Proofs.YtkoobhgedoanhaaDoor

namespace Go.Proofs.YtkoobhgedoanhaaDoor
open Go.RowKit

set_option maxHeartbeats 1000000 in
set_option maxRecDepth 100000 in
theorem Gone1_any (p : Pas) (r : ReqOf Value) (hs : List Prm) (br : Nat) (w : World) (hr : w.heap[br]? = some (.cells r.cells.toArray 67 (0, 0))) :
    Calls Tryd.prog 44 #[.agg p.cells.toArray, .pointer (some ⟨br, 0, none⟩)] w fun e w' => e = .returned (.bool (p.ofReq (r.toL hs))) ∧ Fr noB w w' := by
  have heq := run_eql_ori p.frm r.frm
  have heu := run_eql_urlP p.o p.path p.query r.o r.path r.query
  have hfa : Fr noB w (w.alloc (.cells p.cells.toArray 63)) := (Fr.refl noB w).alloc _
  have g0 := hfa.keep hr (fun h => h)
  have g1 : (w.alloc (.cells p.cells.toArray 63)).heap[w.heap.size]? = some (.cells p.cells.toArray 63 (0, 0)) := new_block _ _
  have hc : ∀ i u, r.cells[i]? = some u → (w.alloc (.cells p.cells.toArray 63)).cell? ⟨br, i, none⟩ = some u := fun i u hu => by simp only [World.cell?, g0]; simpa using hu
  have c1 := hc 1 _ rfl
  have c2 := hc 2 _ rfl
  have c3 := hc 3 _ rfl
  have c4 := hc 4 _ rfl
  have c5 := hc 5 _ rfl
  have c6 := hc 6 _ rfl
  have c7 := hc 7 _ rfl
  have c8 := hc 8 _ rfl
  have HF := Lib.hid hfa
  clear hr g0 g1 hc hfa
  unfold Pas.cells at *
  cases e1 : p.frm.eqB r.frm
  · have HR := Lib.hid (show p.ofReq (r.toL hs) = false by unfold Pas.ofReq ReqOf.toL; simp only; rw [e1]; rfl)
    rw [e1] at heq
    clear e1
    go_enter Tryd.func44, Tryd.ntmps44
    go_wp2
    go_ret
    exact ⟨by rw [HR.out]; rfl, HF.out⟩
  · have HR := Lib.hid (show p.ofReq (r.toL hs) = (p.o.eqB r.o && (p.path.toList == r.path.toList && p.query.toList == r.query.toList)) by unfold Pas.ofReq ReqOf.toL; simp only; rw [e1]; rfl)
    rw [e1] at heq
    generalize (p.o.eqB r.o && (p.path.toList == r.path.toList && p.query.toList == r.query.toList)) = res at *
    clear e1
    go_enter Tryd.func44, Tryd.ntmps44
    go_wp2
    go_ret
    exact ⟨by rw [HR.out]; rfl, HF.out⟩
set_option maxHeartbeats 1000000 in
set_option maxRecDepth 100000 in
theorem Gone2_any (p : Pas) (o : Ori) (bo : Nat) (w : World) (ho : w.heap[bo]? = some (.cells #[.bool o.secure, .string o.host, .int .i64 o.port] 24 (0, 0))) :
    Calls Tryd.prog 45 #[.agg p.cells.toArray, .pointer (some ⟨bo, 0, none⟩)] w fun e w' => e = .returned (.bool (p.ofOri o)) ∧ Fr noB w w' := by
  have heq := run_eql_ori p.frm o
  have heo := run_eql_ori p.o o
  have hfa : Fr noB w (w.alloc (.cells p.cells.toArray 63)) := (Fr.refl noB w).alloc _
  have g0 := hfa.keep ho (fun h => h)
  have c0 : (w.alloc (.cells p.cells.toArray 63)).cell? ⟨bo, 0, none⟩ = some (.bool o.secure) := by simp [World.cell?, g0]
  have c1 : (w.alloc (.cells p.cells.toArray 63)).cell? ⟨bo, 1, none⟩ = some (.string o.host) := by simp [World.cell?, g0]
  have c2 : (w.alloc (.cells p.cells.toArray 63)).cell? ⟨bo, 2, none⟩ = some (.int .i64 o.port) := by simp [World.cell?, g0]
  have HF := Lib.hid hfa
  clear ho g0 hfa
  unfold Pas.cells at *
  cases e1 : p.frm.eqB o
  · have HR := Lib.hid (show p.ofOri o = p.o.eqB o by unfold Pas.ofOri; rw [e1]; rfl)
    rw [e1] at heq
    generalize p.o.eqB o = res at *
    clear e1
    go_enter Tryd.func45, Tryd.ntmps45
    go_wp2
    go_ret
    exact ⟨by rw [HR.out]; rfl, HF.out⟩
  · have HR := Lib.hid (show p.ofOri o = true by unfold Pas.ofOri; rw [e1]; rfl)
    rw [e1] at heq
    clear e1
    go_enter Tryd.func45, Tryd.ntmps45
    go_wp2
    go_ret
    exact ⟨by rw [HR.out]; rfl, HF.out⟩
/-- two books side by side, of blocks that are new since w1 -/
structure TwoB (base : Nat) (w1 : World) (b c : Nat) (X Y : List Pas) (U : World) : Prop where
  ex : ∃ vb vc, BookIs base U b vb X ∧ BookIs base U c vc Y ∧ ∀ k, bookF b vb k → ¬ bookF c vc k
  fr : Fr noB w1 U
  low : w1.heap.size ≤ base
section
variable {base : Nat} {w1 U U' : World} {b c : Nat} {X Y : List Pas}
theorem BookIs.flow {base : Nat} {w : World} {b : Nat} {v : Value} {ps : List Pas} (h : BookIs base w b v ps) {k : Nat} (hk : bookF b v k) : base ≤ k := by
  rcases hk with rfl | hk
  · exact h.low
  · exact h.rows.block k hk
theorem TwoB.frN (h : TwoB base w1 b c X Y U) (hf : Fr noB U U') : TwoB base w1 b c X Y U' := by
  obtain ⟨⟨vb, vc, h1, h2, h3⟩, hfr, hl⟩ := h
  exact ⟨⟨vb, vc, h1.frN hf, h2.frN hf, h3⟩, hfr.trans hf, hl⟩
theorem TwoB.left {X' : List Pas} {vb vc : Value} (h1 : BookIs base U b vb X) (h2 : BookIs base U c vc Y) (h3 : ∀ k, bookF b vb k → ¬ bookF c vc k) (hfr : Fr noB w1 U) (hl : w1.heap.size ≤ base) (hp : BookPost base U b vb X' U') : TwoB base w1 b c X' Y U' := by
  obtain ⟨v', g1, g2, g3⟩ := hp
  refine ⟨⟨v', vc, g1, h2.fr g2 (fun k hk hb => h3 k hb hk), fun k hk hc => ?_⟩, hfr.step g2 (fun k hk hb => ?_), hl⟩
  · rcases g3 k hk with h | h
    · exact h3 k h hc
    · have := h2.foot_lt hc; omega
  · have := h1.flow hb; omega
theorem TwoB.right {Y' : List Pas} {vb vc : Value} (h1 : BookIs base U b vb X) (h2 : BookIs base U c vc Y) (h3 : ∀ k, bookF b vb k → ¬ bookF c vc k) (hfr : Fr noB w1 U) (hl : w1.heap.size ≤ base) (hp : BookPost base U c vc Y' U') : TwoB base w1 b c X Y' U' := by
  obtain ⟨v', g1, g2, g3⟩ := hp
  refine ⟨⟨vb, v', h1.fr g2 (fun k hk hb => h3 k hk hb), g1, fun k hk hc => ?_⟩, hfr.step g2 (fun k hk hb => ?_), hl⟩
  · rcases g3 k hc with h | h
    · exact h3 k hk h
    · have := h1.foot_lt hk; omega
  · have := h2.flow hb; omega
end
theorem Two_forget {base : Nat} {w1 U : World} {b c : Nat} {X Y : List Pas} (r : ReqOf Value) (hs : List Prm) (h : TwoB base w1 b c X Y U) (hlen : X.length < 1000000) :
    Calls Tryd.prog 40 #[.pointer (some ⟨b, 0, none⟩), .agg r.cells.toArray] U fun e w' => e = .returned (.int .i64 ((X.length : Int) - ((X.filter (fun p => !p.ofReq (r.toL hs))).length : Int))) ∧ TwoB base w1 b c (X.filter (fun p => !p.ofReq (r.toL hs))) Y w' := by
  obtain ⟨⟨vb, vc, h1, h2, h3⟩, hfr, hl⟩ := h
  refine (BForget_any base U b vb X r hs h1 hlen).mono ?_
  rintro e w' ⟨rfl, hp⟩
  exact ⟨rfl, TwoB.left h1 h2 h3 hfr hl hp⟩
theorem Two_sweep {base : Nat} {w1 U : World} {b c : Nat} {X Y : List Pas} (o : Ori) (h : TwoB base w1 b c X Y U) (hlen : Y.length < 1000000) :
    Calls Tryd.prog 41 #[.pointer (some ⟨c, 0, none⟩), .agg o.cells.toArray] U fun e w' => e = .returned (.int .i64 ((Y.length : Int) - ((Y.filter (fun p => !p.ofOri o)).length : Int))) ∧ TwoB base w1 b c X (Y.filter (fun p => !p.ofOri o)) w' := by
  obtain ⟨⟨vb, vc, h1, h2, h3⟩, hfr, hl⟩ := h
  refine (BSweep_any base U c vc Y o h2 hlen).mono ?_
  rintro e w' ⟨rfl, hp⟩
  exact ⟨rfl, TwoB.right h1 h2 h3 hfr hl hp⟩
theorem Two_put {base : Nat} {w1 U : World} {b c : Nat} {X Y : List Pas} (lv : Value) (ls : List Pas) (now : Int) (h : TwoB base w1 b c X Y U) (hv : PasAt U lv ls) (hlt : ls ≠ [] → ∀ k, lv.ownBlock = some k → k < w1.heap.size) (hn : X.length + ls.length < 1000000) :
    Calls Tryd.prog 25 #[.pointer (some ⟨b, 0, none⟩), lv, .int .i64 now] U fun e w' => e = .returned (.tuple #[]) ∧ TwoB base w1 b c (bookPut X ls now) Y w' := by
  obtain ⟨⟨vb, vc, h1, h2, h3⟩, hfr, hl⟩ := h
  refine (BookPut_any base U b vb X lv ls now h1 hv (fun hne k hk hb => by have := h1.flow hb; have := hlt hne k hk; omega) hn).mono ?_
  rintro e w' ⟨rfl, hp⟩
  exact ⟨rfl, TwoB.left h1 h2 h3 hfr hl hp⟩
theorem Two_put2 {base : Nat} {w1 U : World} {b c : Nat} {X Y : List Pas} (lv : Value) (ls : List Pas) (now : Int) (h : TwoB base w1 b c X Y U) (hv : PasAt U lv ls) (hlt : ls ≠ [] → ∀ k, lv.ownBlock = some k → k < w1.heap.size) (hn : Y.length + ls.length < 1000000) :
    Calls Tryd.prog 25 #[.pointer (some ⟨c, 0, none⟩), lv, .int .i64 now] U fun e w' => e = .returned (.tuple #[]) ∧ TwoB base w1 b c X (bookPut Y ls now) w' := by
  obtain ⟨⟨vb, vc, h1, h2, h3⟩, hfr, hl⟩ := h
  refine (BookPut_any base U c vc Y lv ls now h2 hv (fun hne k hk hb => by have := h2.flow hb; have := hlt hne k hk; omega) hn).mono ?_
  rintro e w' ⟨rfl, hp⟩
  exact ⟨rfl, TwoB.right h1 h2 h3 hfr hl hp⟩
theorem Two_list {base : Nat} {w1 U : World} {b c : Nat} {X Y : List Pas} (h : TwoB base w1 b c X Y U) (hlen : X.length < 1000000) :
    Calls Tryd.prog 26 #[.pointer (some ⟨b, 0, none⟩)] U fun e w' => ∃ v', e = .returned v' ∧ OwnRows U.heap.size 63 12 w' v' (X.map Pas.cells) ∧ Fr noB U w' := by
  obtain ⟨⟨vb, vc, h1, h2, h3⟩, hfr, hl⟩ := h
  exact BookList_any base U b vb X h1 hlen
theorem Two_list2 {base : Nat} {w1 U : World} {b c : Nat} {X Y : List Pas} (h : TwoB base w1 b c X Y U) (hlen : Y.length < 1000000) :
    Calls Tryd.prog 26 #[.pointer (some ⟨c, 0, none⟩)] U fun e w' => ∃ v', e = .returned v' ∧ OwnRows U.heap.size 63 12 w' v' (Y.map Pas.cells) ∧ Fr noB U w' := by
  obtain ⟨⟨vb, vc, h1, h2, h3⟩, hfr, hl⟩ := h
  exact BookList_any base U c vc Y h2 hlen
theorem Two_new (w : World) : TwoB w.heap.size w w.heap.size (w.heap.size + 1) [] [] ((w.alloc (.cells #[.slice none 0 0] 57)).alloc (.cells #[.slice none 0 0] 57)) := by
  have h1 := BookIs.new w
  have h2 := BookIs.new (w.alloc (.cells #[.slice none 0 0] 57))
  rw [World.size_alloc] at h2
  refine ⟨⟨_, _, h1.frN ((Fr.refl _ _).alloc _), ⟨by omega, h2.blk, OwnRows.nil _ _ _ _⟩, ?_⟩, ((Fr.refl _ _).alloc _).alloc _, Nat.le_refl _⟩
  rintro k (hk | hk) (hc | hc)
  · omega
  · simp [own, Value.ownBlock] at hc
  · simp [own, Value.ownBlock] at hk
  · simp [own, Value.ownBlock] at hc
end Go.Proofs.YtkoobhgedoanhaaDoor

namespace Go.Proofs.YtkoobhgedoanhaaDoor
open Go.RowKit

theorem cells13G {w : World} {b : Nat} {c0 c1 c2 c3 c4 c5 c6 c7 c8 c9 c10 c11 c12 : Value} {t : TypeId} (h : w.heap[b]? = some (.cells #[c0, c1, c2, c3, c4, c5, c6, c7, c8, c9, c10, c11, c12] t (0, 0))) :
    w.cell? ⟨b, 0, none⟩ = some c0 ∧ w.cell? ⟨b, 1, none⟩ = some c1 ∧ w.cell? ⟨b, 2, none⟩ = some c2 ∧ w.cell? ⟨b, 3, none⟩ = some c3 ∧ w.cell? ⟨b, 4, none⟩ = some c4 ∧ w.cell? ⟨b, 5, none⟩ = some c5 ∧ w.cell? ⟨b, 6, none⟩ = some c6 ∧ w.cell? ⟨b, 7, none⟩ = some c7 ∧ w.cell? ⟨b, 8, none⟩ = some c8 ∧ w.cell? ⟨b, 9, none⟩ = some c9 ∧ w.cell? ⟨b, 10, none⟩ = some c10 ∧ w.cell? ⟨b, 11, none⟩ = some c11 ∧ w.cell? ⟨b, 12, none⟩ = some c12 := by
  have hc : ∀ (i : Nat) u, [c0, c1, c2, c3, c4, c5, c6, c7, c8, c9, c10, c11, c12][i]? = some u → w.cell? ⟨b, i, none⟩ = some u := fun i u hu => by simp only [World.cell?, h]; simpa using hu
  exact ⟨hc 0 _ rfl, hc 1 _ rfl, hc 2 _ rfl, hc 3 _ rfl, hc 4 _ rfl, hc 5 _ rfl, hc 6 _ rfl, hc 7 _ rfl, hc 8 _ rfl, hc 9 _ rfl, hc 10 _ rfl, hc 11 _ rfl, hc 12 _ rfl⟩
/-- two books side by side, and blocks Q that are neither's -/
structure TwoQ (Q : Nat → Prop) (base : Nat) (w1 : World) (b c : Nat) (X Y : List Pas) (U : World) : Prop where
  ex : ∃ vb vc, BookIs base U b vb X ∧ BookIs base U c vc Y ∧ (∀ k, bookF b vb k → ¬ bookF c vc k) ∧ ∀ k, Q k → ¬ bookF b vb k ∧ ¬ bookF c vc k
  fr : Fr noB w1 U
  low : w1.heap.size ≤ base
  lt : ∀ k, Q k → k < U.heap.size
section
variable {Q : Nat → Prop} {base : Nat} {w1 U U' : World} {b c : Nat} {X Y : List Pas}
theorem TwoQ.frN (h : TwoQ Q base w1 b c X Y U) (hf : Fr noB U U') : TwoQ Q base w1 b c X Y U' := by
  obtain ⟨⟨vb, vc, h1, h2, h3, h4⟩, hfr, hl, hlt⟩ := h
  exact ⟨⟨vb, vc, h1.frN hf, h2.frN hf, h3, h4⟩, hfr.trans hf, hl, fun k hk => Nat.lt_of_lt_of_le (hlt k hk) hf.size⟩
theorem TwoQ.toB (h : TwoQ Q base w1 b c X Y U) : TwoB base w1 b c X Y U := by
  obtain ⟨⟨vb, vc, h1, h2, h3, _⟩, hfr, hl, _⟩ := h
  exact ⟨⟨vb, vc, h1, h2, h3⟩, hfr, hl⟩
theorem TwoQ_forget (r : ReqOf Value) (hs : List Prm) (h : TwoQ Q base w1 b c X Y U) (hlen : X.length < 1000000) :
    Calls Tryd.prog 40 #[.pointer (some ⟨b, 0, none⟩), .agg r.cells.toArray] U fun e w' => e = .returned (.int .i64 ((X.length : Int) - ((X.filter (fun p => !p.ofReq (r.toL hs))).length : Int))) ∧ TwoQ Q base w1 b c (X.filter (fun p => !p.ofReq (r.toL hs))) Y w' ∧ Fr (fun k => ¬ Q k) U w' := by
  obtain ⟨⟨vb, vc, h1, h2, h3, h4⟩, hfr, hl, hlt⟩ := h
  refine (BForget_any base U b vb X r hs h1 hlen).mono ?_
  rintro e w' ⟨rfl, hp⟩
  have hB := TwoB.left h1 h2 h3 hfr hl hp
  obtain ⟨v', g1, g2, g3⟩ := hp
  refine ⟨rfl, ⟨⟨v', vc, g1, h2.fr g2 (fun k hk hb => h3 k hb hk), fun k hk hc => ?_, fun k hk => ⟨fun hb => ?_, (h4 k hk).2⟩⟩, hB.fr, hl, fun k hk => Nat.lt_of_lt_of_le (hlt k hk) g2.size⟩, g2.mono (fun k _ hb hq => (h4 k hq).1 hb)⟩
  · rcases g3 k hk with h | h
    · exact h3 k h hc
    · have := h2.foot_lt hc; omega
  · rcases g3 k hb with h | h
    · exact (h4 k hk).1 h
    · have := hlt k hk; omega
theorem TwoQ_sweep (o : Ori) (h : TwoQ Q base w1 b c X Y U) (hlen : Y.length < 1000000) :
    Calls Tryd.prog 41 #[.pointer (some ⟨c, 0, none⟩), .agg o.cells.toArray] U fun e w' => e = .returned (.int .i64 ((Y.length : Int) - ((Y.filter (fun p => !p.ofOri o)).length : Int))) ∧ TwoQ Q base w1 b c X (Y.filter (fun p => !p.ofOri o)) w' ∧ Fr (fun k => ¬ Q k) U w' := by
  obtain ⟨⟨vb, vc, h1, h2, h3, h4⟩, hfr, hl, hlt⟩ := h
  refine (BSweep_any base U c vc Y o h2 hlen).mono ?_
  rintro e w' ⟨rfl, hp⟩
  have hB := TwoB.right h1 h2 h3 hfr hl hp
  obtain ⟨v', g1, g2, g3⟩ := hp
  refine ⟨rfl, ⟨⟨vb, v', h1.fr g2 (fun k hk hb => h3 k hk hb), g1, fun k hk hc => ?_, fun k hk => ⟨(h4 k hk).1, fun hb => ?_⟩⟩, hB.fr, hl, fun k hk => Nat.lt_of_lt_of_le (hlt k hk) g2.size⟩, g2.mono (fun k _ hb hq => (h4 k hq).2 hb)⟩
  · rcases g3 k hc with h | h
    · exact h3 k hk h
    · have := h1.foot_lt hk; omega
  · rcases g3 k hb with h | h
    · exact (h4 k hk).2 h
    · have := hlt k hk; omega
end
/-- a clone less what a closure picks -/
theorem gone_pick {base : Nat} (g : Nat) (cap : Array Value) (f : Pas → Bool) (v : Value) (X : List Pas) (w : World) (eg : ∀ args w, (callFunc g args).run Tryd.prog w = .ok (.enter g args) w)
    (hg : ∀ p, ∀ u, Fr (own v) w u → Calls Tryd.prog g (#[.agg p.cells.toArray] ++ cap) u fun e w' => e = .returned (.bool (f p)) ∧ Fr noB u w') (hown : OwnRows base 63 12 w v (X.map Pas.cells)) :
    Calls Tryd.prog 42 #[v, .func (.func g) #[] cap] w fun e w' => ∃ a c, e = .returned (.slice a (X.filter (fun p => !f p)).length c) ∧ OwnRows base 63 12 w' (.slice a (X.filter (fun p => !f p)).length c) ((X.filter (fun p => !f p)).map Pas.cells) ∧ Fr (own v) w w' := by
  have hd := DeleteFunc_Pa base g cap (fun y => f (pasC y)) v (X.map Pas.cells) w eg (fun y hy u hu => by
    obtain ⟨q, _, rfl⟩ := List.mem_map.1 hy
    exact hg q u hu) hown
  rw [filter_cells X f, List.length_map] at hd
  exact hd.mono (fun e w' ⟨a, c, h1, h2, h3, _⟩ => ⟨a, c, h1, h2, h3⟩)
set_option maxHeartbeats 8000000 in
set_option maxRecDepth 100000 in
theorem BookGone_walk (v : Value) (ls : List Pas) (r : ReqOf Value) (hs : List Prm) (o : Ori) (w : World) (st0 : PasAt w v ls ∧ ls.length ≤ 140737488355328 ∧ ∀ p ∈ ls, p.Sized) (st1 : ReqFit w r hs) (_ : o.Sized ∧ (Lit.int .i64 o.port).wf = true) :
    Calls Tryd.prog 7 #[v, .agg r.cells.toArray, .agg o.cells.toArray] w fun e w' => e = .returned (.bool true) ∧ Below w.heap.size w w' := by
  obtain ⟨h1, l1, z1⟩ := st0
  obtain ⟨h2, l2, z2, z3, _, _, _, _⟩ := st1
  obtain ⟨a1, c1, hf1⟩ := RowsAt.form h1
  rw [List.length_map] at hf1
  subst hf1
  obtain ⟨w1, hw1⟩ : ∃ w1, w1 = (w.alloc (.cells r.cells.toArray 67)).alloc (.cells #[.bool o.secure, .string o.host, .int .i64 o.port] 24) := ⟨_, rfl⟩
  have hfb : Fr noB w w1 := by rw [hw1]; exact ((Fr.refl noB w).alloc _).alloc _
  have hk1 : w1.heap[w.heap.size]? = some (.cells r.cells.toArray 67 (0, 0)) := by rw [hw1]; exact ((Fr.refl noB _).alloc _).keep (new_block _ _) (fun h => h)
  have hk2 : w1.heap[w.heap.size + 1]? = some (.cells #[.bool o.secure, .string o.host, .int .i64 o.port] 24 (0, 0)) := by
    have h := new_block (w.alloc (.cells r.cells.toArray 67)) (.cells #[.bool o.secure, .string o.host, .int .i64 o.port] 24)
    rw [World.size_alloc] at h
    rw [hw1]; exact h
  have HL := Lib.hid (show ∀ U, Fr noB w1 U → PasAt U (.slice a1 ls.length c1) ls from fun U hU => RowsAt.frNone h1 (hfb.trans hU))
  have HK1 := Lib.hid (show ∀ U, Fr noB w1 U → U.heap[w.heap.size]? = some (.cells r.cells.toArray 67 (0, 0)) from fun U hU => hU.keep hk1 (fun h => h))
  have HK2 := Lib.hid (show ∀ U, Fr noB w1 U → U.heap[w.heap.size + 1]? = some (.cells #[.bool o.secure, .string o.host, .int .i64 o.port] 24 (0, 0)) from fun U hU => hU.keep hk2 (fun h => h))
  have HPS := Lib.hid (show ∀ U, Fr noB w1 U → Calls Tryd.prog 24 #[.slice a1 ls.length c1] U fun e w' => e = .returned (.bool (passesB ls)) ∧ Fr noB U w' from fun U hU => passes_any _ ls U (HL.out U hU) l1 z1)
  have HRF := Lib.hid (show ∀ U, Fr noB w1 U → Calls Tryd.prog 27 #[.agg r.cells.toArray] U fun e w' => e = .returned (.bool (rightfulB r hs)) ∧ Fr noB U w' from fun U hU => rightful_any r hs U (RowsAt.frNone h2 (hfb.trans hU)) l2 z2 z3)
  have HLT := Lib.hid (show ls ≠ [] → ∀ k, (Value.slice a1 ls.length c1).ownBlock = some k → k < w.heap.size from fun hne k hk => RowsAt.lt h1 (by simpa using hne) k hk)
  have HFO := Lib.hid (show ∀ (Q : Nat → Prop) (base : Nat) (w0 U : World) (b c : Nat) (X Y : List Pas), TwoQ Q base w0 b c X Y U → X.length < 1000000 → Calls Tryd.prog 40 #[.pointer (some ⟨b, 0, none⟩), .agg r.cells.toArray] U fun e w' => e = .returned (.int .i64 ((X.length : Int) - ((X.filter (fun p => !p.ofReq (r.toL hs))).length : Int))) ∧ TwoQ Q base w0 b c (X.filter (fun p => !p.ofReq (r.toL hs))) Y w' ∧ Fr (fun k => ¬ Q k) U w' from fun Q base w0 U b c X Y h hl => TwoQ_forget r hs h hl)
  have HG1 := Lib.hid (show ∀ U, Fr noB w1 U → ∀ p : Pas, Calls Tryd.prog 44 (#[.agg p.cells.toArray] ++ #[.pointer (some ⟨w.heap.size, 0, none⟩)]) U fun e w' => e = .returned (.bool (p.ofReq (r.toL hs))) ∧ Fr noB U w' from fun U hU p => Gone1_any p r hs w.heap.size U (hU.keep hk1 (fun h => h)))
  have HG2 := Lib.hid (show ∀ U, Fr noB w1 U → ∀ p : Pas, Calls Tryd.prog 45 (#[.agg p.cells.toArray] ++ #[.pointer (some ⟨w.heap.size + 1, 0, none⟩)]) U fun e w' => e = .returned (.bool (p.ofOri o)) ∧ Fr noB U w' from fun U hU p => Gone2_any p o (w.heap.size + 1) U (hU.keep hk2 (fun h => h)))
  obtain ⟨ah, ch, hhf⟩ := RowsAt.form h2
  rw [List.length_map] at hhf
  have HFB := Lib.hid hfb
  clear h1 l1 z1 h2 l2 z2 z3 hk1 hk2 hfb
  generalize rightfulB r hs = rf at *
  obtain ⟨part, ⟨fs, fh, fp⟩, ⟨os, oh, op⟩, path, query, method, heads, wth, body⟩ := r
  simp only at hhf
  subst hhf
  generalize hrl : (ReqOf.mk part ⟨fs, fh, fp⟩ ⟨os, oh, op⟩ path query method (Value.slice ah hs.length ch) wth body).toL hs = rl at *
  clear hrl
  unfold ReqOf.cells at hw1 HRF HK1 HFO ⊢
  dsimp only at hw1 HRF HK1 HFO ⊢
  unfold Ori.cells
  have HC := Lib.hid (show ∀ U, Fr noB w1 U → U.cell? ⟨w.heap.size, 0, none⟩ = some (.int .i64 part) ∧ U.cell? ⟨w.heap.size, 1, none⟩ = some (.bool fs) ∧ U.cell? ⟨w.heap.size, 2, none⟩ = some (.string fh) ∧ U.cell? ⟨w.heap.size, 3, none⟩ = some (.int .i64 fp) ∧ U.cell? ⟨w.heap.size, 4, none⟩ = some (.bool os) ∧ U.cell? ⟨w.heap.size, 5, none⟩ = some (.string oh) ∧ U.cell? ⟨w.heap.size, 6, none⟩ = some (.int .i64 op) ∧ U.cell? ⟨w.heap.size, 7, none⟩ = some (.string path) ∧ U.cell? ⟨w.heap.size, 8, none⟩ = some (.string query) ∧ U.cell? ⟨w.heap.size, 9, none⟩ = some (.string method) ∧ U.cell? ⟨w.heap.size, 10, none⟩ = some (.slice ah hs.length ch) ∧ U.cell? ⟨w.heap.size, 11, none⟩ = some (.bool wth) ∧ U.cell? ⟨w.heap.size, 12, none⟩ = some (.string body) ∧ U.cell? ⟨w.heap.size + 1, 0, none⟩ = some (.bool o.secure) ∧ U.cell? ⟨w.heap.size + 1, 1, none⟩ = some (.string o.host) ∧ U.cell? ⟨w.heap.size + 1, 2, none⟩ = some (.int .i64 o.port) from fun U hU => by
    obtain ⟨e0, e1, e2, e3, e4, e5, e6, e7, e8, e9, e10, e11, e12⟩ := cells13G (HK1.out U hU)
    have j := HK2.out U hU
    exact ⟨e0, e1, e2, e3, e4, e5, e6, e7, e8, e9, e10, e11, e12, by simp [World.cell?, j], by simp [World.cell?, j], by simp [World.cell?, j]⟩)
  go_enter Tryd.func7, Tryd.ntmps7
  go_wp2_with fail
  rw [← hw1]
  clear hw1
  refine (booked_any w1).mono ?_
  rintro e u0 ⟨rfl, hu0⟩
  have HU0 := Lib.hid hu0
  clear hu0
  go_wp2_with fail
  refine (HPS.out u0 HU0.out).mono ?_
  rintro e u1 ⟨rfl, hu1⟩
  have HU1 := Lib.hid (HU0.out.trans hu1)
  clear hu1
  cases hps : passesB ls
  · clear hps
    go_wp2
    go_ret
    exact ⟨rfl, (HFB.out.trans HU1.out).none_below⟩
  have hlen : ls.length ≤ 60 := by
    unfold passesB at hps
    simp only [Bool.and_eq_true, decide_eq_true_eq] at hps
    exact hps.1
  clear hps
  obtain ⟨e0, e1, e2, e3, e4, e5, e6, e7, e8, e9, e10, e11, e12, _, _, _⟩ := HC.out u1 HU1.out
  go_wp2_with fail
  refine (HRF.out u1 HU1.out).mono ?_
  rintro e u2 ⟨rfl, hu2⟩
  have HU2 := Lib.hid (HU1.out.trans hu2)
  clear hu2 e0 e1 e2 e3 e4 e5 e6 e7 e8 e9 e10 e11 e12
  cases rf
  · go_wp2
    go_ret
    exact ⟨rfl, (HFB.out.trans HU2.out).none_below⟩
  have htn := Two_new u2
  have hlt2 : ls ≠ [] → ∀ k, (Value.slice a1 ls.length c1).ownBlock = some k → k < u2.heap.size := fun hne k hk => by
    have h1 := HLT.out hne k hk
    have h2 := HFB.out.size
    have h3 := HU2.out.size
    omega
  have HP1 := Lib.hid (Two_put (.slice a1 ls.length c1) ls 0 htn (HL.out _ (HU2.out.trans htn.fr)) hlt2 (by simp; omega))
  have HLT2 := Lib.hid hlt2
  clear htn hlt2
  go_wp2_with fail
  refine HP1.out.mono ?_
  rintro e u3 ⟨rfl, hT3⟩
  have HP2 := Lib.hid (Two_put2 (.slice a1 ls.length c1) ls 0 hT3 (HL.out _ (HU2.out.trans hT3.fr)) HLT2.out (by simp; omega))
  clear hT3 HP1
  go_wp2_with fail
  refine HP2.out.mono ?_
  rintro e u4 ⟨rfl, hT4⟩
  have hn32 := bookPut_len [] ls 0
  generalize bookPut [] ls 0 = PS at *
  have HLI := Lib.hid (Two_list hT4 (by omega))
  have HT4 := Lib.hid hT4
  clear hT4 HP2
  go_wp2_with fail
  refine HLI.out.mono ?_
  rintro e u5 ⟨wv, rfl, hw5, hf5⟩
  have hT5 : TwoQ (own wv) u2.heap.size u2 u2.heap.size (u2.heap.size + 1) PS PS u5 := by
    obtain ⟨⟨vb, vc, g1, g2, g3⟩, gf, gl⟩ := HT4.out.frN hf5
    obtain ⟨⟨vb', vc', g1', g2', g3'⟩, _, _⟩ := HT4.out
    exact ⟨⟨vb', vc', g1'.frN hf5, g2'.frN hf5, g3', fun k hk => ⟨fun hb => by have h1 := g1'.foot_lt hb; have h2 := hw5.block k hk; omega, fun hb => by have h1 := g2'.foot_lt hb; have h2 := hw5.block k hk; omega⟩⟩, gf, gl, fun k hk => hw5.lt k hk⟩
  have hwat := hw5.at
  obtain ⟨aw, cw, hwv⟩ := hw5.form
  rw [List.length_map] at hwv
  subst hwv
  have HWAS := Lib.hid (show ∀ U, Fr noB u5 U → RowsAt 12 U (.slice aw PS.length cw) (PS.map Pas.cells) from fun U hU => RowsAt.frNone hwat hU)
  have HWO := Lib.hid hw5
  have HT5 := Lib.hid hT5
  have HT4S := Lib.hid (HT4.out.fr.size)
  have HS45 := Lib.hid hf5.size
  clear hwat hw5 hf5 hT5 HLI
  have HSW := Lib.hid (show ∀ (Q : Nat → Prop) (base : Nat) (w0 U : World) (b c : Nat) (X Y : List Pas), TwoQ Q base w0 b c X Y U → Y.length < 1000000 → Calls Tryd.prog 41 #[.pointer (some ⟨c, 0, none⟩), .agg #[.bool o.secure, .string o.host, .int .i64 o.port]] U fun e w' => e = .returned (.int .i64 ((Y.length : Int) - ((Y.filter (fun p => !p.ofOri o)).length : Int))) ∧ TwoQ Q base w0 b c X (Y.filter (fun p => !p.ofOri o)) w' ∧ Fr (fun k => ¬ Q k) U w' from fun Q base w0 U b c X Y h hl => TwoQ_sweep o h hl)
  have hX := List.length_filter_le (fun p => !Pas.ofReq rl p) PS
  have hY := List.length_filter_le (fun p => !Pas.ofOri o p) PS
  have HX := Lib.hid hX
  have HY := Lib.hid hY
  clear hX hY
  obtain ⟨FX, hFX⟩ : ∃ FX : Pas → Bool, FX = Pas.ofReq rl := ⟨_, rfl⟩
  obtain ⟨FY, hFY⟩ : ∃ FY : Pas → Bool, FY = Pas.ofOri o := ⟨_, rfl⟩
  rw [← hFX] at HFO HG1 HX
  rw [← hFY] at HSW HG2 HY
  clear hFX hFY
  go_wp2_with fail
  go_region_held3 (fun U => Fr noB w1 U ∧ U.cell? ⟨w.heap.size, 0, none⟩ = some (.int .i64 part) ∧ U.cell? ⟨w.heap.size, 1, none⟩ = some (.bool fs) ∧ U.cell? ⟨w.heap.size, 2, none⟩ = some (.string fh) ∧ U.cell? ⟨w.heap.size, 3, none⟩ = some (.int .i64 fp) ∧ U.cell? ⟨w.heap.size, 4, none⟩ = some (.bool os) ∧ U.cell? ⟨w.heap.size, 5, none⟩ = some (.string oh) ∧ U.cell? ⟨w.heap.size, 6, none⟩ = some (.int .i64 op) ∧ U.cell? ⟨w.heap.size, 7, none⟩ = some (.string path) ∧ U.cell? ⟨w.heap.size, 8, none⟩ = some (.string query) ∧ U.cell? ⟨w.heap.size, 9, none⟩ = some (.string method) ∧ U.cell? ⟨w.heap.size, 10, none⟩ = some (.slice ah hs.length ch) ∧ U.cell? ⟨w.heap.size, 11, none⟩ = some (.bool wth) ∧ U.cell? ⟨w.heap.size, 12, none⟩ = some (.string body) ∧ U.cell? ⟨w.heap.size + 1, 0, none⟩ = some (.bool o.secure) ∧ U.cell? ⟨w.heap.size + 1, 1, none⟩ = some (.string o.host) ∧ U.cell? ⟨w.heap.size + 1, 2, none⟩ = some (.int .i64 o.port)) ((refine (fun hU => ⟨hU, HC.out _ hU⟩) ?_; first | exact HU2.out.trans hTS.fr | exact HU2.out.trans hTF.fr | exact (HU2.out.trans HT5.out.fr).drew | exact HU2.out.trans HT5.out.fr))
    ((first
      | (go_at_call 40; refine (HFO.out _ _ _ _ _ _ _ _ (by first | exact hTS | exact HT5.out.frN (Fr.refl _ _).drew | exact HT5.out) (by omega)).mono ?_; rintro e uF ⟨rfl, hTF, hqF⟩)
      | (go_at_call 41; refine (HSW.out _ _ _ _ _ _ _ _ (by first | exact hTF | exact HT5.out.frN (Fr.refl _ _).drew | exact HT5.out) (by omega)).mono ?_; rintro e uS ⟨rfl, hTS, hqS⟩)))
  have HT9 := Lib.hid hTS
  have hq9 : Fr (fun k => ¬ own (Value.slice aw PS.length cw) k) u5 uS := by
    first
      | exact hqF.trans hqS
      | exact (Fr.step (S := fun k => ¬ own (Value.slice aw PS.length cw) k) ((Fr.refl _ _).drew) hqF (fun _ _ h => h)).trans hqS
  have HWA9 := Lib.hid (show RowsAt 12 uS (.slice aw PS.length cw) (PS.map Pas.cells) from (HWAS.out u5 (Fr.refl _ _)).fr hq9 (fun b hb h => h hb))
  clear hTF hTS hqF hqS hq9 HFO HSW HWAS HT4 HT5
  have HU9 := Lib.hid (HU2.out.trans HT9.out.fr)
  obtain ⟨GX, hGX⟩ : ∃ GX, GX = PS.filter (fun p => !FX p) := ⟨_, rfl⟩
  obtain ⟨GY, hGY⟩ : ∃ GY, GY = PS.filter (fun p => !FY p) := ⟨_, rfl⟩
  rw [← hGX, ← hGY] at HT9 ⊢
  rw [← hGX] at HX
  rw [← hGY] at HY
  have HGX := Lib.hid hGX
  have HGY := Lib.hid hGY
  clear hGX hGY
  have hxl := HX.out
  have hyl := HY.out
  have HCL := Lib.hid (Clone_A (.slice aw PS.length cw) (PS.map Pas.cells) uS HWA9.out (by rw [List.length_map]; omega))
  go_wp2_with fail
  refine HCL.out.mono ?_
  rintro e x1 ⟨v1, rfl, ho1, hx1⟩
  obtain ⟨b1, d1, hv1⟩ := ho1.form
  rw [List.length_map] at hv1
  subst hv1
  have HP1 := Lib.hid (gone_pick 44 #[.pointer (some ⟨w.heap.size, 0, none⟩)] FX (.slice b1 PS.length d1) PS x1 Tryd.call44 (fun p u hu => HG1.out u ((HU9.out.trans hx1).step hu (fun j hj ho => by have h1 := ho1.block j ho; have h2 := HU9.out.size; omega)) p) ho1)
  rw [← HGX.out] at HP1
  have HO1 := Lib.hid ho1
  have HX1 := Lib.hid hx1
  clear ho1 hx1 HCL HG1
  go_wp2_with fail
  refine HP1.out.mono ?_
  rintro e x2 ⟨a2, c2, rfl, ho2, hx2⟩
  have HX2 := Lib.hid (show Fr noB uS x2 from HX1.out.step hx2 (fun j hj ho => by have h1 := HO1.out.block j ho; omega))
  have HO2 := Lib.hid ho2
  clear ho2 hx2 HP1 HO1 HX1
  have HCL2 := Lib.hid (Clone_A (.slice aw PS.length cw) (PS.map Pas.cells) x2 (RowsAt.frNone HWA9.out HX2.out) (by rw [List.length_map]; omega))
  go_wp2_with fail
  refine HCL2.out.mono ?_
  rintro e x3 ⟨v3, rfl, ho3, hx3⟩
  obtain ⟨b3, d3, hv3⟩ := ho3.form
  rw [List.length_map] at hv3
  subst hv3
  have HP2 := Lib.hid (gone_pick 45 #[.pointer (some ⟨w.heap.size + 1, 0, none⟩)] FY (.slice b3 PS.length d3) PS x3 Tryd.call45 (fun p u hu => HG2.out u (((HU9.out.trans HX2.out).trans hx3).step hu (fun j hj ho => by have h1 := ho3.block j ho; have h2 := (HU9.out.trans HX2.out).size; omega)) p) ho3)
  rw [← HGY.out] at HP2
  have HO3 := Lib.hid ho3
  have HX3 := Lib.hid hx3
  clear ho3 hx3 HCL2 HG2
  go_wp2_with fail
  refine HP2.out.mono ?_
  rintro e x4 ⟨a4, c4, rfl, ho4, hx4⟩
  have HX4 := Lib.hid (show Fr noB uS x4 from (HX2.out.trans HX3.out).step hx4 (fun j hj ho => by have h1 := HO3.out.block j ho; have h2 := HX2.out.size; omega))
  have HRX := Lib.hid (show RowsAt 12 x4 (.slice a2 GX.length c2) (GX.map Pas.cells) from ((HO2.out.fr HX3.out (fun _ _ h => h)).fr hx4 (fun j hj ho => by
    have h1 := HO3.out.block j ho
    have h2 := HO2.out.lt j hj
    omega)).at)
  have HRY := Lib.hid (show RowsAt 12 x4 (.slice a4 GY.length c4) (GY.map Pas.cells) from ho4.at)
  have HT10 := Lib.hid (HT9.out.toB.frN HX4.out)
  clear ho4 hx4 HP2 HO3 HX3 HX2 HO2 HWA9
  have HL1 := Lib.hid (Two_list HT10.out (by omega))
  go_wp2_with fail
  refine HL1.out.mono ?_
  rintro e x5 ⟨v5, rfl, ho5, hx5⟩
  obtain ⟨b5, d5, hv5⟩ := ho5.form
  rw [List.length_map] at hv5
  subst hv5
  have HE1 := Lib.hid (EqualPa_same _ _ GX x5 ho5.at (RowsAt.frNone HRX.out hx5))
  have HX5 := Lib.hid hx5
  clear ho5 hx5 HL1
  go_wp2_with fail
  refine HE1.out.mono ?_
  rintro e x6 ⟨rfl, hx6⟩
  have HX6 := Lib.hid (HX5.out.trans hx6)
  have HL2 := Lib.hid (Two_list2 (HT10.out.frN HX6.out) (by omega))
  clear hx6 HE1
  go_wp2_with fail
  refine HL2.out.mono ?_
  rintro e x7 ⟨v7, rfl, ho7, hx7⟩
  obtain ⟨b7, d7, hv7⟩ := ho7.form
  rw [List.length_map] at hv7
  subst hv7
  have HE2 := Lib.hid (EqualPa_same _ _ GY x7 ho7.at (RowsAt.frNone HRY.out (HX6.out.trans hx7)))
  have HX7 := Lib.hid (HX6.out.trans hx7)
  clear ho7 hx7 HL2
  go_wp2_with fail
  refine HE2.out.mono ?_
  rintro e x8 ⟨rfl, hx8⟩
  have hwa : IntKind.i64.wrap ((PS.length : Int) - (GX.length : Int)) = (PS.length : Int) - (GX.length : Int) := by rw [IntWalk.i64_left]; exact IntWalk.wrap64_in _ (by omega)
  have hwb : IntKind.i64.wrap ((PS.length : Int) - (GY.length : Int)) = (PS.length : Int) - (GY.length : Int) := by rw [IntWalk.i64_left]; exact IntWalk.wrap64_in _ (by omega)
  have HFIN := Lib.hid (HFB.out.trans (HU9.out.trans (HX4.out.trans (HX7.out.trans hx8))))
  clear hx8
  go_wp2
  go_ret
  exact ⟨rfl, HFIN.out.none_below⟩
end Go.Proofs.YtkoobhgedoanhaaDoor

namespace Go.Proofs.YtkoobhgedoanhaaDoor
open Go.ChangeShapes Go.WideShapes Go.ChangeAt Go.RowKit Go.Deep

variable {H : Type} {enc : TypeId × Value → H} {W : World}
theorem cells_pas : Tryd.prog.cellsOf 63 = 12 := by kernel_rfl
theorem len12 {α : Type} {l : List α} (h : l.length = 12) : ∃ a b c d e f g i j k m n, l = [a, b, c, d, e, f, g, i, j, k, m, n] := by
  match l, h with
  | [a, b, c, d, e, f, g, i, j, k, m, n], _ => exact ⟨a, b, c, d, e, f, g, i, j, k, m, n, rfl⟩
theorem open_pas {fuel : Nat} {cs : List Value} {x : DataW H × List MemPlace} (h : DataW.trod enc Tryd.prog W 0 (fun _ => true) true fuel 63 cs = some x) :
    ∃ p : Pas, cs = p.cells ∧ cs.length = 12 ∧ (∀ u ∈ cs, u.oneCell' = true) ∧ (Light Tryd.prog 63 x.1 → p.Sized) := by
  obtain ⟨hl, n, hf⟩ := open_field Tryd.underlying63 h
  rw [cells_pas] at hl
  obtain ⟨c0, c1, c2, c3, c4, c5, c6, c7, c8, c9, c10, c11, rfl⟩ := len12 hl
  obtain ⟨y0, h0, l0⟩ := hf 0 24 0 _ rfl cells_ori
  obtain ⟨y1, h1, l1⟩ := hf 1 61 3 _ rfl cells_url
  obtain ⟨y2, h2, l2⟩ := hf 2 4 8 _ rfl cells_bool
  obtain ⟨y3, h3, l3⟩ := hf 3 9 9 _ rfl cells_string
  obtain ⟨y4, h4, l4⟩ := hf 4 9 10 _ rfl cells_string
  obtain ⟨y5, h5, l5⟩ := hf 5 3 11 _ rfl cells_int
  simp only [List.drop, List.take] at h0 h1 h2 h3 h4 h5
  obtain ⟨o, e0, w0, s0⟩ := open_ori h0
  obtain ⟨o1, pa, qu, e1, w1, s1⟩ := open_url h1
  obtain ⟨b2, e2⟩ := open_bool_field Tryd.underlying4 h2
  obtain ⟨b3, e3, w3⟩ := open_string_field Tryd.underlying9 h3
  obtain ⟨b4, e4, w4⟩ := open_string_field Tryd.underlying9 h4
  obtain ⟨b5, e5, w5⟩ := open_int_field Tryd.underlying3 h5
  unfold Ori.cells at e0 e1
  simp only [List.cons_append, List.nil_append, List.cons.injEq, and_true] at e0 e1 e2 e3 e4 e5
  obtain ⟨rfl, rfl, rfl⟩ := e0
  obtain ⟨rfl, rfl, rfl, rfl, rfl⟩ := e1
  subst e2 e3 e4 e5
  have hone : ∀ u ∈ (⟨o, o1, pa, qu, b2, b3, b4, b5⟩ : Pas).cells, u.oneCell' = true := by unfold Pas.cells; simp [Value.oneCell']
  refine ⟨⟨o, o1, pa, qu, b2, b3, b4, b5⟩, rfl, rfl, hone, fun hL => ?_⟩
  have := s1 (l1 hL)
  unfold Pas.Sized
  show _ ≤ reachBytes ∧ _ ≤ reachBytes ∧ _ ≤ reachBytes ∧ _ ≤ reachBytes ∧ _ ≤ reachBytes ∧ _ ≤ reachBytes
  exact ⟨w3 (l3 hL), w4 (l4 hL), this.2.1, this.2.2, this.1, s0 (l0 hL)⟩
set_option maxRecDepth 100000 in
/-- a slice of passes as an argument -/
theorem open_passesArg {base : Nat} {v : Value} {d : DataW H} {p : List MemPlace} (hv : Value.okWide Tryd.prog W .any base 53 v) (h : DataW.Trod enc Tryd.prog W 0 (fun _ => true) true 53 v d p) (hL : Light Tryd.prog 53 d) :
    ∃ ps : List Pas, PasAt W v ps ∧ ps.length ≤ 140737488355328 ∧ ∀ p ∈ ps, p.Sized := by
  obtain ⟨a, len, cap, rfl⟩ := okWide_slice Tryd.underlying53 hv
  obtain ⟨fuel, hf⟩ := h
  obtain ⟨v', css, bs, e, hr, hb, hs⟩ := open_rowsR (Q := fun cs (b : Pas) => cs = b.cells) (S := fun b => b.Sized) Tryd.underlying53 cells_pas (by decide) (by kernel_rfl : Tryd.prog.bytesOf 63 = 144) open_pas hf
  simp only [Value.cells, List.cons.injEq, and_true] at e
  subst e
  rw [both_eqR hb] at hr
  have h2 := hs hL
  refine ⟨bs, hr, ?_, h2.2⟩
  have hk : reachBytes = 140737488351232 := rfl
  have := h2.1
  omega
end Go.Proofs.YtkoobhgedoanhaaDoor
