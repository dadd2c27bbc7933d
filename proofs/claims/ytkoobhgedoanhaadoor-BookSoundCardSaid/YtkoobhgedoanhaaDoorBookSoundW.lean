/- The law BookSound: its walk. -/
import Derived.Test.YtkoobhgedoanhaaDoorSound1
import Derived.Test.YtkoobhgedoanhaaDoorOpenY
import Derived.Test.YtkoobhgedoanhaaDoorBookFewW
namespace Go.Proofs.YtkoobhgedoanhaaDoor
open Go.RowKit

theorem fewB_small {hs : List Prm} (h : fewB hs = true) : hs.length ≤ 40 ∧ ∀ p ∈ hs, p.1.size + p.2.size ≤ 300 := by
  unfold fewB at h
  simp only [Bool.and_eq_true, decide_eq_true_eq, Bool.not_eq_true', List.any_eq_false] at h
  refine ⟨h.1, fun p hp => ?_⟩
  have := h.2 p hp
  unfold bigP at this
  simp only [decide_eq_true_eq] at this
  omega
theorem ReqOk.of {r : ReqOf Value} {hs : List Prm} (hb : rightfulB r hs = true) : ReqOk r hs := by
  unfold rightfulB at hb
  simp only [Bool.and_eq_true, decide_eq_true_eq] at hb
  obtain ⟨h1, h2⟩ := hb
  obtain ⟨g1, g2⟩ := fewB_small h1
  exact ⟨by omega, by omega, fun p hp => by have := g2 p hp; omega⟩
/-- a request's thirteen cells -/
def ReqLie (w : World) (b : Nat) (r : ReqOf Value) : Prop :=
  w.cell? ⟨b, 0, none⟩ = some (.int .i64 r.part) ∧ w.cell? ⟨b, 1, none⟩ = some (.bool r.frm.secure) ∧ w.cell? ⟨b, 2, none⟩ = some (.string r.frm.host) ∧ w.cell? ⟨b, 3, none⟩ = some (.int .i64 r.frm.port) ∧ w.cell? ⟨b, 4, none⟩ = some (.bool r.o.secure) ∧ w.cell? ⟨b, 5, none⟩ = some (.string r.o.host) ∧ w.cell? ⟨b, 6, none⟩ = some (.int .i64 r.o.port) ∧ w.cell? ⟨b, 7, none⟩ = some (.string r.path) ∧ w.cell? ⟨b, 8, none⟩ = some (.string r.query) ∧ w.cell? ⟨b, 9, none⟩ = some (.string r.method) ∧ w.cell? ⟨b, 10, none⟩ = some r.heads ∧ w.cell? ⟨b, 11, none⟩ = some (.bool r.wth) ∧ w.cell? ⟨b, 12, none⟩ = some (.string r.body)
theorem ReqLie.blk {w : World} {b : Nat} {r : ReqOf Value} (h : w.heap[b]? = some (.cells r.cells.toArray 67 (0, 0))) : ReqLie w b r := by
  have hc : ∀ i u, r.cells[i]? = some u → w.cell? ⟨b, i, none⟩ = some u := fun i u hu => by simp only [World.cell?, h]; simpa using hu
  exact ⟨hc 0 _ rfl, hc 1 _ rfl, hc 2 _ rfl, hc 3 _ rfl, hc 4 _ rfl, hc 5 _ rfl, hc 6 _ rfl, hc 7 _ rfl, hc 8 _ rfl, hc 9 _ rfl, hc 10 _ rfl, hc 11 _ rfl, hc 12 _ rfl⟩
set_option maxHeartbeats 8000000 in
set_option maxRecDepth 100000 in
theorem BookSound_walk (v : Value) (ls : List Pas) (r : ReqOf Value) (hs : List Prm) (t : Int) (w : World) (st0 : PasAt w v ls ∧ ls.length ≤ 140737488355328 ∧ ∀ p ∈ ls, p.Sized) (st1 : ReqFit w r hs) :
    Calls Tryd.prog 6 #[v, .agg r.cells.toArray, .int .i64 t] w fun e w' => e = .returned (.bool true) ∧ Below w.heap.size w w' := by
  obtain ⟨h1, l1, z1⟩ := st0
  obtain ⟨h2, l2, z2, z3, _, _, _, _⟩ := st1
  obtain ⟨a1, c1, hf1⟩ := RowsAt.form h1
  rw [List.length_map] at hf1
  subst hf1
  obtain ⟨n, hn⟩ : ∃ n, n = w.heap.size := ⟨_, rfl⟩
  obtain ⟨w1, hw1⟩ : ∃ w1, w1 = ((w.alloc (.cells #[.slice a1 ls.length c1] 53)).alloc (.cells r.cells.toArray 67)).alloc (.cells #[.int .i64 t] 3) := ⟨_, rfl⟩
  have hfb : Fr noB w w1 := by rw [hw1]; exact (((Fr.refl noB w).alloc _).alloc _).alloc _
  have hk1 : w1.heap[n]? = some (.cells #[.slice a1 ls.length c1] 53 (0, 0)) := by rw [hw1, hn]; exact (((Fr.refl noB _).alloc _).alloc _).keep (new_block _ _) (fun h => h)
  have hk2 : w1.heap[n + 1]? = some (.cells r.cells.toArray 67 (0, 0)) := by
    have h := new_block (w.alloc (.cells #[.slice a1 ls.length c1] 53)) (.cells r.cells.toArray 67)
    rw [World.size_alloc, ← hn] at h
    rw [hw1]; exact ((Fr.refl noB _).alloc _).keep h (fun h => h)
  have hk3 : w1.heap[n + 1 + 1]? = some (.cells #[.int .i64 t] 3 (0, 0)) := by
    have h := new_block ((w.alloc (.cells #[.slice a1 ls.length c1] 53)).alloc (.cells r.cells.toArray 67)) (.cells #[.int .i64 t] 3)
    rw [World.size_alloc, World.size_alloc, ← hn] at h
    rw [hw1]; exact h
  have HL := Lib.hid (show ∀ U, Fr noB w1 U → PasAt U (.slice a1 ls.length c1) ls from fun U hU => RowsAt.frNone h1 (hfb.trans hU))
  have HX := Lib.hid (show ∀ U, Fr noB w1 U → ReqLie U (n + 1) r from fun U hU => ReqLie.blk (hU.keep hk2 (fun h => h)))
  have HX1 := Lib.hid (show ∀ U, Fr noB w1 U → U.cell? ⟨n, 0, none⟩ = some (.slice a1 ls.length c1) from fun U hU => by simp [World.cell?, hU.keep hk1 (fun h => h)])
  have HX3 := Lib.hid (show ∀ U, Fr noB w1 U → U.cell? ⟨n + 1 + 1, 0, none⟩ = some (.int .i64 t) from fun U hU => by simp [World.cell?, hU.keep hk3 (fun h => h)])
  have HPS := Lib.hid (show ∀ U, Fr noB w1 U → Calls Tryd.prog 24 #[.slice a1 ls.length c1] U fun e w' => e = .returned (.bool (passesB ls)) ∧ Fr noB U w' from fun U hU => passes_any _ ls U (HL.out U hU) l1 z1)
  have HRF := Lib.hid (show ∀ U, Fr noB w1 U → Calls Tryd.prog 27 #[.agg r.cells.toArray] U fun e w' => e = .returned (.bool (rightfulB r hs)) ∧ Fr noB U w' from fun U hU => rightful_any r hs U (RowsAt.frNone h2 (hfb.trans hU)) l2 z2 z3)
  have HND := Lib.hid (show rightfulB r hs = true → ∀ U, Fr noB w1 U → Calls Tryd.prog 31 #[.agg r.cells.toArray] U fun e w' => e = .returned (.bool (r.toL hs).needs) ∧ Fr noB U w' from fun hz U hU => Needs_any r hs U (RowsAt.frNone h2 (hfb.trans hU)) (ReqOk.of hz))
  have HCV := Lib.hid (show rightfulB r hs = true → ∀ U, Fr noB w1 U → ∀ (base b : Nat) (bv : Value) (ps : List Pas), BookIs base U b bv ps → ps.length ≤ 32 → Calls Tryd.prog 30 #[.pointer (some ⟨b, 0, none⟩), .agg r.cells.toArray, .int .i64 t] U fun e w' => e = .returned (.bool (bookCovers ps (r.toL hs) t)) ∧ Fr noB U w' from fun hz U hU base b bv ps hb hl => BCovers_any base U b bv ps r hs t hb (by omega) (RowsAt.frNone h2 (hfb.trans hU)) (ReqOk.of hz))
  have HMT := Lib.hid (show rightfulB r hs = true → ∀ U, Calls Tryd.prog 35 #[.string r.method] U fun e w' => e = .returned (.string (methodB r.method)) ∧ Fr noB U w' from fun hz U => Method_any r.method U (ReqOk.of hz).1)
  have HASK := Lib.hid (show rightfulB r hs = true → ∀ U, Fr noB w1 U → Calls Tryd.prog 38 #[r.heads] U fun e w' => ∃ u, e = .returned u ∧ Strs U.heap.size w' u (askedB hs) ∧ Fr noB U w' from fun hz U hU => Asked_any hs _ U (RowsAt.frNone h2 (hfb.trans hU)) (ReqOk.of hz).2.1 (ReqOk.of hz).2.2)
  have HCL2 := Lib.hid (show ∀ U, Fr noB w1 U → ∀ (bm : Nat) (m : ByteArray), U.heap[bm]? = some (.cells #[.string m] 9 (0, 0)) → Calls Tryd.prog 32 #[.func (.func 37) #[] #[.pointer (some ⟨bm, 0, none⟩), .pointer (some ⟨n + 1, 0, none⟩)], .pointer (some ⟨n, 0, none⟩), .pointer (some ⟨n + 1 + 1, 0, none⟩), .pointer (some ⟨n + 1, 0, none⟩)] U fun e w' => e = .returned (.bool (ls.any (fun p => (r.toL hs).mine t p && p.lets m r.wth))) ∧ Fr noB U w' from fun U hU bm m hm =>
    Sou1_any _ ls r hs t _ _ (fun p => p.lets m r.wth) _ _ _ U Tryd.call37 (fun p _ u hu => Sou2_any p m r bm (n + 1) u (hu.keep hm (fun h => h)) ((hU.trans hu).keep hk2 (fun h => h))) (hU.keep hk1 (fun h => h)) (HL.out U hU) (hU.keep hk3 (fun h => h)) (hU.keep hk2 (fun h => h)))
  have HCL3 := Lib.hid (show ∀ U, Fr noB w1 U → ∀ (bm : Nat) (m : ByteArray), U.heap[bm]? = some (.cells #[.string m] 9 (0, 0)) → Calls Tryd.prog 32 #[.func (.func 39) #[] #[.pointer (some ⟨bm, 0, none⟩), .pointer (some ⟨n + 1, 0, none⟩)], .pointer (some ⟨n, 0, none⟩), .pointer (some ⟨n + 1 + 1, 0, none⟩), .pointer (some ⟨n + 1, 0, none⟩)] U fun e w' => e = .returned (.bool (ls.any (fun p => (r.toL hs).mine t p && p.letsH m r.wth))) ∧ Fr noB U w' from fun U hU bm m hm =>
    Sou1_any _ ls r hs t _ _ (fun p => p.letsH m r.wth) _ _ _ U Tryd.call39 (fun p _ u hu => Sou3_any p m r bm (n + 1) u (hu.keep hm (fun h => h)) ((hU.trans hu).keep hk2 (fun h => h))) (hU.keep hk1 (fun h => h)) (HL.out U hU) (hU.keep hk3 (fun h => h)) (hU.keep hk2 (fun h => h)))
  have LAW := Lib.hid (show (r.toL hs).needs = true → bookCovers (bookPut [] ls t) (r.toL hs) t = true → (simpleB (methodB r.method) = false → ls.any (fun p => (r.toL hs).mine t p && p.lets (methodB r.method) r.wth) = true) ∧ ∀ h ∈ askedB hs, ls.any (fun p => (r.toL hs).mine t p && p.letsH h r.wth) = true from sound_law)
  have HLT := Lib.hid (show ls ≠ [] → ∀ k, (Value.slice a1 ls.length c1).ownBlock = some k → k < w.heap.size from fun hne k hk => RowsAt.lt h1 (by simpa using hne) k hk)
  obtain ⟨ah, ch, hhf⟩ := RowsAt.form h2
  rw [List.length_map] at hhf
  have HFB := Lib.hid hfb
  have HHF := Lib.hid hhf
  have hw1' := hw1
  clear h1 l1 z1 h2 l2 z2 z3 hk1 hk2 hk3 hfb
  obtain ⟨part, ⟨fs, fh, fp⟩, ⟨os, oh, op⟩, path, query, method, heads, wth, body⟩ := r
  simp only at hhf
  subst hhf
  obtain ⟨R, hR⟩ : ∃ R : ReqOf Value, R = ⟨part, ⟨fs, fh, fp⟩, ⟨os, oh, op⟩, path, query, method, .slice ah hs.length ch, wth, body⟩ := ⟨_, rfl⟩
  have HRF2 := HRF
  rw [← hR] at HX HRF HND HCV HMT HASK HCL2 HCL3 LAW
  unfold ReqOf.cells at hw1
  have HARG := Lib.hid (show R.cells.toArray = #[.int .i64 part, .bool fs, .string fh, .int .i64 fp, .bool os, .string oh, .int .i64 op, .string path, .string query, .string method, .slice ah hs.length ch, .bool wth, .string body] by rw [hR]; rfl)
  have HRL := Lib.hid (show ∀ U, Fr noB w1 U → ReqLie U (n + 1) ⟨part, ⟨fs, fh, fp⟩, ⟨os, oh, op⟩, path, query, method, .slice ah hs.length ch, wth, body⟩ from by rw [← hR]; exact HX.out)
  have HMR := Lib.hid (show R.method = method by rw [hR])
  have HHR := Lib.hid (show R.heads = .slice ah hs.length ch by rw [hR])
  clear HX HRF2
  rw [HARG.out] at HRF HND HCV
  rw [HMR.out] at HMT LAW
  rw [HHR.out] at HASK
  have HX := HRL
  unfold ReqLie at HX
  dsimp only at HX
  unfold ReqOf.cells
  dsimp only
  clear hR HARG HMR HHR HRL HHF
  generalize rightfulB R hs = rf at *
  generalize (R.toL hs).needs = nd at *
  generalize methodB method = m at *
  subst hn
  go_enter Tryd.func6, Tryd.ntmps6
  go_wp2_with fail
  rw [← hw1]
  clear hw1
  refine (booked_any w1).mono ?_
  rintro e u0 ⟨rfl, hu0⟩
  have HU0 := Lib.hid hu0
  have d1 := HX1.out u0 hu0
  clear hu0
  go_wp2_with fail
  refine (HPS.out u0 HU0.out).mono ?_
  rintro e u1 ⟨rfl, hu1⟩
  have HU1 := Lib.hid (HU0.out.trans hu1)
  clear hu1 d1
  cases hps : passesB ls
  · clear hps
    go_wp2
    go_ret
    exact ⟨rfl, (HFB.out.trans HU1.out).none_below⟩
  have hlen : ls.length ≤ 60 := by
    unfold passesB at hps
    simp only [Bool.and_eq_true, decide_eq_true_eq] at hps
    exact hps.1
  clear hps
  obtain ⟨e0, e1, e2, e3, e4, e5, e6, e7, e8, e9, e10, e11, e12⟩ := HX.out u1 HU1.out
  go_wp2_with fail
  refine (HRF.out u1 HU1.out).mono ?_
  rintro e u2 ⟨rfl, hu2⟩
  have HU2 := Lib.hid (HU1.out.trans hu2)
  clear hu2 e0 e1 e2 e3 e4 e5 e6 e7 e8 e9 e10 e11 e12
  cases rf
  · go_wp2
    go_ret
    exact ⟨rfl, (HFB.out.trans HU2.out).none_below⟩
  replace HND := Lib.hid (HND.out (by simp))
  replace HCV := Lib.hid (HCV.out (by simp))
  replace HMT := Lib.hid (HMT.out (by simp))
  replace HASK := Lib.hid (HASK.out (by simp))
  have hb0 := BookIs.new u2
  have hfb2 : Fr noB u2 (u2.alloc (.cells #[.slice none 0 0] 57)) := (Fr.refl _ _).alloc _
  have hu2lt := HU2.out.size
  have hput := BookPut_any u2.heap.size _ u2.heap.size _ [] _ ls t hb0 (HL.out _ (HU2.out.trans hfb2)) (fun hne k hk h => by
    have hlt := HLT.out (by simpa using hne) k hk
    rcases h with h | h
    · have := HFB.out.size; omega
    · simp [own, Value.ownBlock] at h) (by simp; omega)
  have HPUT := Lib.hid hput
  have HFB2 := Lib.hid (HU2.out.trans hfb2)
  have g1 := HX1.out _ HFB2.out
  have g3 := HX3.out _ HFB2.out
  clear hput hfb2 hb0
  go_wp2_with fail
  refine HPUT.out.mono ?_
  rintro e u3 ⟨rfl, v3, hb3, hf3, _⟩
  have HU3 := Lib.hid (Fr.step (S := noB) HFB2.out hf3 (fun k hk h => by
    rcases h with h | h
    · omega
    · simp [own, Value.ownBlock] at h))
  have HB3 := Lib.hid hb3
  clear hb3 hf3 g1 g3 HPUT HFB2
  obtain ⟨e0, e1, e2, e3, e4, e5, e6, e7, e8, e9, e10, e11, e12⟩ := HX.out u3 HU3.out
  go_wp2_with fail
  refine (HND.out u3 HU3.out).mono ?_
  rintro e u4 ⟨rfl, hu4⟩
  have HU4 := Lib.hid (HU3.out.trans hu4)
  have HB4 := Lib.hid (HB3.out.frN hu4)
  clear hu4 e0 e1 e2 e3 e4 e5 e6 e7 e8 e9 e10 e11 e12 HB3
  cases nd
  · go_wp2
    go_ret
    exact ⟨rfl, (HFB.out.trans HU4.out).none_below⟩
  replace LAW := Lib.hid (LAW.out (by simp))
  obtain ⟨e0, e1, e2, e3, e4, e5, e6, e7, e8, e9, e10, e11, e12⟩ := HX.out u4 HU4.out
  have g3 := HX3.out _ HU4.out
  have HCVC := Lib.hid (HCV.out u4 HU4.out _ _ _ _ HB4.out (bookPut_len _ _ _))
  clear HCV HB4
  generalize bookCovers (bookPut [] ls t) (R.toL hs) t = cv at *
  go_wp2_with fail
  refine HCVC.out.mono ?_
  rintro e u5 ⟨rfl, hu5⟩
  have HU5 := Lib.hid (HU4.out.trans hu5)
  clear hu5 e0 e1 e2 e3 e4 e5 e6 e7 e8 e9 e10 e11 e12 g3 HCVC
  cases cv
  · go_wp2
    go_ret
    exact ⟨rfl, (HFB.out.trans HU5.out).none_below⟩
  replace LAW := Lib.hid (LAW.out (by simp))
  have LAWM := Lib.hid LAW.out.1
  have LAWH := Lib.hid LAW.out.2
  clear LAW
  obtain ⟨_, _, _, _, _, _, _, _, _, e9, _⟩ := HX.out u5 HU5.out
  go_wp2_with fail
  refine (HMT.out u5).mono ?_
  rintro e u6 ⟨rfl, hu6⟩
  obtain ⟨w2, hw2⟩ : ∃ w2, w2 = u6.alloc (.cells #[.string m] 9) := ⟨_, rfl⟩
  have hmb : w2.heap[u6.heap.size]? = some (.cells #[.string m] 9 (0, 0)) := by rw [hw2]; exact new_block _ _
  have HW2F := Lib.hid (show Fr noB w1 w2 from by rw [hw2]; exact (HU5.out.trans hu6).alloc _)
  have HC2 := Lib.hid (HCL2.out w2 HW2F.out u6.heap.size m hmb)
  have HW2 := Lib.hid hw2
  have k0 : w2.cell? ⟨u6.heap.size, 0, none⟩ = some (.string m) := by simp [World.cell?, hmb]
  clear hu6 e9 hw2 hmb HMT
  go_wp2_with fail
  rw [← HW2.out]
  refine (Simple_any m w2).mono ?_
  rintro e u2' ⟨rfl, rfl⟩
  cases hsm : simpleB m
  · have hany := LAWM.out hsm
    rw [hany] at HC2
    clear hsm hany LAWM
    go_wp2_with fail
    refine HC2.out.mono ?_
    rintro e u3 ⟨rfl, hf3⟩
    have HF3 := Lib.hid (show Fr noB w1 u3 from HW2F.out.trans hf3)
    obtain ⟨_, _, _, _, _, _, _, _, _, _, c10, _⟩ := HX.out _ HF3.out
    go_wp2_with fail
    refine (HASK.out u3 HF3.out).mono ?_
    rintro e u4 ⟨uv, rfl, hst, hf4⟩
    obtain ⟨au, cu, huf⟩ := hst.form
    obtain ⟨nl, hnl⟩ : ∃ nl, nl = askedB hs := ⟨_, rfl⟩
    rw [← hnl] at hst huf LAWH
    subst huf
    have HF4 := Lib.hid (HF3.out.trans hf4)
    have HST := Lib.hid hst.at
    clear hf4 hst hnl c10 HASK HCL2
    go_wp2
    go_loopw [55] (BfRel nl.length u4) (fun i _ => nl.length - (intOf i).toNat)
    case atStart => exact ⟨0, Nat.zero_le _, rfl, Fr.refl _ _⟩
    case round =>
      obtain ⟨k, hk, rfl, hfr⟩ := hrel
      by_cases hks : k < nl.length
      · have hki : (k : Int) < (nl.length : Int) := by omega
        rcases HST.out.frNone hfr with ⟨_, _, _, e, _⟩ | ⟨bk, o, c, hf, h1, h2, h3, h4⟩
        · rw [e] at hks; exact absurd hks (Nat.not_lt_zero _)
        · cases hf
          unfold maxLen at h2
          have hmem := Lib.hid (List.getElem_mem hks)
          have hc := h4 k _ (List.getElem?_eq_getElem hks)
          generalize nl[k] = x at hmem hc
          clear h4
          obtain ⟨wx, hwx⟩ : ∃ wx, wx = wr.alloc (.cells #[.string x] 9) := ⟨_, rfl⟩
          have hxb : wx.heap[wr.heap.size]? = some (.cells #[.string x] 9 (0, 0)) := by rw [hwx]; exact new_block _ _
          have hfx : Fr noB wr wx := by rw [hwx]; exact (Fr.refl _ _).alloc _
          have HFX := Lib.hid ((HF4.out.trans hfr).trans hfx)
          have hany := LAWH.out x hmem.out
          have HCX := Lib.hid (HCL3.out wx HFX.out wr.heap.size x hxb)
          rw [hany] at HCX
          have HWX := Lib.hid hwx
          have HFR := Lib.hid (hfr.trans hfx)
          clear hwx hany hxb hfx
          go_wp2_with fail
          rw [← HWX.out]
          refine HCX.out.mono ?_
          rintro e u6 ⟨rfl, hf6⟩
          go_wp2
          go_roundw
          case rel => exact ⟨k + 1, by omega, by go_num, HFR.out.trans hf6⟩
          case measure => simp [intOf]; omega
      · have hki : ¬ (k : Int) < (nl.length : Int) := by omega
        go_wp2
        go_ret
        exact ⟨rfl, (HFB.out.trans (HF4.out.trans hfr)).none_below⟩
  · obtain ⟨u3, hu3⟩ : ∃ u3, u3 = w2 := ⟨_, rfl⟩
    rw [← hu3] at HW2F k0 ⊢
    clear hsm LAWM HC2 HW2 hu3
    have HF3 := Lib.hid (show Fr noB w1 u3 from HW2F.out)
    obtain ⟨_, _, _, _, _, _, _, _, _, _, c10, _⟩ := HX.out _ HF3.out
    go_wp2_with fail
    refine (HASK.out u3 HF3.out).mono ?_
    rintro e u4 ⟨uv, rfl, hst, hf4⟩
    obtain ⟨au, cu, huf⟩ := hst.form
    obtain ⟨nl, hnl⟩ : ∃ nl, nl = askedB hs := ⟨_, rfl⟩
    rw [← hnl] at hst huf LAWH
    subst huf
    have HF4 := Lib.hid (HF3.out.trans hf4)
    have HST := Lib.hid hst.at
    clear hf4 hst hnl c10 HASK HCL2
    go_wp2
    go_loopw [55] (BfRel nl.length u4) (fun i _ => nl.length - (intOf i).toNat)
    case atStart => exact ⟨0, Nat.zero_le _, rfl, Fr.refl _ _⟩
    case round =>
      obtain ⟨k, hk, rfl, hfr⟩ := hrel
      by_cases hks : k < nl.length
      · have hki : (k : Int) < (nl.length : Int) := by omega
        rcases HST.out.frNone hfr with ⟨_, _, _, e, _⟩ | ⟨bk, o, c, hf, h1, h2, h3, h4⟩
        · rw [e] at hks; exact absurd hks (Nat.not_lt_zero _)
        · cases hf
          unfold maxLen at h2
          have hmem := Lib.hid (List.getElem_mem hks)
          have hc := h4 k _ (List.getElem?_eq_getElem hks)
          generalize nl[k] = x at hmem hc
          clear h4
          obtain ⟨wx, hwx⟩ : ∃ wx, wx = wr.alloc (.cells #[.string x] 9) := ⟨_, rfl⟩
          have hxb : wx.heap[wr.heap.size]? = some (.cells #[.string x] 9 (0, 0)) := by rw [hwx]; exact new_block _ _
          have hfx : Fr noB wr wx := by rw [hwx]; exact (Fr.refl _ _).alloc _
          have HFX := Lib.hid ((HF4.out.trans hfr).trans hfx)
          have hany := LAWH.out x hmem.out
          have HCX := Lib.hid (HCL3.out wx HFX.out wr.heap.size x hxb)
          rw [hany] at HCX
          have HWX := Lib.hid hwx
          have HFR := Lib.hid (hfr.trans hfx)
          clear hwx hany hxb hfx
          go_wp2_with fail
          rw [← HWX.out]
          refine HCX.out.mono ?_
          rintro e u6 ⟨rfl, hf6⟩
          go_wp2
          go_roundw
          case rel => exact ⟨k + 1, by omega, by go_num, HFR.out.trans hf6⟩
          case measure => simp [intOf]; omega
      · have hki : ¬ (k : Int) < (nl.length : Int) := by omega
        go_wp2
        go_ret
        exact ⟨rfl, (HFB.out.trans (HF4.out.trans hfr)).none_below⟩
end Go.Proofs.YtkoobhgedoanhaaDoor
