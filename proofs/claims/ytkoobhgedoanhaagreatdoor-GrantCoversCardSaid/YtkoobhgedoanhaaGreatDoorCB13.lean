/- The law MayWith: its walk. -/
import Derived.Test.YtkoobhgedoanhaaGreatDoorCB12
namespace Go.Proofs.YtkoobhgedoanhaaGreatDoor
open Go.RowKit

theorem cells13 {w : World} {b : Nat} {c0 c1 c2 c3 c4 c5 c6 c7 c8 c9 c10 c11 c12 : Value} {t : TypeId} (h : w.heap[b]? = some (.cells #[c0, c1, c2, c3, c4, c5, c6, c7, c8, c9, c10, c11, c12] t (0, 0))) :
    w.cell? ⟨b, 0, none⟩ = some c0 ∧ w.cell? ⟨b, 1, none⟩ = some c1 ∧ w.cell? ⟨b, 2, none⟩ = some c2 ∧ w.cell? ⟨b, 3, none⟩ = some c3 ∧ w.cell? ⟨b, 4, none⟩ = some c4 ∧ w.cell? ⟨b, 5, none⟩ = some c5 ∧ w.cell? ⟨b, 6, none⟩ = some c6 ∧ w.cell? ⟨b, 7, none⟩ = some c7 ∧ w.cell? ⟨b, 8, none⟩ = some c8 ∧ w.cell? ⟨b, 9, none⟩ = some c9 ∧ w.cell? ⟨b, 10, none⟩ = some c10 ∧ w.cell? ⟨b, 11, none⟩ = some c11 ∧ w.cell? ⟨b, 12, none⟩ = some c12 := by
  have hc : ∀ (i : Nat) u, [c0, c1, c2, c3, c4, c5, c6, c7, c8, c9, c10, c11, c12][i]? = some u → w.cell? ⟨b, i, none⟩ = some u := fun i u hu => by simp only [World.cell?, h]; simpa using hu
  exact ⟨hc 0 _ rfl, hc 1 _ rfl, hc 2 _ rfl, hc 3 _ rfl, hc 4 _ rfl, hc 5 _ rfl, hc 6 _ rfl, hc 7 _ rfl, hc 8 _ rfl, hc 9 _ rfl, hc 10 _ rfl, hc 11 _ rfl, hc 12 _ rfl⟩
theorem ByteArray_toList' (s : ByteArray) : s.data.toList = s.toList := (ByteArray.toList_eq s).symm
theorem oriB_star (o : Ori) : (oriB o).data.toList ≠ [42] := by
  intro e
  unfold oriB at e
  have e : textO o.toL = [42] := by simpa using e
  have := congrArg List.head? e
  unfold textO headL at this
  cases h : o.toL.secure <;> (rw [h] at this; simp [httpsL, httpL] at this)
set_option maxHeartbeats 4000000 in
set_option maxRecDepth 100000 in
theorem MayWith_walk (r : ReqOf Value) (hs : List Prm) (v : Value) (ps : List Prm) (w : World) (st0 : ReqFit w r hs) (st1 : PrmsFit w v ps) (ht : PwTab w) :
    Calls Tryz.prog 5 #[.agg r.cells.toArray, v] w fun e w' => e = .returned (.bool true) ∧ Below w.heap.size w w' := by
  obtain ⟨h2, l2, z2, z3, _, _, hpf, _⟩ := st0
  have hp2 := Go.bounds_i64 hpf
  obtain ⟨w1, hw1⟩ : ∃ w1, w1 = w.alloc (.cells r.cells.toArray 53) := ⟨_, rfl⟩
  have hfb : Fr noB w w1 := by rw [hw1]; exact (Fr.refl noB w).alloc _
  have hk1 : w1.heap[w.heap.size]? = some (.cells r.cells.toArray 53 (0, 0)) := by rw [hw1]; exact new_block _ _
  have HK1 := Lib.hid (show ∀ U, Fr noB w1 U → U.heap[w.heap.size]? = some (.cells r.cells.toArray 53 (0, 0)) from fun U hU => hU.keep hk1 (fun h => h))
  have HRF := Lib.hid (show ∀ U, Fr noB w1 U → Calls Tryz.prog 23 #[.agg r.cells.toArray] U fun e w' => e = .returned (.bool (rightfulB r hs)) ∧ Fr noB U w' from fun U hU => rightful_any r hs U (RowsAt.frNone h2 (hfb.trans hU)) l2 z2 z3)
  have HFW := Lib.hid (show ∀ U, Fr noB w1 U → Calls Tryz.prog 24 #[v] U fun e w' => e = .returned (.bool (fewB ps)) ∧ Fr noB U w' from fun U hU => PrmsFit.few st1 (hfb.trans hU))
  have HMY := Lib.hid (show rightfulB r hs = true → fewB ps = true → ∀ U b, Fr noB w U → Calls Tryz.prog 25 #[.agg ({ r with wth := b } : ReqOf Value).cells.toArray, v] U fun e w' => e = .returned (.bool (mayB (oriB r.frm).data.toList b (ps.map parP))) ∧ Fr noB U w' from fun hz hf U b hU => May_any { r with wth := b } v _ U (RowsAt.frNone (PrmsAt.pars st1.1) hU) (few_small hf) (ht.fr hU) hp2.1 hp2.2 (by
    unfold rightfulB at hz
    simp only [Bool.and_eq_true, decide_eq_true_eq] at hz
    show r.frm.host.size < 100000
    omega))
  have HGT := Lib.hid (show fewB ps = true → ∃ s : ByteArray, s.data.toList = fieldT (ps.map parP) nOrigin ∧ ∀ U, Fr noB w U → ∃ b, Calls Tryz.prog 26 #[v, .string ⟨#[97, 99, 99, 101, 115, 115, 45, 99, 111, 110, 116, 114, 111, 108, 45, 97, 108, 108, 111, 119, 45, 111, 114, 105, 103, 105, 110]⟩] U fun e w' => e = .returned (.tuple #[.string s, .bool b]) ∧ Fr noB U w' from fun hf => by
    obtain ⟨s, hs, _⟩ := field_get (ps.map parP) lowOri (few_small hf)
    exact ⟨s, by rw [← hs, ori_name], fun U hU => ⟨_, Field_is v _ lowOri U (RowsAt.frNone (PrmsAt.pars st1.1) hU) (few_small hf) (by decide) s _ hs rfl⟩⟩)
  have LAW1 := Lib.hid (fun h => may_with (oriB r.frm).data.toList (ps.map parP) (oriB_star r.frm) h)
  have LAW2 := Lib.hid (fun h => may_any (oriB r.frm).data.toList (ps.map parP) h)
  obtain ⟨ah, ch, hhf⟩ := RowsAt.form h2
  rw [List.length_map] at hhf
  obtain ⟨av, cv, hv⟩ := RowsAt.form st1.1
  rw [List.length_map] at hv
  have HFB := Lib.hid hfb
  clear h2 l2 z2 z3 hk1 hfb st1 hpf hp2
  subst hv
  generalize rightfulB r hs = rf at *
  generalize (oriB r.frm).data.toList = ot at *
  obtain ⟨part, ⟨fs, fh, fp⟩, ⟨os, oh, op⟩, path, query, method, heads, wth, body⟩ := r
  simp only at hhf
  subst hhf
  unfold ReqOf.cells at hw1 HRF HMY HK1 ⊢
  dsimp only at hw1 HRF HMY HK1 ⊢
  have c := HK1.out w1 (Fr.refl _ _)
  go_enter Tryz.func5, Tryz.ntmps5
  go_wp2_with fail
  rw [← hw1]
  clear hw1 c
  refine (granted_any w1 (ht.fr HFB.out)).mono ?_
  rintro e u1 ⟨rfl, hu1⟩
  have HU1 := Lib.hid hu1
  obtain ⟨e0, e1, e2, e3, e4, e5, e6, e7, e8, e9, e10, e11, e12⟩ := cells13 (HK1.out u1 hu1)
  clear hu1
  go_wp2_with fail
  refine (HRF.out u1 HU1.out).mono ?_
  rintro e u2 ⟨rfl, hu2⟩
  have HU2 := Lib.hid (HU1.out.trans hu2)
  clear hu2 e0 e1 e2 e3 e4 e5 e6 e7 e8 e9 e10 e11 e12
  cases rf
  · go_wp2
    go_ret
    exact ⟨rfl, (HFB.out.trans HU2.out).none_below⟩
  go_wp2_with fail
  refine (HFW.out u2 HU2.out).mono ?_
  rintro e u3 ⟨rfl, hu3⟩
  have HU3 := Lib.hid (HU2.out.trans hu3)
  clear hu3
  cases hfw : fewB ps
  · clear hfw
    go_wp2
    go_ret
    exact ⟨rfl, (HFB.out.trans HU3.out).none_below⟩
  replace HMY := Lib.hid (HMY.out (by simp) hfw)
  obtain ⟨s, hs, hget⟩ := HGT.out hfw
  have HGET := Lib.hid hget
  have HS := Lib.hid hs
  clear HGT hget hs hfw
  have hk3 := HK1.out u3 HU3.out
  obtain ⟨e0, e1, e2, e3, e4, e5, e6, e7, e8, e9, e10, e11, e12⟩ := cells13 hk3
  have f11 : u3.frozen? ⟨w.heap.size, 11, none⟩ = false := by simp [World.frozen?, hk3]
  obtain ⟨w4, hw4⟩ : ∃ w4, w4 = u3.setCell ⟨w.heap.size, 11, none⟩ (.bool true) := ⟨_, rfl⟩
  have HK4 := Lib.hid (show ∀ U, Fr noB w4 U → U.heap[w.heap.size]? = some (.cells #[.int .i64 part, .bool fs, .string fh, .int .i64 fp, .bool os, .string oh, .int .i64 op, .string path, .string query, .string method, .slice ah hs.length ch, .bool true, .string body] 53 (0, 0)) from fun U hU => hU.keep (by rw [hw4]; exact setCell_heap hk3 11 (.bool true)) (fun h => h))
  have HW4 := Lib.hid (show Fr noB w w4 from by rw [hw4]; exact (HFB.out.trans HU3.out).setNew (p := ⟨w.heap.size, 11, none⟩) (Nat.le_refl _) _)
  clear hk3
  go_wp2_with fail
  rw [← hw4]
  refine (HMY.out w4 true HW4.out).mono ?_
  rintro e u5 ⟨rfl, hu5⟩
  have HU5 := Lib.hid (HW4.out.trans hu5)
  have HK5 := Lib.hid (HK4.out u5 hu5)
  clear e0 e1 e2 e3 e4 e5 e6 e7 e8 e9 e10 e11 e12 f11 hu5 hw4 HK4 HW4
  obtain ⟨gb, hgb⟩ := HGET.out u5 HU5.out
  have HG := Lib.hid hgb
  clear hgb HGET
  go_wp2_with fail
  refine HG.out.mono ?_
  rintro e u6 ⟨rfl, hu6⟩
  have HU6 := Lib.hid (HU5.out.trans hu6)
  have hk6 := hu6.keep HK5.out (fun h => h)
  obtain ⟨e0, e1, e2, e3, e4, e5, e6, e7, e8, e9, e10, e11, e12⟩ := cells13 hk6
  have f11 : u6.frozen? ⟨w.heap.size, 11, none⟩ = false := by simp [World.frozen?, hk6]
  obtain ⟨w7, hw7⟩ : ∃ w7, w7 = u6.setCell ⟨w.heap.size, 11, none⟩ (.bool false) := ⟨_, rfl⟩
  have HW7 := Lib.hid (show Fr noB w w7 from by rw [hw7]; exact HU6.out.setNew (p := ⟨w.heap.size, 11, none⟩) (Nat.le_refl _) _)
  have hk7 : w7.heap[w.heap.size]? = some (.cells #[.int .i64 part, .bool fs, .string fh, .int .i64 fp, .bool os, .string oh, .int .i64 op, .string path, .string query, .string method, .slice ah hs.length ch, .bool false, .string body] 53 (0, 0)) := by rw [hw7]; exact setCell_heap hk6 11 (.bool false)
  have HK7 := Lib.hid hk7
  have HWE := Lib.hid hw7
  have HMF := Lib.hid (HMY.out w7 false HW7.out)
  have L1 := LAW1.out
  have L2 := LAW2.out
  rw [← HS.out, ByteArray_toList' s] at L1 L2
  clear hu6 hk6 hk7 HG HMY LAW1 LAW2 HS HK5
  generalize mayB ot true (ps.map parP) = mt at *
  generalize mayB ot false (ps.map parP) = mf at *
  cases mt
  · clear L1
    cases hst : (s.toList == [42])
    · clear L2
      go_wp2
      rw [← HWE.out]
      go_ret
      exact ⟨rfl, HW7.out.none_below⟩
    · have hmf : mf = true := L2 (by simpa using hst)
      subst hmf
      clear L2
      go_wp2_with fail
      rw [← HWE.out]
      refine HMF.out.mono ?_
      rintro e u8 ⟨rfl, hu8⟩
      go_wp2
      go_ret
      exact ⟨rfl, (HW7.out.trans hu8).none_below⟩
  · obtain ⟨hmf, hne⟩ := L1 rfl
    subst hmf
    have hst : (s.toList == [42]) = false := by rw [beq_eq_false_iff_ne]; exact hne
    clear L1 L2 hne
    go_wp2_with fail
    rw [← HWE.out]
    refine HMF.out.mono ?_
    rintro e u8 ⟨rfl, hu8⟩
    go_wp2
    go_ret
    exact ⟨rfl, (HW7.out.trans hu8).none_below⟩
end Go.Proofs.YtkoobhgedoanhaaGreatDoor
