/- Challenges that lie in memory: read; ask.Get; the laws' sameChallenge at what reads the same. -/
import Derived.Test.YtegbacpenolehaaGreatDoorAskParse
import Derived.Test.YtegbacpenolehaaGreatDoorKnownPure
namespace Go.Proofs.YtegbacpenolehaaGreatDoor
open Go.RowKit

/-- challenges of sizes that can be printed -/
structure Cha.Fit (x : Cha) : Prop where
  scheme : x.scheme.length ≤ 100000
  token : x.token.length ≤ 100000
  few : x.params.length ≤ 16
  pars : ∀ p ∈ x.params, p.1.length ≤ 99999 ∧ p.2.length ≤ 99999
def ParsAt (w : World) (v : Value) (ps : List Par) : Prop := RowsAt 2 w v (ps.map parC)
/-- a challenge's cells read as x -/
def ChaRd (w : World) (r : ChaV) (x : Cha) : Prop := r.1 = bA x.scheme ∧ r.2.1 = bA x.token ∧ ParsAt w r.2.2 x.params
/-- v reads as the challenges xs -/
def ChasAt (w : World) (v : Value) (xs : List Cha) : Prop := ∃ rs : List ChaV, RowsAt 3 w v (rs.map chaC) ∧ Both (ChaRd w) rs xs
theorem ChaIs.rd {base : Nat} {w : World} {r : ChaV} {x : Cha} (h : ChaIs base w r x) : ChaRd w r x := ⟨h.1, h.2.1, h.2.2.at⟩
theorem ChasOwn.at {base : Nat} {w : World} {v : Value} {xs : List Cha} (h : ChasOwn base w v xs) : ChasAt w v xs := by
  obtain ⟨rs, h1, h2⟩ := h
  exact ⟨rs, h1.at, h2.mono (fun _ _ h => h.rd)⟩
theorem ChaRd.frNone {w w' : World} {r : ChaV} {x : Cha} (h : ChaRd w r x) (hf : Fr noB w w') : ChaRd w' r x := ⟨h.1, h.2.1, RowsAt.frNone h.2.2 hf⟩
theorem ChasAt.frNone {w w' : World} {v : Value} {xs : List Cha} (h : ChasAt w v xs) (hf : Fr noB w w') : ChasAt w' v xs := by
  obtain ⟨rs, h1, h2⟩ := h
  exact ⟨rs, h1.frNone hf, h2.mono (fun _ _ h => h.frNone hf)⟩
theorem ChasAt.form {w : World} {v : Value} {xs : List Cha} (h : ChasAt w v xs) : ∃ a c, v = .slice a xs.length c := by
  obtain ⟨rs, h1, h2⟩ := h
  obtain ⟨a, c, e⟩ := h1.form
  exact ⟨a, c, by rw [e, List.length_map, h2.len]⟩
theorem ParsAt.form {w : World} {v : Value} {ps : List Par} (h : ParsAt w v ps) : ∃ a c, v = .slice a ps.length c := by
  obtain ⟨a, c, e⟩ := RowsAt.form h
  exact ⟨a, c, by rw [e, List.length_map]⟩
/-- the cells of the element k of parameters -/
theorem ParsAt.cells {w : World} {a : Option Addr} {n c k : Nat} {ps : List Par} {p : Par} (h : ParsAt w (.slice a n c) ps) (hk : ps[k]? = some p) :
    ∃ bk o, a = some ⟨bk, o, none⟩ ∧ n ≤ c ∧ c ≤ maxLen ∧ w.cell? ⟨bk, o + k * 2, none⟩ = some (.string (bA p.1)) ∧ w.cell? ⟨bk, o + k * 2 + 1, none⟩ = some (.string (bA p.2)) := by
  have hl := (List.getElem?_eq_some_iff.1 hk).1
  rcases h.2 with ⟨_, _, _, e, _⟩ | ⟨bk, o, c', hf, h1, h2, h3, h4⟩
  · have : ps.length = 0 := by have := congrArg List.length e; simpa using this
    omega
  · cases hf
    have hc := h4 k (parC p) (by rw [List.getElem?_map, hk]; rfl)
    exact ⟨bk, o, rfl, h1, h2, hc 0 _ rfl, hc 1 _ rfl⟩

/-! ### Get -/
def GetV (ps : List Par) (name : Bs) : Value := .tuple #[.string (bA ((getP ps name).getD [])), .bool (getP ps name).isSome]
theorem getP_hit {ps : List Par} {k : Nat} {p : Par} {n : Bs} (h : ps[k]? = some p) (hp : sameL p.1 n = true) (hn : (ps.take k).any (fun q => sameL q.1 n) = false) : getP ps n = some p.2 := by
  unfold getP
  have : ps.find? (fun q => sameL q.1 n) = some p := by
    induction ps generalizing k with
    | nil => simp at h
    | cons a l ih =>
      cases k with
      | zero => simp at h; subst h; simp [hp]
      | succ k =>
        simp only [List.take_succ_cons, List.any_cons, Bool.or_eq_false_iff] at hn
        rw [List.find?_cons, hn.1]
        exact ih (by simpa using h) hn.2
  rw [this]; rfl
theorem getP_none {ps : List Par} {n : Bs} (hn : ps.any (fun q => sameL q.1 n) = false) : getP ps n = none := by
  unfold getP
  have : ps.find? (fun q => sameL q.1 n) = none := by
    rw [List.find?_eq_none]; intro q hq
    rw [List.any_eq_false] at hn
    exact hn q hq
  rw [this]; rfl
def GtRel (ps : List Par) (n : Bs) (w : World) (t : Value) (wr : World) : Prop := ∃ k : Nat, k ≤ ps.length ∧ t = .int .i64 k ∧ (ps.take k).any (fun q => sameL q.1 n) = false ∧ Fr noB w wr
/-- parameters of sizes that can be -/
def ParsFit (ps : List Par) : Prop := ps.length ≤ 1000000 ∧ ∀ p ∈ ps, p.1.length < 17592186044416 ∧ p.2.length < 17592186044416
set_option maxRecDepth 100000 in
set_option maxHeartbeats 2000000 in
theorem Get_any (sc tok : ByteArray) (pv : Value) (ps : List Par) (name : ByteArray) (w : World) (h : ParsAt w pv ps) (hz : ParsFit ps) (hn : name.size < 17592186044416) :
    Calls Tryz.prog 25 #[.agg #[.string sc, .string tok, pv], .string name] w fun e w' => e = .returned (GetV ps name.data.toList) ∧ Fr noB w w' := by
  obtain ⟨av, cv, hv⟩ := h.form
  subst hv
  obtain ⟨w1, hw1⟩ : ∃ w1, w1 = w.alloc (.cells #[.string sc, .string tok, .slice av ps.length cv] 35) := ⟨_, rfl⟩
  have hf1 : Fr noB w w1 := by rw [hw1]; exact (Fr.refl _ _).alloc _
  have hp1 : ParsAt w1 (.slice av ps.length cv) ps := RowsAt.frNone h hf1
  have HW1 := Lib.hid hw1
  have HZ := Lib.hid hz
  have hlz := hz.1
  clear hw1 h hz
  go_enter Tryz.func25, Tryz.ntmps25
  go_wp2_with fail
  rw [← HW1.out]
  go_loopw [11] (GtRel ps name.data.toList w1) (fun t _ => ps.length - (intOf t).toNat)
  case atStart => exact ⟨0, Nat.zero_le _, rfl, rfl, Fr.refl _ _⟩
  case round =>
    obtain ⟨k, hk, rfl, hn1, hfr⟩ := hrel
    have HN := Lib.hid hn1
    clear hn1
    by_cases hks : k < ps.length
    · have hki : (k : Int) < (ps.length : Int) := by omega
      have hat := Lib.hid (List.getElem?_eq_getElem hks)
      have hzk := Lib.hid (HZ.out.2 _ (List.getElem_mem hks))
      generalize ps[k] = q at hat hzk
      obtain ⟨nm, vl⟩ := q
      obtain ⟨bk, of, rfl, h1, h2, c0, c1⟩ := ParsAt.cells (RowsAt.frNone hp1 hfr) hat.out
      unfold maxLen at h2
      simp only at c0 c1
      obtain ⟨wb, hwb⟩ : ∃ wb, wb = wr.alloc (.cells #[.string (bA nm), .string (bA vl)] 80) := ⟨_, rfl⟩
      have hfb : Fr noB wr wb := by rw [hwb]; exact (Fr.refl noB wr).alloc _
      have hbb : wb.heap[wr.heap.size]? = some (.cells #[.string (bA nm), .string (bA vl)] 80 (0, 0)) := by rw [hwb]; exact new_block _ _
      have HWB := Lib.hid hwb
      clear hwb
      go_wp2_with fail
      rw [← HWB.out]
      refine (Same_any (bA nm) name wb (by have h := hzk.out.1; exact h) hn).mono ?_
      rintro e w8 ⟨rfl, hf8⟩
      rw [bA_data]
      have HF8 := Lib.hid ((hfr.trans hfb).trans hf8)
      cases hsm : sameL nm name.data.toList
      · have hnx := Lib.hid (any_take_succP hat.out HN.out hsm)
        go_wp2
        go_roundw
        case rel => exact ⟨k + 1, by omega, by go_num, hnx.out, HF8.out⟩
        case measure => simp [intOf]; omega
      · have HE := Lib.hid (getP_hit hat.out hsm HN.out)
        have hb8 := hf8.keep hbb (fun h => h)
        have c1 : w8.cell? ⟨wr.heap.size, 1, none⟩ = some (.string (bA vl)) := by simp [World.cell?, hb8]
        go_wp2
        go_ret2
        refine ⟨?_, hf1.trans HF8.out⟩
        unfold GetV
        rw [HE.out]; rfl
    · have hki : ¬ (k : Int) < (ps.length : Int) := by omega
      have HE := Lib.hid (show getP ps name.data.toList = none from getP_none (by have h := HN.out; rw [List.take_of_length_le (by omega)] at h; exact h))
      go_wp2
      go_ret2
      refine ⟨?_, hf1.trans hfr⟩
      unfold GetV
      rw [HE.out]; rfl

/-- the cells of the challenge k -/
theorem ChasAt.cells {w : World} {a : Option Addr} {n c k : Nat} {xs : List Cha} {x : Cha} (h : ChasAt w (.slice a n c) xs) (hk : xs[k]? = some x) :
    ∃ bk o pv, a = some ⟨bk, o, none⟩ ∧ n ≤ c ∧ c ≤ maxLen ∧ w.cell? ⟨bk, o + k * 3, none⟩ = some (.string (bA x.scheme)) ∧ w.cell? ⟨bk, o + k * 3 + 1, none⟩ = some (.string (bA x.token)) ∧ w.cell? ⟨bk, o + k * 3 + 2, none⟩ = some pv ∧ ParsAt w pv x.params := by
  obtain ⟨rs, hr, hb⟩ := h
  have hl := (List.getElem?_eq_some_iff.1 hk).1
  have hrl := hb.len
  obtain ⟨r, hri⟩ : ∃ r, rs[k]? = some r := ⟨_, List.getElem?_eq_getElem (by omega)⟩
  obtain ⟨x', hx', e1, e2, e3⟩ := hb.get hri
  rw [hk] at hx'
  cases hx'
  rcases hr.2 with ⟨_, _, _, e, _⟩ | ⟨bk, o, c', hf, h1, h2, h3, h4⟩
  · have : rs.length = 0 := by have := congrArg List.length e; simpa using this
    omega
  · cases hf
    have hc := h4 k (chaC r) (by rw [List.getElem?_map, hri]; rfl)
    exact ⟨bk, o, r.2.2, rfl, h1, h2, by rw [← e1]; exact hc 0 _ rfl, by rw [← e2]; exact hc 1 _ rfl, hc 2 _ rfl, e3⟩

/-! ### what reads the same is the same -/
theorem run_neq_par (a b : ByteArray) (w : World) : (binOp .neq 80 (.agg #[.string a, .string b]) (.agg #[.string a, .string b])).run Tryz.prog w = .ok (.bool false) w := by
  go_simp
def EqNRel (w : World) (n : Nat) (i : Value) (wr : World) : Prop := ∃ k : Nat, k ≤ n ∧ i = .int .i64 k ∧ Fr noB w wr
set_option maxHeartbeats 2000000 in
theorem EqualPar_same (v v' : Value) (ps : List Par) (w : World) (h : ParsAt w v ps) (h' : ParsAt w v' ps) :
    Calls Tryz.prog 39 #[v, v'] w fun e w' => e = .returned (.bool true) ∧ Fr noB w w' := by
  obtain ⟨av, cv, hv⟩ := h.form
  obtain ⟨av', cv', hv'⟩ := h'.form
  subst hv hv'
  go_enter Tryz.func39, Tryz.ntmps39
  go_wp2
  go_loopw [13] (EqNRel w ps.length) (fun i _ => ps.length - (intOf i).toNat)
  case atStart => exact ⟨0, Nat.zero_le _, rfl, Fr.refl _ _⟩
  case round =>
    obtain ⟨k, hk, rfl, hfr⟩ := hrel
    by_cases hks : k < ps.length
    · have hki : (k : Int) < (ps.length : Int) := by omega
      have hki0 : (0 : Int) ≤ (k : Int) := by omega
      have hat := Lib.hid (List.getElem?_eq_getElem hks)
      generalize ps[k] = q at hat
      obtain ⟨nm, vl⟩ := q
      obtain ⟨bk, of, rfl, h1, h2, c0, c1⟩ := ParsAt.cells (RowsAt.frNone h hfr) hat.out
      obtain ⟨bk', of', rfl, h1', h2', d0, d1⟩ := ParsAt.cells (RowsAt.frNone h' hfr) hat.out
      unfold maxLen at h2 h2'
      simp only at c0 c1 d0 d1
      have hne := run_neq_par (bA nm) (bA vl)
      go_wp2
      go_quiet (fail)
      go_wp2
      go_roundw
      case rel => exact ⟨k + 1, by omega, by go_num, hfr.drewN _⟩
      case measure => simp [intOf]; omega
    · have hki : ¬ (k : Int) < (ps.length : Int) := by omega
      go_wp2
      go_ret
      exact ⟨rfl, hfr⟩
set_option maxHeartbeats 2000000 in
theorem sameChallenge_same (sc tok : ByteArray) (pv pv' : Value) (ps : List Par) (w : World) (h : ParsAt w pv ps) (h' : ParsAt w pv' ps) :
    Calls Tryz.prog 18 #[.agg #[.string sc, .string tok, pv], .agg #[.string sc, .string tok, pv']] w fun e w' => e = .returned (.bool true) ∧ Fr noB w w' := by
  obtain ⟨av, cv, hv⟩ := h.form
  obtain ⟨av', cv', hv'⟩ := h'.form
  subst hv hv'
  have hf : Fr noB w _ := ((Fr.refl noB w).alloc (.cells #[.string sc, .string tok, .slice av ps.length cv] 35)).alloc (.cells #[.string sc, .string tok, .slice av' ps.length cv'] 35)
  have EQ := Lib.hid (EqualPar_same _ _ ps _ (RowsAt.frNone h hf) (RowsAt.frNone h' hf))
  go_enter Tryz.func18, Tryz.ntmps18
  go_wp2_with fail
  refine EQ.out.mono ?_
  rintro e w1 ⟨rfl, hf1⟩
  go_wp2
  go_ret
  exact ⟨rfl, hf.trans hf1⟩
set_option maxRecDepth 100000 in
set_option maxHeartbeats 2000000 in
/-- slices.EqualFunc by sameChallenge, at challenges that read the same -/
theorem EqualC_same (v v' : Value) (xs : List Cha) (w : World) (h : ChasAt w v xs) (h' : ChasAt w v' xs) :
    Calls Tryz.prog 17 #[v, v', .func (.func 18) #[] #[]] w fun e w' => e = .returned (.bool true) ∧ Fr noB w w' := by
  obtain ⟨av, cv, hv⟩ := h.form
  obtain ⟨av', cv', hv'⟩ := h'.form
  subst hv hv'
  go_enter Tryz.func17, Tryz.ntmps17
  go_wp2
  go_loopw [17] (EqNRel w xs.length) (fun i _ => xs.length - (intOf i).toNat)
  case atStart => exact ⟨0, Nat.zero_le _, rfl, Fr.refl _ _⟩
  case round =>
    obtain ⟨k, hk, rfl, hfr⟩ := hrel
    by_cases hks : k < xs.length
    · have hki : (k : Int) < (xs.length : Int) := by omega
      have hat := Lib.hid (List.getElem?_eq_getElem hks)
      generalize xs[k] = q at hat
      obtain ⟨sc, tok, ps⟩ := q
      obtain ⟨bk, of, pv, rfl, h1, h2, c0, c1, c2, hp⟩ := (h.frNone hfr).cells hat.out
      obtain ⟨bk', of', pv', rfl, h1', h2', d0, d1, d2, hp'⟩ := (h'.frNone hfr).cells hat.out
      unfold maxLen at h2 h2'
      simp only at c0 c1 d0 d1 hp hp'
      obtain ⟨a1, c1', e1⟩ := hp.form
      obtain ⟨a2, c2', e2⟩ := hp'.form
      subst e1 e2
      have hkx : ∀ o : Obj, Fr noB wr (wr.alloc o) := fun o => (Fr.refl noB wr).alloc o
      have g0 : ∀ o : Obj, (wr.alloc o).cell? ⟨bk', of' + k * 3, none⟩ = some (.string (bA sc)) := fun o => ((hkx o).cell (p := ⟨bk', of' + k * 3, none⟩) (World.block_lt_of_cell? _ _ d0) (fun h => h)).trans d0
      have g1 : ∀ o : Obj, (wr.alloc o).cell? ⟨bk', of' + k * 3 + 1, none⟩ = some (.string (bA tok)) := fun o => ((hkx o).cell (p := ⟨bk', of' + k * 3 + 1, none⟩) (World.block_lt_of_cell? _ _ d1) (fun h => h)).trans d1
      have g2 : ∀ o : Obj, (wr.alloc o).cell? ⟨bk', of' + k * 3 + 2, none⟩ = some (.slice a2 ps.length c2') := fun o => ((hkx o).cell (p := ⟨bk', of' + k * 3 + 2, none⟩) (World.block_lt_of_cell? _ _ d2) (fun h => h)).trans d2
      have hf : Fr noB wr ((wr.alloc (.cells #[.string (bA sc), .string (bA tok), .slice a1 ps.length c1'] 35)).alloc (.cells #[.string (bA sc), .string (bA tok), .slice a2 ps.length c2'] 35)) := ((Fr.refl noB wr).alloc _).alloc _
      have SC := Lib.hid (sameChallenge_same (bA sc) (bA tok) _ _ ps _ (RowsAt.frNone hp hf) (RowsAt.frNone hp' hf))
      have HF := Lib.hid (hfr.trans hf)
      clear hf hkx
      go_wp2_with fail
      refine SC.out.mono ?_
      rintro e w3 ⟨rfl, hf3⟩
      have HF3 := Lib.hid (HF.out.trans hf3)
      go_wp2
      go_roundw
      case rel => exact ⟨k + 1, by omega, by go_num, HF3.out⟩
      case measure => simp [intOf]; omega
    · have hki : ¬ (k : Int) < (xs.length : Int) := by omega
      go_wp2
      go_ret
      exact ⟨rfl, hfr⟩
end Go.Proofs.YtegbacpenolehaaGreatDoor
