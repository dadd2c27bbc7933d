/- The law AskCase: its walk. -/
import Derived.Test.YtegbacpenolehaaDoorAskBackW
import Derived.Test.YtegbacpenolehaaDoorCloneAll
import Derived.Test.YtegbacpenolehaaDoorCodedAll
import Derived.Test.YtegbacpenolehaaDoorBestLaw
import Derived.Deep.RegionWith
namespace Go.Proofs.YtegbacpenolehaaDoor
open Go.RowKit
/-- the parameters whose names up to k are small -/
def parTo (ps : List Par) (k : Nat) : List Par := (ps.take k).map (fun p => (lowL p.1, p.2)) ++ ps.drop k
theorem parTo_zero (ps : List Par) : parTo ps 0 = ps := by simp [parTo]
theorem parTo_all (ps : List Par) : parTo ps ps.length = ps.map fun p => (lowL p.1, p.2) := by simp [parTo]
theorem parTo_len (ps : List Par) (k : Nat) : (parTo ps k).length = ps.length := by
  unfold parTo
  simp only [List.length_append, List.length_map, List.length_take, List.length_drop]
  omega
theorem parTo_at {ps : List Par} {k : Nat} {p : Par} (h : ps[k]? = some p) : (parTo ps k)[k]? = some p := by
  have hk := (List.getElem?_eq_some_iff.1 h).1
  unfold parTo
  rw [List.getElem?_append_right (by simp; omega)]
  simp only [List.length_map, List.length_take, Nat.min_eq_left (Nat.le_of_lt hk), Nat.sub_self]
  rw [List.getElem?_drop]; simpa using h
theorem parTo_succ {ps : List Par} {k : Nat} {p : Par} (h : ps[k]? = some p) : parTo ps (k + 1) = (parTo ps k).set k (lowL p.1, p.2) := by
  have hk := (List.getElem?_eq_some_iff.1 h).1
  unfold parTo
  rw [List.set_append_right _ _ (by simp; omega)]
  simp only [List.length_map, List.length_take, Nat.min_eq_left (Nat.le_of_lt hk), Nat.sub_self]
  rw [List.take_add_one, h, List.map_append, List.append_assoc, List.drop_eq_getElem_cons hk]
  have e : ps[k] = p := by rw [List.getElem?_eq_getElem hk] at h; exact Option.some.inj h
  rw [e]; rfl
theorem lowC_fit {x : Cha} (h : x.Fit) : (lowC x).Fit := by
  have hl : ∀ b : Bs, (lowL b).length = b.length := fun b => by unfold lowL; simp
  obtain ⟨h1, h2, h3, h4⟩ := h
  refine ⟨by show (lowL x.scheme).length ≤ _; rw [hl]; exact h1, h2, by show (x.params.map _).length ≤ _; rw [List.length_map]; exact h3, fun p hp => ?_⟩
  obtain ⟨q, hq, rfl⟩ := List.mem_map.1 hp
  have := h4 q hq
  exact ⟨by show (lowL q.1).length ≤ _; rw [hl]; exact this.1, this.2⟩
/-- one challenge in a new block -/
theorem cha_new (u : World) (x : Cha) (pv : Value) (hp : ParsAt u pv x.params) : ChasAt (u.alloc (.cells #[.string (bA x.scheme), .string (bA x.token), pv] 61)) (.slice (some ⟨u.heap.size, 0, none⟩) 1 1) [x] := by
  obtain ⟨a, c, e⟩ := hp.form
  have hone : pv.oneCell' = true := by rw [e]; rfl
  refine ⟨[(bA x.scheme, bA x.token, pv)], ⟨fun y hy => ?_, Or.inr ⟨u.heap.size, 0, 1, rfl, Nat.le_refl _, by decide, by simp, fun j y hj i v hi => ?_⟩⟩, .cons ⟨rfl, rfl, RowsAt.frNone hp ((Fr.refl noB u).alloc _)⟩ .nil⟩
  · simp at hy; subst hy; exact ⟨rfl, chaC_one hone⟩
  · have hjl := (List.getElem?_eq_some_iff.1 hj).1
    simp at hjl
    subst hjl
    cases hj
    have hil := (List.getElem?_eq_some_iff.1 hi).1
    have hil : i < 3 := hil
    have hd : i = 0 ∨ i = 1 ∨ i = 2 := by omega
    rcases hd with rfl | rfl | rfl <;> cases hi
    · exact World.cell?_alloc_mark u #[.string (bA x.scheme), .string (bA x.token), pv] 61 (0, 0) 0
    · exact World.cell?_alloc_mark u #[.string (bA x.scheme), .string (bA x.token), pv] 61 (0, 0) 1
    · exact World.cell?_alloc_mark u #[.string (bA x.scheme), .string (bA x.token), pv] 61 (0, 0) 2
theorem RowsAt.cellAt {k : Nat} {w : World} {g n c : Nat} {xs : List (List Value)} (h : RowsAt k w (.slice (some ⟨g, 0, none⟩) n c) xs) {j : Nat} {x : List Value} (hj : xs[j]? = some x) {i : Nat} {u : Value} (hi : x[i]? = some u) : w.cell? ⟨g, j * k + i, none⟩ = some u := by
  rcases h.2 with ⟨_, _, _, e, _⟩ | ⟨bk, o, c', hf, _, _, _, h4⟩
  · subst e; simp at hj
  · injection hf with e1 e2 e3
    injection e1 with e1
    injection e1 with e1 e4
    subst e1 e4
    have := h4 j x hj i u hi
    rw [Nat.zero_add] at this
    exact this
def CaRel (w wb : World) (base yb : Nat) (x : Cha) (tok : ByteArray) (v : Value) (t : Value) (wr : World) : Prop :=
  ∃ k : Nat, k ≤ x.params.length ∧ t = .int .i64 k ∧ ChaAt wr yb (bA (lowL x.scheme)) tok v ∧ OwnRows base 103 2 wr v ((parTo x.params k).map parC) ∧ Fr noB wb wr ∧ w.heap.size ≤ wr.heap.size
set_option maxRecDepth 100000 in
set_option maxHeartbeats 8000000 in
theorem AskCase_walk (x : Cha) (pv : Value) (w : World) (st : ParsAt w pv x.params ∧ x.Sized) :
    Calls Tryd.prog 11 #[.agg #[.string (bA x.scheme), .string (bA x.token), pv]] w fun e w' => e = .returned (.bool true) ∧ Below w.heap.size w w' := by
  obtain ⟨hp, hz⟩ := st
  obtain ⟨pa, pc, rfl⟩ := hp.form
  obtain ⟨wb, hwb⟩ : ∃ wb, wb = w.alloc (.cells #[.string (bA x.scheme), .string (bA x.token), .slice pa x.params.length pc] 61) := ⟨_, rfl⟩
  have hfb : Fr noB w wb := by rw [hwb]; exact (Fr.refl noB w).alloc _
  have hxb : ChaAt wb w.heap.size (bA x.scheme) (bA x.token) (.slice pa x.params.length pc) := by rw [hwb]; exact new_block _ _
  have HC := Lib.hid (show ∀ U, Fr noB wb U → U.cell? ⟨w.heap.size, 0, none⟩ = some (.string (bA x.scheme)) ∧ U.cell? ⟨w.heap.size, 1, none⟩ = some (.string (bA x.token)) ∧ U.cell? ⟨w.heap.size, 2, none⟩ = some (.slice pa x.params.length pc) from fun U hU => by
    have h := hxb.fr hU (fun h => h)
    exact ⟨h.cell0, h.cell1, h.cell2⟩)
  have HPB := Lib.hid (show ParsAt wb (.slice pa x.params.length pc) x.params from RowsAt.frNone hp hfb)
  have HWB := Lib.hid hwb
  have HFB := Lib.hid hfb
  have HN := Lib.hid hz.near
  clear hwb hfb hp hz
  go_enter Tryd.func11, Tryd.ntmps11
  go_wp2_with fail
  rw [← HWB.out]
  refine (asked_any wb).mono ?_
  rintro e w1 ⟨rfl, hf1⟩
  go_wp2_with fail
  refine (coded_any w1).mono ?_
  rintro e w2 ⟨rfl, hf2⟩
  have HF2 := Lib.hid (hf1.trans hf2)
  clear hf1 hf2
  obtain ⟨c0, c1, c2⟩ := HC.out w2 HF2.out
  go_wp2_with fail
  refine (fair_any _ [x] _ (cha_new w2 x _ (RowsAt.frNone HPB.out HF2.out)) (by simp) (fun y hy => by simp at hy; subst hy; exact HN.out)).mono ?_
  rintro e w3 ⟨hf3, b, rfl, hb⟩
  have HF3 := Lib.hid ((HF2.out.alloc _).trans hf3)
  clear hf3 c0 c1 c2
  cases b with
  | false =>
    go_wp2
    go_ret
    exact ⟨rfl, (HFB.out.trans HF3.out).none_below⟩
  | true =>
    have hfa := (hb rfl).2 x (by simp)
    have HFI := Lib.hid hfa.fit
    have hs60 := hfa.size
    have h16 := hfa.few
    clear hb
    have LOW := Lib.hid (show ∀ (t : Bs), t.length ≤ 200000 → ∀ U, Calls Tryd.prog 65 #[.string (bA t)] U fun e w' => e = .returned (.string (bA (lowL t))) ∧ Fr noB U w' from fun t ht U => by
      have := Lower_any (bA t) U (by show t.length < _; omega)
      rw [bA_data] at this
      exact this)
    have hwb3 : wb.heap.size ≤ w3.heap.size := HF3.out.size
    obtain ⟨yb, hyb⟩ : ∃ yb, yb = w3.heap.size := ⟨_, rfl⟩
    obtain ⟨w4, hw4⟩ : ∃ w4, w4 = w3.alloc (.cells #[.string (bA x.scheme), .string (bA x.token), .slice pa x.params.length pc] 61) := ⟨_, rfl⟩
    have hy4 : ChaAt w4 yb (bA x.scheme) (bA x.token) (.slice pa x.params.length pc) := by rw [hw4, hyb]; exact new_block _ _
    have HF4 := Lib.hid (show Fr noB wb w4 by rw [hw4]; exact HF3.out.alloc _)
    have HW4 := Lib.hid hw4
    have HYB := Lib.hid (show wb.heap.size ≤ yb by rw [hyb]; exact hwb3)
    obtain ⟨c0, c1, c2⟩ := HC.out w4 HF4.out
    obtain ⟨d0, d1, d2⟩ := HC.out w3 HF3.out
    rw [hw4] at c0 c1 c2
    clear hw4 hwb3
    go_wp2_with fail
    rw [← HW4.out]
    refine (LOW.out x.scheme (by omega) w4).mono ?_
    rintro e w5 ⟨rfl, hf5⟩
    have hy5 := hy4.fr hf5 (fun h => h)
    have HF5 := Lib.hid (HF4.out.trans hf5)
    clear c0 c1 c2 d0 d1 d2 hy4 hf5 HW4
    rw [← hyb]
    clear hyb
    have e0 := hy5.cell0
    have z0 : w5.frozen? ⟨yb, 0, none⟩ = false := by simp [World.frozen?, show w5.heap[yb]? = _ from hy5]
    obtain ⟨w6, hw6⟩ : ∃ w6, w6 = w5.setCell ⟨yb, 0, none⟩ (.string (bA (lowL x.scheme))) := ⟨_, rfl⟩
    have hy6 : ChaAt w6 yb (bA (lowL x.scheme)) (bA x.token) (.slice pa x.params.length pc) := by rw [hw6]; exact setCell_heap hy5 _ _
    have HF6 := Lib.hid (show Fr noB wb w6 by rw [hw6]; exact HF5.out.setNew (p := ⟨yb, 0, none⟩) HYB.out _)
    have HW6 := Lib.hid hw6
    obtain ⟨c0, c1, c2⟩ := HC.out w6 HF6.out
    rw [hw6] at c0 c1 c2
    have hylt : yb < w6.heap.size := lt_of_some hy6
    clear hw6
    go_wp2_with fail
    rw [← HW6.out]
    refine (Clone_P _ (x.params.map parC) w6 (RowsAt.frNone HPB.out HF6.out) (by rw [List.length_map]; omega)).mono ?_
    rintro e w7 ⟨v, rfl, ho7, hf7⟩
    have hy7 := hy6.fr hf7 (fun h => h)
    have HF7 := Lib.hid (HF6.out.trans hf7)
    clear c0 c1 c2 e0 z0 hy5 hy6
    obtain ⟨va, vc, hvf⟩ := ho7.form
    rw [List.length_map] at hvf
    subst hvf
    have e2 := hy7.cell2
    have z2 : w7.frozen? ⟨yb, 2, none⟩ = false := by simp [World.frozen?, show w7.heap[yb]? = _ from hy7]
    obtain ⟨w8, hw8⟩ : ∃ w8, w8 = w7.setCell ⟨yb, 2, none⟩ (.slice va x.params.length vc) := ⟨_, rfl⟩
    have hy8 : ChaAt w8 yb (bA (lowL x.scheme)) (bA x.token) (.slice va x.params.length vc) := by rw [hw8]; exact setCell_heap hy7 _ _
    have HF8 := Lib.hid (show Fr noB wb w8 by rw [hw8]; exact HF7.out.setNew (p := ⟨yb, 2, none⟩) HYB.out _)
    have ho8 : OwnRows w6.heap.size 103 2 w8 (.slice va x.params.length vc) (x.params.map parC) := by
      rw [hw8]
      exact ho7.fr ((Fr.refl (one yb) w7).setCell (p := ⟨yb, 2, none⟩) (fun _ => rfl) _) (fun b hb e => by have h1 := ho7.block b hb; have e' : b = yb := e; omega)
    have HW8 := Lib.hid hw8
    have f2 := hy8.cell2
    rw [hw8] at f2
    have HSZ := Lib.hid (show w.heap.size ≤ w8.heap.size from Nat.le_trans HFB.out.size HF8.out.size)
    have HY8 := Lib.hid hy8
    have HO8 := Lib.hid ho8
    clear hw8 hy8 ho8 hy7 ho7 hf7
    go_wp2_with fail
    rw [← HW8.out]
    go_loopw [31] (CaRel w wb w6.heap.size yb x (bA x.token) (.slice va x.params.length vc)) (fun t _ => x.params.length - (intOf t).toNat)
    case atStart => exact ⟨0, Nat.zero_le _, rfl, HY8.out, by rw [parTo_zero]; exact HO8.out, HF8.out, HSZ.out⟩
    case round =>
      obtain ⟨k, hk, rfl, hy, ho, hfr, hsz⟩ := hrel
      have y2 := hy.cell2
      by_cases hks : k < x.params.length
      case pos =>
        have hki : (k : Int) < (x.params.length : Int) := by omega
        have hki0 : (0 : Int) ≤ (k : Int) := by omega
        have hat := Lib.hid (List.getElem?_eq_getElem hks)
        have hpq := HFI.out.pars _ (List.getElem_mem hks)
        generalize x.params[k] = q at hat hpq
        obtain ⟨nm, vl⟩ := q
        have hnm : nm.length ≤ 200000 := by have h : nm.length ≤ 99999 := hpq.1; omega
        have hnat := parTo_at hat.out
        have hne : ((parTo x.params k).map parC) ≠ [] := by intro e; have := congrArg List.length e; rw [List.length_map, parTo_len, List.length_nil] at this; omega
        obtain ⟨g, c', hv, hg, hgl, hgc, hgm, hfz⟩ := ho.addr hne
        rw [List.length_map, parTo_len] at hv hgc
        injection hv with e1 e2 e3
        subst e1 e3
        unfold maxLen at hgm
        have hrow := ho.at
        have hcl : wr.cell? ⟨g, k * 2, none⟩ = some (.string (bA nm)) := (RowsAt.cellAt hrow (j := k) (x := [.string (bA nm), .string (bA vl)]) (by rw [List.getElem?_map, hnat]; rfl) (i := 0) (u := .string (bA nm)) rfl)
        have hzz := hfz (k * 2)
        have HK := Lib.hid (show ∀ U, Fr noB wr U → U.cell? ⟨yb, 2, none⟩ = some (.slice (some ⟨g, 0, none⟩) x.params.length vc) ∧ U.cell? ⟨g, k * 2, none⟩ = some (.string (bA nm)) ∧ U.frozen? ⟨g, k * 2, none⟩ = false from fun U hU => ⟨(hy.fr hU (fun h => h)).cell2, (hU.cell (p := ⟨g, k * 2, none⟩) hgl (fun h => h)).trans hcl, (hU.frozen (p := ⟨g, k * 2, none⟩) hgl (fun h => h)).trans hzz⟩)
        have LO := Lib.hid (LOW.out nm hnm)
        have HY := Lib.hid hy
        have HO := Lib.hid ho
        have HSU := Lib.hid (parTo_succ hat.out)
        have hyg : g ≠ yb := by omega
        clear hrow hfz hy ho
        go_wp2_with fail
        first | go_region_with (go_at_call 65; (with_reducible refine (LO.out _).mono ?_); rintro e w9 ⟨rfl, hf9⟩; obtain ⟨k0, k1, k2⟩ := HK.out w9 (by repeat (first | exact Fr.refl _ _ | apply Fr.drew | refine Fr.trans ?_ (by assumption)))) | fail
        all_goals
          have hf99 : Fr noB wr w9 := by repeat (first | exact Fr.refl _ _ | apply Fr.drew | refine Fr.trans ?_ (by assumption))
          have hy9 := HY.out.fr hf99 (fun h => h)
          have ho9 := HO.out.fr hf99 (fun _ _ h => h)
          obtain ⟨w10, hw10⟩ : ∃ w10, w10 = w9.setCell ⟨g, k * 2, none⟩ (.string (bA (lowL nm))) := ⟨_, rfl⟩
          have hf10 : Fr (one g) w9 w10 := by rw [hw10]; exact (Fr.refl (one g) w9).setCell (p := ⟨g, k * 2, none⟩) (fun _ => rfl) _
          have HY10 := Lib.hid (hy9.fr hf10 (fun h => hyg h.symm))
          have HO10 := Lib.hid (show OwnRows w6.heap.size 103 2 w10 (.slice (some ⟨g, 0, none⟩) x.params.length vc) ((parTo x.params (k + 1)).map parC) by
            rw [HSU.out, List.map_set, hw10]
            exact ho9.set (j := k) (x := [.string (bA nm), .string (bA vl)]) (by rw [List.getElem?_map, hnat]; rfl) (i := 0) (by decide) (u := .string (bA (lowL nm))) rfl)
          have HF10 := Lib.hid (show Fr noB wb w10 by rw [hw10]; exact (hfr.trans hf99).setNew (p := ⟨g, k * 2, none⟩) (Nat.le_trans HF6.out.size hg) _)
          have HS10 := Lib.hid (Nat.le_trans HFB.out.size HF10.out.size)
          rw [← hw10]
          clear hw10 hf10 ho9 hy9 hf99 hfr k0 k1 k2 hf9 y2 hcl
          go_wp2
          go_roundw
          case rel => exact ⟨k + 1, by omega, by go_num, HY10.out, HO10.out, HF10.out, HS10.out⟩
          case measure => simp [intOf]; omega
      case neg =>
        have hki : ¬ (k : Int) < (x.params.length : Int) := by omega
        obtain rfl : k = x.params.length := by omega
        rw [parTo_all] at ho
        have HPL := Lib.hid (show ParsAt wr (.slice va x.params.length vc) (lowC x).params from ho.at)
        have HYR := Lib.hid hy
        obtain ⟨c0, c1, c2⟩ := HC.out wr hfr
        go_wp2_with fail
        refine (Known_any x _ wr (RowsAt.frNone HPB.out hfr) HFI.out).mono ?_
        rintro e w9 ⟨hf9, hm9⟩
        have HF9 := Lib.hid (hfr.trans hf9)
        have HY9 := Lib.hid (HYR.out.fr hf9 (fun h => h))
        have HP9 := Lib.hid (RowsAt.frNone HPL.out hf9)
        clear c0 c1 c2 hf9 hfr hy ho y2
        cases hkn : knownL x with
        | none =>
          rw [hkn] at hm9
          subst hm9
          obtain ⟨w10, hw10⟩ : ∃ w10, w10 = w9.alloc (.cells zAskA 32) := ⟨_, rfl⟩
          have hf10 : Fr noB w9 w10 := by rw [hw10]; exact (Fr.refl _ _).alloc _
          have hb10 : AskBlk w10 w9.heap.size zAsk := by rw [hw10]; exact new_block _ _
          have HW10 := Lib.hid hw10
          have hri : (Tryd.prog.info? 32).map (·.size) = some zAskA.size := by kernel_rfl
          have hy10 := HY9.out.fr hf10 (fun h => h)
          have d0 := hy10.cell0
          have d1 := hy10.cell1
          have d2 := hy10.cell2
          have HF10 := Lib.hid (HF9.out.trans hf10)
          have KN := Lib.hid (Known_any (lowC x) _ w10 (RowsAt.frNone HP9.out hf10) (lowC_fit HFI.out))
          clear hw10 hf10 hy10
          go_wp2_with (first | ((with_reducible refine wpList_at ⟨none, .store 32 (.tmp 5) (.tmp 50), _, _, _, _⟩ ?_); go_must (refine wpList_store_new rfl 32 (.tmp 5) (.tmp 50) rfl zAskA zAskA rfl rfl hri rfl zAskA_all ?_); rw [← HW10.out]) | fail)
          refine KN.out.mono ?_
          rintro e w11 ⟨hf11, hm11⟩
          rw [knownL_low, hkn] at hm11
          subst hm11
          obtain ⟨w12, hw12⟩ : ∃ w12, w12 = w11.alloc (.cells zAskA 32) := ⟨_, rfl⟩
          have hf12 : Fr noB w10 w12 := by rw [hw12]; exact hf11.alloc _
          have hb12 : AskBlk w12 w11.heap.size zAsk := by rw [hw12]; exact new_block _ _
          have hb13 : AskBlk w12 w9.heap.size zAsk := hf12.keep hb10 (fun h => h)
          have HW12 := Lib.hid hw12
          have HF12 := Lib.hid (HF10.out.trans hf12)
          have a0 := hb12.cell (i := 0) rfl
          have a1 := hb12.cell (i := 1) rfl
          have a2 := hb12.cell (i := 2) rfl
          have a3 := hb12.cell (i := 3) rfl
          have a4 := hb12.cell (i := 4) rfl
          have a5 := hb12.cell (i := 5) rfl
          have a6 := hb12.cell (i := 6) rfl
          have a7 := hb12.cell (i := 7) rfl
          have b0 := hb13.cell (i := 0) rfl
          have b1 := hb13.cell (i := 1) rfl
          have b2 := hb13.cell (i := 2) rfl
          have b3 := hb13.cell (i := 3) rfl
          have b4 := hb13.cell (i := 4) rfl
          have b5 := hb13.cell (i := 5) rfl
          have b6 := hb13.cell (i := 6) rfl
          have b7 := hb13.cell (i := 7) rfl
          have EQ := Lib.hid (EqualS_any (.slice none 0 0) (.slice none 0 0) [] [] w12 (StrsAt.nil _) (StrsAt.nil _) (by decide))
          clear hw12 hf12 hb12 hb13 hb10 hf11 d0 d1 d2
          go_wp2_with (first | ((with_reducible refine wpList_at ⟨none, .store 32 (.tmp 7) (.tmp 55), _, _, _, _⟩ ?_); go_must (refine wpList_store_new rfl 32 (.tmp 7) (.tmp 55) rfl zAskA zAskA rfl rfl hri rfl zAskA_all ?_); rw [← HW12.out]) | fail)
          refine EQ.out.mono ?_
          rintro e w13 ⟨rfl, q, rfl⟩
          go_wp2
          go_ret
          exact ⟨rfl, (HFB.out.trans (HF12.out.drewN q)).none_below⟩
        | some a =>
          rw [hkn] at hm9
          obtain ⟨r, hrd, rfl⟩ := hm9
          obtain ⟨da, dc, hd⟩ := hrd.2.2.2.2.2.2.2.form
          obtain ⟨y, hy⟩ : ∃ y, y = r.cells.toArray := ⟨_, rfl⟩
          have hyk : y.size = 8 := by rw [hy]; rfl
          have hro : y.all (·.oneCell') = true := by rw [hy]; exact ask_all r (Reads.dom1 hrd)
          have hri : (Tryd.prog.info? 32).map (·.size) = some y.size := by rw [hyk]; kernel_rfl
          have hyz : zAskA.size = y.size := by rw [hyk]; rfl
          obtain ⟨w10, hw10⟩ : ∃ w10, w10 = w9.alloc (.cells y 32) := ⟨_, rfl⟩
          have hf10 : Fr noB w9 w10 := by rw [hw10]; exact (Fr.refl _ _).alloc _
          have hb10 : AskBlk w10 w9.heap.size r := by rw [hw10, hy]; exact new_block _ _
          have HW10 := Lib.hid hw10
          have hy10 := HY9.out.fr hf10 (fun h => h)
          have d0 := hy10.cell0
          have d1 := hy10.cell1
          have d2 := hy10.cell2
          have HF10 := Lib.hid (HF9.out.trans hf10)
          have HD := Lib.hid (hrd.2.2.2.2.2.2.2.at.frNone hf10)
          have KN := Lib.hid (Known_any (lowC x) _ w10 (RowsAt.frNone HP9.out hf10) (lowC_fit HFI.out))
          rw [← hy]
          clear hw10 hf10 hy10 hy
          go_wp2_with (first | ((with_reducible refine wpList_at ⟨none, .store 32 (.tmp 5) (.tmp 50), _, _, _, _⟩ ?_); go_must (refine wpList_store_new rfl 32 (.tmp 5) (.tmp 50) rfl zAskA y rfl rfl hri hyz hro ?_); rw [← HW10.out]) | fail)
          refine KN.out.mono ?_
          rintro e w11 ⟨hf11, hm11⟩
          rw [knownL_low, hkn] at hm11
          obtain ⟨r2, hrd2, rfl⟩ := hm11
          obtain ⟨da2, dc2, hd2⟩ := hrd2.2.2.2.2.2.2.2.form
          obtain ⟨y2, hy2⟩ : ∃ y2, y2 = r2.cells.toArray := ⟨_, rfl⟩
          have hyk2 : y2.size = 8 := by rw [hy2]; rfl
          have hro2 : y2.all (·.oneCell') = true := by rw [hy2]; exact ask_all r2 (Reads.dom1 hrd2)
          have hri2 : (Tryd.prog.info? 32).map (·.size) = some y2.size := by rw [hyk2]; kernel_rfl
          have hyz2 : zAskA.size = y2.size := by rw [hyk2]; rfl
          obtain ⟨w12, hw12⟩ : ∃ w12, w12 = w11.alloc (.cells y2 32) := ⟨_, rfl⟩
          have hf12 : Fr noB w11 w12 := by rw [hw12]; exact (Fr.refl _ _).alloc _
          have hb12 : AskBlk w12 w11.heap.size r2 := by rw [hw12, hy2]; exact new_block _ _
          have hb13 : AskBlk w12 w9.heap.size r := (hf11.trans hf12).keep hb10 (fun h => h)
          have HW12 := Lib.hid hw12
          have HF12 := Lib.hid (HF10.out.trans (hf11.trans hf12))
          have a0 : w12.cell? ⟨w11.heap.size, 0, none⟩ = some (.int .i64 a.scheme) := by rw [← hrd2.1]; exact hb12.cell rfl
          have a1 : w12.cell? ⟨w11.heap.size, 1, none⟩ = some (.string a.realm) := by rw [← hrd2.2.1]; exact hb12.cell rfl
          have a2 : w12.cell? ⟨w11.heap.size, 2, none⟩ = some (.string a.nonce) := by rw [← hrd2.2.2.1]; exact hb12.cell rfl
          have a3 : w12.cell? ⟨w11.heap.size, 3, none⟩ = some (.string a.opaq) := by rw [← hrd2.2.2.2.1]; exact hb12.cell rfl
          have a4 : w12.cell? ⟨w11.heap.size, 4, none⟩ = some (.bool a.sess) := by rw [← hrd2.2.2.2.2.1]; exact hb12.cell rfl
          have a5 : w12.cell? ⟨w11.heap.size, 5, none⟩ = some (.string a.qop) := by rw [← hrd2.2.2.2.2.2.1]; exact hb12.cell rfl
          have a6 : w12.cell? ⟨w11.heap.size, 6, none⟩ = some (.bool a.stale) := by rw [← hrd2.2.2.2.2.2.2.1]; exact hb12.cell rfl
          have b0 : w12.cell? ⟨w9.heap.size, 0, none⟩ = some (.int .i64 a.scheme) := by rw [← hrd.1]; exact hb13.cell rfl
          have b1 : w12.cell? ⟨w9.heap.size, 1, none⟩ = some (.string a.realm) := by rw [← hrd.2.1]; exact hb13.cell rfl
          have b2 : w12.cell? ⟨w9.heap.size, 2, none⟩ = some (.string a.nonce) := by rw [← hrd.2.2.1]; exact hb13.cell rfl
          have b3 : w12.cell? ⟨w9.heap.size, 3, none⟩ = some (.string a.opaq) := by rw [← hrd.2.2.2.1]; exact hb13.cell rfl
          have b4 : w12.cell? ⟨w9.heap.size, 4, none⟩ = some (.bool a.sess) := by rw [← hrd.2.2.2.2.1]; exact hb13.cell rfl
          have b5 : w12.cell? ⟨w9.heap.size, 5, none⟩ = some (.string a.qop) := by rw [← hrd.2.2.2.2.2.1]; exact hb13.cell rfl
          have b6 : w12.cell? ⟨w9.heap.size, 6, none⟩ = some (.bool a.stale) := by rw [← hrd.2.2.2.2.2.2.1]; exact hb13.cell rfl
          have a7 : w12.cell? ⟨w11.heap.size, 7, none⟩ = some (.slice da2 a.dom.length dc2) := by rw [← hd2]; exact hb12.cell rfl
          have b7 : w12.cell? ⟨w9.heap.size, 7, none⟩ = some (.slice da a.dom.length dc) := by rw [← hd]; exact hb13.cell rfl
          have hs1 := HD.out.frNone (hf11.trans hf12)
          have hs2 := hrd2.2.2.2.2.2.2.2.at.frNone hf12
          have hdl : a.dom.length ≤ maxLen := by
            rcases hs1 with ⟨_, _, _, e, _⟩ | ⟨bk, o, c', hf, h1, h2, _, _⟩
            · rw [e]; simp
            · omega
          rw [hd] at hs1
          rw [hd2] at hs2
          have EQ := Lib.hid (EqualS_any _ _ a.dom a.dom w12 hs1 hs2 hdl)
          rw [decide_eq_true (rfl : a.dom = a.dom)] at EQ
          rw [← hy2]
          clear hw12 hf12 hb12 hb13 hb10 hf11 d0 d1 d2 hrd hrd2 hd hd2 hs1 hs2 hdl hy2 HD
          go_wp2_with (first | ((with_reducible refine wpList_at ⟨none, .store 32 (.tmp 7) (.tmp 55), _, _, _, _⟩ ?_); go_must (refine wpList_store_new rfl 32 (.tmp 7) (.tmp 55) rfl zAskA y2 rfl rfl hri2 hyz2 hro2 ?_); rw [← HW12.out]) | fail)
          refine EQ.out.mono ?_
          rintro e w13 ⟨rfl, q, rfl⟩
          go_wp2
          go_ret
          exact ⟨rfl, (HFB.out.trans (HF12.out.drewN q)).none_below⟩
end Go.Proofs.YtegbacpenolehaaDoor
