/- The laws' fair: challenges that can be told so. -/
import Derived.Test.YtegbacpenolehaaDoorAskPrint
import Derived.Test.YtegbacpenolehaaDoorRowPr
import Derived.Test.YtegbacpenolehaaDoorTrim
namespace Go.Proofs.YtegbacpenolehaaDoor
open Go.RowKit

structure FairC (x : Cha) : Prop where
  size : x.scheme.length + x.token.length ≤ 60
  few : x.params.length ≤ 16
  scheme : isL x.scheme = true
  token : x.token = [] ∨ (x.params = [] ∧ x.token.all tokB = true)
  pars : ∀ (k : Nat) p, x.params[k]? = some p → p.1.length + p.2.length ≤ 100 ∧ isL p.1 = true ∧ (x.params.take k).any (fun q => sameL p.1 q.1) = false
theorem FairC.fit {x : Cha} (h : FairC x) : x.Fit := by
  have h1 := h.size
  refine ⟨by omega, by omega, h.few, fun p hp => ?_⟩
  obtain ⟨k, hk, e⟩ := List.mem_iff_getElem.1 hp
  have := h.pars k p (by rw [List.getElem?_eq_getElem hk, e])
  omega
theorem FairC.ok {x : Cha} (h : FairC x) (ho : okC x = true) : x.Ok := by
  refine ⟨h.scheme, ?_, h.few, fun p hp => ?_, fun i j p q hij hi hj => ?_⟩
  · rcases h.token with e | ⟨e, ht⟩
    · exact Or.inl e
    · by_cases hn : x.token = []
      · exact Or.inl hn
      · exact Or.inr ⟨e, x.token, [], by simp, hn, ht, rfl⟩
  · obtain ⟨k, hk, e⟩ := List.mem_iff_getElem.1 hp
    have := h.pars k p (by rw [List.getElem?_eq_getElem hk, e])
    unfold okC at ho
    exact ⟨this.2.1, List.all_eq_true.1 ho p hp⟩
  · have h1 := (h.pars j q hj).2.2
    rw [List.any_eq_false] at h1
    have h2 := h1 p (List.mem_iff_getElem?.2 ⟨i, by rw [List.getElem?_take_of_lt hij]; exact hi⟩)
    have e : sameL p.1 q.1 = sameL q.1 p.1 := by unfold sameL; exact Bool.beq_comm
    rw [e]; simpa using h2
/-- sizes that the program can add -/
structure Cha.Near (x : Cha) : Prop where
  scheme : x.scheme.length ≤ 1000000000000000
  token : x.token.length ≤ 1000000000000000
  few : x.params.length ≤ 1000000000000000
  pars : ∀ p ∈ x.params, p.1.length ≤ 1000000000000000 ∧ p.2.length ≤ 1000000000000000
def FairPost (xs : List Cha) (w : World) (e : Ending) (w' : World) : Prop := Fr noB w w' ∧ ∃ b, e = .returned (.bool b) ∧ (b = true → xs.length ≤ 8 ∧ ∀ x ∈ xs, FairC x)
theorem FairPost.no {xs : List Cha} {w w' : World} (h : Fr noB w w') : FairPost xs w (.returned (.bool false)) w' := ⟨h, false, rfl, fun h => by cases h⟩
/-- the parameters up to k are fair -/
def FairTo (ps : List Par) (k : Nat) : Prop := ∀ (j : Nat) p, j < k → ps[j]? = some p → p.1.length + p.2.length ≤ 100 ∧ isL p.1 = true ∧ (ps.take j).any (fun q => sameL p.1 q.1) = false
theorem FairTo.succ {ps : List Par} {k : Nat} {p : Par} (h : FairTo ps k) (hk : ps[k]? = some p) (h1 : p.1.length + p.2.length ≤ 100) (h2 : isL p.1 = true) (h3 : (ps.take k).any (fun q => sameL p.1 q.1) = false) : FairTo ps (k + 1) := by
  intro j q hj hq
  by_cases e : j = k
  · subst e; rw [hk] at hq; cases hq; exact ⟨h1, h2, h3⟩
  · exact h j q (by omega) hq
def FnRel (xs : List Cha) (w : World) (t : Value) (wr : World) : Prop := ∃ k : Nat, k ≤ xs.length ∧ t = .int .i64 k ∧ (∀ j x, j < k → xs[j]? = some x → FairC x) ∧ Fr noB w wr
def FpRel (ps : List Par) (w : World) (t : Value) (wr : World) : Prop := ∃ k : Nat, k ≤ ps.length ∧ t = .int .i64 k ∧ FairTo ps k ∧ Fr noB w wr
theorem tok_set : ∀ b ∈ tokSet, b.toNat < 128 := by decide +kernel
theorem trim_none {t : Bs} : (Lib.trimS t tokSet = []) ↔ t.all tokB = true := trimS_nil t tokSet
/-- the closure: is a parameter's name like that of p -/
def sameP (n : Bs) : List Value → Bool
  | [.string a, .string _] => sameL n a.data.toList
  | _ => false
set_option maxHeartbeats 1000000 in
theorem fair1_any (n u : ByteArray) (b : Nat) (q r : ByteArray) (w : World) (h : w.heap[b]? = some (.cells #[.string n, .string u] 103 (0, 0))) (hn : n.size < 17592186044416) (hq : q.size < 17592186044416) :
    Calls Tryd.prog 94 #[.agg #[.string q, .string r], .pointer (some ⟨b, 0, none⟩)] w fun e w' => e = .returned (.bool (sameL n.data.toList q.data.toList)) ∧ Fr noB w w' := by
  have hf : Fr noB w (w.alloc (.cells #[.string q, .string r] 103)) := (Fr.refl noB w).alloc _
  have c0 : w.cell? ⟨b, 0, none⟩ = some (.string n) := by simp [World.cell?, h]
  have c1 : (w.alloc (.cells #[.string q, .string r] 103)).cell? ⟨b, 0, none⟩ = some (.string n) := by
    have h1 := hf.keep h (fun h => h)
    simp only [World.cell?, h1]; rfl
  go_enter Tryd.func94, Tryd.ntmps94
  go_wp2_with fail
  refine (Same_any n q _ hn hq).mono ?_
  rintro e w1 ⟨rfl, hf1⟩
  go_wp2
  go_ret
  exact ⟨rfl, by first | exact hf.trans hf1 | exact hf1⟩
theorem RowsAt.takeTo {k : Nat} {w : World} {bk o n c m : Nat} {xs : List (List Value)} (h : RowsAt k w (.slice (some ⟨bk, o, none⟩) n c) xs) (hm : m ≤ n) : RowsAt k w (.slice (some ⟨bk, o, none⟩) m c) (xs.take m) := by
  refine ⟨fun x hx => h.1 x (List.mem_of_mem_take hx), ?_⟩
  rcases h.2 with ⟨a, c', hv, hs, _⟩ | ⟨bk', o', c', hv, h1, h2, h3, h4⟩
  · injection hv with e1 e2 e3
    obtain rfl : m = 0 := by omega
    exact Or.inl ⟨_, _, rfl, by rw [hs]; rfl, fun e => by cases e⟩
  · cases hv
    have hlen : (xs.take m).length = m := by rw [List.length_take]; omega
    refine Or.inr ⟨bk, o, c, by rw [hlen], by omega, h2, h3, fun j x hj i u hi => ?_⟩
    have hjm := (List.getElem?_eq_some_iff.1 hj).1
    rw [List.getElem?_take_of_lt (by omega)] at hj
    exact h4 j x hj i u hi
theorem any_sameP (n : Bs) (ps : List Par) : (ps.map parC).any (sameP n) = ps.any fun q => sameL n q.1 := by
  rw [List.any_map]
  congr 1
theorem len_toList (t : Bs) (h : t.isEmpty = false) : ¬ (bA t).toList = [] ∧ ((bA t).toList == []) = false ∧ (bA t).toList.isEmpty = false := by
  have h1 : ¬ (bA t).toList = [] := by rw [bA_toList]; intro e; rw [e] at h; cases h
  exact ⟨h1, beq_eq_false_iff_ne.2 h1, by rw [bA_toList]; exact h⟩
theorem len_toListE (t : Bs) (h : t.isEmpty = true) : (bA t).toList = [] ∧ ((bA t).toList == []) = true ∧ (bA t).toList.isEmpty = true := by
  have h1 : (bA t).toList = [] := by rw [bA_toList]; exact List.isEmpty_iff.1 h
  exact ⟨h1, by rw [h1]; rfl, by rw [h1]; rfl⟩
set_option maxRecDepth 100000 in
set_option maxHeartbeats 8000000 in
theorem fair_any (v : Value) (xs : List Cha) (w : World) (h : ChasAt w v xs) (hl : xs.length ≤ 1000000000000000) (hz : ∀ x ∈ xs, x.Near) :
    Calls Tryd.prog 34 #[v] w (FairPost xs w) := by
  obtain ⟨av, cv, hv⟩ := h.form
  subst hv
  have HZ := Lib.hid hz
  clear hz
  have TRIM := Lib.hid (show ∀ (t : Bs), t.length ≤ 60 → ∀ U, Calls Tryd.prog 92 #[.string (bA t), .string ⟨tokSet.toArray⟩] U fun e w' => e = .returned (.string (bA (Lib.trimS t tokSet))) ∧ Fr noB U w' from fun t ht U => by
    have := TrimSet_any (bA t) ⟨tokSet.toArray⟩ U (by show t.length ≤ _; omega) (by decide) (by decide) (fun b hb => tok_set b (by simpa using hb))
    rw [bA_data] at this
    exact this)
  by_cases h8 : 8 < xs.length
  · have h8' : (8 : Int) < (xs.length : Int) := by omega
    go_enter Tryd.func34, Tryd.ntmps34
    go_wp2
    go_ret
    exact FairPost.no (Fr.refl _ _)
  have h8' : ¬ (8 : Int) < (xs.length : Int) := by omega
  go_enter Tryd.func34, Tryd.ntmps34
  go_wp2
  go_loopw [12] (FnRel xs w) (fun t _ => xs.length - (intOf t).toNat)
  case atStart => exact ⟨0, Nat.zero_le _, rfl, fun j x hj => absurd hj (Nat.not_lt_zero _), Fr.refl _ _⟩
  case round =>
    obtain ⟨k, hk, rfl, hto, hfr⟩ := hrel
    have HTO := Lib.hid hto
    clear hto
    by_cases hks : k < xs.length
    case neg =>
      have hki : ¬ (k : Int) < (xs.length : Int) := by omega
      go_wp2
      go_ret
      exact ⟨hfr, true, rfl, fun _ => ⟨by omega, fun x hx => by
        obtain ⟨j, hj, e⟩ := List.mem_iff_getElem.1 hx
        exact HTO.out j x (by omega) (by rw [List.getElem?_eq_getElem hj, e])⟩⟩
    case pos =>
      have hki : (k : Int) < (xs.length : Int) := by omega
      have hat := Lib.hid (List.getElem?_eq_getElem hks)
      have HN := Lib.hid (HZ.out _ (List.getElem_mem hks))
      generalize xs[k] = x at hat HN
      obtain ⟨bk, of, pv, rfl, h1, h2, c0, c1, c2, hp⟩ := (h.frNone hfr).cells hat.out
      unfold maxLen at h2
      obtain ⟨a1, c1', e1⟩ := hp.form
      subst e1
      obtain ⟨wb, hwb⟩ : ∃ wb, wb = wr.alloc (.cells #[.string (bA x.scheme), .string (bA x.token), .slice a1 x.params.length c1'] 61) := ⟨_, rfl⟩
      have hfb : Fr noB wr wb := by rw [hwb]; exact (Fr.refl noB wr).alloc _
      have hbb : wb.heap[wr.heap.size]? = some (.cells #[.string (bA x.scheme), .string (bA x.token), .slice a1 x.params.length c1'] 61 (0, 0)) := by rw [hwb]; exact new_block _ _
      have HPB := Lib.hid (show ParsAt wb (.slice a1 x.params.length c1') x.params from RowsAt.frNone hp hfb)
      have HWB := Lib.hid hwb
      have HFB := Lib.hid (hfr.trans hfb)
      have HB := Lib.hid (show ∀ U, Fr noB wb U → U.cell? ⟨wr.heap.size, 0, none⟩ = some (.string (bA x.scheme)) ∧ U.cell? ⟨wr.heap.size, 1, none⟩ = some (.string (bA x.token)) ∧ U.cell? ⟨wr.heap.size, 2, none⟩ = some (.slice a1 x.params.length c1') from fun U hU => by
        have j1 := hU.keep hbb (fun h => h)
        simp [World.cell?, j1])
      have s1 : (bA x.scheme).size = x.scheme.length := rfl
      have s2 : (bA x.token).size = x.token.length := rfl
      have n1 := HN.out.scheme
      have n2 := HN.out.token
      have n3 := HN.out.few
      obtain ⟨b0, b1, b2⟩ := HB.out wb (Fr.refl _ _)
      rw [HWB.out] at b0 b1 b2
      clear hwb hp hfb hbb
      by_cases hA : 60 < x.scheme.length + x.token.length
      · have hA' : (60 : Int) < ((bA x.scheme).size : Int) + ((bA x.token).size : Int) := by omega
        go_wp2
        go_ret
        exact FairPost.no (by first | exact hfr.alloc _ | (rw [← HWB.out]; exact HFB.out))
      have hA' : ¬ (60 : Int) < ((bA x.scheme).size : Int) + ((bA x.token).size : Int) := by omega
      by_cases hB : 16 < x.params.length
      · have hB' : (16 : Int) < (x.params.length : Int) := by omega
        go_wp2
        go_ret
        exact FairPost.no (by first | exact hfr.alloc _ | (rw [← HWB.out]; exact HFB.out))
      have hB' : ¬ (16 : Int) < (x.params.length : Int) := by omega
      go_wp2_with fail
      rw [← HWB.out]
      refine (Is_any (bA x.scheme) wb (by omega)).mono ?_
      rintro e w2 ⟨rfl, rfl⟩
      rw [bA_data]
      clear b0 b1 b2
      obtain ⟨b0, b1, b2⟩ := HB.out wb (Fr.refl _ _)
      cases hC : isL x.scheme with
      | false =>
        go_wp2
        go_ret
        exact FairPost.no HFB.out
      | true =>
        by_cases hT : x.token.isEmpty = true
        case pos =>
          obtain ⟨t1, t2, t3⟩ := len_toListE x.token hT
          have HTK := Lib.hid (show x.token = [] ∨ (x.params = [] ∧ x.token.all tokB = true) from Or.inl (List.isEmpty_iff.1 hT))
          go_wp2
          go_loopw [56] (FpRel x.params wb) (fun t _ => x.params.length - (intOf t).toNat)
          case atStart => exact ⟨0, Nat.zero_le _, rfl, fun j p hj => absurd hj (Nat.not_lt_zero _), Fr.refl _ _⟩
          case round =>
            obtain ⟨m, hm, rfl, hto2, hfr2⟩ := hrel
            have HTO2 := Lib.hid hto2
            clear hto2
            by_cases hms : m < x.params.length
            case neg =>
              have hmi : ¬ (m : Int) < (x.params.length : Int) := by omega
              have HFC := Lib.hid (show FairC x from ⟨by omega, by omega, hC, HTK.out, fun j p hj => HTO2.out j p (by have := (List.getElem?_eq_some_iff.1 hj).1; omega) hj⟩)
              have HF4 := Lib.hid (HFB.out.trans hfr2)
              clear hfr2
              go_wp2
              go_roundw
              case rel => exact ⟨k + 1, by omega, by go_num, fun j y hj hy => by
                by_cases e : j = k
                · subst e; rw [hat.out] at hy; cases hy; exact HFC.out
                · exact HTO.out j y (by omega) hy, HF4.out⟩
              case measure => simp [intOf]; omega
            case pos =>
              have hmi : (m : Int) < (x.params.length : Int) := by omega
              have hat2 := Lib.hid (List.getElem?_eq_getElem hms)
              have hq := HN.out.pars _ (List.getElem_mem hms)
              generalize x.params[m] = q at hat2 hq
              obtain ⟨nm, vl⟩ := q
              have q1 : nm.length ≤ 1000000000000000 := hq.1
              have q2 : vl.length ≤ 1000000000000000 := hq.2
              have z1 : (bA nm).size = nm.length := rfl
              have z2 : (bA vl).size = vl.length := rfl
              obtain ⟨bk2, of2, rfl, g1, g2, d0, d1⟩ := ParsAt.cells (RowsAt.frNone HPB.out hfr2) hat2.out
              have HPT := Lib.hid (RowsAt.takeTo (m := m) HPB.out (by omega))
              have g2' := g2
              unfold maxLen at g2
              simp only at d0 d1
              obtain ⟨b0, b1, b2⟩ := HB.out wr hfr2
              obtain ⟨wq, hwq⟩ : ∃ wq, wq = wr.alloc (.cells #[.string (bA nm), .string (bA vl)] 103) := ⟨_, rfl⟩
              have hfq : Fr noB wr wq := by rw [hwq]; exact (Fr.refl noB wr).alloc _
              have hqq : wq.heap[wr.heap.size]? = some (.cells #[.string (bA nm), .string (bA vl)] 103 (0, 0)) := by rw [hwq]; exact new_block _ _
              have HWQ := Lib.hid hwq
              have HQF := Lib.hid (hfr2.trans hfq)
              have HFQ := Lib.hid (HFB.out.trans HQF.out)
              have HBQ := Lib.hid (HB.out wq HQF.out)
              have e0 : wq.cell? ⟨wr.heap.size, 0, none⟩ = some (.string (bA nm)) := by simp [World.cell?, hqq]
              have e1 : wq.cell? ⟨wr.heap.size, 1, none⟩ = some (.string (bA vl)) := by simp [World.cell?, hqq]
              rw [hwq] at e0 e1
              clear hwq hfq
              by_cases hA2 : 100 < nm.length + vl.length
              · have hA2' : (100 : Int) < ((bA nm).size : Int) + ((bA vl).size : Int) := by omega
                go_wp2
                go_ret
                exact FairPost.no (by first | exact HFQ.out | (rw [← HWQ.out]; exact HFQ.out))
              have hA2' : ¬ (100 : Int) < ((bA nm).size : Int) + ((bA vl).size : Int) := by omega
              go_wp2_with fail
              rw [← HWQ.out]
              refine (Is_any (bA nm) wq (by omega)).mono ?_
              rintro e w5 ⟨rfl, rfl⟩
              rw [bA_data]
              obtain ⟨b0, b1, b2⟩ := HBQ.out
              cases hI : isL nm with
              | false =>
                go_wp2
                go_ret
                exact FairPost.no HFQ.out
              | true =>
                have HCF := Lib.hid (ContainsFunc_Pr 94 #[.pointer (some ⟨wr.heap.size, 0, none⟩)] (sameP nm) _ _ wq Tryd.call94 (fun y hy u hu => by
                  rw [← List.map_take] at hy
                  obtain ⟨p, hp, rfl⟩ := List.mem_map.1 hy
                  obtain ⟨j, hj⟩ := List.mem_iff_getElem?.1 hp
                  have hjm : j < m := by have := (List.getElem?_eq_some_iff.1 hj).1; rw [List.length_take] at this; omega
                  rw [List.getElem?_take_of_lt hjm] at hj
                  have hp' := (HTO2.out j p hjm hj).1
                  refine (fair1_any (bA nm) (bA vl) wr.heap.size (bA p.1) (bA p.2) u (hu.keep hqq (fun h => h)) (by omega) (by show p.1.length < _; omega)).mono ?_
                  rintro e w' ⟨rfl, hf'⟩
                  refine ⟨?_, hf'⟩
                  rw [bA_data, bA_data]
                  show _ = Ending.returned (.bool (sameL nm (bA p.1).data.toList))
                  rw [bA_data]) (HPT.out.frNone HQF.out))
                rw [← List.map_take, any_sameP] at HCF
                have hmn : (m : Int) ≤ (c1' : Int) := by omega
                go_wp2_with fail
                refine HCF.out.mono ?_
                rintro e w6 ⟨rfl, hf6⟩
                cases hU : (x.params.take m).any fun q => sameL nm q.1 with
                | true =>
                  go_wp2
                  go_ret
                  exact FairPost.no (HFQ.out.trans hf6)
                | false =>
                  have HTN := Lib.hid (HTO2.out.succ hat2.out (by show nm.length + vl.length ≤ 100; omega) hI hU)
                  have HF6 := Lib.hid (HQF.out.trans hf6)
                  go_wp2
                  go_roundw
                  case rel => exact ⟨m + 1, by omega, by go_num, HTN.out, HF6.out⟩
                  case measure => simp [intOf]; omega
        case neg =>
          have hT' : x.token.isEmpty = false := by simpa using hT
          obtain ⟨t1, t2, t3⟩ := len_toList x.token hT'
          by_cases hD : 0 < x.params.length
          case pos =>
            have hD' : (0 : Int) < (x.params.length : Int) := by omega
            go_wp2
            go_ret
            exact FairPost.no HFB.out
          case neg =>
            have hD' : ¬ (0 : Int) < (x.params.length : Int) := by omega
            have hP0 : x.params = [] := List.eq_nil_of_length_eq_zero (by omega)
            go_wp2_with fail
            refine (TRIM.out x.token (by omega) wb).mono ?_
            rintro e w3 ⟨rfl, hf3⟩
            by_cases hE : x.token.all tokB = true
            case neg =>
              have hE' : (Lib.trimS x.token tokSet).isEmpty = false := by
                cases h : (Lib.trimS x.token tokSet) with
                | nil => exact absurd (trim_none.1 h) hE
                | cons a l => rfl
              obtain ⟨r1, r2, r3⟩ := len_toList _ hE'
              go_wp2
              go_ret
              exact FairPost.no (HFB.out.trans hf3)
            case pos =>
              obtain ⟨r1, r2, r3⟩ := len_toListE _ (show (Lib.trimS x.token tokSet).isEmpty = true by rw [trim_none.2 hE]; rfl)
              obtain ⟨b0, b1, b2⟩ := HB.out w3 hf3
              have HFC := Lib.hid (show FairC x from ⟨by omega, by omega, hC, Or.inr ⟨hP0, hE⟩, fun k p hk => by rw [hP0] at hk; simp at hk⟩)
              have HF3 := Lib.hid (HFB.out.trans hf3)
              have hlen0 : x.params.length = 0 := by omega
              go_wp2
              go_loopw [56] (FpRel x.params w3) (fun t _ => x.params.length - (intOf t).toNat)
              case atStart => exact ⟨0, Nat.zero_le _, rfl, fun j p hj => absurd hj (Nat.not_lt_zero _), Fr.refl _ _⟩
              case round =>
                obtain ⟨m, hm, rfl, hto2, hfr2⟩ := hrel
                have hmi : ¬ (m : Int) < (x.params.length : Int) := by omega
                have HF4 := Lib.hid (HF3.out.trans hfr2)
                clear hfr2 hto2
                go_wp2
                go_roundw
                case rel => exact ⟨k + 1, by omega, by go_num, fun j y hj hy => by
                  by_cases e : j = k
                  · subst e; rw [hat.out] at hy; cases hy; exact HFC.out
                  · exact HTO.out j y (by omega) hy, HF4.out⟩
                case measure => simp [intOf]; omega
end Go.Proofs.YtegbacpenolehaaDoor
