/- slices' functions at api.Grant (rows of 16 cells), printed by wip/rowfn.py. -/
import Derived.Test.YtkoobhgedoanhaaDoorRowF
namespace Go.Proofs.YtkoobhgedoanhaaDoor
open Go.RowKit

/-- a block of the kind before anything is stored -/
abbrev zGr : Array Value := #[.bool false, .string ⟨#[]⟩, .int .i64 0, .bool false, .string ⟨#[]⟩, .string ⟨#[]⟩, .int .i64 0, .string ⟨#[]⟩, .string ⟨#[]⟩, .string ⟨#[]⟩, .bool false, .string ⟨#[]⟩, .bool false, .slice none 0 0, .int .i64 0, .slice none 0 0]
theorem zGr_size : zGr.size = 16 := rfl
theorem zGr_one : ∀ v ∈ zGr.toList, v.oneCell' = true := by decide +kernel
theorem sizeGr {x : List Value} (h : x.length = 16) : (Tryd.prog.info? 34).map (·.size) = some x.length := by rw [h]; kernel_rfl

def IRelGr (w : World) (p : List Value → Bool) (xs : List (List Value)) (i : Value) (wr : World) : Prop :=
  ∃ k : Nat, k ≤ xs.length ∧ i = .int .i64 k ∧ (xs.take k).any p = false ∧ Fr noB w wr
set_option maxRecDepth 100000 in
set_option maxHeartbeats 1000000 in
theorem IndexFunc_Gr (g : Nat) (cap : Array Value) (p : List Value → Bool) (v : Value) (xs : List (List Value)) (w : World) (eg : ∀ args w, (callFunc g args).run Tryd.prog w = .ok (.enter g args) w) (hp : AnswersK noB w g cap p xs) (hv : RowsAt 16 w v xs) :
    Calls Tryd.prog 52 #[v, .func (.func g) #[] cap] w fun e w' => e = .returned (.int .i64 (idxP p xs 0)) ∧ Fr noB w w' := by
  obtain ⟨av, cv, hform⟩ := hv.form
  subst hform
  have hone := Lib.hid hv.1
  go_enter Tryd.func52, Tryd.ntmps52
  go_wp2
  go_loopw [8] (IRelGr w p xs) (fun i _ => xs.length - (intOf i).toNat)
  case atStart => exact ⟨0, Nat.zero_le _, rfl, rfl, Fr.refl _ _⟩
  case round =>
    obtain ⟨k, hk, rfl, hn, hfr⟩ := hrel
    have HN := Lib.hid hn
    clear hn
    by_cases hks : k < xs.length
    · rcases (hv.frNone hfr).2 with ⟨_, _, _, e, _⟩ | ⟨bk, of, c, hf, h1, h2, h3, h4⟩
      · rw [e] at hks; exact absurd hks (Nat.not_lt_zero _)
      · cases hf
        unfold maxLen at h2
        have hat := Lib.hid (List.getElem?_eq_getElem hks)
        have hcell := h4 k _ hat.out
        have hmem := Lib.hid (List.getElem_mem hks)
        generalize xs[k] = x at hat hcell hmem
        have hcall := Lib.hid (hp x hmem.out wr hfr)
        have hxk := (hone.out x hmem.out).1
        clear h4
        cases hpx : p x
        · have hnx := Lib.hid (any_take_succ hat.out HN.out hpx)
          go_wp2_with (first | ((with_reducible refine wpList_at ⟨some 15, _, _, _, _, _⟩ ?_); go_must (refine wpList_load_mid rfl 34 (.tmp 14) rfl bk (of + k * 16) rfl x _ hcell Tryd.underlying34 rfl (sizeGr hxk) ?_)) | fail)
          refine hcall.out.mono ?_
          rintro e w1 ⟨rfl, hf1⟩
          rw [hpx]
          go_wp2
          go_roundw
          case rel => exact ⟨k + 1, by omega, by go_num, hnx.out, hfr.trans hf1⟩
          case measure => simp [intOf]; omega
        · have hfin := Lib.hid (idxP_hit (i := 0) hat.out hpx HN.out)
          go_wp2_with (first | ((with_reducible refine wpList_at ⟨some 15, _, _, _, _, _⟩ ?_); go_must (refine wpList_load_mid rfl 34 (.tmp 14) rfl bk (of + k * 16) rfl x _ hcell Tryd.underlying34 rfl (sizeGr hxk) ?_)) | fail)
          refine hcall.out.mono ?_
          rintro e w1 ⟨rfl, hf1⟩
          rw [hpx]
          go_wp2
          go_ret
          rw [hfin.out, Nat.zero_add]
          exact ⟨rfl, hfr.trans hf1⟩
    · have hfin := Lib.hid (show idxP p xs 0 = -1 from idxP_none (by have h := HN.out; rw [List.take_of_length_le (by omega)] at h; exact h))
      go_wp2
      go_ret
      rw [hfin.out]
      exact ⟨rfl, hfr⟩

set_option maxHeartbeats 1000000 in
theorem ContainsFunc_Gr (g : Nat) (cap : Array Value) (p : List Value → Bool) (v : Value) (xs : List (List Value)) (w : World) (eg : ∀ args w, (callFunc g args).run Tryd.prog w = .ok (.enter g args) w) (hp : AnswersK noB w g cap p xs) (hv : RowsAt 16 w v xs) :
    Calls Tryd.prog 10 #[v, .func (.func g) #[] cap] w fun e w' => e = .returned (.bool (xs.any p)) ∧ Fr noB w w' := by
  have hb := Lib.hid (idxP_any p xs 0)
  go_enter Tryd.func10, Tryd.ntmps10
  go_wp2_with fail
  refine (IndexFunc_Gr g cap p v xs w eg hp hv).mono ?_
  rintro e w1 ⟨rfl, hf1⟩
  go_wp2
  go_ret
  exact ⟨ret_bool hb.out, hf1⟩

/-- at the head of a round of DeleteFunc: j rows looked at, those that stay laid ahead -/
def DRelGr (b : Nat) (w : World) (bk cap : Nat) (p : List Value → Bool) (xs : List (List Value)) (i j : Value) (wr : World) : Prop :=
  ∃ (m n : Nat) (ys : List (List Value)), i = .int .i64 m ∧ j = .int .i64 n ∧ m < n ∧ n ≤ xs.length ∧ ys.length = xs.length ∧ OwnRows b 34 16 wr (.slice (some ⟨bk, 0, none⟩) xs.length cap) ys ∧
    ys.take m = (xs.take n).filter (fun x => !p x) ∧ ys.drop n = xs.drop n ∧ Fr (one bk) w wr
theorem idxP_firstGr {p : List Value → Bool} : ∀ {l : List (List Value)} (i : Nat), l.any p = true → ∃ k x, l[k]? = some x ∧ p x = true ∧ (l.take k).any p = false ∧ idxP p l i = ((i + k : Nat) : Int)
  | [], _, h => by simp at h
  | a :: l, i, h => by
    cases ha : p a
    · rw [List.any_cons, ha, Bool.false_or] at h
      obtain ⟨k, x, h1, h2, h3, h4⟩ := idxP_firstGr (i + 1) h
      refine ⟨k + 1, x, by simpa using h1, h2, by simp [ha, h3], ?_⟩
      rw [idxP, ha]
      simp only [Bool.false_eq_true, if_false]
      rw [h4]; congr 1; omega
    · exact ⟨0, a, rfl, ha, rfl, by rw [idxP, ha]; simp⟩
theorem filter_allGr {p : List Value → Bool} {l : List (List Value)} (h : l.any p = false) : l.filter (fun x => !p x) = l := by
  rw [List.filter_eq_self]
  intro a ha
  have := List.any_eq_false.1 h a ha
  simpa using this
set_option maxRecDepth 100000 in
set_option maxHeartbeats 2000000 in
theorem DeleteFunc_Gr (b : Nat) (g : Nat) (cap : Array Value) (p : List Value → Bool) (v : Value) (xs : List (List Value)) (w : World) (eg : ∀ args w, (callFunc g args).run Tryd.prog w = .ok (.enter g args) w) (hp : AnswersK (own v) w g cap p xs) (hv : OwnRows b 34 16 w v xs) :
    Calls Tryd.prog 20 #[v, .func (.func g) #[] cap] w fun e w' => ∃ a c, e = .returned (.slice a (xs.filter (fun x => !p x)).length c) ∧ OwnRows b 34 16 w' (.slice a (xs.filter (fun x => !p x)).length c) (xs.filter (fun x => !p x)) ∧ Fr (own v) w w' ∧ own (.slice a (xs.filter (fun x => !p x)).length c) = own v := by
  cases hany : xs.any p
  · have hidx := Lib.hid (idxP_none (i := 0) hany)
    rw [filter_allGr hany]
    obtain ⟨av, cv, hform⟩ := hv.form
    subst hform
    go_enter Tryd.func20, Tryd.ntmps20
    go_wp2_with fail
    refine (IndexFunc_Gr g cap p _ xs w eg hp.none hv.at).mono ?_
    rintro e w1 ⟨rfl, hf1⟩
    rw [hidx.out]
    go_wp2
    go_ret
    exact ⟨_, _, rfl, hv.fr hf1 (fun _ _ h => h), hf1.mono (fun _ _ h => absurd h (fun h => h)), rfl⟩
  · obtain ⟨k0, x0, hx0, hpx0, hpre, hidx⟩ := idxP_firstGr 0 hany
    rw [Nat.zero_add] at hidx
    have hk0 := (List.getElem?_eq_some_iff.1 hx0).1
    obtain ⟨bk, cp, hvf⟩ : ∃ bk cp, v = .slice (some ⟨bk, 0, none⟩) xs.length cp := by
      rcases hv.2.2 with ⟨_, hn⟩ | ⟨bk, cp, cur, hv, _⟩
      · omega
      · exact ⟨bk, cp, hv⟩
    subst hvf
    obtain ⟨cap', cur, hv', q1, q2, q3, q4, q5, q6⟩ := hv.open (g := bk) rfl
    cases hv'
    unfold maxLen at q4
    have hone := Lib.hid hv.1
    have hfin0 := Lib.hid (show xs.take k0 = (xs.take (k0 + 1)).filter (fun x => !p x) by
      rw [take_snocG hx0, List.filter_append, filter_allGr hpre]
      simp [hpx0])
    have HP := Lib.hid hp
    have HIX := Lib.hid hidx
    clear hany hpre hx0 hpx0 hidx q2 q5 q6 hp
    go_enter Tryd.func20, Tryd.ntmps20
    go_wp2_with fail
    refine (IndexFunc_Gr g cap p _ xs w eg HP.out.none hv.at).mono ?_
    rintro e w1 ⟨rfl, hf1⟩
    rw [HIX.out]
    have hv1 := hv.fr hf1 (fun _ _ h => h)
    have hn1 : ((k0 : Int) == -1) = false := by rw [beq_eq_false_iff_ne]; omega
    go_wp2
    go_loopw [5, 6] (DRelGr b w bk cp p xs) (fun _ j _ => xs.length - (intOf j).toNat)
    case atStart => exact ⟨k0, k0 + 1, xs, rfl, by go_num, by omega, by omega, rfl, hv1, hfin0.out, rfl, hf1.mono (fun _ _ h => absurd h (fun h => h))⟩
    case round =>
      obtain ⟨m, n, ys, rfl, rfl, hmn, hn, hlen, hown, htake, hdrop, hfr⟩ := hrel
      have HT := Lib.hid htake
      have HD := Lib.hid hdrop
      have HLEN := Lib.hid hlen
      clear htake hdrop hlen
      rw [← HLEN.out] at hown
      have hownat := hown.at
      by_cases hks : n < xs.length
      · rcases hownat.2 with ⟨_, _, _, e, _⟩ | ⟨bk', of, c, hf, h1, h2, h3, h4⟩
        · have hl := HLEN.out; rw [e] at hl; simp at hl; omega
        · cases hf
          have hat := Lib.hid (List.getElem?_eq_getElem hks)
          have haty : ys[n]? = some xs[n] := by
            have e := congrArg (fun l : List (List Value) => l[0]?) HD.out
            simp only [List.getElem?_drop, Nat.add_zero] at e
            rw [e, hat.out]
          have hcell := h4 n _ haty
          simp only [Nat.zero_add] at hcell
          have hmem := Lib.hid (List.getElem_mem hks)
          generalize xs[n] = x at hat hcell hmem haty
          have hxk := (hone.out x hmem.out).1
          have hx1 := Lib.hid (hone.out x hmem.out).2
          have hst := fun W => run_storeCells_new (P := Tryd.prog) W 34 #[.bool false, .string ⟨#[]⟩, .int .i64 0, .bool false, .string ⟨#[]⟩, .string ⟨#[]⟩, .int .i64 0, .string ⟨#[]⟩, .string ⟨#[]⟩, .string ⟨#[]⟩, .bool false, .string ⟨#[]⟩, .bool false, .slice none 0 0, .int .i64 0, .slice none 0 0] x (by rw [hxk]; rfl) hx1.out
          have hfa : Fr noB wr (wr.alloc (.cells x.toArray 34)) := (Fr.refl noB wr).alloc _
          have hcall := Lib.hid (HP.out x hmem.out (wr.alloc (.cells x.toArray 34)) ((hfr.alloc _).mono (fun k _ h => by have e : k = bk := h; rw [e]; rfl)))
          have hsx := Lib.hid (sizeGr hxk)
          have hfr2 := hfr.alloc (.cells x.toArray 34)
          have hown2 := hown.fr hfa (fun _ _ h => h)
          have hbx : (wr.alloc (.cells x.toArray 34)).heap[wr.heap.size]? = some (.cells x.toArray 34 (0, 0)) := new_block _ _
          have HBX := Lib.hid hbx
          clear h4 haty hbx hfa
          go_wp2_with (first | ((with_reducible refine wpList_at ⟨some 25, _, _, _, _, _⟩ ?_); go_must (refine wpList_load_mid rfl 34 (.tmp 24) rfl bk (n * 16) rfl x _ hcell Tryd.underlying34 rfl hsx.out ?_)) | ((with_reducible refine wpList_at ⟨some 27, _, _, _, _, _⟩ ?_); go_must (refine wpList_load_row rfl 34 (.tmp 7) rfl wr.heap.size rfl _ x.toArray (0, 0) _ HBX.out Tryd.underlying34 rfl (by rw [List.size_toArray]; exact hsx.out) ?_)) | fail)
          have hlw : wr.heap.size < (wr.alloc (.cells x.toArray 34)).heap.size := by simp
          clear hst hcell
          generalize wr.alloc (.cells x.toArray 34) = W2 at *
          refine hcall.out.mono ?_
          rintro e w3 ⟨rfl, hf3⟩
          have hfr3 := hfr2.trans (hf3.mono (fun _ _ h => absurd h (fun h => h)))
          have hown3 := hown2.fr hf3 (fun _ _ h => h)
          have hb3 := Lib.hid (hf3.keep HBX.out (fun h => h))
          have HLX := Lib.hid HLEN.out
          cases hpx : p x
          · have hth := Lib.hid (hown3.there (g := bk) (cap := cp) (by rw [HLEN.out]) (o := m * 16) (n := x.toArray.size) (by
              have hmc : (m + 1) * 16 ≤ cp * 16 := Nat.mul_le_mul_right _ (by omega)
              rw [List.size_toArray, hxk]; omega))
            have hown4 := hown3.store (i := m) (y := x) (by rw [HLEN.out]; omega) hxk hx1.out (g := bk) rfl
            rw [HLEN.out] at hown4
            have hfr4 := hfr3.step (Fr.setCells (Fr.refl (one bk) w3) (fun _ => rfl) x (m * 16)) (fun _ _ h => h)
            go_wp2_with (first | ((with_reducible refine wpList_at ⟨some 32, _, _, _, _, _⟩ ?_); go_must (refine wpList_load_row rfl 34 (.tmp 7) rfl wr.heap.size rfl _ x.toArray (0, 0) _ hb3.out Tryd.underlying34 rfl (by rw [List.size_toArray]; exact hsx.out) ?_)) | ((with_reducible refine wpList_at ⟨none, .store 34 _ _, _, _, _, _⟩ ?_); go_must (refine wpList_store_mid rfl 34 (.tmp 33) (.tmp 32) rfl bk (m * 16) x.toArray rfl rfl hth.out (by rw [List.size_toArray]; exact hsx.out) (all_oneCell_toArray hx1.out) ?_)) | fail)
            go_roundw
            case rel =>
              refine ⟨m + 1, n + 1, ys.set m x, by go_num, by go_num, by omega, by omega, by rw [List.length_set]; exact HLX.out, hown4, ?_, ?_, hfr4⟩
              · rw [take_snocG (l := ys.set m x) (List.getElem?_set_self (by rw [HLX.out]; omega)), List.take_set_of_le (Nat.le_refl m), take_snocG hat.out, List.filter_append, HT.out]
                simp [hpx]
              · rw [List.drop_set_of_lt (by omega)]
                have e := congrArg (List.drop 1) HD.out
                simpa [List.drop_drop] using e
            case measure => simp [intOf]; omega
          · rw [HLEN.out] at hown3
            go_wp2_with fail
            go_roundw
            case rel =>
              refine ⟨m, n + 1, ys, rfl, by go_num, by omega, by omega, HLX.out, hown3, ?_, ?_, hfr3⟩
              · rw [take_snocG hat.out, List.filter_append, HT.out]
                simp [hpx]
              · have e := congrArg (List.drop 1) HD.out
                simpa [List.drop_drop] using e
            case measure => simp [intOf]; omega
      · have hnl : n = xs.length := by omega
        subst hnl
        have hfin := Lib.hid (show ys.take m = xs.filter (fun x => !p x) by have h := HT.out; rw [List.take_of_length_le (Nat.le_refl _)] at h; exact h)
        have hml : (ys.take m).length = m := by rw [List.length_take, HLEN.out]; omega
        have hfl := Lib.hid (show (xs.filter (fun x => !p x)).length = m by rw [← hfin.out]; exact hml)
        have hcut := hown.cut (i := m) (by rw [HLEN.out]; omega) (g := bk) (cap := cp) (by rw [HLEN.out])
        have hle : (xs.length - m) * 16 + m * 16 ≤ cp * 16 := by rw [← Nat.add_mul]; exact Nat.mul_le_mul_right _ (by omega)
        have hzl : (Builtin.zeroCells zGr (xs.length - m)).toList.length = (xs.length - m) * 16 := by simp [Builtin.zeroCells]
        have hcl := fun ty => run_clear_rows (P := Tryd.prog) wr 22 34 ty zGr Tryd.underlying22 (fun w => by kernel_rfl) (by decide) zGr_one bk (m * 16) (xs.length - m) (cp - m) (by omega) (by
          have := hown.there (g := bk) (cap := cp) (by rw [HLEN.out]) (o := m * 16) (n := (xs.length - m) * 16) (by omega)
          exact this)
        have hbeh := hcut.behind (o := m * 16) (vs := (Builtin.zeroCells zGr (xs.length - m)).toList) (by rw [hml]; exact Nat.le_refl _) (g := bk) (cap := cp) (by rw [hml]) (by rw [hzl]; omega)
        have hfr4 := hfr.step (Fr.setCells (Fr.refl (one bk) wr) (fun _ => rfl) (Builtin.zeroCells zGr (xs.length - m)).toList (m * 16)) (fun _ _ h => h)
        clear hown hownat hcut hzl hml hle HLEN
        go_wp2_with fail
        go_ret
        rw [hfl.out, ← hfin.out]
        exact ⟨_, _, rfl, hbeh, hfr4.mono (fun k _ h => by have e : k = bk := h; rw [e]; rfl), rfl⟩

theorem infoGr : ∃ i0 : TypeInfo, Tryd.prog.info? 34 = some i0 ∧ i0.size = 16 := by
  have h : (Tryd.prog.info? 34).map (·.size) = some 16 := by kernel_rfl
  cases hq : Tryd.prog.info? 34 with
  | none => rw [hq] at h; cases h
  | some i => rw [hq] at h; exact ⟨i, rfl, by simpa using h⟩
set_option maxRecDepth 100000 in
set_option maxHeartbeats 2000000 in
theorem Delete_Gr (b : Nat) (bk cp i j : Nat) (xs : List (List Value)) (w : World) (hv : OwnRows b 34 16 w (.slice (some ⟨bk, 0, none⟩) xs.length cp) xs) (hij : i < j) (hj : j ≤ xs.length) :
    Calls Tryd.prog 55 #[.slice (some ⟨bk, 0, none⟩) xs.length cp, .int .i64 i, .int .i64 j] w fun e w' => e = .returned (.slice (some ⟨bk, 0, none⟩) (i + (xs.length - j)) cp) ∧ OwnRows b 34 16 w' (.slice (some ⟨bk, 0, none⟩) (i + (xs.length - j)) cp) (xs.take i ++ xs.drop j) ∧ Fr (one bk) w w' := by
  obtain ⟨i0, hi0, hz1⟩ := infoGr
  obtain ⟨cap', cur, hv', q1, q2, q3, q4, q5, q6⟩ := hv.open (g := bk) rfl
  cases hv'
  unfold maxLen at q4
  have hat := hv.at
  have hone := hv.1
  obtain ⟨news, hnews⟩ : ∃ news, news = (xs.drop j).flatten := ⟨_, rfl⟩
  have hdr : ∀ x ∈ xs.drop j, x.length = 16 ∧ ∀ u ∈ x, u.oneCell' = true := fun x hx => hone x (List.mem_of_mem_drop hx)
  have hlen : news.length = (xs.length - j) * 16 := by rw [hnews, flatten_len (fun x hx => (hdr x hx).1), List.length_drop]
  obtain ⟨A, hA, hsrc⟩ : ∃ A : Addr, (if cp = j then some (⟨bk, 0, none⟩ : Addr) else some ⟨bk, j * 16, none⟩) = some A ∧ Hid (∀ t u, news[t]? = some u → w.drew.cell? (A.add t) = some u) := by
    by_cases h : cp = j
    · refine ⟨⟨bk, 0, none⟩, by simp [h], fun t u hu => ?_⟩
      have h0 : news.length = 0 := by rw [hlen]; have : xs.length - j = 0 := by omega
                                      rw [this, Nat.zero_mul]
      rw [List.length_eq_zero_iff.1 h0] at hu
      simp at hu
    · refine ⟨⟨bk, j * 16, none⟩, by simp [h], fun t u hu => ?_⟩
      have ht : t < (xs.length - j) * 16 := by
        have := (List.getElem?_eq_some_iff.1 hu).1
        omega
      have hu2 : xs.flatten[j * 16 + t]? = some u := by
        have e : xs.flatten = (xs.take j).flatten ++ (xs.drop j).flatten := by rw [← List.flatten_append, List.take_append_drop]
        have hl : (xs.take j).flatten.length = j * 16 := by rw [flatten_len (fun x hx => (hone x (List.mem_of_mem_take hx)).1), List.length_take, Nat.min_eq_left hj]
        rw [e, List.getElem?_append_right (by omega), hl, show j * 16 + t - j * 16 = t from by omega, ← hnews]
        exact hu
      have hjt : j * 16 + t < xs.length * 16 := by
        have : (xs.length - j) * 16 + j * 16 = xs.length * 16 := by rw [← Nat.add_mul]; congr 1; omega
        omega
      rw [← q6, List.getElem?_take_of_lt hjt] at hu2
      have hu3 : cur[j * 16 + t]? = some u := by simpa using hu2
      have ea : (Addr.add ⟨bk, j * 16, none⟩ t) = ⟨bk, j * 16 + t, none⟩ := by unfold Addr.add; split <;> simp_all
      rw [ea]
      show w.cell? _ = some u
      simp [World.cell?, q2, hu3]
  have s1 := Lib.hid hlen
  have s2 := Lib.hid (show ∀ u ∈ news, u.oneCell' = true by
    intro u hu
    rw [hnews] at hu
    obtain ⟨x, hx, hux⟩ := List.mem_flatten.1 hu
    exact (hdr x hx).2 u hux)
  have s3 := Lib.hid (show ∀ t, t < news.length → (w.drew.cell? ⟨bk, 0 + i * 16 + t, none⟩).isSome = true ∧ w.drew.frozen? ⟨bk, 0 + i * 16 + t, none⟩ = false by
    intro t ht
    rw [Nat.zero_add]
    have hle : i * 16 + (xs.length - j) * 16 ≤ cp * 16 := by rw [← Nat.add_mul]; exact Nat.mul_le_mul_right _ (by omega)
    have := hv.there (g := bk) (cap := cp) rfl (o := i * 16) (n := (xs.length - j) * 16) hle t (by omega)
    exact this)
  have hvd : OwnRows b 34 16 w.drew (.slice (some ⟨bk, 0, none⟩) xs.length cp) xs := hv
  have hsp := hvd.splice (i := i) (ys := xs.drop j) (by omega) hdr (g := bk) (cap := cp) rfl (by rw [List.length_drop]; omega)
  rw [List.length_drop, ← hnews] at hsp
  have hfr0 : Fr (one bk) w (w.drew.setCells bk (i * 16) news) := ((Fr.refl (one bk) w).drew).setCells (fun _ => rfl) _ _
  obtain ⟨W1, hW1⟩ : ∃ W1, W1 = w.drew.setCells bk (0 + i * 16) news := ⟨_, rfl⟩
  have HW := Lib.hid hW1
  rw [Nat.zero_add] at hW1
  rw [← hW1] at hsp hfr0
  have hnl : (xs.take i ++ xs.drop j).length = i + (xs.length - j) := by rw [List.length_append, List.length_take, List.length_drop]; omega
  have hm : i + (xs.length - j) < xs.length := by omega
  have hzl : (Builtin.zeroCells zGr (xs.length - (i + (xs.length - j)))).toList.length = (xs.length - (i + (xs.length - j))) * 16 := by simp [Builtin.zeroCells]
  have hle : (i + (xs.length - j)) * 16 + (xs.length - (i + (xs.length - j))) * 16 ≤ cp * 16 := by rw [← Nat.add_mul]; exact Nat.mul_le_mul_right _ (by omega)
  have hcl := fun ty => run_clear_rows (P := Tryd.prog) W1 22 34 ty zGr Tryd.underlying22 (fun w => by kernel_rfl) (by decide) zGr_one bk ((i + (xs.length - j)) * 16) (xs.length - (i + (xs.length - j))) (cp - (i + (xs.length - j))) (by omega) (by
    have := hsp.there (g := bk) (cap := cp) (by rw [hnl]) (o := (i + (xs.length - j)) * 16) (n := (xs.length - (i + (xs.length - j))) * 16) hle
    exact this)
  have hbeh := hsp.behind (o := (i + (xs.length - j)) * 16) (vs := (Builtin.zeroCells zGr (xs.length - (i + (xs.length - j)))).toList) (by rw [hnl]; exact Nat.le_refl _) (g := bk) (cap := cp) (by rw [hnl]) (by rw [hzl]; omega)
  have hfr4 := hfr0.step (Fr.setCells (Fr.refl (one bk) W1) (fun _ => rfl) (Builtin.zeroCells zGr (xs.length - (i + (xs.length - j)))).toList ((i + (xs.length - j)) * 16)) (fun _ _ h => h)
  have hne : ((i : Int) == (j : Int)) = false := by rw [beq_eq_false_iff_ne]; omega
  have hicp : i ≤ cp := by omega
  have hjcp : j ≤ cp := by omega
  have HA := Lib.hid hA
  clear hW1 hsp hvd hfr0 hnews hlen hdr hone hat hnl hzl hle q2 q5 q6 hv
  go_enter Tryd.func55, Tryd.ntmps55
  go_wp2_with fail
  have hA := HA.out
  go_region_law (refine step_append_room rfl (.tmp 22) (.tmp 25) 22 rfl 34 i0 16 Tryd.underlying22 hi0 hz1 bk 0 i cp (by simp [Act.eval, Act.put]) A (xs.length - j) (cp - j) news (by simp [Act.eval, Act.put]) s1.out hsrc.out s2.out (by omega) s3.out ?_; rw [← HW.out])
  all_goals
    go_wp2_with fail
    go_ret
    exact ⟨rfl, hbeh, hfr4⟩

end Go.Proofs.YtkoobhgedoanhaaDoor
