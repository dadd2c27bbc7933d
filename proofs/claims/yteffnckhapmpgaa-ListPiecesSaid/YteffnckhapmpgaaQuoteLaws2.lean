/- The walks of the laws QuoteStays, ValueBack. -/
import Derived.Test.YteffnckhapmpgaaQuoteLaws
namespace Go.Proofs.Yteffnckhapmpgaa
open Go.RowKit

theorem goTo_in (k n : Nat) (h : k ≤ n) : goTo k n = k := by unfold goTo; omega

set_option maxRecDepth 100000 in
set_option maxHeartbeats 2000000 in
theorem QuoteStays_walk (a0 : ByteArray) (a1 : Int) (w0 : a0.size ≤ 140737488351232) (w : World) :
    Calls Try.prog 4 #[.string a0, .int .i64 a1] w fun e w' => e = .returned (.bool true) ∧ Below w.heap.size w w' := by
  go_enter Try.func4, Try.ntmps4
  go_wp2_with fail
  refine (worded_any w).mono ?_
  rintro e u1 ⟨rfl, hf1⟩
  by_cases hlen : 300 < a0.size
  · have hlen' : (300 : Int) < (a0.size : Int) := by omega
    go_wp2
    go_ret
    exact ⟨rfl, hf1.none_below⟩
  · have hlen' : ¬ (300 : Int) < (a0.size : Int) := by omega
    have hm : a0.size ≤ maxLen := by unfold maxLen; omega
    have hz1 := Lib.hid hf1.size
    obtain ⟨hp0, hp1⟩ := pickI_range a1 ((a0.size : Int) + 1) (by omega)
    have hpp := Lib.hid (fun W => pick_any a1 ((a0.size : Int) + 1) W (by omega) (by omega))
    generalize pickI a1 ((a0.size : Int) + 1) = K at hp0 hp1 hpp
    obtain ⟨k, rfl⟩ := Int.eq_ofNat_of_zero_le hp0
    have hk : k ≤ a0.size := by omega
    go_wp2_with fail
    refine (On_any a0 u1).mono ?_
    rintro e u2 ⟨rfl, hu2⟩
    have hc2 : CurAt u2 u1.heap.size a0 0 := by rw [hu2]; exact new_block u1 _
    have HF2 : Fr noB w u2 := by rw [hu2]; exact hf1.alloc _
    clear hu2
    go_wp2_with fail
    refine (hpp.out _).mono ?_
    rintro e u3 ⟨rfl, rfl⟩
    go_wp2_with fail
    refine (Go_any _ _ _ _ u2 hc2 hm).mono ?_
    rintro e u3 ⟨rfl, hc3, hf3⟩
    rw [goTo_in _ _ hk] at hc3
    have HF3 := HF2.newOne hf3 hz1.out
    clear hc2 HF2 hf3
    go_wp2_with fail
    refine (At_any _ _ _ u3 hc3).mono ?_
    rintro e u4 ⟨rfl, rfl⟩
    go_wp2_with fail
    refine (Quoted_any _ _ _ u3 hc3 (by omega)).mono ?_
    intro e u4 hp
    cases hq : quotedAt a0.data.toList k with
    | none =>
      obtain ⟨rfl, hc4, hf4⟩ := hp.isNone hq
      have HF4 := HF3.newOne hf4 hz1.out
      clear hp hq hc3 hf4
      go_wp2_with fail
      refine (hpp.out _).mono ?_
      rintro e u5 ⟨rfl, rfl⟩
      go_wp2_with fail
      refine (At_any _ _ _ u4 hc4).mono ?_
      rintro e u5 ⟨rfl, rfl⟩
      go_wp2
      go_ret
      exact ⟨rfl, HF4.none_below⟩
    | some p =>
      obtain ⟨t, j⟩ := p
      obtain ⟨rfl, hc4, hf4⟩ := hp.isOk hq
      have HF4 := HF3.newOne hf4 hz1.out
      obtain ⟨l1, l2, l3⟩ := quoted_len hq
      have l3' : j ≤ a0.size := by simpa using l3
      clear hp hq hc3 hf4 l3
      have g1 : ((k : Int) + 1 < (j : Int)) := by omega
      have g2 : ((t.length : Int) ≤ (j : Int) - (k : Int) - 2) := by omega
      go_wp2_with fail
      refine (hpp.out _).mono ?_
      rintro e u5 ⟨rfl, rfl⟩
      go_wp2_with fail
      refine (At_any _ _ _ u4 hc4).mono ?_
      rintro e u5 ⟨rfl, rfl⟩
      go_wp2_with fail
      refine (At_any _ _ _ u4 hc4).mono ?_
      rintro e u5 ⟨rfl, rfl⟩
      go_wp2
      go_ret
      exact ⟨rfl, HF4.none_below⟩

/-- what a value is read as -/
theorem word_back {l m : List UInt8} (h : isL l = true) (hm : ∀ c, m.head? = some c → byteB c = false) : spanEnd byteB (l ++ m) 0 = l.length := by
  unfold isL at h
  simp only [Bool.and_eq_true] at h
  have h1 := h.1
  unfold spanEnd
  rw [List.drop_zero, Nat.zero_add]
  rw [List.takeWhile_append_of_pos (by simpa [List.all_eq_true] using h1)]
  cases m with
  | nil => simp
  | cons c m => rw [List.takeWhile_cons_of_neg (by simp [hm c rfl])]; simp
theorem quote_word (l m : List UInt8) : spanEnd byteB (quoteL l ++ m) 0 = 0 := by
  have e : quoteL l ++ m = 34 :: (escL l ++ 34 :: m) := by simp [quoteL]
  unfold spanEnd
  rw [e, List.drop_zero, List.takeWhile_cons_of_neg (by decide)]
  rfl

theorem ValuePost.bad {s : ByteArray} {w w' : World} {e : Ending} (h : ValuePost s w e w') (hv : valueOk s.data.toList = false) :
    e = .returned (.tuple #[.string ⟨#[]⟩, .iface 90 (.int .i64 3)]) ∧ Fr noB w w' := by
  obtain ⟨he, hf⟩ := h
  rw [hv] at he
  exact ⟨he, hf⟩
theorem ValuePost.word {s : ByteArray} {w w' : World} {e : Ending} (h : ValuePost s w e w') (hv : isL s.data.toList = true) :
    e = .returned (.tuple #[.string s, .nilIface]) ∧ Fr noB w w' := by
  obtain ⟨he, hf⟩ := h
  rw [if_pos (show valueOk s.data.toList = true by simp [valueOk, hv]), show valueL s.data.toList = s.data.toList by simp [valueL, hv]] at he
  exact ⟨he, hf⟩
theorem ValuePost.quote {s : ByteArray} {w w' : World} {e : Ending} (h : ValuePost s w e w') (h1 : isL s.data.toList = false) (h2 : textL s.data.toList = true) :
    e = .returned (.tuple #[.string ⟨(quoteL s.data.toList).toArray⟩, .nilIface]) ∧ Fr noB w w' := by
  obtain ⟨he, hf⟩ := h
  rw [if_pos (show valueOk s.data.toList = true by simp [valueOk, h2]), show valueL s.data.toList = quoteL s.data.toList by simp [valueL, h1]] at he
  exact ⟨he, hf⟩
theorem extract_toList (s : ByteArray) (i j : Nat) : (s.extract i j).data.toList = (s.data.toList.drop i).take (j - i) := by
  rw [Lib.extract_data]

set_option maxRecDepth 100000 in
set_option maxHeartbeats 2000000 in
theorem ValueBack_walk (a0 a1 : ByteArray) (w0 : a0.size ≤ 140737488351232) (w1 : a1.size ≤ 140737488351232) (w : World) :
    Calls Try.prog 6 #[.string a0, .string a1] w fun e w' => e = .returned (.bool true) ∧ Below w.heap.size w w' := by
  go_enter Try.func6, Try.ntmps6
  go_wp2_with fail
  refine (worded_any w).mono ?_
  rintro e u1 ⟨rfl, hf1⟩
  by_cases hlen : 400 < a0.size + a1.size
  · have hlen' : (400 : Int) < (a0.size : Int) + (a1.size : Int) := by omega
    go_wp2
    go_ret
    exact ⟨rfl, hf1.none_below⟩
  · have hlen' : ¬ (400 : Int) < (a0.size : Int) + (a1.size : Int) := by omega
    cases hm : a1.data.toList with
    | nil =>
      have he1 : a1.toList.isEmpty = true := by rw [ByteArray.toList_eq, hm]; rfl
      have HM := Lib.hid (show ∀ c, a1.data.toList.head? = some c → byteB c = false by rw [hm]; intro c hc; cases hc)
      clear hm
      go_wp2_with fail
      refine (Value_any a0 u1 (by omega)).mono ?_
      intro e u2 hp
      cases hL : isL a0.data.toList
      · cases hT : textL a0.data.toList
        · obtain ⟨rfl, hf2⟩ := hp.bad (by simp [valueOk, hL, hT])
          clear hp hL hT
          go_wp2
          go_ret
          exact ⟨rfl, (hf1.trans hf2).none_below⟩
        · obtain ⟨rfl, hf2⟩ := hp.quote hL hT
          have hq := Lib.hid (quoted_back a0.data.toList a1.data.toList hT)
          have hw := Lib.hid (quote_word a0.data.toList a1.data.toList)
          have hql := Lib.hid (show (quoteL a0.data.toList).length ≤ 2 * a0.size + 2 by have := escL_le a0.data.toList; simp [quoteL] at this ⊢; omega)
          generalize hQ : quoteL a0.data.toList = Q at hq hql hw
          clear hT hp hQ hL
          have hsum : ¬ 9223372036854775807 < Q.length + a1.size := by have := hql.out; omega
          have hz1 := Lib.hid (show w.heap.size ≤ u2.heap.size from (hf1.trans hf2).size)
          go_wp2_with fail
          have hS : ((⟨Q.toArray⟩ ++ a1 : ByteArray)).data.toList = Q ++ a1.data.toList := by simp
          have hSz : ((⟨Q.toArray⟩ ++ a1 : ByteArray)).size = Q.length + a1.size := by simp; rfl
          generalize ((⟨Q.toArray⟩ ++ a1 : ByteArray)) = S at hS hSz
          have HS := Lib.hid hS
          have HZ := Lib.hid hSz
          have hSm : S.size ≤ maxLen := by have := hql.out; rw [hSz]; unfold maxLen; omega
          have hS0 : 0 ≤ S.size := Nat.zero_le _
          have hSb : S.size < 70368744177664 := by have := hql.out; rw [hSz]; omega
          clear hS hSz
          refine (On_any S u2).mono ?_
          rintro e u3 ⟨rfl, hu3⟩
          have hc3 : CurAt u3 u2.heap.size S 0 := by rw [hu3]; exact new_block u2 _
          have HF3 : Fr noB w u3 := by rw [hu3]; exact (hf1.trans hf2).alloc _
          clear hu3
          go_wp2_with fail
          refine (Word_any _ _ _ u3 hc3 hSm hS0).mono ?_
          rintro e u4 ⟨rfl, hc4, hf4⟩
          rw [HS.out, hw.out] at hc4
          rw [HS.out, hw.out, show S.extract 0 0 = ⟨#[]⟩ from by apply Go.WideShapes.bytes_inj; rw [extract_toList]; simp]
          have HF4 := HF3.newOne hf4 hz1.out
          go_wp2_with fail
          refine (Quoted_any _ _ _ u4 hc4 hSb).mono ?_
          intro e u5 hp
          obtain ⟨rfl, hc5, hf5⟩ := hp.isOk (by rw [HS.out]; exact hq.out)
          clear hp
          have HF5 := HF4.newOne hf5 hz1.out
          go_wp2_with fail
          refine (At_any _ _ _ u5 hc5).mono ?_
          rintro e u6 ⟨rfl, rfl⟩
          go_wp2
          go_ret
          exact ⟨rfl, HF5.none_below⟩
      · obtain ⟨rfl, hf2⟩ := hp.word hL
        have hw := Lib.hid (word_back (m := a1.data.toList) hL HM.out)
        have hne : a0.toList.isEmpty = false := by rw [ByteArray.toList_eq]; have h := hL; unfold isL at h; simp only [Bool.and_eq_true, Bool.not_eq_true'] at h; exact h.2
        clear hp hL
        have hsum : ¬ 9223372036854775807 < a0.size + a1.size := by omega
        have hz1 := Lib.hid (show w.heap.size ≤ u2.heap.size from (hf1.trans hf2).size)
        go_wp2_with fail
        have hS : ((a0 ++ a1 : ByteArray)).data.toList = a0.data.toList ++ a1.data.toList := by simp
        have hSz : ((a0 ++ a1 : ByteArray)).size = a0.size + a1.size := by simp
        generalize ((a0 ++ a1 : ByteArray)) = S at hS hSz
        have HS := Lib.hid hS
        have hSm : S.size ≤ maxLen := by rw [hSz]; unfold maxLen; omega
        have hS0 : 0 ≤ S.size := Nat.zero_le _
        clear hS hSz
        refine (On_any S u2).mono ?_
        rintro e u3 ⟨rfl, hu3⟩
        have hc3 : CurAt u3 u2.heap.size S 0 := by rw [hu3]; exact new_block u2 _
        have HF3 : Fr noB w u3 := by rw [hu3]; exact (hf1.trans hf2).alloc _
        clear hu3
        go_wp2_with fail
        refine (Word_any _ _ _ u3 hc3 hSm hS0).mono ?_
        rintro e u4 ⟨rfl, hc4, hf4⟩
        rw [HS.out, hw.out] at hc4
        rw [HS.out, hw.out, show S.extract 0 a0.data.toList.length = a0 from by apply Go.WideShapes.bytes_inj; rw [extract_toList, HS.out]; simp]
        have HF4 := HF3.newOne hf4 hz1.out
        have hal := Lib.hid (show a0.data.toList.length = a0.size by simp)
        rw [hal.out] at hc4
        go_wp2_with fail
        refine (At_any _ _ _ u4 hc4).mono ?_
        rintro e u6 ⟨rfl, rfl⟩
        go_wp2
        go_ret
        exact ⟨rfl, HF4.none_below⟩
    | cons c m =>
      have he1 : a1.toList.isEmpty = false := by rw [ByteArray.toList_eq, hm]; rfl
      have hpos : 0 < a1.size := by have h : a1.data.toList.length = m.length + 1 := by rw [hm]; rfl
                                    simp at h; omega
      have hc0 : a1[0] = c := by
        have h := byte_at a1 0 hpos
        rw [hm] at h; simpa using h.symm
      cases hb : byteB c
      · have HM := Lib.hid (show ∀ c, a1.data.toList.head? = some c → byteB c = false by rw [hm]; intro d hd; simp at hd; subst hd; exact hb)
        clear hm
        go_wp2_with fail
        refine (Byte_any _ _).mono ?_
        rintro e w' ⟨rfl, rfl⟩
        go_wp2_with fail
        refine (Value_any a0 u1 (by omega)).mono ?_
        intro e u2 hp
        cases hL : isL a0.data.toList
        · cases hT : textL a0.data.toList
          · obtain ⟨rfl, hf2⟩ := hp.bad (by simp [valueOk, hL, hT])
            clear hp hL hT
            go_wp2
            go_ret
            exact ⟨rfl, (hf1.trans hf2).none_below⟩
          · obtain ⟨rfl, hf2⟩ := hp.quote hL hT
            have hq := Lib.hid (quoted_back a0.data.toList a1.data.toList hT)
            have hw := Lib.hid (quote_word a0.data.toList a1.data.toList)
            have hql := Lib.hid (show (quoteL a0.data.toList).length ≤ 2 * a0.size + 2 by have := escL_le a0.data.toList; simp [quoteL] at this ⊢; omega)
            generalize hQ : quoteL a0.data.toList = Q at hq hql hw
            clear hT hp hQ hL
            have hsum : ¬ 9223372036854775807 < Q.length + a1.size := by have := hql.out; omega
            have hz1 := Lib.hid (show w.heap.size ≤ u2.heap.size from (hf1.trans hf2).size)
            go_wp2_with fail
            have hS : ((⟨Q.toArray⟩ ++ a1 : ByteArray)).data.toList = Q ++ a1.data.toList := by simp
            have hSz : ((⟨Q.toArray⟩ ++ a1 : ByteArray)).size = Q.length + a1.size := by simp; rfl
            generalize ((⟨Q.toArray⟩ ++ a1 : ByteArray)) = S at hS hSz
            have HS := Lib.hid hS
            have HZ := Lib.hid hSz
            have hSm : S.size ≤ maxLen := by have := hql.out; rw [hSz]; unfold maxLen; omega
            have hS0 : 0 ≤ S.size := Nat.zero_le _
            have hSb : S.size < 70368744177664 := by have := hql.out; rw [hSz]; omega
            clear hS hSz
            refine (On_any S u2).mono ?_
            rintro e u3 ⟨rfl, hu3⟩
            have hc3 : CurAt u3 u2.heap.size S 0 := by rw [hu3]; exact new_block u2 _
            have HF3 : Fr noB w u3 := by rw [hu3]; exact (hf1.trans hf2).alloc _
            clear hu3
            go_wp2_with fail
            refine (Word_any _ _ _ u3 hc3 hSm hS0).mono ?_
            rintro e u4 ⟨rfl, hc4, hf4⟩
            rw [HS.out, hw.out] at hc4
            rw [HS.out, hw.out, show S.extract 0 0 = ⟨#[]⟩ from by apply Go.WideShapes.bytes_inj; rw [extract_toList]; simp]
            have HF4 := HF3.newOne hf4 hz1.out
            go_wp2_with fail
            refine (Quoted_any _ _ _ u4 hc4 hSb).mono ?_
            intro e u5 hp
            obtain ⟨rfl, hc5, hf5⟩ := hp.isOk (by rw [HS.out]; exact hq.out)
            clear hp
            have HF5 := HF4.newOne hf5 hz1.out
            go_wp2_with fail
            refine (At_any _ _ _ u5 hc5).mono ?_
            rintro e u6 ⟨rfl, rfl⟩
            go_wp2
            go_ret
            exact ⟨rfl, HF5.none_below⟩
        · obtain ⟨rfl, hf2⟩ := hp.word hL
          have hw := Lib.hid (word_back (m := a1.data.toList) hL HM.out)
          have hne : a0.toList.isEmpty = false := by rw [ByteArray.toList_eq]; have h := hL; unfold isL at h; simp only [Bool.and_eq_true, Bool.not_eq_true'] at h; exact h.2
          clear hp hL
          have hsum : ¬ 9223372036854775807 < a0.size + a1.size := by omega
          have hz1 := Lib.hid (show w.heap.size ≤ u2.heap.size from (hf1.trans hf2).size)
          go_wp2_with fail
          have hS : ((a0 ++ a1 : ByteArray)).data.toList = a0.data.toList ++ a1.data.toList := by simp
          have hSz : ((a0 ++ a1 : ByteArray)).size = a0.size + a1.size := by simp
          generalize ((a0 ++ a1 : ByteArray)) = S at hS hSz
          have HS := Lib.hid hS
          have hSm : S.size ≤ maxLen := by rw [hSz]; unfold maxLen; omega
          have hS0 : 0 ≤ S.size := Nat.zero_le _
          clear hS hSz
          refine (On_any S u2).mono ?_
          rintro e u3 ⟨rfl, hu3⟩
          have hc3 : CurAt u3 u2.heap.size S 0 := by rw [hu3]; exact new_block u2 _
          have HF3 : Fr noB w u3 := by rw [hu3]; exact (hf1.trans hf2).alloc _
          clear hu3
          go_wp2_with fail
          refine (Word_any _ _ _ u3 hc3 hSm hS0).mono ?_
          rintro e u4 ⟨rfl, hc4, hf4⟩
          rw [HS.out, hw.out] at hc4
          rw [HS.out, hw.out, show S.extract 0 a0.data.toList.length = a0 from by apply Go.WideShapes.bytes_inj; rw [extract_toList, HS.out]; simp]
          have HF4 := HF3.newOne hf4 hz1.out
          have hal := Lib.hid (show a0.data.toList.length = a0.size by simp)
          rw [hal.out] at hc4
          go_wp2_with fail
          refine (At_any _ _ _ u4 hc4).mono ?_
          rintro e u6 ⟨rfl, rfl⟩
          go_wp2
          go_ret
          exact ⟨rfl, HF4.none_below⟩
      · clear hm
        go_wp2_with fail
        refine (Byte_any _ _).mono ?_
        rintro e w' ⟨rfl, rfl⟩
        go_wp2
        go_ret
        exact ⟨rfl, hf1.none_below⟩
end Go.Proofs.Yteffnckhapmpgaa
