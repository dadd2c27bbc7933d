/- The walks of the laws QuoteBack, QuoteStays, ValueBack. -/
import Derived.Test.YteffnckhapmpgaaWorded
namespace Go.Proofs.Yteffnckhapmpgaa
open Go.RowKit

theorem qgo_esc : ∀ (l m : List UInt8), l.all textB = true → qgo (escL l ++ 34 :: m) = some (l, m)
  | [], m, _ => by rw [qgo.eq_def]; simp [escL]
  | c :: l, m, h => by
    simp only [List.all_cons, Bool.and_eq_true] at h
    have ih := qgo_esc l m h.2
    by_cases hc : (c == 34 || c == 92) = true
    · have e : escL (c :: l) ++ 34 :: m = 92 :: c :: (escL l ++ 34 :: m) := by simp only [escL, List.flatMap_cons, hc, if_true]; rfl
      rw [e, qgo.eq_def]
      simp only [show ((92 : UInt8) == 34) = false from rfl, show ((92 : UInt8) == 92) = true from rfl, h.1, ih, Bool.false_eq_true, if_false, if_true]
      rfl
    · have hc' : (c == 34 || c == 92) = false := by simpa using hc
      have e : escL (c :: l) ++ 34 :: m = c :: (escL l ++ 34 :: m) := by simp only [escL, List.flatMap_cons, hc', Bool.false_eq_true, if_false]; rfl
      simp only [Bool.or_eq_false_iff] at hc'
      rw [e, qgo.eq_def]
      simp only [hc'.1, hc'.2, h.1, ih, Bool.false_eq_true, if_false, if_true]
      rfl
theorem quoted_back (l m : List UInt8) (h : textL l = true) : quotedAt (quoteL l ++ m) 0 = some (l, (quoteL l).length) := by
  have e : quoteL l ++ m = 34 :: (escL l ++ 34 :: m) := by simp [quoteL]
  unfold quotedAt
  rw [e, if_pos (show (34 :: (escL l ++ 34 :: m))[0]? = some 34 from rfl), qres, List.drop_succ_cons, List.drop_zero, qgo_esc l m h]
  simp [quoteL]; omega

theorem qgo_len : ∀ (f : Nat) (r a z : List UInt8), r.length ≤ f → qgo r = some (a, z) → a.length + z.length + 1 ≤ r.length
  | 0, r, a, z, hf, h => by
    have : r = [] := List.eq_nil_of_length_eq_zero (by omega)
    subst this; rw [qgo.eq_def] at h; simp at h
  | f + 1, [], a, z, hf, h => by rw [qgo.eq_def] at h; simp at h
  | f + 1, x :: r, a, z, hf, h => by
    rw [qgo.eq_def] at h
    simp only at h
    by_cases h1 : (x == 34) = true
    · rw [if_pos h1] at h; cases h; simp
    · rw [if_neg h1] at h
      by_cases h2 : (x == 92) = true
      · rw [if_pos h2] at h
        cases r with
        | nil => simp at h
        | cons y r' =>
          simp only at h
          by_cases h3 : textB y = true
          · rw [if_pos h3] at h
            cases hq : qgo r' with
            | none => rw [hq] at h; simp at h
            | some p =>
              rw [hq] at h; simp at h
              obtain ⟨rfl, rfl⟩ := h
              have := qgo_len f r' p.1 p.2 (by simp at hf; omega) hq
              simp; omega
          · rw [if_neg h3] at h; simp at h
      · rw [if_neg h2] at h
        by_cases h3 : textB x = true
        · rw [if_pos h3] at h
          cases hq : qgo r with
          | none => rw [hq] at h; simp at h
          | some p =>
            rw [hq] at h; simp at h
            obtain ⟨rfl, rfl⟩ := h
            have := qgo_len f r p.1 p.2 (by simp at hf; omega) hq
            simp; omega
        · rw [if_neg h3] at h; simp at h
theorem quoted_len {l a : List UInt8} {i j : Nat} (h : quotedAt l i = some (a, j)) : i + 1 < j ∧ a.length + i + 2 ≤ j ∧ j ≤ l.length := by
  unfold quotedAt at h
  by_cases hi : l[i]? = some 34
  · rw [if_pos hi] at h
    unfold qres at h
    have hl := (List.getElem?_eq_some_iff.1 hi).1
    cases hq : qgo (l.drop (i + 1)) with
    | none => rw [hq] at h; simp at h
    | some p =>
      rw [hq] at h; simp at h
      have := qgo_len _ _ p.1 p.2 (Nat.le_refl _) hq
      simp at this
      obtain ⟨rfl, rfl⟩ := h
      omega
  · rw [if_neg hi] at h; simp at h

set_option maxRecDepth 100000 in
set_option maxHeartbeats 1000000 in
theorem QuoteBack_walk (a0 a1 : ByteArray) (w0 : a0.size ≤ 140737488351232) (w1 : a1.size ≤ 140737488351232) (w : World) :
    Calls Try.prog 3 #[.string a0, .string a1] w fun e w' => e = .returned (.bool true) ∧ Below w.heap.size w w' := by
  go_enter Try.func3, Try.ntmps3
  go_wp2_with fail
  refine (worded_any w).mono ?_
  rintro e u1 ⟨rfl, hf1⟩
  by_cases hlen : 400 < a0.size + a1.size
  · have hlen' : (400 : Int) < (a0.size : Int) + (a1.size : Int) := by omega
    go_wp2
    go_ret
    exact ⟨rfl, hf1.none_below⟩
  · have hlen' : ¬ (400 : Int) < (a0.size : Int) + (a1.size : Int) := by omega
    go_wp2_with fail
    refine (Quote_any a0 u1 (by omega)).mono ?_
    intro e u2 hp
    cases ht : textL a0.data.toList
    · obtain ⟨rfl, hf2⟩ := hp.isBad ht
      clear ht hp
      go_wp2
      go_ret
      exact ⟨rfl, (hf1.trans hf2).none_below⟩
    · obtain ⟨rfl, hf2⟩ := hp.isOk ht
      have hq := Lib.hid (quoted_back a0.data.toList a1.data.toList ht)
      have hql := Lib.hid (show (quoteL a0.data.toList).length ≤ 2 * a0.size + 2 by have := escL_le a0.data.toList; simp [quoteL] at this ⊢; omega)
      generalize hQ : quoteL a0.data.toList = Q at hq hql
      clear ht hp hQ
      have hsum : ¬ 9223372036854775807 < Q.length + a1.size := by have := hql.out; omega
      have hz1 := Lib.hid (show w.heap.size ≤ u2.heap.size from (hf1.trans hf2).size)
      go_wp2_with fail
      have hS : ((⟨Q.toArray⟩ ++ a1 : ByteArray)).data.toList = Q ++ a1.data.toList := by simp
      have hSz : ((⟨Q.toArray⟩ ++ a1 : ByteArray)).size = Q.length + a1.size := by simp; rfl
      generalize ((⟨Q.toArray⟩ ++ a1 : ByteArray)) = S at hS hSz
      have HS := Lib.hid hS
      have HZ := Lib.hid hSz
      clear hS hSz
      refine (On_any S u2).mono ?_
      rintro e u3 ⟨rfl, hu3⟩
      have hc3 : CurAt u3 u2.heap.size S 0 := by rw [hu3]; exact new_block u2 _
      have HF3 : Fr noB w u3 := by rw [hu3]; exact (hf1.trans hf2).alloc _
      clear hu3
      go_wp2_with fail
      refine (Quoted_any _ _ _ u3 hc3 (by rw [HZ.out]; have := hql.out; omega)).mono ?_
      intro e u4 hp
      obtain ⟨rfl, hc4, hf4⟩ := hp.isOk (by rw [HS.out]; exact hq.out)
      clear hp
      have HF4 := HF3.newOne hf4 hz1.out
      go_wp2_with fail
      refine (At_any _ _ _ u4 hc4).mono ?_
      rintro e u5 ⟨rfl, rfl⟩
      go_wp2
      go_ret
      exact ⟨rfl, HF4.none_below⟩

/-- pick: one of n that a number stands for -/
def pickI (a n : Int) : Int := (a % 18446744073709551616) % n
theorem pickI_range (a n : Int) (hn : 0 < n) : 0 ≤ pickI a n ∧ pickI a n < n := ⟨Int.emod_nonneg _ (by omega), Int.emod_lt_of_pos _ hn⟩
theorem pick_val (a n : Int) (hn : 0 < n) (hn2 : n < 4611686018427387904) : wrap64 ((IntKind.u64.wrap a).tmod n) = pickI a n := by
  have e : IntKind.u64.wrap a = a % 18446744073709551616 := by simp [IntKind.wrap, IntKind.signed, IntKind.bits]
  rw [e, Int.tmod_eq_emod_of_nonneg (Int.emod_nonneg _ (by decide))]
  have h := pickI_range a n hn
  unfold pickI at h ⊢
  exact IntWalk.wrap64_in _ ⟨by omega, by omega⟩
set_option maxHeartbeats 1000000 in
theorem pick_any (a n : Int) (w : World) (hn : 0 < n) (hn2 : n < 4611686018427387904) :
    Calls Try.prog 20 #[.int .i64 a, .int .i64 n] w fun e w' => e = .returned (.int .i64 (pickI a n)) ∧ w = w' := by
  go_enter Try.func20, Try.ntmps20
  go_wp2
  go_ret
  exact ⟨ret_int (pick_val a n hn hn2), rfl⟩
end Go.Proofs.Yteffnckhapmpgaa
