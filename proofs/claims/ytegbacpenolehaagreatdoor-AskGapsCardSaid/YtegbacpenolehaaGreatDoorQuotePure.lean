/- Texts between marks: plain laws. No program in sight. -/
import Derived.Test.YtegbacpenolehaaGreatDoorToken4
namespace Go.Proofs.YtegbacpenolehaaGreatDoor
open Go.RowKit

theorem qgo_esc : ∀ (l m : List UInt8), l.all textB = true → qgo (escL l ++ 34 :: m) = some (l, m)
  | [], m, _ => by rw [qgo.eq_def]; simp [escL]
  | c :: l, m, h => by
    simp only [List.all_cons, Bool.and_eq_true] at h
    have ih := qgo_esc l m h.2
    by_cases hc : (c == 34 || c == 92) = true
    · have e : escL (c :: l) ++ 34 :: m = 92 :: c :: (escL l ++ 34 :: m) := by simp only [escL, List.flatMap_cons, hc, if_true]; rfl
      rw [e, qgo.eq_def]
      simp only [show ((92 : UInt8) == 34) = false from rfl, show ((92 : UInt8) == 92) = true from rfl, h.1, ih, Bool.false_eq_true, if_false, if_true]
      rfl
    · have hc' : (c == 34 || c == 92) = false := by simpa using hc
      have e : escL (c :: l) ++ 34 :: m = c :: (escL l ++ 34 :: m) := by simp only [escL, List.flatMap_cons, hc', Bool.false_eq_true, if_false]; rfl
      simp only [Bool.or_eq_false_iff] at hc'
      rw [e, qgo.eq_def]
      simp only [hc'.1, hc'.2, h.1, ih, Bool.false_eq_true, if_false, if_true]
      rfl
theorem quoted_back (l m : List UInt8) (h : textL l = true) : quotedAt (quoteL l ++ m) 0 = some (l, (quoteL l).length) := by
  have e : quoteL l ++ m = 34 :: (escL l ++ 34 :: m) := by simp [quoteL]
  unfold quotedAt
  rw [e, if_pos (show (34 :: (escL l ++ 34 :: m))[0]? = some 34 from rfl), qres, List.drop_succ_cons, List.drop_zero, qgo_esc l m h]
  simp [quoteL]; omega

theorem qgo_len : ∀ (f : Nat) (r a z : List UInt8), r.length ≤ f → qgo r = some (a, z) → a.length + z.length + 1 ≤ r.length
  | 0, r, a, z, hf, h => by
    have : r = [] := List.eq_nil_of_length_eq_zero (by omega)
    subst this; rw [qgo.eq_def] at h; simp at h
  | f + 1, [], a, z, hf, h => by rw [qgo.eq_def] at h; simp at h
  | f + 1, x :: r, a, z, hf, h => by
    rw [qgo.eq_def] at h
    simp only at h
    by_cases h1 : (x == 34) = true
    · rw [if_pos h1] at h; cases h; simp
    · rw [if_neg h1] at h
      by_cases h2 : (x == 92) = true
      · rw [if_pos h2] at h
        cases r with
        | nil => simp at h
        | cons y r' =>
          simp only at h
          by_cases h3 : textB y = true
          · rw [if_pos h3] at h
            cases hq : qgo r' with
            | none => rw [hq] at h; simp at h
            | some p =>
              rw [hq] at h; simp at h
              obtain ⟨rfl, rfl⟩ := h
              have := qgo_len f r' p.1 p.2 (by simp at hf; omega) hq
              simp; omega
          · rw [if_neg h3] at h; simp at h
      · rw [if_neg h2] at h
        by_cases h3 : textB x = true
        · rw [if_pos h3] at h
          cases hq : qgo r with
          | none => rw [hq] at h; simp at h
          | some p =>
            rw [hq] at h; simp at h
            obtain ⟨rfl, rfl⟩ := h
            have := qgo_len f r p.1 p.2 (by simp at hf; omega) hq
            simp; omega
        · rw [if_neg h3] at h; simp at h
theorem quoted_len {l a : List UInt8} {i j : Nat} (h : quotedAt l i = some (a, j)) : i + 1 < j ∧ a.length + i + 2 ≤ j ∧ j ≤ l.length := by
  unfold quotedAt at h
  by_cases hi : l[i]? = some 34
  · rw [if_pos hi] at h
    unfold qres at h
    have hl := (List.getElem?_eq_some_iff.1 hi).1
    cases hq : qgo (l.drop (i + 1)) with
    | none => rw [hq] at h; simp at h
    | some p =>
      rw [hq] at h; simp at h
      have := qgo_len _ _ p.1 p.2 (Nat.le_refl _) hq
      simp at this
      obtain ⟨rfl, rfl⟩ := h
      omega
  · rw [if_neg hi] at h; simp at h
end Go.Proofs.YtegbacpenolehaaGreatDoor
