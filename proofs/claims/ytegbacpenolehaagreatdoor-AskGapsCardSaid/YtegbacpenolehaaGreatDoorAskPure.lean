/- Challenges as texts: the plain reader. No program in sight. -/
import Derived.Test.YtegbacpenolehaaGreatDoorListPlain
import Derived.Test.YtegbacpenolehaaGreatDoorQuotePure
import Derived.Test.YtegbacpenolehaaGreatDoorToken5
namespace Go.Proofs.YtegbacpenolehaaGreatDoor
open Go.RowKit

abbrev Bs := List UInt8
/-- a parameter: its name and its value -/
abbrev Par := Bs × Bs
structure Cha where
  scheme : Bs
  token : Bs
  params : List Par

def gapB (c : UInt8) : Bool := blankB c || c == 44
def tokSet : List UInt8 := [97, 98, 99, 100, 101, 102, 103, 104, 105, 106, 107, 108, 109, 110, 111, 112, 113, 114, 115, 116, 117, 118, 119, 120, 121, 122, 65, 66, 67, 68, 69, 70, 71, 72, 73, 74, 75, 76, 77, 78, 79, 80, 81, 82, 83, 84, 85, 86, 87, 88, 89, 90, 48, 49, 50, 51, 52, 53, 54, 55, 56, 57, 45, 46, 95, 126, 43, 47]
def tokB (c : UInt8) : Bool := tokSet.contains c
def eqB (c : UInt8) : Bool := [61].contains c

/-- ahead of a comma, or at the end -/
def stopB : Bs → Bool
  | [] => true
  | c :: _ => c == 44
def blanksR (r : Bs) : Bs := r.dropWhile blankB
def gapsR (r : Bs) : Bs := r.dropWhile gapB
def overB (r : Bs) : Bool := stopB (blanksR r)
def wordR (r : Bs) : Bs := r.takeWhile byteB
def afterW (r : Bs) : Bs := r.dropWhile byteB
def hdB (b : UInt8) : Bs → Bool
  | [] => false
  | c :: _ => c == b
def namedB (r : Bs) : Bool := !(wordR r).isEmpty && hdB 61 (blanksR (afterW r))
def singleN (r : Bs) : Bs := r.takeWhile tokB
def singleM (r : Bs) : Bs := (r.dropWhile tokB).takeWhile eqB
def singleZ (r : Bs) : Bs := (r.dropWhile tokB).dropWhile eqB
def singleR (r : Bs) : Option (Bs × Bs) := if !(singleN r).isEmpty && overB (singleZ r) then some (singleN r ++ singleM r, blanksR (singleZ r)) else none
def quoteR : Bs → Option (Bs × Bs)
  | [] => none
  | c :: t => if c == 34 then qgo t else none
def valueR (r : Bs) : Option (Bs × Bs) := if (wordR r).isEmpty then quoteR r else some (wordR r, afterW r)
/-- where a parameter's value begins -/
def valueAt (r : Bs) : Bs := blanksR ((blanksR (afterW r)).drop 1)
def twiceB (ps : List Par) (n : Bs) : Bool := ps.any fun q => sameL q.1 n
def paramR (ps : List Par) (r : Bs) : Except Nat (Par × Bs) :=
  if !namedB r then .error 3 else
  match valueR (valueAt r) with
  | none => .error 3
  | some q => if twiceB ps (wordR r) then .error 9 else if ps.length = 16 then .error 4 else .ok ((wordR r, q.1), q.2)
def paramsN : Nat → List Par → Bs → Except Nat (List Par × Bs)
  | 0, ps, r => .ok (ps, r)
  | f + 1, ps, r =>
    match paramR ps r with
    | .error e => .error e
    | .ok (p, r1) => if overB r1 then (if namedB (gapsR r1) then paramsN f (ps ++ [p]) (gapsR r1) else .ok (ps ++ [p], gapsR r1)) else .error 3
def blankHead : Bs → Bool
  | [] => false
  | c :: _ => blankB c
def oneR (k : Nat) (r : Bs) : Except Nat (Cha × Bs) :=
  if (wordR r).isEmpty then .error 3
  else if k = 8 then .error 4
  else if overB (afterW r) then .ok (⟨wordR r, [], []⟩, blanksR (afterW r))
  else if !blankHead (afterW r) then .error 3
  else match singleR (blanksR (afterW r)) with
    | some q => .ok (⟨wordR r, q.1, []⟩, q.2)
    | none => match paramsN ((blanksR (afterW r)).length + 1) [] (blanksR (afterW r)) with
      | .error e => .error e
      | .ok q => .ok (⟨wordR r, [], q.1⟩, q.2)
def parseN : Nat → List Cha → Bs → Except Nat (List Cha)
  | 0, acc, _ => .ok acc
  | f + 1, acc, r =>
    if (gapsR r).isEmpty then .ok acc else
    match oneR acc.length (gapsR r) with
    | .error e => .error e
    | .ok (x, r1) => parseN f (acc ++ [x]) r1
def chasL (l : Bs) : Except Nat (List Cha) := if 3000 < l.length then .error 4 else parseN (l.length + 1) [] l

/-! how much is left -/
theorem dropW_le (p : UInt8 → Bool) (r : Bs) : (r.dropWhile p).length ≤ r.length := (List.dropWhile_suffix p).length_le
theorem blanksR_le (r : Bs) : (blanksR r).length ≤ r.length := dropW_le _ r
theorem gapsR_le (r : Bs) : (gapsR r).length ≤ r.length := dropW_le _ r
theorem afterW_le (r : Bs) : (afterW r).length ≤ r.length := dropW_le _ r
theorem split_len (p : UInt8 → Bool) (r : Bs) : (r.takeWhile p).length + (r.dropWhile p).length = r.length := by
  rw [← List.length_append, List.takeWhile_append_dropWhile]
theorem wordR_len (r : Bs) : (wordR r).length + (afterW r).length = r.length := split_len _ r
theorem afterW_lt {r : Bs} (h : (wordR r).isEmpty = false) : (afterW r).length < r.length := by
  have h1 := wordR_len r
  cases e : wordR r with
  | nil => rw [e] at h; cases h
  | cons c t => rw [e] at h1; simp at h1; omega
theorem qgo_le {r a z : Bs} (h : qgo r = some (a, z)) : a.length + z.length + 1 ≤ r.length := qgo_len _ r a z (Nat.le_refl _) h
theorem quoteR_le {r a z : Bs} (h : quoteR r = some (a, z)) : a.length + z.length + 2 ≤ r.length := by
  cases r with
  | nil => cases h
  | cons c t =>
    have h' : (if c == 34 then qgo t else none) = some (a, z) := h
    by_cases hc : (c == 34) = true
    · rw [if_pos hc] at h'; have := qgo_le h'; simp; omega
    · rw [if_neg hc] at h'; cases h'
theorem valueR_le {r a z : Bs} (h : valueR r = some (a, z)) : a.length + z.length ≤ r.length := by
  unfold valueR at h
  split at h
  · have := quoteR_le h; omega
  · cases h; have := wordR_len r; omega
theorem valueAt_le (r : Bs) : (valueAt r).length ≤ (afterW r).length := by
  unfold valueAt
  have h1 := blanksR_le ((blanksR (afterW r)).drop 1)
  have h2 := blanksR_le (afterW r)
  have h3 : ((blanksR (afterW r)).drop 1).length ≤ (blanksR (afterW r)).length := by simp
  omega
theorem namedB_word {r : Bs} (h : namedB r = true) : (wordR r).isEmpty = false := by
  unfold namedB at h; simp only [Bool.and_eq_true, Bool.not_eq_true'] at h; exact h.1
theorem namedB_valueAt {r : Bs} (h : namedB r = true) : (valueAt r).length + 2 ≤ r.length := by
  have hw := afterW_lt (namedB_word h)
  unfold namedB at h
  simp only [Bool.and_eq_true] at h
  have h2 := h.2
  unfold valueAt
  have h3 := blanksR_le (afterW r)
  cases e : blanksR (afterW r) with
  | nil => rw [e] at h2; cases h2
  | cons c t =>
    rw [e] at h3
    have h4 := blanksR_le ((c :: t).drop 1)
    simp at h3 h4 ⊢; omega
theorem paramR_le {ps : List Par} {r : Bs} {p : Par} {z : Bs} (h : paramR ps r = .ok (p, z)) : p.1.length + p.2.length + z.length < r.length := by
  unfold paramR at h
  by_cases hn : namedB r = true
  · rw [if_neg (by simp [hn])] at h
    have h1 := namedB_valueAt hn
    have h0 := valueAt_le r
    have hw := wordR_len r
    cases hv : valueR (valueAt r) with
    | none => rw [hv] at h; cases h
    | some q =>
      rw [hv] at h
      simp only at h
      split at h
      · cases h
      · split at h
        · cases h
        · cases h
          have := valueR_le (a := q.1) (z := q.2) hv
          unfold namedB at hn
          simp only [Bool.and_eq_true] at hn
          have h2 := hn.2
          have h5 : (valueAt r).length + 1 ≤ (afterW r).length := by
            unfold valueAt
            have h3 := blanksR_le (afterW r)
            cases e : blanksR (afterW r) with
            | nil => rw [e] at h2; cases h2
            | cons c t =>
              rw [e] at h3
              have h4 := blanksR_le ((c :: t).drop 1)
              simp at h3 h4 ⊢; omega
          simp only; omega
  · rw [if_pos (by simpa using hn)] at h; cases h

/-- enough rounds are enough -/
theorem paramsN_fuel : ∀ (f : Nat) (ps : List Par) (r : Bs), r.length < f → paramsN f ps r = paramsN (r.length + 1) ps r
  | 0, _, _, h => absurd h (Nat.not_lt_zero _)
  | f + 1, ps, r, h => by
    rw [paramsN, paramsN]
    cases hp : paramR ps r with
    | error e => rfl
    | ok q =>
      obtain ⟨p, r1⟩ := q
      have hl := paramR_le hp
      have hg := gapsR_le r1
      simp only
      split
      · split
        · rw [paramsN_fuel f _ _ (by omega), paramsN_fuel r.length _ _ (by omega)]
        · rfl
      · rfl
theorem blanksR_lt {r : Bs} (h : blankHead r = true) : (blanksR r).length < r.length := by
  cases r with
  | nil => cases h
  | cons c t =>
    have : blanksR (c :: t) = blanksR t := by unfold blanksR; rw [List.dropWhile_cons_of_pos (show blankB c = true from h)]
    rw [this]
    have := blanksR_le t
    simp; omega
theorem paramsN_le : ∀ (f : Nat) (ps : List Par) (r : Bs) (q : List Par × Bs), paramsN f ps r = .ok q → q.2.length ≤ r.length
  | 0, ps, r, q, h => by rw [paramsN] at h; cases h; exact Nat.le_refl _
  | f + 1, ps, r, q, h => by
    rw [paramsN] at h
    cases hp : paramR ps r with
    | error e => rw [hp] at h; cases h
    | ok p =>
      rw [hp] at h
      obtain ⟨p, r1⟩ := p
      have hl := paramR_le hp
      have hg := gapsR_le r1
      simp only at h
      split at h
      · split at h
        · have := paramsN_le f _ _ q h; omega
        · cases h; simp only; omega
      · cases h
theorem singleR_le {r t z : Bs} (h : singleR r = some (t, z)) : t.length + z.length ≤ r.length := by
  unfold singleR at h
  split at h
  · cases h
    have h1 := split_len tokB r
    have h2 := split_len eqB (r.dropWhile tokB)
    have h3 := blanksR_le (singleZ r)
    unfold singleZ at h3 ⊢
    unfold singleN singleM
    rw [List.length_append]; omega
  · cases h
theorem oneR_le {k : Nat} {r : Bs} {x : Cha} {z : Bs} (h : oneR k r = .ok (x, z)) : z.length < r.length := by
  unfold oneR at h
  split at h
  · cases h
  rename_i hw
  have hw' : (wordR r).isEmpty = false := by simpa using hw
  have h1 := afterW_lt hw'
  have h2 := blanksR_le (afterW r)
  split at h
  · cases h
  split at h
  · cases h; omega
  split at h
  · cases h
  split at h
  · rename_i q hq
    cases h
    have := singleR_le (t := q.1) (z := q.2) hq
    omega
  · split at h
    · cases h
    · rename_i q hq
      cases h
      have := paramsN_le _ _ _ _ hq
      omega
theorem parseN_fuel : ∀ (f : Nat) (acc : List Cha) (r : Bs), r.length < f → parseN f acc r = parseN (r.length + 1) acc r
  | 0, _, _, h => absurd h (Nat.not_lt_zero _)
  | f + 1, acc, r, h => by
    rw [parseN, parseN]
    split
    · rfl
    · cases ho : oneR acc.length (gapsR r) with
      | error e => rfl
      | ok q =>
        obtain ⟨x, r1⟩ := q
        have h1 := oneR_le ho
        have h2 := gapsR_le r
        simp only
        rw [parseN_fuel f _ _ (by omega), parseN_fuel r.length _ _ (by omega)]
theorem dropAll {p : UInt8 → Bool} : ∀ {l : Bs}, l.all p = true → l.dropWhile p = []
  | [], _ => rfl
  | c :: l, h => by
    simp only [List.all_cons, Bool.and_eq_true] at h
    rw [List.dropWhile_cons_of_pos h.1]; exact dropAll h.2
/-- gaps ahead are nothing -/
theorem gapsR_app {g r : Bs} (h : g.all gapB = true) : gapsR (g ++ r) = gapsR r := by
  unfold gapsR
  rw [dropWhile_app]
  rw [dropAll h]; rfl
theorem gapsR_gapsR (r : Bs) : gapsR (gapsR r) = gapsR r := by
  refine dropWhile_stop (fun c hc => ?_)
  have := List.head?_dropWhile_not gapB r
  unfold gapsR at hc
  rw [hc] at this
  simpa using this
theorem blanksR_blanksR (r : Bs) : blanksR (blanksR r) = blanksR r := by
  refine dropWhile_stop (fun c hc => ?_)
  have := List.head?_dropWhile_not blankB r
  unfold blanksR at hc
  rw [hc] at this
  simpa using this
theorem overB_blanks (r : Bs) : overB (blanksR r) = overB r := by unfold overB; rw [blanksR_blanksR]
theorem gapsR_blanks : ∀ r : Bs, gapsR (blanksR r) = gapsR r
  | [] => rfl
  | c :: t => by
    cases h : blankB c
    · have : blanksR (c :: t) = c :: t := by unfold blanksR; rw [List.dropWhile_cons_of_neg (by simp [h])]
      rw [this]
    · have e1 : blanksR (c :: t) = blanksR t := by unfold blanksR; rw [List.dropWhile_cons_of_pos h]
      have e2 : gapsR (c :: t) = gapsR t := by unfold gapsR; rw [List.dropWhile_cons_of_pos (by simp [gapB, h])]
      rw [e1, e2, gapsR_blanks t]
theorem parseN_gaps (f : Nat) (acc : List Cha) {r r' : Bs} (h : gapsR r = gapsR r') : parseN (f + 1) acc r = parseN (f + 1) acc r' := by
  rw [parseN, parseN, h]
theorem chasL_ahead {g r : Bs} (h : g.all gapB = true) (hl : g.length + r.length ≤ 3000) : chasL (g ++ r) = chasL r := by
  unfold chasL
  rw [if_neg (by simp; omega), if_neg (by omega), parseN_gaps _ _ (gapsR_app h)]
  exact parseN_fuel _ _ _ (by simp; omega)
end Go.Proofs.YtegbacpenolehaaGreatDoor
