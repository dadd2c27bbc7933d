/- Walks: Cursor.Go; the plain form of token.Value. Challenges as texts: the plain reader. No program in sight. Challenges as texts: what is told so is read so; what is read can be told. Plain laws. No program in sight. Origins, asks, grants as fields. Splitting at a byte, joining, and paths without point parts: plain laws. No program in sight. -/
import Derived.Test.YtkoobhgedoanhaaGreatDoorDigestKnownB2
import Derived.Test.YtkoobhgedoanhaaGreatDoorDigestKnownB1
namespace Go.Proofs.YtkoobhgedoanhaaGreatDoor
open Go.RowKit

/-- Go: the place, held within the text. -/
def goTo (k : Int) (n : Nat) : Nat := (max 0 (min k n)).toNat
set_option maxHeartbeats 400000 in
theorem Go_any (b : Nat) (s : ByteArray) (i : Nat) (k : Int) (w : World) (h : CurAt w b s i) (hs : s.size ≤ maxLen) :
    Calls Tryz.prog 155 #[.pointer (some ⟨b, 0, none⟩), .int .i64 k] w fun e w' => e = .returned (.tuple #[]) ∧ CurAt w' b s (goTo k s.size) ∧ Fr (one b) w w' := by
  have h0 := h.cell0
  have h1 := h.cell1
  have hf := h.free 1
  unfold maxLen at hs
  go_enter Tryz.func155, Tryz.ntmps155
  go_wp2
  go_end0
  rw [show max 0 (min k (s.size : Int)) = ((goTo k s.size : Nat) : Int) from by unfold goTo; omega]
  exact ⟨rfl, h.setCell, Fr.one_set w b _ 0⟩

/-- token.Value: a word as it is, else between marks -/
def valueOk (l : List UInt8) : Bool := isL l || textL l
def valueL (l : List UInt8) : List UInt8 := if isL l then l else quoteL l
end Go.Proofs.YtkoobhgedoanhaaGreatDoor

namespace Go.Proofs.YtkoobhgedoanhaaGreatDoor
open Go.RowKit

abbrev Bs := List UInt8
/-- a parameter: its name and its value -/
abbrev Par := Bs × Bs
structure Cha where
  scheme : Bs
  token : Bs
  params : List Par

def gapB (c : UInt8) : Bool := blankB c || c == 44
def tokSet : List UInt8 := [97, 98, 99, 100, 101, 102, 103, 104, 105, 106, 107, 108, 109, 110, 111, 112, 113, 114, 115, 116, 117, 118, 119, 120, 121, 122, 65, 66, 67, 68, 69, 70, 71, 72, 73, 74, 75, 76, 77, 78, 79, 80, 81, 82, 83, 84, 85, 86, 87, 88, 89, 90, 48, 49, 50, 51, 52, 53, 54, 55, 56, 57, 45, 46, 95, 126, 43, 47]
def tokB (c : UInt8) : Bool := tokSet.contains c
def eqB (c : UInt8) : Bool := [61].contains c

/-- ahead of a comma, or at the end -/
def stopB : Bs → Bool
  | [] => true
  | c :: _ => c == 44
def blanksR (r : Bs) : Bs := r.dropWhile blankB
def gapsR (r : Bs) : Bs := r.dropWhile gapB
def overB (r : Bs) : Bool := stopB (blanksR r)
def wordR (r : Bs) : Bs := r.takeWhile byteB
def afterW (r : Bs) : Bs := r.dropWhile byteB
def hdB (b : UInt8) : Bs → Bool
  | [] => false
  | c :: _ => c == b
def namedB (r : Bs) : Bool := !(wordR r).isEmpty && hdB 61 (blanksR (afterW r))
def singleN (r : Bs) : Bs := r.takeWhile tokB
def singleM (r : Bs) : Bs := (r.dropWhile tokB).takeWhile eqB
def singleZ (r : Bs) : Bs := (r.dropWhile tokB).dropWhile eqB
def singleR (r : Bs) : Option (Bs × Bs) := if !(singleN r).isEmpty && overB (singleZ r) then some (singleN r ++ singleM r, blanksR (singleZ r)) else none
def quoteR : Bs → Option (Bs × Bs)
  | [] => none
  | c :: t => if c == 34 then qgo t else none
def valueR (r : Bs) : Option (Bs × Bs) := if (wordR r).isEmpty then quoteR r else some (wordR r, afterW r)
/-- where a parameter's value begins -/
def valueAt (r : Bs) : Bs := blanksR ((blanksR (afterW r)).drop 1)
def twiceB (ps : List Par) (n : Bs) : Bool := ps.any fun q => sameL q.1 n
def paramR (ps : List Par) (r : Bs) : Except Nat (Par × Bs) :=
  if !namedB r then .error 3 else
  match valueR (valueAt r) with
  | none => .error 3
  | some q => if twiceB ps (wordR r) then .error 9 else if ps.length = 16 then .error 4 else .ok ((wordR r, q.1), q.2)
def paramsN : Nat → List Par → Bs → Except Nat (List Par × Bs)
  | 0, ps, r => .ok (ps, r)
  | f + 1, ps, r =>
    match paramR ps r with
    | .error e => .error e
    | .ok (p, r1) => if overB r1 then (if namedB (gapsR r1) then paramsN f (ps ++ [p]) (gapsR r1) else .ok (ps ++ [p], gapsR r1)) else .error 3
def blankHead : Bs → Bool
  | [] => false
  | c :: _ => blankB c
def oneR (k : Nat) (r : Bs) : Except Nat (Cha × Bs) :=
  if (wordR r).isEmpty then .error 3
  else if k = 8 then .error 4
  else if overB (afterW r) then .ok (⟨wordR r, [], []⟩, blanksR (afterW r))
  else if !blankHead (afterW r) then .error 3
  else match singleR (blanksR (afterW r)) with
    | some q => .ok (⟨wordR r, q.1, []⟩, q.2)
    | none => match paramsN ((blanksR (afterW r)).length + 1) [] (blanksR (afterW r)) with
      | .error e => .error e
      | .ok q => .ok (⟨wordR r, [], q.1⟩, q.2)
def parseN : Nat → List Cha → Bs → Except Nat (List Cha)
  | 0, acc, _ => .ok acc
  | f + 1, acc, r =>
    if (gapsR r).isEmpty then .ok acc else
    match oneR acc.length (gapsR r) with
    | .error e => .error e
    | .ok (x, r1) => parseN f (acc ++ [x]) r1
def chasL (l : Bs) : Except Nat (List Cha) := if 3000 < l.length then .error 4 else parseN (l.length + 1) [] l

/-! how much is left -/
theorem dropW_le (p : UInt8 → Bool) (r : Bs) : (r.dropWhile p).length ≤ r.length := (List.dropWhile_suffix p).length_le
theorem blanksR_le (r : Bs) : (blanksR r).length ≤ r.length := dropW_le _ r
theorem gapsR_le (r : Bs) : (gapsR r).length ≤ r.length := dropW_le _ r
theorem afterW_le (r : Bs) : (afterW r).length ≤ r.length := dropW_le _ r
theorem split_len (p : UInt8 → Bool) (r : Bs) : (r.takeWhile p).length + (r.dropWhile p).length = r.length := by
  rw [← List.length_append, List.takeWhile_append_dropWhile]
theorem wordR_len (r : Bs) : (wordR r).length + (afterW r).length = r.length := split_len _ r
theorem afterW_lt {r : Bs} (h : (wordR r).isEmpty = false) : (afterW r).length < r.length := by
  have h1 := wordR_len r
  cases e : wordR r with
  | nil => rw [e] at h; cases h
  | cons c t => rw [e] at h1; simp at h1; omega
theorem qgo_le {r a z : Bs} (h : qgo r = some (a, z)) : a.length + z.length + 1 ≤ r.length := qgo_len _ r a z (Nat.le_refl _) h
theorem quoteR_le {r a z : Bs} (h : quoteR r = some (a, z)) : a.length + z.length + 2 ≤ r.length := by
  cases r with
  | nil => cases h
  | cons c t =>
    have h' : (if c == 34 then qgo t else none) = some (a, z) := h
    by_cases hc : (c == 34) = true
    · rw [if_pos hc] at h'; have := qgo_le h'; simp; omega
    · rw [if_neg hc] at h'; cases h'
theorem valueR_le {r a z : Bs} (h : valueR r = some (a, z)) : a.length + z.length ≤ r.length := by
  unfold valueR at h
  split at h
  · have := quoteR_le h; omega
  · cases h; have := wordR_len r; omega
theorem valueAt_le (r : Bs) : (valueAt r).length ≤ (afterW r).length := by
  unfold valueAt
  have h1 := blanksR_le ((blanksR (afterW r)).drop 1)
  have h2 := blanksR_le (afterW r)
  have h3 : ((blanksR (afterW r)).drop 1).length ≤ (blanksR (afterW r)).length := by simp
  omega
theorem namedB_word {r : Bs} (h : namedB r = true) : (wordR r).isEmpty = false := by
  unfold namedB at h; simp only [Bool.and_eq_true, Bool.not_eq_true'] at h; exact h.1
theorem namedB_valueAt {r : Bs} (h : namedB r = true) : (valueAt r).length + 2 ≤ r.length := by
  have hw := afterW_lt (namedB_word h)
  unfold namedB at h
  simp only [Bool.and_eq_true] at h
  have h2 := h.2
  unfold valueAt
  have h3 := blanksR_le (afterW r)
  cases e : blanksR (afterW r) with
  | nil => rw [e] at h2; cases h2
  | cons c t =>
    rw [e] at h3
    have h4 := blanksR_le ((c :: t).drop 1)
    simp at h3 h4 ⊢; omega
theorem paramR_le {ps : List Par} {r : Bs} {p : Par} {z : Bs} (h : paramR ps r = .ok (p, z)) : p.1.length + p.2.length + z.length < r.length := by
  unfold paramR at h
  by_cases hn : namedB r = true
  · rw [if_neg (by simp [hn])] at h
    have h1 := namedB_valueAt hn
    have h0 := valueAt_le r
    have hw := wordR_len r
    cases hv : valueR (valueAt r) with
    | none => rw [hv] at h; cases h
    | some q =>
      rw [hv] at h
      simp only at h
      split at h
      · cases h
      · split at h
        · cases h
        · cases h
          have := valueR_le (a := q.1) (z := q.2) hv
          unfold namedB at hn
          simp only [Bool.and_eq_true] at hn
          have h2 := hn.2
          have h5 : (valueAt r).length + 1 ≤ (afterW r).length := by
            unfold valueAt
            have h3 := blanksR_le (afterW r)
            cases e : blanksR (afterW r) with
            | nil => rw [e] at h2; cases h2
            | cons c t =>
              rw [e] at h3
              have h4 := blanksR_le ((c :: t).drop 1)
              simp at h3 h4 ⊢; omega
          simp only; omega
  · rw [if_pos (by simpa using hn)] at h; cases h

/-- enough rounds are enough -/
theorem paramsN_fuel : ∀ (f : Nat) (ps : List Par) (r : Bs), r.length < f → paramsN f ps r = paramsN (r.length + 1) ps r
  | 0, _, _, h => absurd h (Nat.not_lt_zero _)
  | f + 1, ps, r, h => by
    rw [paramsN, paramsN]
    cases hp : paramR ps r with
    | error e => rfl
    | ok q =>
      obtain ⟨p, r1⟩ := q
      have hl := paramR_le hp
      have hg := gapsR_le r1
      simp only
      split
      · split
        · rw [paramsN_fuel f _ _ (by omega), paramsN_fuel r.length _ _ (by omega)]
        · rfl
      · rfl
theorem blanksR_lt {r : Bs} (h : blankHead r = true) : (blanksR r).length < r.length := by
  cases r with
  | nil => cases h
  | cons c t =>
    have : blanksR (c :: t) = blanksR t := by unfold blanksR; rw [List.dropWhile_cons_of_pos (show blankB c = true from h)]
    rw [this]
    have := blanksR_le t
    simp; omega
theorem paramsN_le : ∀ (f : Nat) (ps : List Par) (r : Bs) (q : List Par × Bs), paramsN f ps r = .ok q → q.2.length ≤ r.length
  | 0, ps, r, q, h => by rw [paramsN] at h; cases h; exact Nat.le_refl _
  | f + 1, ps, r, q, h => by
    rw [paramsN] at h
    cases hp : paramR ps r with
    | error e => rw [hp] at h; cases h
    | ok p =>
      rw [hp] at h
      obtain ⟨p, r1⟩ := p
      have hl := paramR_le hp
      have hg := gapsR_le r1
      simp only at h
      split at h
      · split at h
        · have := paramsN_le f _ _ q h; omega
        · cases h; simp only; omega
      · cases h
theorem singleR_le {r t z : Bs} (h : singleR r = some (t, z)) : t.length + z.length ≤ r.length := by
  unfold singleR at h
  split at h
  · cases h
    have h1 := split_len tokB r
    have h2 := split_len eqB (r.dropWhile tokB)
    have h3 := blanksR_le (singleZ r)
    unfold singleZ at h3 ⊢
    unfold singleN singleM
    rw [List.length_append]; omega
  · cases h
theorem oneR_le {k : Nat} {r : Bs} {x : Cha} {z : Bs} (h : oneR k r = .ok (x, z)) : z.length < r.length := by
  unfold oneR at h
  split at h
  · cases h
  rename_i hw
  have hw' : (wordR r).isEmpty = false := by simpa using hw
  have h1 := afterW_lt hw'
  have h2 := blanksR_le (afterW r)
  split at h
  · cases h
  split at h
  · cases h; omega
  split at h
  · cases h
  split at h
  · rename_i q hq
    cases h
    have := singleR_le (t := q.1) (z := q.2) hq
    omega
  · split at h
    · cases h
    · rename_i q hq
      cases h
      have := paramsN_le _ _ _ _ hq
      omega
theorem parseN_fuel : ∀ (f : Nat) (acc : List Cha) (r : Bs), r.length < f → parseN f acc r = parseN (r.length + 1) acc r
  | 0, _, _, h => absurd h (Nat.not_lt_zero _)
  | f + 1, acc, r, h => by
    rw [parseN, parseN]
    split
    · rfl
    · cases ho : oneR acc.length (gapsR r) with
      | error e => rfl
      | ok q =>
        obtain ⟨x, r1⟩ := q
        have h1 := oneR_le ho
        have h2 := gapsR_le r
        simp only
        rw [parseN_fuel f _ _ (by omega), parseN_fuel r.length _ _ (by omega)]
theorem dropAll {p : UInt8 → Bool} : ∀ {l : Bs}, l.all p = true → l.dropWhile p = []
  | [], _ => rfl
  | c :: l, h => by
    simp only [List.all_cons, Bool.and_eq_true] at h
    rw [List.dropWhile_cons_of_pos h.1]; exact dropAll h.2
/-- gaps ahead are nothing -/
theorem gapsR_app {g r : Bs} (h : g.all gapB = true) : gapsR (g ++ r) = gapsR r := by
  unfold gapsR
  rw [dropWhile_app]
  rw [dropAll h]; rfl
theorem gapsR_gapsR (r : Bs) : gapsR (gapsR r) = gapsR r := by
  refine dropWhile_stop (fun c hc => ?_)
  have := List.head?_dropWhile_not gapB r
  unfold gapsR at hc
  rw [hc] at this
  simpa using this
theorem blanksR_blanksR (r : Bs) : blanksR (blanksR r) = blanksR r := by
  refine dropWhile_stop (fun c hc => ?_)
  have := List.head?_dropWhile_not blankB r
  unfold blanksR at hc
  rw [hc] at this
  simpa using this
theorem overB_blanks (r : Bs) : overB (blanksR r) = overB r := by unfold overB; rw [blanksR_blanksR]
theorem gapsR_blanks : ∀ r : Bs, gapsR (blanksR r) = gapsR r
  | [] => rfl
  | c :: t => by
    cases h : blankB c
    · have : blanksR (c :: t) = c :: t := by unfold blanksR; rw [List.dropWhile_cons_of_neg (by simp [h])]
      rw [this]
    · have e1 : blanksR (c :: t) = blanksR t := by unfold blanksR; rw [List.dropWhile_cons_of_pos h]
      have e2 : gapsR (c :: t) = gapsR t := by unfold gapsR; rw [List.dropWhile_cons_of_pos (by simp [gapB, h])]
      rw [e1, e2, gapsR_blanks t]
theorem parseN_gaps (f : Nat) (acc : List Cha) {r r' : Bs} (h : gapsR r = gapsR r') : parseN (f + 1) acc r = parseN (f + 1) acc r' := by
  rw [parseN, parseN, h]
theorem chasL_ahead {g r : Bs} (h : g.all gapB = true) (hl : g.length + r.length ≤ 3000) : chasL (g ++ r) = chasL r := by
  unfold chasL
  rw [if_neg (by simp; omega), if_neg (by omega), parseN_gaps _ _ (gapsR_app h)]
  exact parseN_fuel _ _ _ (by simp; omega)
end Go.Proofs.YtkoobhgedoanhaaGreatDoor

namespace Go.Proofs.YtkoobhgedoanhaaGreatDoor
open Go.RowKit

/-- a challenge that can be told: a word, then a token, or parameters of unlike names -/
def tokenOk (t : Bs) : Prop := ∃ n m : Bs, t = n ++ m ∧ n ≠ [] ∧ n.all tokB = true ∧ m.all eqB = true
def parOk (p : Par) : Prop := isL p.1 = true ∧ valueOk p.2 = true
def unlike : List Par → Prop
  | [] => True
  | p :: ps => twiceB ps p.1 = false ∧ unlike ps
structure Cha.Ok (x : Cha) : Prop where
  scheme : isL x.scheme = true
  token : x.token = [] ∨ (x.params = [] ∧ tokenOk x.token)
  few : x.params.length ≤ 16
  pars : ∀ p ∈ x.params, parOk p
  apart : ∀ (i j : Nat) p q, i < j → x.params[i]? = some p → x.params[j]? = some q → sameL p.1 q.1 = false

/-! what is read can be told -/
theorem taken (p : UInt8 → Bool) : ∀ l : Bs, (l.takeWhile p).all p = true
  | [] => rfl
  | c :: l => by
    cases h : p c
    · rw [List.takeWhile_cons_of_neg (by simp [h])]; rfl
    · rw [List.takeWhile_cons_of_pos h, List.all_cons, h, taken p l]; rfl
theorem isL_word {r : Bs} (h : (wordR r).isEmpty = false) : isL (wordR r) = true := by
  unfold isL
  rw [h]
  have : (wordR r).all byteB = true := taken byteB r
  rw [this]; rfl
theorem qgo_text : ∀ (f : Nat) (r a z : Bs), r.length ≤ f → qgo r = some (a, z) → a.all textB = true
  | 0, r, a, z, hf, h => by
    have : r = [] := List.eq_nil_of_length_eq_zero (by omega)
    subst this; rw [qgo.eq_def] at h; simp at h
  | f + 1, [], a, z, hf, h => by rw [qgo.eq_def] at h; simp at h
  | f + 1, x :: r, a, z, hf, h => by
    rw [qgo.eq_def] at h
    simp only at h
    by_cases h1 : (x == 34) = true
    · rw [if_pos h1] at h; cases h; rfl
    · rw [if_neg h1] at h
      by_cases h2 : (x == 92) = true
      · rw [if_pos h2] at h
        cases r with
        | nil => simp at h
        | cons y r' =>
          simp only at h
          by_cases h3 : textB y = true
          · rw [if_pos h3] at h
            cases hq : qgo r' with
            | none => rw [hq] at h; simp at h
            | some p =>
              rw [hq] at h; simp at h
              obtain ⟨rfl, rfl⟩ := h
              have := qgo_text f r' p.1 p.2 (by simp at hf; omega) hq
              rw [List.all_cons, h3, this]; rfl
          · rw [if_neg h3] at h; simp at h
      · rw [if_neg h2] at h
        by_cases h3 : textB x = true
        · rw [if_pos h3] at h
          cases hq : qgo r with
          | none => rw [hq] at h; simp at h
          | some p =>
            rw [hq] at h; simp at h
            obtain ⟨rfl, rfl⟩ := h
            have := qgo_text f r p.1 p.2 (by simp at hf; omega) hq
            rw [List.all_cons, h3, this]; rfl
        · rw [if_neg h3] at h; simp at h
theorem valueR_ok {r a z : Bs} (h : valueR r = some (a, z)) : valueOk a = true := by
  unfold valueR at h
  unfold valueOk
  split at h
  · cases r with
    | nil => cases h
    | cons c t =>
      have h' : (if c == 34 then qgo t else none) = some (a, z) := h
      by_cases hc : (c == 34) = true
      · rw [if_pos hc] at h'
        have := qgo_text _ t a z (Nat.le_refl _) h'
        rw [show textL a = true from this, Bool.or_true]
      · rw [if_neg hc] at h'; cases h'
  · rename_i hw
    cases h
    rw [isL_word (by simpa using hw)]; rfl
theorem paramR_ok {ps : List Par} {r : Bs} {p : Par} {z : Bs} (h : paramR ps r = .ok (p, z)) : parOk p ∧ twiceB ps p.1 = false ∧ ps.length ≠ 16 := by
  unfold paramR at h
  by_cases hn : namedB r = true
  · rw [if_neg (by simp [hn])] at h
    cases hv : valueR (valueAt r) with
    | none => rw [hv] at h; cases h
    | some q =>
      rw [hv] at h
      simp only at h
      split at h
      · cases h
      rename_i ht
      split at h
      · cases h
      rename_i hk
      cases h
      exact ⟨⟨isL_word (namedB_word hn), valueR_ok (a := q.1) (z := q.2) hv⟩, by simpa using ht, hk⟩
  · rw [if_pos (by simpa using hn)] at h; cases h
/-- parameters that can be told -/
structure ParsOk (ps : List Par) : Prop where
  few : ps.length ≤ 16
  pars : ∀ p ∈ ps, parOk p
  apart : ∀ (i j : Nat) p q, i < j → ps[i]? = some p → ps[j]? = some q → sameL p.1 q.1 = false
theorem ParsOk.nil : ParsOk [] := ⟨by simp, by simp, by simp⟩
theorem ParsOk.snoc {ps : List Par} {p : Par} (h : ParsOk ps) (hp : parOk p) (ht : twiceB ps p.1 = false) (hl : ps.length ≠ 16) : ParsOk (ps ++ [p]) := by
  refine ⟨?_, ?_, ?_⟩
  · have := h.few; simp; omega
  · intro q hq
    rcases List.mem_append.1 hq with g | g
    · exact h.pars q g
    · simp at g; subst g; exact hp
  · intro i j q q' hij hi hj
    have hj' := (List.getElem?_eq_some_iff.1 hj).1
    simp at hj'
    by_cases hjl : j < ps.length
    · rw [List.getElem?_append_left hjl] at hj
      rw [List.getElem?_append_left (by omega)] at hi
      exact h.apart i j q q' hij hi hj
    · have e : j = ps.length := by omega
      subst e
      rw [List.getElem?_append_left (by omega)] at hi
      simp at hj; subst hj
      unfold twiceB at ht
      rw [List.any_eq_false] at ht
      simpa using ht q (List.mem_of_getElem? hi)
theorem paramsN_ok : ∀ (f : Nat) (ps : List Par) (r : Bs) (q : List Par × Bs), ParsOk ps → paramsN f ps r = .ok q → ParsOk q.1
  | 0, ps, r, q, ho, h => by rw [paramsN] at h; cases h; exact ho
  | f + 1, ps, r, q, ho, h => by
    rw [paramsN] at h
    cases hp : paramR ps r with
    | error e => rw [hp] at h; cases h
    | ok p =>
      rw [hp] at h
      obtain ⟨p, r1⟩ := p
      obtain ⟨h1, h2, h3⟩ := paramR_ok hp
      have ho' := ho.snoc h1 h2 h3
      simp only at h
      split at h
      · split at h
        · exact paramsN_ok f _ _ q ho' h
        · cases h; exact ho'
      · cases h
theorem singleR_ok {r t z : Bs} (h : singleR r = some (t, z)) : tokenOk t := by
  unfold singleR at h
  split at h
  · rename_i hc
    cases h
    simp only [Bool.and_eq_true, Bool.not_eq_true'] at hc
    refine ⟨_, _, rfl, fun e => ?_, ?_, ?_⟩
    · rw [e] at hc; cases hc.1
    · exact taken tokB r
    · exact taken eqB _
  · cases h
theorem oneR_ok {k : Nat} {r : Bs} {x : Cha} {z : Bs} (h : oneR k r = .ok (x, z)) : x.Ok ∧ k ≠ 8 := by
  unfold oneR at h
  split at h
  · cases h
  rename_i hw
  have hw' := isL_word (show (wordR r).isEmpty = false by simpa using hw)
  split at h
  · cases h
  rename_i hk
  refine ⟨?_, hk⟩
  split at h
  · cases h; exact ⟨hw', Or.inl rfl, by simp, by simp, by simp⟩
  split at h
  · cases h
  split at h
  · rename_i q hq
    cases h
    exact ⟨hw', Or.inr ⟨rfl, singleR_ok (t := q.1) (z := q.2) hq⟩, by simp, by simp, by simp⟩
  · split at h
    · cases h
    · rename_i q hq
      cases h
      have := paramsN_ok _ _ _ _ ParsOk.nil hq
      exact ⟨hw', Or.inl rfl, this.few, this.pars, this.apart⟩
theorem parseN_ok : ∀ (f : Nat) (acc : List Cha) (r : Bs) (l : List Cha), (∀ x ∈ acc, x.Ok) → acc.length ≤ 8 → parseN f acc r = .ok l → (∀ x ∈ l, x.Ok) ∧ l.length ≤ 8
  | 0, acc, r, l, ha, hl, h => by rw [parseN] at h; cases h; exact ⟨ha, hl⟩
  | f + 1, acc, r, l, ha, hl, h => by
    rw [parseN] at h
    split at h
    · cases h; exact ⟨ha, hl⟩
    · cases ho : oneR acc.length (gapsR r) with
      | error e => rw [ho] at h; cases h
      | ok q =>
        obtain ⟨x, r1⟩ := q
        rw [ho] at h
        obtain ⟨h1, h2⟩ := oneR_ok ho
        simp only at h
        refine parseN_ok f _ r1 l ?_ ?_ h
        · intro y hy
          rcases List.mem_append.1 hy with g | g
          · exact ha y g
          · simp at g; subst g; exact h1
        · simp; omega
theorem chasL_ok {r : Bs} {l : List Cha} (h : chasL r = .ok l) : (∀ x ∈ l, x.Ok) ∧ l.length ≤ 8 := by
  unfold chasL at h
  split at h
  · cases h
  · exact parseN_ok _ _ _ _ (by simp) (by simp) h

/-! what is told so is read so -/
/-- a text that stands for a value -/
def Tells (v x : Bs) : Prop := (isL v = true ∧ x = v) ∨ (textL v = true ∧ x = quoteL v)
theorem tells_value {v : Bs} (h : valueOk v = true) : Tells v (valueL v) := by
  unfold valueOk at h
  unfold valueL
  cases h1 : isL v
  · rw [h1] at h; exact Or.inr ⟨by simpa using h, rfl⟩
  · exact Or.inl ⟨h1, rfl⟩
/-- a parameter as a text -/
def parT (p : Par) (x : Bs) : Bs := p.1 ++ 61 :: x
def noWord (t : Bs) : Prop := ∀ c, t.head? = some c → byteB c = false
theorem byte_not {c : UInt8} (h : byteB c = true) : c ≠ 44 ∧ c ≠ 61 ∧ c ≠ 34 ∧ c ≠ 32 ∧ blankB c = false := by
  refine ⟨?_, ?_, ?_, ?_, byte_blank h⟩ <;> intro e <;> subst e <;> revert h <;> decide
theorem wordR_app {w t : Bs} (h : isL w = true) (ht : noWord t) : wordR (w ++ t) = w ∧ afterW (w ++ t) = t :=
  ⟨takeW (isL_parts h).1 ht, dropW (isL_parts h).1 ht⟩
theorem blanksR_not {c : UInt8} {t : Bs} (h : blankB c = false) : blanksR (c :: t) = c :: t := by
  unfold blanksR; rw [List.dropWhile_cons_of_neg (by simp [h])]
theorem blanksR_yes {c : UInt8} {t : Bs} (h : blankB c = true) : blanksR (c :: t) = blanksR t := by
  unfold blanksR; rw [List.dropWhile_cons_of_pos h]
theorem tells_head {v x t : Bs} (h : Tells v x) : ∃ c y, x ++ t = c :: y ∧ (byteB c = true ∨ c = 34) := by
  rcases h with ⟨h, rfl⟩ | ⟨h, rfl⟩
  · obtain ⟨h1, c, w, rfl⟩ := isL_parts h
    exact ⟨c, w ++ t, rfl, Or.inl (by simp at h1; exact h1.1)⟩
  · exact ⟨34, _, rfl, Or.inr rfl⟩
theorem head_not {c : UInt8} (h : byteB c = true ∨ c = 34) : c ≠ 44 ∧ c ≠ 61 ∧ blankB c = false := by
  rcases h with h | rfl
  · have := byte_not h; exact ⟨this.1, this.2.1, this.2.2.2.2⟩
  · decide
theorem valueR_tells {v x t : Bs} (h : Tells v x) (ht : noWord t) : valueR (x ++ t) = some (v, t) := by
  rcases h with ⟨h, rfl⟩ | ⟨h, rfl⟩
  · obtain ⟨e1, e2⟩ := wordR_app h ht
    unfold valueR
    rw [e1, e2]
    obtain ⟨_, c, w, rfl⟩ := isL_parts h
    rfl
  · have e : quoteL v ++ t = 34 :: (escL v ++ 34 :: t) := by simp [quoteL]
    unfold valueR
    rw [e]
    have : wordR (34 :: (escL v ++ 34 :: t)) = [] := by unfold wordR; rw [List.takeWhile_cons_of_neg (by decide)]
    rw [this]
    show (if (34 : UInt8) == 34 then qgo (escL v ++ 34 :: t) else none) = _
    rw [if_pos (show ((34 : UInt8) == 34) = true from rfl), qgo_esc v t h]
theorem noWord_eq (t : Bs) : noWord (61 :: t) := by intro c hc; simp at hc; subst hc; decide
theorem named_par {p : Par} {x t : Bs} (h : isL p.1 = true) : namedB (parT p x ++ t) = true := by
  have e : parT p x ++ t = p.1 ++ 61 :: (x ++ t) := by simp [parT]
  rw [e]
  obtain ⟨e1, e2⟩ := wordR_app h (noWord_eq (x ++ t))
  unfold namedB
  rw [e1, e2, blanksR_not (by decide)]
  obtain ⟨_, c, w, hw⟩ := isL_parts h
  rw [hw]; rfl
theorem paramR_par {ps : List Par} {p : Par} {x t : Bs} (h : isL p.1 = true) (hx : Tells p.2 x) (ht : noWord t) (h2 : twiceB ps p.1 = false) (h3 : ps.length ≠ 16) : paramR ps (parT p x ++ t) = .ok (p, t) := by
  have hn := named_par (t := t) (x := x) h
  have e : parT p x ++ t = p.1 ++ 61 :: (x ++ t) := by simp [parT]
  rw [e] at hn ⊢
  obtain ⟨e1, e2⟩ := wordR_app h (noWord_eq (x ++ t))
  obtain ⟨c, y, ec, hc⟩ := tells_head (t := t) hx
  have ev : valueAt (p.1 ++ 61 :: (x ++ t)) = x ++ t := by
    unfold valueAt
    rw [e2, blanksR_not (by decide), List.drop_succ_cons, List.drop_zero, ec, blanksR_not (head_not hc).2.2]
  unfold paramR
  rw [hn, ev, valueR_tells hx ht, e1, h2]
  simp only [Bool.not_true, Bool.false_eq_true, if_false]
  rw [if_neg h3]
/-- parameters as a text: commas and blanks between -/
def parsT : List (Par × Bs) → Bs
  | [] => []
  | [p] => parT p.1 p.2
  | p :: q :: l => parT p.1 p.2 ++ 44 :: 32 :: parsT (q :: l)
theorem gaps_word {w t : Bs} (h : isL w = true) : gapsR (w ++ t) = w ++ t := by
  obtain ⟨h1, c, w', rfl⟩ := isL_parts h
  have hb := byte_not (c := c) (by simp at h1; exact h1.1)
  unfold gapsR
  rw [List.cons_append, List.dropWhile_cons_of_neg (by simp [gapB, hb.1, hb.2.2.2.2])]
theorem overB_comma (t : Bs) : overB (44 :: t) = true := by unfold overB; rw [blanksR_not (by decide)]; rfl
theorem gaps_comma (t : Bs) : gapsR (44 :: 32 :: t) = gapsR t := by
  unfold gapsR; rw [List.dropWhile_cons_of_pos (by decide), List.dropWhile_cons_of_pos (by decide)]
theorem parsT_word (p : Par × Bs) (l : List (Par × Bs)) (t : Bs) : ∃ y, parsT (p :: l) ++ t = p.1.1 ++ y := by
  cases l with
  | nil => exact ⟨61 :: (p.2 ++ t), by simp [parsT, parT]⟩
  | cons q l => exact ⟨61 :: (p.2 ++ (44 :: 32 :: (parsT (q :: l) ++ t))), by simp [parsT, parT]⟩
/-- what may stand behind parameters -/
structure Tail (t : Bs) : Prop where
  over : overB t = true
  named : namedB (gapsR t) = false
  word : noWord t
theorem Tail.nil : Tail [] := ⟨rfl, rfl, fun _ h => by cases h⟩
theorem twice_app (ps : List Par) (q : Par) (n : Bs) : twiceB (ps ++ [q]) n = (twiceB ps n || sameL q.1 n) := by unfold twiceB; simp
/-- the parameters to come are unlike those read, and each other -/
def Fresh (ps : List Par) : List (Par × Bs) → Prop
  | [] => True
  | p :: l => twiceB ps p.1.1 = false ∧ Fresh (ps ++ [p.1]) l
theorem paramsN_told : ∀ (l : List (Par × Bs)) (p : Par × Bs) (f : Nat) (ps : List Par) (t : Bs), Tail t → (∀ q ∈ p :: l, isL q.1.1 = true ∧ Tells q.1.2 q.2) → Fresh ps (p :: l) → ps.length + l.length + 1 ≤ 16 → l.length < f →
    paramsN f ps (parsT (p :: l) ++ t) = .ok (ps ++ (p :: l).map (·.1), gapsR t)
  | l, p, 0, ps, t, _, _, _, _, hf => absurd hf (Nat.not_lt_zero _)
  | [], p, f + 1, ps, t, ht, hq, hfr, hn, _ => by
    obtain ⟨h1, h2⟩ := hq p (by simp)
    rw [paramsN, show parsT [p] = parT p.1 p.2 from rfl, paramR_par h1 h2 ht.word hfr.1 (by simp at hn; omega)]
    simp only [ht.over, ht.named, if_true, Bool.false_eq_true, if_false]
    rfl
  | q :: l, p, f + 1, ps, t, ht, hq, hfr, hn, hf => by
    obtain ⟨h1, h2⟩ := hq p (by simp)
    have e : parsT (p :: q :: l) ++ t = parT p.1 p.2 ++ (44 :: 32 :: (parsT (q :: l) ++ t)) := by simp [parsT]
    have hw : noWord (44 :: 32 :: (parsT (q :: l) ++ t)) := by intro c hc; simp at hc; subst hc; decide
    obtain ⟨g1, _⟩ := hq q (by simp)
    obtain ⟨y, ey⟩ := parsT_word q l t
    have eg : gapsR (44 :: 32 :: (parsT (q :: l) ++ t)) = parsT (q :: l) ++ t := by rw [gaps_comma, ey, gaps_word g1]
    have en : namedB (parsT (q :: l) ++ t) = true := by
      cases l with
      | nil => exact named_par g1
      | cons a l =>
        have e2 : parsT (q :: a :: l) ++ t = parT q.1 q.2 ++ (44 :: 32 :: (parsT (a :: l) ++ t)) := by simp [parsT]
        rw [e2]; exact named_par g1
    rw [paramsN, e, paramR_par h1 h2 hw hfr.1 (by simp at hn; omega)]
    simp only [overB_comma, eg, en, if_true]
    rw [paramsN_told l q f (ps ++ [p.1]) t ht (fun x hx => hq x (List.mem_cons_of_mem _ hx)) hfr.2 (by simp at hn ⊢; omega) (by simp at hf; omega)]
    simp

/-- a challenge as a text, its values told as they are -/
def chaT (s tok : Bs) (l : List (Par × Bs)) : Bs := s ++ ((if tok.isEmpty then [] else 32 :: tok) ++ (if l.isEmpty then [] else 32 :: parsT l))
theorem tok_head {n : Bs} (h : n ≠ []) (ht : n.all tokB = true) : ∃ c y, n = c :: y ∧ tokB c = true := by
  cases n with
  | nil => exact absurd rfl h
  | cons c y => exact ⟨c, y, rfl, by simp at ht; exact ht.1⟩
theorem tok_not : ∀ n : Fin 256, tokB n.val.toUInt8 = true → blankB n.val.toUInt8 = false ∧ n.val.toUInt8 ≠ 44 ∧ n.val.toUInt8 ≠ 61 := by decide +kernel
theorem u8_fin (c : UInt8) : ∃ n : Fin 256, c = n.val.toUInt8 := ⟨⟨c.toNat, c.toNat_lt⟩, by simp⟩
theorem tok_not' {c : UInt8} (h : tokB c = true) : blankB c = false ∧ c ≠ 44 ∧ c ≠ 61 := by
  obtain ⟨n, rfl⟩ := u8_fin c
  exact tok_not n h
theorem stop_head {t : Bs} (h : overB t = true) : ∀ c, t.head? = some c → blankB c = true ∨ c = 44 := by
  intro c hc
  cases t with
  | nil => cases hc
  | cons d t =>
    simp at hc; subst hc
    cases hb : blankB d
    · unfold overB at h
      rw [blanksR_not hb] at h
      exact Or.inr (by simpa [stopB] using h)
    · exact Or.inl rfl
theorem stop_not {c : UInt8} (h : blankB c = true ∨ c = 44) : byteB c = false ∧ tokB c = false ∧ eqB c = false := by
  have h' : c = 32 ∨ c = 9 ∨ c = 44 := by
    rcases h with h | h
    · unfold blankB at h; simp at h; rcases h with h | h
      · exact Or.inl h
      · exact Or.inr (Or.inl h)
    · exact Or.inr (Or.inr h)
  rcases h' with rfl | rfl | rfl <;> decide
theorem takeAll {p : UInt8 → Bool} {w t : Bs} (h : w.all p = true) (ht : ∀ c, t.head? = some c → p c = false) : (w ++ t).takeWhile p = w ∧ (w ++ t).dropWhile p = t := by
  constructor
  · rw [List.takeWhile_append_of_pos (by simpa [List.all_eq_true] using h)]
    cases t with
    | nil => simp
    | cons c t => rw [List.takeWhile_cons_of_neg (by simp [ht c rfl])]; simp
  · rw [List.dropWhile_append_of_pos (by simpa [List.all_eq_true] using h)]
    exact dropWhile_stop ht
theorem singleR_tok {n m t : Bs} (h1 : n ≠ []) (h2 : n.all tokB = true) (h3 : m.all eqB = true) (ht : overB t = true) : singleR (n ++ m ++ t) = some (n ++ m, blanksR t) := by
  have hmt : ∀ c, (m ++ t).head? = some c → tokB c = false := by
    intro c hc
    cases m with
    | nil => exact (stop_not (stop_head ht c hc)).2.1
    | cons d m =>
      simp at hc; subst hc
      have : d = 61 := by simp [eqB] at h3; exact h3.1
      subst this; decide
  obtain ⟨e1, e2⟩ := takeAll h2 hmt
  obtain ⟨e3, e4⟩ := takeAll (p := eqB) h3 (fun c hc => (stop_not (stop_head ht c hc)).2.2)
  rw [List.append_assoc]
  unfold singleR singleN singleM singleZ
  rw [e1, e2, e3, e4, ht]
  cases n with
  | nil => exact absurd rfl h1
  | cons c n => rfl
/-- where a parameter begins there is no token -/
theorem singleR_par {p : Par} {x t : Bs} (h : isL p.1 = true) (hx : Tells p.2 x) : singleR (parT p x ++ t) = none := by
  have e : parT p x ++ t = p.1 ++ 61 :: (x ++ t) := by simp [parT]
  rw [e]
  obtain ⟨h1, _⟩ := isL_parts h
  obtain ⟨c, y, ec, hc⟩ := tells_head (t := t) hx
  obtain ⟨hc1, hc2, hc3⟩ := head_not hc
  unfold singleR
  have key : overB (singleZ (p.1 ++ 61 :: (x ++ t))) = false := by
    unfold singleZ
    rw [dropWhile_app]
    split
    · rw [List.dropWhile_cons_of_neg (by decide), List.dropWhile_cons_of_pos (by decide), ec, List.dropWhile_cons_of_neg (by simp [eqB, hc2])]
      unfold overB; rw [blanksR_not hc3]; simpa [stopB] using hc1
    · rename_i hne
      cases hd : p.1.dropWhile tokB with
      | nil => rw [hd] at hne; exact absurd rfl hne
      | cons d z =>
        have hm : d ∈ p.1 := (List.dropWhile_sublist tokB).subset (by rw [hd]; exact List.mem_cons_self ..)
        have hb := byte_not (List.all_eq_true.1 h1 d hm)
        rw [List.cons_append, List.dropWhile_cons_of_neg (by simp [eqB, hb.2.1])]
        unfold overB; rw [blanksR_not hb.2.2.2.2]; simpa [stopB] using hb.1
  rw [key, Bool.and_false]; rfl
theorem afterW_end {s t : Bs} (h : isL s = true) (ht : noWord t) : wordR (s ++ t) = s ∧ afterW (s ++ t) = t := wordR_app h ht
theorem isL_ne {s : Bs} (h : isL s = true) : s.isEmpty = false := by
  obtain ⟨_, c, w, rfl⟩ := isL_parts h; rfl
/-- one challenge, told so, is read -/
theorem oneR_told {k : Nat} {s tok : Bs} {l : List (Par × Bs)} {t : Bs} (hk : k ≠ 8) (hs : isL s = true) (htok : tok = [] ∨ (l = [] ∧ tokenOk tok)) (hl : l.length ≤ 16) (hq : ∀ q ∈ l, isL q.1.1 = true ∧ Tells q.1.2 q.2) (hfr : Fresh [] l) (ht : Tail t) :
    ∃ z, oneR k (chaT s tok l ++ t) = .ok (⟨s, tok, l.map (·.1)⟩, z) ∧ gapsR z = gapsR t := by
  rcases htok with rfl | ⟨rfl, htok⟩
  · cases l with
    | nil =>
      have e : chaT s [] [] ++ t = s ++ t := by simp [chaT]
      obtain ⟨e1, e2⟩ := wordR_app hs ht.word
      refine ⟨blanksR t, ?_, gapsR_blanks t⟩
      unfold oneR
      rw [e, e1, e2, isL_ne hs, ht.over]
      simp only [Bool.false_eq_true, if_false, if_true]
      rw [if_neg hk]; rfl
    | cons p l =>
      have e : chaT s [] (p :: l) ++ t = s ++ 32 :: (parsT (p :: l) ++ t) := by simp [chaT]
      obtain ⟨e1, e2⟩ := wordR_app (t := 32 :: (parsT (p :: l) ++ t)) hs (by intro c hc; simp at hc; subst hc; decide)
      obtain ⟨g1, g2⟩ := hq p (by simp)
      obtain ⟨y, ey⟩ := parsT_word p l t
      obtain ⟨w1, c, w, hw⟩ := isL_parts g1
      have hb := byte_not (c := c) (by rw [hw] at w1; simp at w1; exact w1.1)
      have eb : blanksR (32 :: (parsT (p :: l) ++ t)) = parsT (p :: l) ++ t := by
        rw [blanksR_yes (by decide), ey, hw, List.cons_append, blanksR_not hb.2.2.2.2]
      have eo : overB (32 :: (parsT (p :: l) ++ t)) = false := by
        unfold overB; rw [eb, ey, hw]; simpa [stopB] using hb.1
      have es : singleR (parsT (p :: l) ++ t) = none := by
        cases l with
        | nil => exact singleR_par g1 g2
        | cons a l =>
          have e2 : parsT (p :: a :: l) ++ t = parT p.1 p.2 ++ (44 :: 32 :: (parsT (a :: l) ++ t)) := by simp [parsT]
          rw [e2]; exact singleR_par g1 g2
      have hlen : l.length < (parsT (p :: l) ++ t).length + 1 := by
        have : ∀ (m : List (Par × Bs)), m.length ≤ (parsT m).length := by
          intro m
          induction m with
          | nil => simp
          | cons a m ih =>
            cases m with
            | nil => simp [parsT, parT]; omega
            | cons b m => simp [parsT, parT] at ih ⊢; omega
        have := this (p :: l)
        simp at this ⊢; omega
      refine ⟨gapsR t, ?_, gapsR_gapsR t⟩
      unfold oneR
      rw [e, e1, e2, isL_ne hs, eo, eb, es, paramsN_told l p _ [] t ht hq hfr (by simp at hl ⊢; omega) hlen]
      simp only [Bool.false_eq_true, if_false]
      rw [if_neg hk]; rfl
  · obtain ⟨n, m, rfl, h1, h2, h3⟩ := htok
    obtain ⟨c, y, hcy, hc⟩ := tok_head h1 h2
    have hne : (n ++ m).isEmpty = false := by rw [hcy]; rfl
    have e : chaT s (n ++ m) [] ++ t = s ++ 32 :: (n ++ m ++ t) := by unfold chaT; rw [hne]; simp
    obtain ⟨e1, e2⟩ := wordR_app (t := 32 :: (n ++ m ++ t)) hs (by intro d hd; simp at hd; subst hd; decide)
    obtain ⟨b1, b2, b3⟩ := tok_not' hc
    have eb : blanksR (32 :: (n ++ m ++ t)) = n ++ m ++ t := by
      rw [blanksR_yes (by decide), hcy, List.cons_append, List.cons_append, blanksR_not b1]
    have eo : overB (32 :: (n ++ m ++ t)) = false := by
      unfold overB; rw [eb, hcy]; simpa [stopB] using b2
    refine ⟨blanksR t, ?_, gapsR_blanks t⟩
    unfold oneR
    rw [e, e1, e2, isL_ne hs, eo, eb, singleR_tok h1 h2 h3 ht.over]
    simp only [Bool.false_eq_true, if_false]
    rw [if_neg hk]; rfl

/-- challenges as texts -/
abbrev Told := Bs × Bs × List (Par × Bs)
def Told.T (x : Told) : Bs := chaT x.1 x.2.1 x.2.2
def Told.cha (x : Told) : Cha := ⟨x.1, x.2.1, x.2.2.map (·.1)⟩
structure Told.Ok (x : Told) : Prop where
  scheme : isL x.1 = true
  token : x.2.1 = [] ∨ (x.2.2 = [] ∧ tokenOk x.2.1)
  few : x.2.2.length ≤ 16
  pars : ∀ q ∈ x.2.2, isL q.1.1 = true ∧ Tells q.1.2 q.2
  fresh : Fresh [] x.2.2
theorem told_word (x : Told) (t : Bs) : ∃ y, x.T ++ t = x.1 ++ y := ⟨_, by unfold Told.T chaT; rw [List.append_assoc]⟩
theorem Tail.next {x : Told} (h : x.Ok) (t : Bs) (ht : overB t = true) : Tail (44 :: 32 :: (x.T ++ t)) := by
  obtain ⟨y, ey⟩ := told_word x t
  refine ⟨overB_comma _, ?_, by intro c hc; simp at hc; subst hc; decide⟩
  rw [gaps_comma, ey, gaps_word h.scheme, ← ey]
  have go : ∀ z, noWord z → hdB 61 (blanksR z) = false → namedB (x.1 ++ z) = false := by
    intro z h1 h2
    obtain ⟨e1, e2⟩ := wordR_app h.scheme h1
    unfold namedB; rw [e1, e2, h2, Bool.and_false]
  unfold Told.T chaT
  rw [List.append_assoc]
  have h32 : ∀ z : Bs, noWord (32 :: z) := by intro z c hc; simp at hc; subst hc; decide
  rcases h.token with ht0 | ⟨hl0, htok⟩
  · rw [ht0]
    cases hl : x.2.2 with
    | nil =>
      simp only [List.isEmpty_nil, if_true, List.append_nil, List.nil_append]
      refine go t (fun c hc => (stop_not (stop_head ht c hc)).1) ?_
      have h2 := ht
      unfold overB at h2
      cases hb : blanksR t with
      | nil => rfl
      | cons c z =>
        rw [hb] at h2
        have : c = 44 := by simpa [stopB] using h2
        subst this; rfl
    | cons p l =>
      have g1 := (h.pars p (by rw [hl]; simp)).1
      obtain ⟨y2, ey2⟩ := parsT_word p l t
      obtain ⟨w1, c, w, hw⟩ := isL_parts g1
      have hb := byte_not (c := c) (by rw [hw] at w1; simp at w1; exact w1.1)
      have e : (if ([] : Bs).isEmpty then [] else 32 :: []) ++ (if (p :: l).isEmpty then [] else 32 :: parsT (p :: l)) ++ t = 32 :: (parsT (p :: l) ++ t) := rfl
      rw [e]
      refine go _ (h32 _) ?_
      rw [blanksR_yes (by decide), ey2, hw, List.cons_append, blanksR_not hb.2.2.2.2]
      simpa [hdB] using hb.2.1
  · rw [hl0]
    obtain ⟨n, m, hnm, h1, h2, h3⟩ := htok
    obtain ⟨c, y3, hcy, hc⟩ := tok_head h1 h2
    obtain ⟨b1, b2, b3⟩ := tok_not' hc
    have e : (if x.2.1.isEmpty then [] else 32 :: x.2.1) ++ (if ([] : List (Par × Bs)).isEmpty then [] else 32 :: parsT []) ++ t = 32 :: (c :: (y3 ++ m ++ t)) := by
      rw [hnm, hcy]; simp
    rw [e]
    refine go _ (h32 _) ?_
    rw [blanksR_yes (by decide), blanksR_not b1]
    simpa [hdB] using b3
/-- challenges, commas and blanks between -/
def toldsT : List Told → Bs
  | [] => []
  | [x] => x.T
  | x :: y :: l => x.T ++ 44 :: 32 :: toldsT (y :: l)
theorem toldsT_cons (y : Told) (l : List Told) : ∃ t, overB t = true ∧ toldsT (y :: l) = y.T ++ t := by
  cases l with
  | nil => exact ⟨[], rfl, by simp [toldsT]⟩
  | cons z l => exact ⟨44 :: 32 :: toldsT (z :: l), overB_comma _, rfl⟩
theorem parseN_told : ∀ (l : List Told) (f : Nat) (acc : List Cha) (r : Bs), gapsR r = gapsR (toldsT l) → (∀ x ∈ l, x.Ok) → acc.length + l.length ≤ 8 → l.length < f → parseN f acc r = .ok (acc ++ l.map Told.cha)
  | l, 0, acc, r, _, _, _, hf => absurd hf (Nat.not_lt_zero _)
  | [], f + 1, acc, r, hr, _, _, _ => by
    rw [parseN, hr]
    rw [if_pos (show (gapsR (toldsT [])).isEmpty = true from rfl)]; simp
  | x :: l, f + 1, acc, r, hr, ho, hl, hf => by
    have hx := ho x (by simp)
    have hk : acc.length ≠ 8 := by simp at hl; omega
    obtain ⟨t, et, htail, hgt⟩ : ∃ t, toldsT (x :: l) = x.T ++ t ∧ Tail t ∧ gapsR t = gapsR (toldsT l) := by
      cases l with
      | nil => exact ⟨[], by simp [toldsT], Tail.nil, rfl⟩
      | cons y l =>
        obtain ⟨t, ho2, e⟩ := toldsT_cons y l
        refine ⟨44 :: 32 :: toldsT (y :: l), rfl, ?_, gaps_comma _⟩
        rw [e]; exact Tail.next (ho y (by simp)) t ho2
    obtain ⟨y, ey⟩ := told_word x t
    have eg : gapsR r = x.T ++ t := by rw [hr, et, ey, gaps_word hx.scheme]
    obtain ⟨z, ez, hz⟩ := oneR_told (k := acc.length) (t := t) hk hx.scheme hx.token hx.few hx.pars hx.fresh htail
    have ez' : oneR acc.length (x.T ++ t) = .ok (x.cha, z) := ez
    have hne : (x.T ++ t).isEmpty = false := by
      rw [ey]; obtain ⟨_, c, w, hw⟩ := isL_parts hx.scheme; rw [hw]; rfl
    rw [parseN, eg, hne, ez']
    simp only [Bool.false_eq_true, if_false]
    rw [parseN_told l f (acc ++ [x.cha]) z (hz.trans hgt) (fun y hy => ho y (List.mem_cons_of_mem _ hy)) (by simp at hl ⊢; omega) (by simp at hf; omega)]
    simp
theorem toldsT_len : ∀ (l : List Told), (∀ x ∈ l, x.Ok) → l.length ≤ (toldsT l).length
  | [], _ => by simp
  | [x], h => by
    obtain ⟨_, c, w, hw⟩ := isL_parts (h x (by simp)).scheme
    simp [toldsT, Told.T, chaT, hw]
  | x :: y :: l, h => by
    have := toldsT_len (y :: l) (fun z hz => h z (List.mem_cons_of_mem _ hz))
    simp [toldsT] at this ⊢; omega
theorem chasL_told (l : List Told) (h : ∀ x ∈ l, x.Ok) (hl : l.length ≤ 8) (hn : (toldsT l).length ≤ 3000) : chasL (toldsT l) = .ok (l.map Told.cha) := by
  unfold chasL
  rw [if_neg (by omega)]
  have := toldsT_len l h
  rw [parseN_told l _ [] _ rfl h (by simpa using hl) (by omega)]
  simp

/-! Print -/
def Cha.told (x : Cha) : Told := (x.scheme, x.token, x.params.map fun p => (p, valueL p.2))
theorem Cha.told_cha (x : Cha) : x.told.cha = x := by
  obtain ⟨s, t, ps⟩ := x
  simp [Cha.told, Told.cha, List.map_map, Function.comp_def]
theorem fresh_of : ∀ (l : List Par) (f : Par → Bs) (ps : List Par), (∀ p ∈ l, twiceB ps p.1 = false) → (∀ (i j : Nat) p q, i < j → l[i]? = some p → l[j]? = some q → sameL p.1 q.1 = false) → Fresh ps (l.map fun p => (p, f p))
  | [], _, _, _, _ => True.intro
  | p :: l, f, ps, h1, h2 => by
    refine ⟨h1 p (by simp), fresh_of l f (ps ++ [p]) (fun q hq => ?_) (fun i j a b hij ha hb => h2 (i + 1) (j + 1) a b (by omega) (by simpa using ha) (by simpa using hb))⟩
    rw [twice_app, h1 q (List.mem_cons_of_mem _ hq), Bool.false_or]
    obtain ⟨k, hk, e⟩ := List.mem_iff_getElem.1 hq
    exact h2 0 (k + 1) p q (by omega) rfl (by simp [List.getElem?_eq_getElem hk, e])
theorem Cha.Ok.told {x : Cha} (h : x.Ok) : x.told.Ok := by
  refine ⟨h.scheme, ?_, by simpa [Cha.told] using h.few, ?_, fresh_of x.params _ [] (fun _ _ => rfl) h.apart⟩
  · rcases h.token with e | ⟨e, ht⟩
    · exact Or.inl e
    · refine Or.inr ⟨?_, ht⟩
      show x.params.map _ = []
      rw [e]; rfl
  · intro q hq
    have hq' : q ∈ x.params.map fun p => (p, valueL p.2) := hq
    obtain ⟨p, hp, rfl⟩ := List.mem_map.1 hq'
    obtain ⟨h1, h2⟩ := h.pars p hp
    exact ⟨h1, tells_value h2⟩
/-- challenges as a header -/
def chasT (l : List Cha) : Bs := toldsT (l.map Cha.told)
theorem chas_back {l : List Cha} (h : ∀ x ∈ l, x.Ok) (hl : l.length ≤ 8) (hn : (chasT l).length ≤ 3000) : chasL (chasT l) = .ok l := by
  unfold chasT at hn ⊢
  rw [chasL_told _ (fun x hx => by obtain ⟨y, hy, rfl⟩ := List.mem_map.1 hx; exact (h y hy).told) (by simpa using hl) hn, List.map_map]
  congr 1
  exact List.map_id'' (fun x => Cha.told_cha x) l |>.symm ▸ rfl
end Go.Proofs.YtkoobhgedoanhaaGreatDoor

namespace Go.Proofs.YtkoobhgedoanhaaGreatDoor
open Go.RowKit

abbrev Texts := List ByteArray
/-- a slice of strings among the arguments -/
abbrev StrsArg (w : World) (v : Value) (ss : List ByteArray) : Prop := StrsAt w v ss
/-- an origin, as its fields -/
structure Ori where
  secure : Bool
  host : ByteArray
  port : Int
def Ori.cells (o : Ori) : List Value := [.bool o.secure, .string o.host, .int .i64 o.port]
/-- an ask; D: what its domain is (the cell's value, or the texts) -/
structure AskOf (D : Type) where
  scheme : Int
  realm : ByteArray
  nonce : ByteArray
  opaq : ByteArray
  sess : Bool
  qop : ByteArray
  stale : Bool
  dom : D
def AskOf.cells (a : AskOf Value) : List Value := [.int .i64 a.scheme, .string a.realm, .string a.nonce, .string a.opaq, .bool a.sess, .string a.qop, .bool a.stale, a.dom]
/-- a grant; D: what its domain and its paths are -/
structure GrantOf (D : Type) where
  o : Ori
  proxy : Bool
  user : ByteArray
  pass : ByteArray
  a : AskOf D
  count : Int
  paths : D
def GrantOf.cells (g : GrantOf Value) : List Value :=
  [.bool g.o.secure, .string g.o.host, .int .i64 g.o.port, .bool g.proxy, .string g.user, .string g.pass,
   .int .i64 g.a.scheme, .string g.a.realm, .string g.a.nonce, .string g.a.opaq, .bool g.a.sess, .string g.a.qop, .bool g.a.stale, g.a.dom, .int .i64 g.count, g.paths]
/-- the raw ask reads as the other one -/
def AskOf.Reads (R : Value → List ByteArray → Prop) (r : AskOf Value) (a : AskOf (List ByteArray)) : Prop :=
  r.scheme = a.scheme ∧ r.realm = a.realm ∧ r.nonce = a.nonce ∧ r.opaq = a.opaq ∧ r.sess = a.sess ∧ r.qop = a.qop ∧ r.stale = a.stale ∧ R r.dom a.dom
def GrantOf.Reads (R : Value → List ByteArray → Prop) (r : GrantOf Value) (g : GrantOf (List ByteArray)) : Prop :=
  r.o = g.o ∧ r.proxy = g.proxy ∧ r.user = g.user ∧ r.pass = g.pass ∧ r.a.Reads R g.a ∧ r.count = g.count ∧ R r.paths g.paths
theorem AskOf.Reads.mono {R S : Value → List ByteArray → Prop} {r : AskOf Value} {a : AskOf (List ByteArray)} (h : r.Reads R a) (hs : ∀ v l, R v l → S v l) : r.Reads S a :=
  ⟨h.1, h.2.1, h.2.2.1, h.2.2.2.1, h.2.2.2.2.1, h.2.2.2.2.2.1, h.2.2.2.2.2.2.1, hs _ _ h.2.2.2.2.2.2.2⟩
theorem GrantOf.Reads.mono {R S : Value → List ByteArray → Prop} {r : GrantOf Value} {g : GrantOf (List ByteArray)} (h : r.Reads R g) (hs : ∀ v l, R v l → S v l) : r.Reads S g :=
  ⟨h.1, h.2.1, h.2.2.1, h.2.2.2.1, h.2.2.2.2.1.mono hs, h.2.2.2.2.2.1, hs _ _ h.2.2.2.2.2.2⟩

/-- Go's == of two origins -/
def Ori.eqB (a b : Ori) : Bool := a.secure == b.secure && (a.host.toList == b.host.toList && a.port == b.port)
theorem toList_inj {a b : ByteArray} : a.toList = b.toList ↔ a = b := by
  constructor
  · intro h
    rw [Go.ByteArray.toList_eq, Go.ByteArray.toList_eq] at h
    exact Go.WideShapes.bytes_inj h
  · intro h; rw [h]
theorem Ori.eqB_iff (a b : Ori) : a.eqB b = true ↔ a = b := by
  obtain ⟨s, h, p⟩ := a
  obtain ⟨s', h', p'⟩ := b
  simp only [Ori.eqB, Bool.and_eq_true, beq_iff_eq, Ori.mk.injEq, toList_inj]
theorem run_eql_ori (a b : Ori) (w : World) : (binOp .eql 49 (.agg #[.bool a.secure, .string a.host, .int .i64 a.port]) (.agg #[.bool b.secure, .string b.host, .int .i64 b.port])).run Tryz.prog w = .ok (.bool (a.eqB b)) w := by
  go_simp
  by_cases h1 : a.secure = b.secure <;> by_cases h2 : a.host.toList = b.host.toList <;> by_cases h3 : a.port = b.port <;> simp [Ori.eqB, h1, h2, h3]
theorem run_neq_ori (a b : Ori) (w : World) : (binOp .neq 49 (.agg #[.bool a.secure, .string a.host, .int .i64 a.port]) (.agg #[.bool b.secure, .string b.host, .int .i64 b.port])).run Tryz.prog w = .ok (.bool (!a.eqB b)) w := by
  go_simp
  by_cases h1 : a.secure = b.secure <;> by_cases h2 : a.host.toList = b.host.toList <;> by_cases h3 : a.port = b.port <;> simp [Ori.eqB, h1, h2, h3]
/-- a row's cells by their place -/
def cB (x : List Value) (i : Nat) : Bool := match x[i]? with | some (.bool b) => b | _ => false
def cS (x : List Value) (i : Nat) : ByteArray := match x[i]? with | some (.string s) => s | _ => ByteArray.empty
def cI (x : List Value) (i : Nat) : Int := match x[i]? with | some (.int _ n) => n | _ => 0
def oriC (x : List Value) : Ori := ⟨cB x 0, cS x 1, cI x 2⟩
end Go.Proofs.YtkoobhgedoanhaaGreatDoor

namespace Go.Proofs.YtkoobhgedoanhaaGreatDoor

/-- the parts of l between the bytes c -/
def splitL (c : UInt8) : List UInt8 → List (List UInt8)
  | [] => [[]]
  | x :: l => if x = c then [] :: splitL c l else match splitL c l with
    | [] => [[x]]
    | p :: ps => (x :: p) :: ps
/-- joined by one byte -/
def joinL (c : UInt8) : List (List UInt8) → List UInt8
  | [] => []
  | [p] => p
  | p :: q :: ps => p ++ c :: joinL c (q :: ps)
theorem splitL_ne (c : UInt8) : ∀ l, splitL c l ≠ []
  | [] => by simp [splitL]
  | x :: l => by
    unfold splitL
    split
    · simp
    · split <;> simp
theorem splitL_free (c : UInt8) : ∀ l, ∀ p ∈ splitL c l, c ∉ p
  | [], p, h => by simp [splitL] at h; subst h; simp
  | x :: l, p, h => by
    have ih := splitL_free c l
    unfold splitL at h
    split at h
    · rcases List.mem_cons.1 h with rfl | h
      · simp
      · exact ih p h
    · rename_i hx
      split at h
      · rename_i e; exact absurd e (splitL_ne c l)
      · rename_i q qs e
        rw [e] at ih
        rcases List.mem_cons.1 h with rfl | h
        · intro hc
          rcases List.mem_cons.1 hc with rfl | hc
          · exact hx rfl
          · exact ih q (List.mem_cons_self ..) hc
        · exact ih p (List.mem_cons_of_mem _ h)
theorem splitL_hit (c : UInt8) (l : List UInt8) : splitL c (c :: l) = [] :: splitL c l := by rw [splitL, if_pos rfl]
theorem splitL_step {c x : UInt8} {l p : List UInt8} {ps : List (List UInt8)} (hx : ¬ x = c) (h : splitL c l = p :: ps) : splitL c (x :: l) = (x :: p) :: ps := by rw [splitL, if_neg hx, h]
/-- a part ahead of the first c -/
theorem splitL_app (c : UInt8) : ∀ (p l : List UInt8), c ∉ p → splitL c (p ++ c :: l) = p :: splitL c l
  | [], l, _ => splitL_hit c l
  | x :: p, l, h => by
    have hx : ¬ x = c := fun e => h (by rw [e]; exact List.mem_cons_self ..)
    exact splitL_step hx (splitL_app c p l (fun e => h (List.mem_cons_of_mem _ e)))
theorem splitL_one (c : UInt8) : ∀ p : List UInt8, c ∉ p → splitL c p = [p]
  | [], _ => rfl
  | x :: p, h => by
    have hx : ¬ x = c := fun e => h (by rw [e]; exact List.mem_cons_self ..)
    exact splitL_step hx (splitL_one c p (fun e => h (List.mem_cons_of_mem _ e)))
theorem split_join (c : UInt8) : ∀ ps : List (List UInt8), ps ≠ [] → (∀ p ∈ ps, c ∉ p) → splitL c (joinL c ps) = ps
  | [], h, _ => absurd rfl h
  | [p], _, h => by rw [joinL]; exact splitL_one c p (h p (List.mem_cons_self ..))
  | p :: q :: ps, _, h => by
    rw [joinL, splitL_app c p _ (h p (List.mem_cons_self ..)), split_join c (q :: ps) (by simp) (fun r hr => h r (List.mem_cons_of_mem _ hr))]
theorem join_split (c : UInt8) : ∀ l : List UInt8, joinL c (splitL c l) = l
  | [] => rfl
  | x :: l => by
    have ih := join_split c l
    have hne := splitL_ne c l
    unfold splitL
    split
    · rename_i hx
      subst hx
      cases e : splitL x l with
      | nil => exact absurd e hne
      | cons p ps => rw [joinL, ← e, ih]; rfl
    · cases e : splitL c l with
      | nil => exact absurd e hne
      | cons p ps =>
        rw [e] at ih
        show joinL c ((x :: p) :: ps) = x :: l
        cases ps with
        | nil => rw [joinL] at ih ⊢; rw [ih]
        | cons q qs => rw [joinL] at ih ⊢; rw [List.cons_append, ih]

/-! ### Clean -/
def dotP : List UInt8 := [46]
def dotsP : List UInt8 := [46, 46]
def popP (l : List (List UInt8)) : List (List UInt8) := if 1 < l.length then l.dropLast else l
/-- one part -/
def cleanStep (l : List (List UInt8)) (p : List UInt8) (last : Bool) : List (List UInt8) :=
  if p = dotsP then (if last then popP l ++ [[]] else popP l)
  else if p = dotP then (if last then l ++ [[]] else l)
  else l ++ [p]
def cleanGo : List (List UInt8) → List (List UInt8) → List (List UInt8)
  | l, [] => l
  | l, p :: ps => cleanGo (cleanStep l p ps.isEmpty) ps
def rootL (s : List UInt8) : List UInt8 := if s.head? = some 47 then s else 47 :: s
def cleanParts (s : List UInt8) : List (List UInt8) := cleanGo [] (splitL 47 (rootL s))
def cleanL (s : List UInt8) : List UInt8 := joinL 47 (cleanParts s)

def okP (p : List UInt8) : Prop := p ≠ dotsP ∧ p ≠ dotP ∧ (47 : UInt8) ∉ p
theorem okP_nil : okP [] := ⟨by decide, by decide, by simp⟩
/-- what is held while parts go by: nothing, or the empty first one and parts that are no points -/
def heldP (l : List (List UInt8)) : Prop := ∃ r, l = [] :: r ∧ ∀ p ∈ r, okP p
theorem heldP_pop {l : List (List UInt8)} (h : heldP l) : heldP (popP l) := by
  obtain ⟨r, rfl, hr⟩ := h
  unfold popP
  split
  · cases r with
    | nil => rename_i h1; simp at h1
    | cons a r =>
      refine ⟨(a :: r).dropLast, ?_, fun p hp => hr p (List.dropLast_subset _ hp)⟩
      rw [List.dropLast_cons_of_ne_nil (by simp)]
  · exact ⟨r, rfl, hr⟩
theorem heldP_push {l : List (List UInt8)} (h : heldP l) {p : List UInt8} (hp : okP p) : heldP (l ++ [p]) := by
  obtain ⟨r, rfl, hr⟩ := h
  refine ⟨r ++ [p], rfl, fun q hq => ?_⟩
  rcases List.mem_append.1 hq with hq | hq
  · exact hr q hq
  · rw [List.mem_singleton] at hq; subst hq; exact hp
theorem heldP_step {l : List (List UInt8)} (h : heldP l) (p : List UInt8) (hp : (47 : UInt8) ∉ p) (last : Bool) : heldP (cleanStep l p last) := by
  unfold cleanStep
  split
  · split
    · exact heldP_push (heldP_pop h) okP_nil
    · exact heldP_pop h
  · rename_i h1
    split
    · split
      · exact heldP_push h okP_nil
      · exact h
    · rename_i h2
      exact heldP_push h ⟨h1, h2, hp⟩
theorem popP_ne {l : List (List UInt8)} (h : heldP l) : 1 ≤ (popP l).length := by
  obtain ⟨r, e, _⟩ := heldP_pop h; rw [e]; simp
theorem heldP_last {l : List (List UInt8)} (h : heldP l) (p : List UInt8) : 2 ≤ (cleanStep l p true).length := by
  have h1 := popP_ne h
  have h2 : 1 ≤ l.length := by obtain ⟨r, e, _⟩ := h; rw [e]; simp
  unfold cleanStep
  split
  · simp; omega
  · split
    · simp; omega
    · simp; omega
theorem heldP_go : ∀ (ps l : List (List UInt8)), heldP l → (∀ p ∈ ps, (47 : UInt8) ∉ p) → ps ≠ [] → heldP (cleanGo l ps) ∧ 2 ≤ (cleanGo l ps).length
  | [], _, _, _, h => absurd rfl h
  | [p], l, h, hp, _ => ⟨heldP_step h p (hp p (List.mem_cons_self ..)) _, heldP_last h p⟩
  | p :: q :: ps, l, h, hp, _ => by
    show heldP (cleanGo (cleanStep l p _) (q :: ps)) ∧ _
    exact heldP_go (q :: ps) _ (heldP_step h p (hp p (List.mem_cons_self ..)) _) (fun r hr => hp r (List.mem_cons_of_mem _ hr)) (by simp)
theorem root_split (s : List UInt8) : ∃ t, rootL s = 47 :: t := by
  unfold rootL
  split
  · rename_i h
    cases s with
    | nil => cases h
    | cons a t => simp at h; exact ⟨t, by rw [h]⟩
  · exact ⟨s, rfl⟩
theorem clean_held (s : List UInt8) : ∃ a r, cleanParts s = [] :: a :: r ∧ (∀ p ∈ a :: r, okP p) := by
  obtain ⟨t, ht⟩ := root_split s
  have hg := heldP_go (splitL 47 t) [[]] ⟨[], rfl, fun _ h => by cases h⟩ (splitL_free 47 t) (splitL_ne 47 t)
  have e : cleanParts s = cleanGo [[]] (splitL 47 t) := by
    unfold cleanParts
    rw [ht]
    show cleanGo [] ([] :: splitL 47 t) = _
    show cleanGo (cleanStep [] [] _) (splitL 47 t) = _
    rfl
  rw [← e] at hg
  obtain ⟨⟨r, h1, h2⟩, h3⟩ := hg
  rw [h1] at h3
  cases r with
  | nil => simp at h3
  | cons a r => exact ⟨a, r, h1, h2⟩
/-- what holds no points stays -/
theorem clean_stays : ∀ (ps l : List (List UInt8)), (∀ p ∈ ps, okP p) → cleanGo l ps = l ++ ps
  | [], l, _ => by simp [cleanGo]
  | p :: ps, l, h => by
    have hp := h p (List.mem_cons_self ..)
    show cleanGo (cleanStep l p ps.isEmpty) ps = _
    have e : cleanStep l p ps.isEmpty = l ++ [p] := by unfold cleanStep; rw [if_neg hp.1, if_neg hp.2.1]
    rw [e, clean_stays ps _ (fun q hq => h q (List.mem_cons_of_mem _ hq))]
    simp
theorem clean_split (s : List UInt8) : splitL 47 (cleanL s) = cleanParts s := by
  obtain ⟨a, r, h, ho⟩ := clean_held s
  unfold cleanL
  refine split_join 47 _ (by rw [h]; simp) ?_
  rw [h]
  intro p hp
  rcases List.mem_cons.1 hp with rfl | hp
  · simp
  · exact (ho p hp).2.2
theorem clean_head (s : List UInt8) : (cleanL s).head? = some 47 := by
  obtain ⟨a, r, h, _⟩ := clean_held s
  unfold cleanL
  rw [h]
  rfl
theorem clean_twice (s : List UInt8) : cleanL (cleanL s) = cleanL s := by
  have hs := clean_split s
  obtain ⟨a, r, h, ho⟩ := clean_held s
  have e : cleanParts (cleanL s) = cleanParts s := by
    unfold cleanParts
    rw [show rootL (cleanL s) = cleanL s from if_pos (clean_head s), hs]
    show cleanGo [] (cleanParts s) = cleanParts s
    rw [clean_stays (cleanParts s) [] ?_]
    · rfl
    · rw [h]
      intro p hp
      rcases List.mem_cons.1 hp with rfl | hp
      · exact okP_nil
      · exact ho p hp
  rw [cleanL, e]; rfl
theorem clean_nodots (s : List UInt8) : ∀ p ∈ splitL 47 (cleanL s), p ≠ dotP ∧ p ≠ dotsP := by
  rw [clean_split]
  obtain ⟨a, r, h, ho⟩ := clean_held s
  rw [h]
  intro p hp
  rcases List.mem_cons.1 hp with rfl | hp
  · exact ⟨by decide, by decide⟩
  · exact ⟨(ho p hp).2.1, (ho p hp).1⟩
/-- Clean brings no byte but / -/
theorem split_mem (c : UInt8) : ∀ (l p : List UInt8), p ∈ splitL c l → ∀ x ∈ p, x ∈ l
  | [], p, h, x, hx => by simp [splitL] at h; subst h; cases hx
  | y :: l, p, h, x, hx => by
    have ih := split_mem c l
    unfold splitL at h
    split at h
    · rcases List.mem_cons.1 h with rfl | h
      · cases hx
      · exact List.mem_cons_of_mem _ (ih p h x hx)
    · split at h
      · rename_i e; exact absurd e (splitL_ne c l)
      · rename_i q qs e
        rw [e] at ih
        rcases List.mem_cons.1 h with rfl | h
        · rcases List.mem_cons.1 hx with rfl | hx
          · exact List.mem_cons_self ..
          · exact List.mem_cons_of_mem _ (ih q (List.mem_cons_self ..) x hx)
        · exact List.mem_cons_of_mem _ (ih p (List.mem_cons_of_mem _ h) x hx)
theorem join_mem (c : UInt8) : ∀ (ps : List (List UInt8)) (x : UInt8), x ∈ joinL c ps → x = c ∨ ∃ p ∈ ps, x ∈ p
  | [], x, h => by cases h
  | [p], x, h => Or.inr ⟨p, List.mem_cons_self .., h⟩
  | p :: q :: ps, x, h => by
    rw [joinL] at h
    rcases List.mem_append.1 h with h | h
    · exact Or.inr ⟨p, List.mem_cons_self .., h⟩
    · rcases List.mem_cons.1 h with h | h
      · exact Or.inl h
      · rcases join_mem c (q :: ps) x h with h | ⟨r, hr, hx⟩
        · exact Or.inl h
        · exact Or.inr ⟨r, List.mem_cons_of_mem _ hr, hx⟩
theorem step_mem {P : List UInt8 → Prop} (h0 : P []) {l : List (List UInt8)} (hl : ∀ p ∈ l, P p) {p : List UInt8} (hp : P p) (last : Bool) : ∀ q ∈ cleanStep l p last, P q := by
  have hpop : ∀ q ∈ popP l, P q := by
    unfold popP
    split
    · exact fun q hq => hl q (List.dropLast_subset _ hq)
    · exact hl
  have hap : ∀ (m : List (List UInt8)) (r : List UInt8), (∀ q ∈ m, P q) → P r → ∀ q ∈ m ++ [r], P q := fun m r hm hr q hq => by
    rcases List.mem_append.1 hq with hq | hq
    · exact hm q hq
    · rw [List.mem_singleton] at hq; subst hq; exact hr
  unfold cleanStep
  split
  · split
    · exact hap _ _ hpop h0
    · exact hpop
  · split
    · split
      · exact hap _ _ hl h0
      · exact hl
    · exact hap _ _ hl hp
theorem go_mem {P : List UInt8 → Prop} (h0 : P []) : ∀ (ps l : List (List UInt8)), (∀ p ∈ l, P p) → (∀ p ∈ ps, P p) → ∀ q ∈ cleanGo l ps, P q
  | [], _, hl, _ => hl
  | p :: ps, _, hl, hp => go_mem h0 ps _ (step_mem h0 hl (hp p (List.mem_cons_self ..)) _) (fun q hq => hp q (List.mem_cons_of_mem _ hq))
theorem clean_mem (s : List UInt8) (x : UInt8) (hx : x ∈ cleanL s) : x = 47 ∨ x ∈ s := by
  rcases join_mem 47 _ x hx with h | ⟨p, hp, hxp⟩
  · exact Or.inl h
  · refine go_mem (P := fun p => ∀ y ∈ p, y = 47 ∨ y ∈ s) (by simp) _ [] (fun p hp => by cases hp) (fun q hq y hy => ?_) p hp x hxp
    have := split_mem 47 _ q hq y hy
    unfold rootL at this
    split at this
    · exact Or.inr this
    · rcases List.mem_cons.1 this with h | h
      · exact Or.inl h
      · exact Or.inr h
/-- Clean lengthens by two bytes at most -/
theorem join_len (c : UInt8) : ∀ ps : List (List UInt8), (joinL c ps).length + 1 = (ps.map fun p => p.length + 1).sum + (if ps = [] then 1 else 0)
  | [] => rfl
  | [p] => by simp [joinL]
  | p :: q :: ps => by
    have ih := join_len c (q :: ps)
    rw [joinL]
    simp at ih ⊢
    omega
end Go.Proofs.YtkoobhgedoanhaaGreatDoor
