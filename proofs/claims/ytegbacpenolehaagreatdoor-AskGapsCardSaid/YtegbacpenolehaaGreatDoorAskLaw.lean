/- Challenges as texts: what is told so is read so; what is read can be told. Plain laws. No program in sight. -/
import Derived.Test.YtegbacpenolehaaGreatDoorAskPure
namespace Go.Proofs.YtegbacpenolehaaGreatDoor
open Go.RowKit

/-- a challenge that can be told: a word, then a token, or parameters of unlike names -/
def tokenOk (t : Bs) : Prop := ∃ n m : Bs, t = n ++ m ∧ n ≠ [] ∧ n.all tokB = true ∧ m.all eqB = true
def parOk (p : Par) : Prop := isL p.1 = true ∧ valueOk p.2 = true
def unlike : List Par → Prop
  | [] => True
  | p :: ps => twiceB ps p.1 = false ∧ unlike ps
structure Cha.Ok (x : Cha) : Prop where
  scheme : isL x.scheme = true
  token : x.token = [] ∨ (x.params = [] ∧ tokenOk x.token)
  few : x.params.length ≤ 16
  pars : ∀ p ∈ x.params, parOk p
  apart : ∀ (i j : Nat) p q, i < j → x.params[i]? = some p → x.params[j]? = some q → sameL p.1 q.1 = false

/-! what is read can be told -/
theorem taken (p : UInt8 → Bool) : ∀ l : Bs, (l.takeWhile p).all p = true
  | [] => rfl
  | c :: l => by
    cases h : p c
    · rw [List.takeWhile_cons_of_neg (by simp [h])]; rfl
    · rw [List.takeWhile_cons_of_pos h, List.all_cons, h, taken p l]; rfl
theorem isL_word {r : Bs} (h : (wordR r).isEmpty = false) : isL (wordR r) = true := by
  unfold isL
  rw [h]
  have : (wordR r).all byteB = true := taken byteB r
  rw [this]; rfl
theorem qgo_text : ∀ (f : Nat) (r a z : Bs), r.length ≤ f → qgo r = some (a, z) → a.all textB = true
  | 0, r, a, z, hf, h => by
    have : r = [] := List.eq_nil_of_length_eq_zero (by omega)
    subst this; rw [qgo.eq_def] at h; simp at h
  | f + 1, [], a, z, hf, h => by rw [qgo.eq_def] at h; simp at h
  | f + 1, x :: r, a, z, hf, h => by
    rw [qgo.eq_def] at h
    simp only at h
    by_cases h1 : (x == 34) = true
    · rw [if_pos h1] at h; cases h; rfl
    · rw [if_neg h1] at h
      by_cases h2 : (x == 92) = true
      · rw [if_pos h2] at h
        cases r with
        | nil => simp at h
        | cons y r' =>
          simp only at h
          by_cases h3 : textB y = true
          · rw [if_pos h3] at h
            cases hq : qgo r' with
            | none => rw [hq] at h; simp at h
            | some p =>
              rw [hq] at h; simp at h
              obtain ⟨rfl, rfl⟩ := h
              have := qgo_text f r' p.1 p.2 (by simp at hf; omega) hq
              rw [List.all_cons, h3, this]; rfl
          · rw [if_neg h3] at h; simp at h
      · rw [if_neg h2] at h
        by_cases h3 : textB x = true
        · rw [if_pos h3] at h
          cases hq : qgo r with
          | none => rw [hq] at h; simp at h
          | some p =>
            rw [hq] at h; simp at h
            obtain ⟨rfl, rfl⟩ := h
            have := qgo_text f r p.1 p.2 (by simp at hf; omega) hq
            rw [List.all_cons, h3, this]; rfl
        · rw [if_neg h3] at h; simp at h
theorem valueR_ok {r a z : Bs} (h : valueR r = some (a, z)) : valueOk a = true := by
  unfold valueR at h
  unfold valueOk
  split at h
  · cases r with
    | nil => cases h
    | cons c t =>
      have h' : (if c == 34 then qgo t else none) = some (a, z) := h
      by_cases hc : (c == 34) = true
      · rw [if_pos hc] at h'
        have := qgo_text _ t a z (Nat.le_refl _) h'
        rw [show textL a = true from this, Bool.or_true]
      · rw [if_neg hc] at h'; cases h'
  · rename_i hw
    cases h
    rw [isL_word (by simpa using hw)]; rfl
theorem paramR_ok {ps : List Par} {r : Bs} {p : Par} {z : Bs} (h : paramR ps r = .ok (p, z)) : parOk p ∧ twiceB ps p.1 = false ∧ ps.length ≠ 16 := by
  unfold paramR at h
  by_cases hn : namedB r = true
  · rw [if_neg (by simp [hn])] at h
    cases hv : valueR (valueAt r) with
    | none => rw [hv] at h; cases h
    | some q =>
      rw [hv] at h
      simp only at h
      split at h
      · cases h
      rename_i ht
      split at h
      · cases h
      rename_i hk
      cases h
      exact ⟨⟨isL_word (namedB_word hn), valueR_ok (a := q.1) (z := q.2) hv⟩, by simpa using ht, hk⟩
  · rw [if_pos (by simpa using hn)] at h; cases h
/-- parameters that can be told -/
structure ParsOk (ps : List Par) : Prop where
  few : ps.length ≤ 16
  pars : ∀ p ∈ ps, parOk p
  apart : ∀ (i j : Nat) p q, i < j → ps[i]? = some p → ps[j]? = some q → sameL p.1 q.1 = false
theorem ParsOk.nil : ParsOk [] := ⟨by simp, by simp, by simp⟩
theorem ParsOk.snoc {ps : List Par} {p : Par} (h : ParsOk ps) (hp : parOk p) (ht : twiceB ps p.1 = false) (hl : ps.length ≠ 16) : ParsOk (ps ++ [p]) := by
  refine ⟨?_, ?_, ?_⟩
  · have := h.few; simp; omega
  · intro q hq
    rcases List.mem_append.1 hq with g | g
    · exact h.pars q g
    · simp at g; subst g; exact hp
  · intro i j q q' hij hi hj
    have hj' := (List.getElem?_eq_some_iff.1 hj).1
    simp at hj'
    by_cases hjl : j < ps.length
    · rw [List.getElem?_append_left hjl] at hj
      rw [List.getElem?_append_left (by omega)] at hi
      exact h.apart i j q q' hij hi hj
    · have e : j = ps.length := by omega
      subst e
      rw [List.getElem?_append_left (by omega)] at hi
      simp at hj; subst hj
      unfold twiceB at ht
      rw [List.any_eq_false] at ht
      simpa using ht q (List.mem_of_getElem? hi)
theorem paramsN_ok : ∀ (f : Nat) (ps : List Par) (r : Bs) (q : List Par × Bs), ParsOk ps → paramsN f ps r = .ok q → ParsOk q.1
  | 0, ps, r, q, ho, h => by rw [paramsN] at h; cases h; exact ho
  | f + 1, ps, r, q, ho, h => by
    rw [paramsN] at h
    cases hp : paramR ps r with
    | error e => rw [hp] at h; cases h
    | ok p =>
      rw [hp] at h
      obtain ⟨p, r1⟩ := p
      obtain ⟨h1, h2, h3⟩ := paramR_ok hp
      have ho' := ho.snoc h1 h2 h3
      simp only at h
      split at h
      · split at h
        · exact paramsN_ok f _ _ q ho' h
        · cases h; exact ho'
      · cases h
theorem singleR_ok {r t z : Bs} (h : singleR r = some (t, z)) : tokenOk t := by
  unfold singleR at h
  split at h
  · rename_i hc
    cases h
    simp only [Bool.and_eq_true, Bool.not_eq_true'] at hc
    refine ⟨_, _, rfl, fun e => ?_, ?_, ?_⟩
    · rw [e] at hc; cases hc.1
    · exact taken tokB r
    · exact taken eqB _
  · cases h
theorem oneR_ok {k : Nat} {r : Bs} {x : Cha} {z : Bs} (h : oneR k r = .ok (x, z)) : x.Ok ∧ k ≠ 8 := by
  unfold oneR at h
  split at h
  · cases h
  rename_i hw
  have hw' := isL_word (show (wordR r).isEmpty = false by simpa using hw)
  split at h
  · cases h
  rename_i hk
  refine ⟨?_, hk⟩
  split at h
  · cases h; exact ⟨hw', Or.inl rfl, by simp, by simp, by simp⟩
  split at h
  · cases h
  split at h
  · rename_i q hq
    cases h
    exact ⟨hw', Or.inr ⟨rfl, singleR_ok (t := q.1) (z := q.2) hq⟩, by simp, by simp, by simp⟩
  · split at h
    · cases h
    · rename_i q hq
      cases h
      have := paramsN_ok _ _ _ _ ParsOk.nil hq
      exact ⟨hw', Or.inl rfl, this.few, this.pars, this.apart⟩
theorem parseN_ok : ∀ (f : Nat) (acc : List Cha) (r : Bs) (l : List Cha), (∀ x ∈ acc, x.Ok) → acc.length ≤ 8 → parseN f acc r = .ok l → (∀ x ∈ l, x.Ok) ∧ l.length ≤ 8
  | 0, acc, r, l, ha, hl, h => by rw [parseN] at h; cases h; exact ⟨ha, hl⟩
  | f + 1, acc, r, l, ha, hl, h => by
    rw [parseN] at h
    split at h
    · cases h; exact ⟨ha, hl⟩
    · cases ho : oneR acc.length (gapsR r) with
      | error e => rw [ho] at h; cases h
      | ok q =>
        obtain ⟨x, r1⟩ := q
        rw [ho] at h
        obtain ⟨h1, h2⟩ := oneR_ok ho
        simp only at h
        refine parseN_ok f _ r1 l ?_ ?_ h
        · intro y hy
          rcases List.mem_append.1 hy with g | g
          · exact ha y g
          · simp at g; subst g; exact h1
        · simp; omega
theorem chasL_ok {r : Bs} {l : List Cha} (h : chasL r = .ok l) : (∀ x ∈ l, x.Ok) ∧ l.length ≤ 8 := by
  unfold chasL at h
  split at h
  · cases h
  · exact parseN_ok _ _ _ _ (by simp) (by simp) h

/-! what is told so is read so -/
/-- a text that stands for a value -/
def Tells (v x : Bs) : Prop := (isL v = true ∧ x = v) ∨ (textL v = true ∧ x = quoteL v)
theorem tells_value {v : Bs} (h : valueOk v = true) : Tells v (valueL v) := by
  unfold valueOk at h
  unfold valueL
  cases h1 : isL v
  · rw [h1] at h; exact Or.inr ⟨by simpa using h, rfl⟩
  · exact Or.inl ⟨h1, rfl⟩
/-- a parameter as a text -/
def parT (p : Par) (x : Bs) : Bs := p.1 ++ 61 :: x
def noWord (t : Bs) : Prop := ∀ c, t.head? = some c → byteB c = false
theorem byte_not {c : UInt8} (h : byteB c = true) : c ≠ 44 ∧ c ≠ 61 ∧ c ≠ 34 ∧ c ≠ 32 ∧ blankB c = false := by
  refine ⟨?_, ?_, ?_, ?_, byte_blank h⟩ <;> intro e <;> subst e <;> revert h <;> decide
theorem wordR_app {w t : Bs} (h : isL w = true) (ht : noWord t) : wordR (w ++ t) = w ∧ afterW (w ++ t) = t :=
  ⟨takeW (isL_parts h).1 ht, dropW (isL_parts h).1 ht⟩
theorem blanksR_not {c : UInt8} {t : Bs} (h : blankB c = false) : blanksR (c :: t) = c :: t := by
  unfold blanksR; rw [List.dropWhile_cons_of_neg (by simp [h])]
theorem blanksR_yes {c : UInt8} {t : Bs} (h : blankB c = true) : blanksR (c :: t) = blanksR t := by
  unfold blanksR; rw [List.dropWhile_cons_of_pos h]
theorem tells_head {v x t : Bs} (h : Tells v x) : ∃ c y, x ++ t = c :: y ∧ (byteB c = true ∨ c = 34) := by
  rcases h with ⟨h, rfl⟩ | ⟨h, rfl⟩
  · obtain ⟨h1, c, w, rfl⟩ := isL_parts h
    exact ⟨c, w ++ t, rfl, Or.inl (by simp at h1; exact h1.1)⟩
  · exact ⟨34, _, rfl, Or.inr rfl⟩
theorem head_not {c : UInt8} (h : byteB c = true ∨ c = 34) : c ≠ 44 ∧ c ≠ 61 ∧ blankB c = false := by
  rcases h with h | rfl
  · have := byte_not h; exact ⟨this.1, this.2.1, this.2.2.2.2⟩
  · decide
theorem valueR_tells {v x t : Bs} (h : Tells v x) (ht : noWord t) : valueR (x ++ t) = some (v, t) := by
  rcases h with ⟨h, rfl⟩ | ⟨h, rfl⟩
  · obtain ⟨e1, e2⟩ := wordR_app h ht
    unfold valueR
    rw [e1, e2]
    obtain ⟨_, c, w, rfl⟩ := isL_parts h
    rfl
  · have e : quoteL v ++ t = 34 :: (escL v ++ 34 :: t) := by simp [quoteL]
    unfold valueR
    rw [e]
    have : wordR (34 :: (escL v ++ 34 :: t)) = [] := by unfold wordR; rw [List.takeWhile_cons_of_neg (by decide)]
    rw [this]
    show (if (34 : UInt8) == 34 then qgo (escL v ++ 34 :: t) else none) = _
    rw [if_pos (show ((34 : UInt8) == 34) = true from rfl), qgo_esc v t h]
theorem noWord_eq (t : Bs) : noWord (61 :: t) := by intro c hc; simp at hc; subst hc; decide
theorem named_par {p : Par} {x t : Bs} (h : isL p.1 = true) : namedB (parT p x ++ t) = true := by
  have e : parT p x ++ t = p.1 ++ 61 :: (x ++ t) := by simp [parT]
  rw [e]
  obtain ⟨e1, e2⟩ := wordR_app h (noWord_eq (x ++ t))
  unfold namedB
  rw [e1, e2, blanksR_not (by decide)]
  obtain ⟨_, c, w, hw⟩ := isL_parts h
  rw [hw]; rfl
theorem paramR_par {ps : List Par} {p : Par} {x t : Bs} (h : isL p.1 = true) (hx : Tells p.2 x) (ht : noWord t) (h2 : twiceB ps p.1 = false) (h3 : ps.length ≠ 16) : paramR ps (parT p x ++ t) = .ok (p, t) := by
  have hn := named_par (t := t) (x := x) h
  have e : parT p x ++ t = p.1 ++ 61 :: (x ++ t) := by simp [parT]
  rw [e] at hn ⊢
  obtain ⟨e1, e2⟩ := wordR_app h (noWord_eq (x ++ t))
  obtain ⟨c, y, ec, hc⟩ := tells_head (t := t) hx
  have ev : valueAt (p.1 ++ 61 :: (x ++ t)) = x ++ t := by
    unfold valueAt
    rw [e2, blanksR_not (by decide), List.drop_succ_cons, List.drop_zero, ec, blanksR_not (head_not hc).2.2]
  unfold paramR
  rw [hn, ev, valueR_tells hx ht, e1, h2]
  simp only [Bool.not_true, Bool.false_eq_true, if_false]
  rw [if_neg h3]
/-- parameters as a text: commas and blanks between -/
def parsT : List (Par × Bs) → Bs
  | [] => []
  | [p] => parT p.1 p.2
  | p :: q :: l => parT p.1 p.2 ++ 44 :: 32 :: parsT (q :: l)
theorem gaps_word {w t : Bs} (h : isL w = true) : gapsR (w ++ t) = w ++ t := by
  obtain ⟨h1, c, w', rfl⟩ := isL_parts h
  have hb := byte_not (c := c) (by simp at h1; exact h1.1)
  unfold gapsR
  rw [List.cons_append, List.dropWhile_cons_of_neg (by simp [gapB, hb.1, hb.2.2.2.2])]
theorem overB_comma (t : Bs) : overB (44 :: t) = true := by unfold overB; rw [blanksR_not (by decide)]; rfl
theorem gaps_comma (t : Bs) : gapsR (44 :: 32 :: t) = gapsR t := by
  unfold gapsR; rw [List.dropWhile_cons_of_pos (by decide), List.dropWhile_cons_of_pos (by decide)]
theorem parsT_word (p : Par × Bs) (l : List (Par × Bs)) (t : Bs) : ∃ y, parsT (p :: l) ++ t = p.1.1 ++ y := by
  cases l with
  | nil => exact ⟨61 :: (p.2 ++ t), by simp [parsT, parT]⟩
  | cons q l => exact ⟨61 :: (p.2 ++ (44 :: 32 :: (parsT (q :: l) ++ t))), by simp [parsT, parT]⟩
/-- what may stand behind parameters -/
structure Tail (t : Bs) : Prop where
  over : overB t = true
  named : namedB (gapsR t) = false
  word : noWord t
theorem Tail.nil : Tail [] := ⟨rfl, rfl, fun _ h => by cases h⟩
theorem twice_app (ps : List Par) (q : Par) (n : Bs) : twiceB (ps ++ [q]) n = (twiceB ps n || sameL q.1 n) := by unfold twiceB; simp
/-- the parameters to come are unlike those read, and each other -/
def Fresh (ps : List Par) : List (Par × Bs) → Prop
  | [] => True
  | p :: l => twiceB ps p.1.1 = false ∧ Fresh (ps ++ [p.1]) l
theorem paramsN_told : ∀ (l : List (Par × Bs)) (p : Par × Bs) (f : Nat) (ps : List Par) (t : Bs), Tail t → (∀ q ∈ p :: l, isL q.1.1 = true ∧ Tells q.1.2 q.2) → Fresh ps (p :: l) → ps.length + l.length + 1 ≤ 16 → l.length < f →
    paramsN f ps (parsT (p :: l) ++ t) = .ok (ps ++ (p :: l).map (·.1), gapsR t)
  | l, p, 0, ps, t, _, _, _, _, hf => absurd hf (Nat.not_lt_zero _)
  | [], p, f + 1, ps, t, ht, hq, hfr, hn, _ => by
    obtain ⟨h1, h2⟩ := hq p (by simp)
    rw [paramsN, show parsT [p] = parT p.1 p.2 from rfl, paramR_par h1 h2 ht.word hfr.1 (by simp at hn; omega)]
    simp only [ht.over, ht.named, if_true, Bool.false_eq_true, if_false]
    rfl
  | q :: l, p, f + 1, ps, t, ht, hq, hfr, hn, hf => by
    obtain ⟨h1, h2⟩ := hq p (by simp)
    have e : parsT (p :: q :: l) ++ t = parT p.1 p.2 ++ (44 :: 32 :: (parsT (q :: l) ++ t)) := by simp [parsT]
    have hw : noWord (44 :: 32 :: (parsT (q :: l) ++ t)) := by intro c hc; simp at hc; subst hc; decide
    obtain ⟨g1, _⟩ := hq q (by simp)
    obtain ⟨y, ey⟩ := parsT_word q l t
    have eg : gapsR (44 :: 32 :: (parsT (q :: l) ++ t)) = parsT (q :: l) ++ t := by rw [gaps_comma, ey, gaps_word g1]
    have en : namedB (parsT (q :: l) ++ t) = true := by
      cases l with
      | nil => exact named_par g1
      | cons a l =>
        have e2 : parsT (q :: a :: l) ++ t = parT q.1 q.2 ++ (44 :: 32 :: (parsT (a :: l) ++ t)) := by simp [parsT]
        rw [e2]; exact named_par g1
    rw [paramsN, e, paramR_par h1 h2 hw hfr.1 (by simp at hn; omega)]
    simp only [overB_comma, eg, en, if_true]
    rw [paramsN_told l q f (ps ++ [p.1]) t ht (fun x hx => hq x (List.mem_cons_of_mem _ hx)) hfr.2 (by simp at hn ⊢; omega) (by simp at hf; omega)]
    simp

/-- a challenge as a text, its values told as they are -/
def chaT (s tok : Bs) (l : List (Par × Bs)) : Bs := s ++ ((if tok.isEmpty then [] else 32 :: tok) ++ (if l.isEmpty then [] else 32 :: parsT l))
theorem tok_head {n : Bs} (h : n ≠ []) (ht : n.all tokB = true) : ∃ c y, n = c :: y ∧ tokB c = true := by
  cases n with
  | nil => exact absurd rfl h
  | cons c y => exact ⟨c, y, rfl, by simp at ht; exact ht.1⟩
theorem tok_not : ∀ n : Fin 256, tokB n.val.toUInt8 = true → blankB n.val.toUInt8 = false ∧ n.val.toUInt8 ≠ 44 ∧ n.val.toUInt8 ≠ 61 := by decide +kernel
theorem u8_fin (c : UInt8) : ∃ n : Fin 256, c = n.val.toUInt8 := ⟨⟨c.toNat, c.toNat_lt⟩, by simp⟩
theorem tok_not' {c : UInt8} (h : tokB c = true) : blankB c = false ∧ c ≠ 44 ∧ c ≠ 61 := by
  obtain ⟨n, rfl⟩ := u8_fin c
  exact tok_not n h
theorem stop_head {t : Bs} (h : overB t = true) : ∀ c, t.head? = some c → blankB c = true ∨ c = 44 := by
  intro c hc
  cases t with
  | nil => cases hc
  | cons d t =>
    simp at hc; subst hc
    cases hb : blankB d
    · unfold overB at h
      rw [blanksR_not hb] at h
      exact Or.inr (by simpa [stopB] using h)
    · exact Or.inl rfl
theorem stop_not {c : UInt8} (h : blankB c = true ∨ c = 44) : byteB c = false ∧ tokB c = false ∧ eqB c = false := by
  have h' : c = 32 ∨ c = 9 ∨ c = 44 := by
    rcases h with h | h
    · unfold blankB at h; simp at h; rcases h with h | h
      · exact Or.inl h
      · exact Or.inr (Or.inl h)
    · exact Or.inr (Or.inr h)
  rcases h' with rfl | rfl | rfl <;> decide
theorem takeAll {p : UInt8 → Bool} {w t : Bs} (h : w.all p = true) (ht : ∀ c, t.head? = some c → p c = false) : (w ++ t).takeWhile p = w ∧ (w ++ t).dropWhile p = t := by
  constructor
  · rw [List.takeWhile_append_of_pos (by simpa [List.all_eq_true] using h)]
    cases t with
    | nil => simp
    | cons c t => rw [List.takeWhile_cons_of_neg (by simp [ht c rfl])]; simp
  · rw [List.dropWhile_append_of_pos (by simpa [List.all_eq_true] using h)]
    exact dropWhile_stop ht
theorem singleR_tok {n m t : Bs} (h1 : n ≠ []) (h2 : n.all tokB = true) (h3 : m.all eqB = true) (ht : overB t = true) : singleR (n ++ m ++ t) = some (n ++ m, blanksR t) := by
  have hmt : ∀ c, (m ++ t).head? = some c → tokB c = false := by
    intro c hc
    cases m with
    | nil => exact (stop_not (stop_head ht c hc)).2.1
    | cons d m =>
      simp at hc; subst hc
      have : d = 61 := by simp [eqB] at h3; exact h3.1
      subst this; decide
  obtain ⟨e1, e2⟩ := takeAll h2 hmt
  obtain ⟨e3, e4⟩ := takeAll (p := eqB) h3 (fun c hc => (stop_not (stop_head ht c hc)).2.2)
  rw [List.append_assoc]
  unfold singleR singleN singleM singleZ
  rw [e1, e2, e3, e4, ht]
  cases n with
  | nil => exact absurd rfl h1
  | cons c n => rfl
/-- where a parameter begins there is no token -/
theorem singleR_par {p : Par} {x t : Bs} (h : isL p.1 = true) (hx : Tells p.2 x) : singleR (parT p x ++ t) = none := by
  have e : parT p x ++ t = p.1 ++ 61 :: (x ++ t) := by simp [parT]
  rw [e]
  obtain ⟨h1, _⟩ := isL_parts h
  obtain ⟨c, y, ec, hc⟩ := tells_head (t := t) hx
  obtain ⟨hc1, hc2, hc3⟩ := head_not hc
  unfold singleR
  have key : overB (singleZ (p.1 ++ 61 :: (x ++ t))) = false := by
    unfold singleZ
    rw [dropWhile_app]
    split
    · rw [List.dropWhile_cons_of_neg (by decide), List.dropWhile_cons_of_pos (by decide), ec, List.dropWhile_cons_of_neg (by simp [eqB, hc2])]
      unfold overB; rw [blanksR_not hc3]; simpa [stopB] using hc1
    · rename_i hne
      cases hd : p.1.dropWhile tokB with
      | nil => rw [hd] at hne; exact absurd rfl hne
      | cons d z =>
        have hm : d ∈ p.1 := (List.dropWhile_sublist tokB).subset (by rw [hd]; exact List.mem_cons_self ..)
        have hb := byte_not (List.all_eq_true.1 h1 d hm)
        rw [List.cons_append, List.dropWhile_cons_of_neg (by simp [eqB, hb.2.1])]
        unfold overB; rw [blanksR_not hb.2.2.2.2]; simpa [stopB] using hb.1
  rw [key, Bool.and_false]; rfl
theorem afterW_end {s t : Bs} (h : isL s = true) (ht : noWord t) : wordR (s ++ t) = s ∧ afterW (s ++ t) = t := wordR_app h ht
theorem isL_ne {s : Bs} (h : isL s = true) : s.isEmpty = false := by
  obtain ⟨_, c, w, rfl⟩ := isL_parts h; rfl
/-- one challenge, told so, is read -/
theorem oneR_told {k : Nat} {s tok : Bs} {l : List (Par × Bs)} {t : Bs} (hk : k ≠ 8) (hs : isL s = true) (htok : tok = [] ∨ (l = [] ∧ tokenOk tok)) (hl : l.length ≤ 16) (hq : ∀ q ∈ l, isL q.1.1 = true ∧ Tells q.1.2 q.2) (hfr : Fresh [] l) (ht : Tail t) :
    ∃ z, oneR k (chaT s tok l ++ t) = .ok (⟨s, tok, l.map (·.1)⟩, z) ∧ gapsR z = gapsR t := by
  rcases htok with rfl | ⟨rfl, htok⟩
  · cases l with
    | nil =>
      have e : chaT s [] [] ++ t = s ++ t := by simp [chaT]
      obtain ⟨e1, e2⟩ := wordR_app hs ht.word
      refine ⟨blanksR t, ?_, gapsR_blanks t⟩
      unfold oneR
      rw [e, e1, e2, isL_ne hs, ht.over]
      simp only [Bool.false_eq_true, if_false, if_true]
      rw [if_neg hk]; rfl
    | cons p l =>
      have e : chaT s [] (p :: l) ++ t = s ++ 32 :: (parsT (p :: l) ++ t) := by simp [chaT]
      obtain ⟨e1, e2⟩ := wordR_app (t := 32 :: (parsT (p :: l) ++ t)) hs (by intro c hc; simp at hc; subst hc; decide)
      obtain ⟨g1, g2⟩ := hq p (by simp)
      obtain ⟨y, ey⟩ := parsT_word p l t
      obtain ⟨w1, c, w, hw⟩ := isL_parts g1
      have hb := byte_not (c := c) (by rw [hw] at w1; simp at w1; exact w1.1)
      have eb : blanksR (32 :: (parsT (p :: l) ++ t)) = parsT (p :: l) ++ t := by
        rw [blanksR_yes (by decide), ey, hw, List.cons_append, blanksR_not hb.2.2.2.2]
      have eo : overB (32 :: (parsT (p :: l) ++ t)) = false := by
        unfold overB; rw [eb, ey, hw]; simpa [stopB] using hb.1
      have es : singleR (parsT (p :: l) ++ t) = none := by
        cases l with
        | nil => exact singleR_par g1 g2
        | cons a l =>
          have e2 : parsT (p :: a :: l) ++ t = parT p.1 p.2 ++ (44 :: 32 :: (parsT (a :: l) ++ t)) := by simp [parsT]
          rw [e2]; exact singleR_par g1 g2
      have hlen : l.length < (parsT (p :: l) ++ t).length + 1 := by
        have : ∀ (m : List (Par × Bs)), m.length ≤ (parsT m).length := by
          intro m
          induction m with
          | nil => simp
          | cons a m ih =>
            cases m with
            | nil => simp [parsT, parT]; omega
            | cons b m => simp [parsT, parT] at ih ⊢; omega
        have := this (p :: l)
        simp at this ⊢; omega
      refine ⟨gapsR t, ?_, gapsR_gapsR t⟩
      unfold oneR
      rw [e, e1, e2, isL_ne hs, eo, eb, es, paramsN_told l p _ [] t ht hq hfr (by simp at hl ⊢; omega) hlen]
      simp only [Bool.false_eq_true, if_false]
      rw [if_neg hk]; rfl
  · obtain ⟨n, m, rfl, h1, h2, h3⟩ := htok
    obtain ⟨c, y, hcy, hc⟩ := tok_head h1 h2
    have hne : (n ++ m).isEmpty = false := by rw [hcy]; rfl
    have e : chaT s (n ++ m) [] ++ t = s ++ 32 :: (n ++ m ++ t) := by unfold chaT; rw [hne]; simp
    obtain ⟨e1, e2⟩ := wordR_app (t := 32 :: (n ++ m ++ t)) hs (by intro d hd; simp at hd; subst hd; decide)
    obtain ⟨b1, b2, b3⟩ := tok_not' hc
    have eb : blanksR (32 :: (n ++ m ++ t)) = n ++ m ++ t := by
      rw [blanksR_yes (by decide), hcy, List.cons_append, List.cons_append, blanksR_not b1]
    have eo : overB (32 :: (n ++ m ++ t)) = false := by
      unfold overB; rw [eb, hcy]; simpa [stopB] using b2
    refine ⟨blanksR t, ?_, gapsR_blanks t⟩
    unfold oneR
    rw [e, e1, e2, isL_ne hs, eo, eb, singleR_tok h1 h2 h3 ht.over]
    simp only [Bool.false_eq_true, if_false]
    rw [if_neg hk]; rfl

/-- challenges as texts -/
abbrev Told := Bs × Bs × List (Par × Bs)
def Told.T (x : Told) : Bs := chaT x.1 x.2.1 x.2.2
def Told.cha (x : Told) : Cha := ⟨x.1, x.2.1, x.2.2.map (·.1)⟩
structure Told.Ok (x : Told) : Prop where
  scheme : isL x.1 = true
  token : x.2.1 = [] ∨ (x.2.2 = [] ∧ tokenOk x.2.1)
  few : x.2.2.length ≤ 16
  pars : ∀ q ∈ x.2.2, isL q.1.1 = true ∧ Tells q.1.2 q.2
  fresh : Fresh [] x.2.2
theorem told_word (x : Told) (t : Bs) : ∃ y, x.T ++ t = x.1 ++ y := ⟨_, by unfold Told.T chaT; rw [List.append_assoc]⟩
theorem Tail.next {x : Told} (h : x.Ok) (t : Bs) (ht : overB t = true) : Tail (44 :: 32 :: (x.T ++ t)) := by
  obtain ⟨y, ey⟩ := told_word x t
  refine ⟨overB_comma _, ?_, by intro c hc; simp at hc; subst hc; decide⟩
  rw [gaps_comma, ey, gaps_word h.scheme, ← ey]
  have go : ∀ z, noWord z → hdB 61 (blanksR z) = false → namedB (x.1 ++ z) = false := by
    intro z h1 h2
    obtain ⟨e1, e2⟩ := wordR_app h.scheme h1
    unfold namedB; rw [e1, e2, h2, Bool.and_false]
  unfold Told.T chaT
  rw [List.append_assoc]
  have h32 : ∀ z : Bs, noWord (32 :: z) := by intro z c hc; simp at hc; subst hc; decide
  rcases h.token with ht0 | ⟨hl0, htok⟩
  · rw [ht0]
    cases hl : x.2.2 with
    | nil =>
      simp only [List.isEmpty_nil, if_true, List.append_nil, List.nil_append]
      refine go t (fun c hc => (stop_not (stop_head ht c hc)).1) ?_
      have h2 := ht
      unfold overB at h2
      cases hb : blanksR t with
      | nil => rfl
      | cons c z =>
        rw [hb] at h2
        have : c = 44 := by simpa [stopB] using h2
        subst this; rfl
    | cons p l =>
      have g1 := (h.pars p (by rw [hl]; simp)).1
      obtain ⟨y2, ey2⟩ := parsT_word p l t
      obtain ⟨w1, c, w, hw⟩ := isL_parts g1
      have hb := byte_not (c := c) (by rw [hw] at w1; simp at w1; exact w1.1)
      have e : (if ([] : Bs).isEmpty then [] else 32 :: []) ++ (if (p :: l).isEmpty then [] else 32 :: parsT (p :: l)) ++ t = 32 :: (parsT (p :: l) ++ t) := rfl
      rw [e]
      refine go _ (h32 _) ?_
      rw [blanksR_yes (by decide), ey2, hw, List.cons_append, blanksR_not hb.2.2.2.2]
      simpa [hdB] using hb.2.1
  · rw [hl0]
    obtain ⟨n, m, hnm, h1, h2, h3⟩ := htok
    obtain ⟨c, y3, hcy, hc⟩ := tok_head h1 h2
    obtain ⟨b1, b2, b3⟩ := tok_not' hc
    have e : (if x.2.1.isEmpty then [] else 32 :: x.2.1) ++ (if ([] : List (Par × Bs)).isEmpty then [] else 32 :: parsT []) ++ t = 32 :: (c :: (y3 ++ m ++ t)) := by
      rw [hnm, hcy]; simp
    rw [e]
    refine go _ (h32 _) ?_
    rw [blanksR_yes (by decide), blanksR_not b1]
    simpa [hdB] using b3
/-- challenges, commas and blanks between -/
def toldsT : List Told → Bs
  | [] => []
  | [x] => x.T
  | x :: y :: l => x.T ++ 44 :: 32 :: toldsT (y :: l)
theorem toldsT_cons (y : Told) (l : List Told) : ∃ t, overB t = true ∧ toldsT (y :: l) = y.T ++ t := by
  cases l with
  | nil => exact ⟨[], rfl, by simp [toldsT]⟩
  | cons z l => exact ⟨44 :: 32 :: toldsT (z :: l), overB_comma _, rfl⟩
theorem parseN_told : ∀ (l : List Told) (f : Nat) (acc : List Cha) (r : Bs), gapsR r = gapsR (toldsT l) → (∀ x ∈ l, x.Ok) → acc.length + l.length ≤ 8 → l.length < f → parseN f acc r = .ok (acc ++ l.map Told.cha)
  | l, 0, acc, r, _, _, _, hf => absurd hf (Nat.not_lt_zero _)
  | [], f + 1, acc, r, hr, _, _, _ => by
    rw [parseN, hr]
    rw [if_pos (show (gapsR (toldsT [])).isEmpty = true from rfl)]; simp
  | x :: l, f + 1, acc, r, hr, ho, hl, hf => by
    have hx := ho x (by simp)
    have hk : acc.length ≠ 8 := by simp at hl; omega
    obtain ⟨t, et, htail, hgt⟩ : ∃ t, toldsT (x :: l) = x.T ++ t ∧ Tail t ∧ gapsR t = gapsR (toldsT l) := by
      cases l with
      | nil => exact ⟨[], by simp [toldsT], Tail.nil, rfl⟩
      | cons y l =>
        obtain ⟨t, ho2, e⟩ := toldsT_cons y l
        refine ⟨44 :: 32 :: toldsT (y :: l), rfl, ?_, gaps_comma _⟩
        rw [e]; exact Tail.next (ho y (by simp)) t ho2
    obtain ⟨y, ey⟩ := told_word x t
    have eg : gapsR r = x.T ++ t := by rw [hr, et, ey, gaps_word hx.scheme]
    obtain ⟨z, ez, hz⟩ := oneR_told (k := acc.length) (t := t) hk hx.scheme hx.token hx.few hx.pars hx.fresh htail
    have ez' : oneR acc.length (x.T ++ t) = .ok (x.cha, z) := ez
    have hne : (x.T ++ t).isEmpty = false := by
      rw [ey]; obtain ⟨_, c, w, hw⟩ := isL_parts hx.scheme; rw [hw]; rfl
    rw [parseN, eg, hne, ez']
    simp only [Bool.false_eq_true, if_false]
    rw [parseN_told l f (acc ++ [x.cha]) z (hz.trans hgt) (fun y hy => ho y (List.mem_cons_of_mem _ hy)) (by simp at hl ⊢; omega) (by simp at hf; omega)]
    simp
theorem toldsT_len : ∀ (l : List Told), (∀ x ∈ l, x.Ok) → l.length ≤ (toldsT l).length
  | [], _ => by simp
  | [x], h => by
    obtain ⟨_, c, w, hw⟩ := isL_parts (h x (by simp)).scheme
    simp [toldsT, Told.T, chaT, hw]
  | x :: y :: l, h => by
    have := toldsT_len (y :: l) (fun z hz => h z (List.mem_cons_of_mem _ hz))
    simp [toldsT] at this ⊢; omega
theorem chasL_told (l : List Told) (h : ∀ x ∈ l, x.Ok) (hl : l.length ≤ 8) (hn : (toldsT l).length ≤ 3000) : chasL (toldsT l) = .ok (l.map Told.cha) := by
  unfold chasL
  rw [if_neg (by omega)]
  have := toldsT_len l h
  rw [parseN_told l _ [] _ rfl h (by simpa using hl) (by omega)]
  simp

/-! Print -/
def Cha.told (x : Cha) : Told := (x.scheme, x.token, x.params.map fun p => (p, valueL p.2))
theorem Cha.told_cha (x : Cha) : x.told.cha = x := by
  obtain ⟨s, t, ps⟩ := x
  simp [Cha.told, Told.cha, List.map_map, Function.comp_def]
theorem fresh_of : ∀ (l : List Par) (f : Par → Bs) (ps : List Par), (∀ p ∈ l, twiceB ps p.1 = false) → (∀ (i j : Nat) p q, i < j → l[i]? = some p → l[j]? = some q → sameL p.1 q.1 = false) → Fresh ps (l.map fun p => (p, f p))
  | [], _, _, _, _ => True.intro
  | p :: l, f, ps, h1, h2 => by
    refine ⟨h1 p (by simp), fresh_of l f (ps ++ [p]) (fun q hq => ?_) (fun i j a b hij ha hb => h2 (i + 1) (j + 1) a b (by omega) (by simpa using ha) (by simpa using hb))⟩
    rw [twice_app, h1 q (List.mem_cons_of_mem _ hq), Bool.false_or]
    obtain ⟨k, hk, e⟩ := List.mem_iff_getElem.1 hq
    exact h2 0 (k + 1) p q (by omega) rfl (by simp [List.getElem?_eq_getElem hk, e])
theorem Cha.Ok.told {x : Cha} (h : x.Ok) : x.told.Ok := by
  refine ⟨h.scheme, ?_, by simpa [Cha.told] using h.few, ?_, fresh_of x.params _ [] (fun _ _ => rfl) h.apart⟩
  · rcases h.token with e | ⟨e, ht⟩
    · exact Or.inl e
    · refine Or.inr ⟨?_, ht⟩
      show x.params.map _ = []
      rw [e]; rfl
  · intro q hq
    have hq' : q ∈ x.params.map fun p => (p, valueL p.2) := hq
    obtain ⟨p, hp, rfl⟩ := List.mem_map.1 hq'
    obtain ⟨h1, h2⟩ := h.pars p hp
    exact ⟨h1, tells_value h2⟩
/-- challenges as a header -/
def chasT (l : List Cha) : Bs := toldsT (l.map Cha.told)
theorem chas_back {l : List Cha} (h : ∀ x ∈ l, x.Ok) (hl : l.length ≤ 8) (hn : (chasT l).length ≤ 3000) : chasL (chasT l) = .ok l := by
  unfold chasT at hn ⊢
  rw [chasL_told _ (fun x hx => by obtain ⟨y, hy, rfl⟩ := List.mem_map.1 hx; exact (h y hy).told) (by simpa using hl) hn, List.map_map]
  congr 1
  exact List.map_id'' (fun x => Cha.told_cha x) l |>.symm ▸ rfl
end Go.Proofs.YtegbacpenolehaaGreatDoor
