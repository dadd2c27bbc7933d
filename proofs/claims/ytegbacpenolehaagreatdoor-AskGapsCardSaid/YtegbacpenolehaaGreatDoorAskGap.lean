/- Challenges as texts: commas and blanks behind are nothing. Plain laws. No program in sight. -/
import Derived.Test.YtegbacpenolehaaGreatDoorAskLaw
namespace Go.Proofs.YtegbacpenolehaaGreatDoor
open Go.RowKit

/-- r', and gaps behind -/
def Behind (r r' : Bs) : Prop := ∃ t : Bs, t.all gapB = true ∧ r' = r ++ t
theorem gap_cases {c : UInt8} (h : gapB c = true) : blankB c = true ∨ c = 44 := by
  unfold gapB at h; simp only [Bool.or_eq_true, beq_iff_eq] at h; exact h
theorem gap_head {t : Bs} (h : t.all gapB = true) : ∀ c, t.head? = some c → blankB c = true ∨ c = 44 := by
  intro c hc
  cases t with
  | nil => cases hc
  | cons d t => simp at hc; subst hc; simp at h; exact gap_cases h.1
theorem gap_over : ∀ {t : Bs}, t.all gapB = true → overB t = true
  | [], _ => rfl
  | c :: t, h => by
    simp only [List.all_cons, Bool.and_eq_true] at h
    cases hb : blankB c
    · rcases gap_cases h.1 with g | g
      · rw [hb] at g; cases g
      · subst g; exact overB_comma t
    · unfold overB; rw [blanksR_yes hb]; exact gap_over h.2
theorem all_drop {p : UInt8 → Bool} {t : Bs} (q : UInt8 → Bool) (h : t.all p = true) : (t.dropWhile q).all p = true := by
  rw [List.all_eq_true] at h ⊢
  intro x hx
  exact h x ((List.dropWhile_sublist q).subset hx)
theorem Behind.word {r r' : Bs} (h : Behind r r') : wordR r' = wordR r ∧ Behind (afterW r) (afterW r') := by
  obtain ⟨t, ht, rfl⟩ := h
  have hn : ∀ c, t.head? = some c → byteB c = false := fun c hc => (stop_not (gap_head ht c hc)).1
  exact ⟨takeWhile_app hn, t, ht, dropWhile_keep hn⟩
theorem Behind.blanks {r r' : Bs} (h : Behind r r') : Behind (blanksR r) (blanksR r') := by
  obtain ⟨t, ht, rfl⟩ := h
  unfold blanksR
  rw [dropWhile_app]
  split
  · rename_i he
    rw [List.isEmpty_iff.1 he]
    exact ⟨_, all_drop blankB ht, rfl⟩
  · exact ⟨t, ht, rfl⟩
theorem Behind.gaps {r r' : Bs} (h : Behind r r') : Behind (gapsR r) (gapsR r') ∧ ((gapsR r).isEmpty = true → (gapsR r').isEmpty = true) := by
  obtain ⟨t, ht, rfl⟩ := h
  unfold gapsR
  rw [dropWhile_app]
  split
  · rename_i he
    have e : t.dropWhile gapB = [] := dropAll ht
    rw [e, List.isEmpty_iff.1 he]
    exact ⟨⟨[], rfl, rfl⟩, fun _ => rfl⟩
  · rename_i he
    exact ⟨⟨t, ht, rfl⟩, fun h => absurd h he⟩
theorem Behind.over {r r' : Bs} (h : Behind r r') : overB r' = overB r := by
  obtain ⟨t, ht, rfl⟩ := h
  unfold overB blanksR
  rw [dropWhile_app]
  split
  · rename_i he
    rw [List.isEmpty_iff.1 he]
    exact gap_over ht
  · rename_i he
    cases hd : r.dropWhile blankB with
    | nil => rw [hd] at he; exact absurd rfl he
    | cons c z => rfl
theorem Behind.head61 {r r' : Bs} (h : Behind r r') : hdB 61 (blanksR r') = hdB 61 (blanksR r) := by
  obtain ⟨t, ht, rfl⟩ := h
  unfold blanksR
  rw [dropWhile_app]
  split
  · rename_i he
    rw [List.isEmpty_iff.1 he]
    have := gap_over ht
    unfold overB blanksR at this
    cases hd : t.dropWhile blankB with
    | nil => rfl
    | cons c z =>
      rw [hd] at this
      have : c = 44 := by simpa [stopB] using this
      subst this; rfl
  · rename_i he
    cases hd : r.dropWhile blankB with
    | nil => rw [hd] at he; exact absurd rfl he
    | cons c z => rfl
theorem Behind.named {r r' : Bs} (h : Behind r r') : namedB r' = namedB r := by
  unfold namedB
  rw [h.word.1, h.word.2.head61]
theorem Behind.single {r r' : Bs} (h : Behind r r') : singleN r' = singleN r ∧ singleM r' = singleM r ∧ Behind (singleZ r) (singleZ r') := by
  obtain ⟨t, ht, rfl⟩ := h
  have h1 : ∀ c, t.head? = some c → tokB c = false := fun c hc => (stop_not (gap_head ht c hc)).2.1
  have h2 : ∀ c, t.head? = some c → eqB c = false := fun c hc => (stop_not (gap_head ht c hc)).2.2
  unfold singleN singleM singleZ
  rw [dropWhile_keep h1]
  exact ⟨takeWhile_app h1, takeWhile_app h2, t, ht, dropWhile_keep h2⟩
theorem Behind.singleR {r r' : Bs} (h : Behind r r') : (Go.Proofs.YtegbacpenolehaaGreatDoor.singleR r = none → Go.Proofs.YtegbacpenolehaaGreatDoor.singleR r' = none) ∧ (∀ t z, Go.Proofs.YtegbacpenolehaaGreatDoor.singleR r = some (t, z) → ∃ z', Go.Proofs.YtegbacpenolehaaGreatDoor.singleR r' = some (t, z') ∧ Behind z z') := by
  obtain ⟨e1, e2, hz⟩ := h.single
  unfold Go.Proofs.YtegbacpenolehaaGreatDoor.singleR
  rw [e1, e2, hz.over]
  split
  · refine ⟨fun h => (by cases h), fun t z h => ?_⟩
    cases h
    exact ⟨_, rfl, hz.blanks⟩
  · exact ⟨fun _ => rfl, fun t z h => (by cases h)⟩
theorem qgo_behind : ∀ (f : Nat) (r t a z : Bs), r.length ≤ f → qgo r = some (a, z) → qgo (r ++ t) = some (a, z ++ t)
  | 0, r, t, a, z, hf, h => by
    have : r = [] := List.eq_nil_of_length_eq_zero (by omega)
    subst this; rw [qgo.eq_def] at h; simp at h
  | f + 1, [], t, a, z, hf, h => by rw [qgo.eq_def] at h; simp at h
  | f + 1, x :: r, t, a, z, hf, h => by
    rw [qgo.eq_def] at h
    rw [List.cons_append, qgo.eq_def]
    simp only at h ⊢
    by_cases h1 : (x == 34) = true
    · rw [if_pos h1] at h ⊢; cases h; rfl
    · rw [if_neg h1] at h ⊢
      by_cases h2 : (x == 92) = true
      · rw [if_pos h2] at h ⊢
        cases r with
        | nil => simp at h
        | cons y r' =>
          rw [List.cons_append]
          simp only at h ⊢
          by_cases h3 : textB y = true
          · rw [if_pos h3] at h ⊢
            cases hq : qgo r' with
            | none => rw [hq] at h; simp at h
            | some p =>
              rw [hq] at h; simp at h
              obtain ⟨rfl, rfl⟩ := h
              rw [qgo_behind f r' t p.1 p.2 (by simp at hf; omega) hq]; rfl
          · rw [if_neg h3] at h; simp at h
      · rw [if_neg h2] at h ⊢
        by_cases h3 : textB x = true
        · rw [if_pos h3] at h ⊢
          cases hq : qgo r with
          | none => rw [hq] at h; simp at h
          | some p =>
            rw [hq] at h; simp at h
            obtain ⟨rfl, rfl⟩ := h
            rw [qgo_behind f r t p.1 p.2 (by simp at hf; omega) hq]; rfl
        · rw [if_neg h3] at h; simp at h
theorem Behind.value {r r' a z : Bs} (h : Behind r r') (hv : valueR r = some (a, z)) : ∃ z', valueR r' = some (a, z') ∧ Behind z z' := by
  obtain ⟨e1, e2⟩ := h.word
  unfold valueR at hv ⊢
  rw [e1]
  split at hv
  · rename_i hw
    rw [if_pos hw]
    obtain ⟨t, ht, rfl⟩ := h
    cases r with
    | nil => cases hv
    | cons c y =>
      have hv' : (if c == 34 then qgo y else none) = some (a, z) := hv
      by_cases hc : (c == 34) = true
      · rw [if_pos hc] at hv'
        refine ⟨z ++ t, ?_, t, ht, rfl⟩
        show (if c == 34 then qgo (y ++ t) else none) = _
        rw [if_pos hc]
        exact qgo_behind _ y t a z (Nat.le_refl _) hv'
      · rw [if_neg hc] at hv'; cases hv'
  · rename_i hw
    cases hv
    rw [if_neg hw]
    exact ⟨_, rfl, e2⟩
theorem Behind.valueAt {r r' : Bs} (h : Behind r r') (hn : namedB r = true) : Behind (Go.Proofs.YtegbacpenolehaaGreatDoor.valueAt r) (Go.Proofs.YtegbacpenolehaaGreatDoor.valueAt r') := by
  have hb := h.word.2.blanks
  unfold Go.Proofs.YtegbacpenolehaaGreatDoor.valueAt
  refine Behind.blanks ?_
  obtain ⟨t, ht, e⟩ := hb
  rw [e]
  unfold namedB at hn
  simp only [Bool.and_eq_true] at hn
  cases hd : blanksR (afterW r) with
  | nil => rw [hd] at hn; cases hn.2
  | cons c z => exact ⟨t, ht, rfl⟩
theorem Behind.param {ps : List Par} {r r' z : Bs} {p : Par} (h : Behind r r') (hp : paramR ps r = .ok (p, z)) : ∃ z', paramR ps r' = .ok (p, z') ∧ Behind z z' := by
  unfold paramR at hp ⊢
  rw [h.named, h.word.1]
  by_cases hn : namedB r = true
  · rw [if_neg (by simp [hn])] at hp ⊢
    cases hv : valueR (Go.Proofs.YtegbacpenolehaaGreatDoor.valueAt r) with
    | none => rw [hv] at hp; cases hp
    | some q =>
      rw [hv] at hp
      obtain ⟨z', e, hz⟩ := (h.valueAt hn).value (a := q.1) (z := q.2) hv
      rw [e]
      simp only at hp ⊢
      split at hp
      · cases hp
      rename_i ht
      split at hp
      · cases hp
      rename_i hk
      cases hp
      rw [if_neg ht, if_neg hk]
      exact ⟨z', rfl, hz⟩
  · rw [if_pos (by simpa using hn)] at hp; cases hp
theorem Behind.params : ∀ (f : Nat) (ps : List Par) (r r' : Bs) (q : List Par × Bs), Behind r r' → paramsN f ps r = .ok q → ∃ z', paramsN f ps r' = .ok (q.1, z') ∧ Behind q.2 z'
  | 0, ps, r, r', q, h, hp => by rw [paramsN] at hp ⊢; cases hp; exact ⟨r', rfl, h⟩
  | f + 1, ps, r, r', q, h, hp => by
    rw [paramsN] at hp ⊢
    cases hr : paramR ps r with
    | error e => rw [hr] at hp; cases hp
    | ok p =>
      obtain ⟨p, r1⟩ := p
      rw [hr] at hp
      obtain ⟨z', e, hz⟩ := h.param hr
      rw [e]
      simp only at hp ⊢
      rw [hz.over, hz.gaps.1.named]
      split at hp
      · rename_i ho
        rw [if_pos ho]
        split at hp
        · rename_i hn
          rw [if_pos hn]
          exact Behind.params f _ _ _ q hz.gaps.1 hp
        · rename_i hn
          rw [if_neg hn]
          cases hp
          exact ⟨_, rfl, hz.gaps.1⟩
      · cases hp
theorem Behind.one {k : Nat} {r r' z : Bs} {x : Cha} (h : Behind r r') (ho : oneR k r = .ok (x, z)) : ∃ z', oneR k r' = .ok (x, z') ∧ Behind z z' := by
  obtain ⟨e1, h2⟩ := h.word
  unfold oneR at ho ⊢
  rw [e1, h2.over]
  split at ho
  · cases ho
  rename_i hw
  rw [if_neg hw]
  split at ho
  · cases ho
  rename_i hk
  rw [if_neg hk]
  split at ho
  · rename_i hov
    rw [if_pos hov]
    cases ho
    exact ⟨_, rfl, h2.blanks⟩
  rename_i hov
  rw [if_neg hov]
  split at ho
  · cases ho
  rename_i hbl
  have hbl' : ¬ (!blankHead (afterW r')) = true := by
    obtain ⟨t, ht, e⟩ := h2
    rw [e]
    cases hd : afterW r with
    | nil => rw [hd] at hbl; exact absurd rfl hbl
    | cons c y => rw [hd] at hbl; exact hbl
  rw [if_neg hbl']
  cases hs : Go.Proofs.YtegbacpenolehaaGreatDoor.singleR (blanksR (afterW r)) with
  | some q =>
    rw [hs] at ho
    obtain ⟨z', e, hz⟩ := h2.blanks.singleR.2 q.1 q.2 hs
    rw [e]
    cases ho
    exact ⟨z', rfl, hz⟩
  | none =>
    rw [hs] at ho
    rw [h2.blanks.singleR.1 hs]
    simp only at ho ⊢
    cases hp : paramsN ((blanksR (afterW r)).length + 1) [] (blanksR (afterW r)) with
    | error e => rw [hp] at ho; cases ho
    | ok q =>
      rw [hp] at ho
      have hle : (blanksR (afterW r)).length ≤ (blanksR (afterW r')).length := by
        obtain ⟨t, _, e⟩ := h2.blanks
        rw [e, List.length_append]; omega
      have hp' : paramsN ((blanksR (afterW r')).length + 1) [] (blanksR (afterW r)) = .ok q := by rw [paramsN_fuel _ _ _ (by omega)]; exact hp
      obtain ⟨z', e, hz⟩ := Behind.params _ _ _ _ q h2.blanks hp'
      rw [e]
      cases ho
      exact ⟨z', rfl, hz⟩
theorem Behind.parse : ∀ (f : Nat) (acc : List Cha) (r r' : Bs) (l : List Cha), Behind r r' → parseN f acc r = .ok l → r.length < f → parseN f acc r' = .ok l
  | 0, acc, r, r', l, h, hp, hf => absurd hf (Nat.not_lt_zero _)
  | f + 1, acc, r, r', l, h, hp, hf => by
    rw [parseN] at hp ⊢
    obtain ⟨hg, he⟩ := h.gaps
    split at hp
    · rename_i h0
      rw [if_pos (he h0)]; exact hp
    · rename_i h0
      have h0' : ¬ (gapsR r').isEmpty = true := by
        obtain ⟨t, _, e⟩ := hg
        rw [e]
        cases hd : gapsR r with
        | nil => rw [hd] at h0; exact absurd rfl h0
        | cons c y => simp
      rw [if_neg h0']
      cases ho : oneR acc.length (gapsR r) with
      | error e => rw [ho] at hp; cases hp
      | ok q =>
        obtain ⟨x, r1⟩ := q
        rw [ho] at hp
        obtain ⟨z', e, hz⟩ := hg.one ho
        rw [e]
        simp only at hp ⊢
        have h1 := oneR_le ho
        have h2 := gapsR_le r
        exact Behind.parse f _ _ _ l hz hp (by omega)
theorem chasL_behind {r t : Bs} {l : List Cha} (ht : t.all gapB = true) (h : chasL r = .ok l) (hl : r.length + t.length ≤ 3000) : chasL (r ++ t) = .ok l := by
  unfold chasL at h ⊢
  rw [if_neg (by omega)] at h
  rw [if_neg (by simp; omega)]
  have h' : parseN ((r ++ t).length + 1) [] r = .ok l := by rw [parseN_fuel _ _ _ (by simp; omega)]; exact h
  exact Behind.parse _ _ _ _ _ ⟨t, ht, rfl⟩ h' (by simp; omega)
end Go.Proofs.YtegbacpenolehaaGreatDoor
