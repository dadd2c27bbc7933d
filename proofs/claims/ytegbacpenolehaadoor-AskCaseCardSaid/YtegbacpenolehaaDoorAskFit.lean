/- The sizes of challenges that are read, and of the text that tells them: plain laws. -/
import Derived.Test.YtegbacpenolehaaDoorAskPrint
namespace Go.Proofs.YtegbacpenolehaaDoor
open Go.RowKit

/-- parts no longer than M -/
def PartsLe (M : Nat) (ps : List Par) : Prop := ∀ p ∈ ps, p.1.length ≤ M ∧ p.2.length ≤ M
theorem paramsN_sizes (M : Nat) : ∀ (f : Nat) (ps : List Par) (r : Bs) (q : List Par × Bs), r.length ≤ M → PartsLe M ps → paramsN f ps r = .ok q → PartsLe M q.1
  | 0, ps, r, q, _, hp, h => by rw [paramsN] at h; cases h; exact hp
  | f + 1, ps, r, q, hr, hp, h => by
    rw [paramsN] at h
    cases hq : paramR ps r with
    | error e => rw [hq] at h; cases h
    | ok p =>
      obtain ⟨p, r1⟩ := p
      rw [hq] at h
      have hle := paramR_le hq
      have hg := gapsR_le r1
      have hn : PartsLe M (ps ++ [p]) := by
        intro a ha
        rcases List.mem_append.1 ha with g | g
        · exact hp a g
        · simp at g; subst g; exact ⟨by omega, by omega⟩
      simp only at h
      split at h
      · split at h
        · exact paramsN_sizes M f _ _ q (by omega) hn h
        · cases h; exact hn
      · cases h
structure Cha.Le (M : Nat) (x : Cha) : Prop where
  scheme : x.scheme.length ≤ M
  token : x.token.length ≤ M
  pars : PartsLe M x.params
theorem oneR_sizes {M k : Nat} {r : Bs} {x : Cha} {z : Bs} (hr : r.length ≤ M) (h : oneR k r = .ok (x, z)) : x.Le M := by
  have hw := wordR_len r
  have hb := blanksR_le (afterW r)
  unfold oneR at h
  split at h
  · cases h
  split at h
  · cases h
  split at h
  · cases h; exact ⟨by show (wordR r).length ≤ M; omega, Nat.zero_le _, fun p hp => by cases hp⟩
  split at h
  · cases h
  split at h
  · rename_i q hq
    obtain ⟨t, z'⟩ := q
    have := singleR_le hq
    cases h; exact ⟨by show (wordR r).length ≤ M; omega, by show t.length ≤ M; omega, fun p hp => by cases hp⟩
  · split at h
    · cases h
    · rename_i q hq
      have := paramsN_sizes M _ _ _ _ (by omega) (fun p hp => by cases hp) hq
      cases h; exact ⟨by show (wordR r).length ≤ M; omega, Nat.zero_le _, this⟩
theorem parseN_sizes (M : Nat) : ∀ (f : Nat) (acc : List Cha) (r : Bs) (l : List Cha), r.length ≤ M → (∀ x ∈ acc, x.Le M) → parseN f acc r = .ok l → ∀ x ∈ l, x.Le M
  | 0, acc, r, l, _, ha, h => by rw [parseN] at h; cases h; exact ha
  | f + 1, acc, r, l, hr, ha, h => by
    rw [parseN] at h
    split at h
    · cases h; exact ha
    · cases ho : oneR acc.length (gapsR r) with
      | error e => rw [ho] at h; cases h
      | ok q =>
        obtain ⟨x, r1⟩ := q
        rw [ho] at h
        have h1 := oneR_le ho
        have h2 := gapsR_le r
        have hx := oneR_sizes (M := M) (by omega) ho
        refine parseN_sizes M f _ _ l (by omega) (fun y hy => ?_) h
        rcases List.mem_append.1 hy with g | g
        · exact ha y g
        · simp at g; subst g; exact hx
theorem chasL_sizes {r : Bs} {l : List Cha} (h : chasL r = .ok l) : ∀ x ∈ l, x.Le r.length := by
  unfold chasL at h
  split at h
  · cases h
  · exact parseN_sizes _ _ _ _ _ (Nat.le_refl _) (fun x hx => by cases hx) h
theorem chasL_short {r : Bs} {l : List Cha} (h : chasL r = .ok l) : r.length ≤ 3000 := by
  unfold chasL at h
  split at h
  · cases h
  · omega
theorem chasL_fit {r : Bs} {l : List Cha} (h : chasL r = .ok l) : ∀ x ∈ l, x.Fit := by
  intro x hx
  have h1 := chasL_sizes h x hx
  have h2 := chasL_short h
  have h3 := (chasL_ok h).1 x hx
  exact ⟨by have := h1.scheme; omega, by have := h1.token; omega, h3.few, fun p hp => by have := h1.pars p hp; omega⟩
theorem okC_of {x : Cha} (h : x.Ok) : okC x = true := by
  unfold okC
  rw [List.all_eq_true]
  exact fun p hp => (h.pars p hp).2
theorem chasT_le {xs : List Cha} (hz : ∀ x ∈ xs, x.Fit) (hl : xs.length ≤ 8) : (chasT xs).length ≤ 140737488351232 := by
  unfold chasT
  rw [toldsT_join]
  have h1 := joinC_le 5100000 ((xs.map Cha.told).map Told.T) (fun y hy => by
    obtain ⟨t, ht, rfl⟩ := List.mem_map.1 hy
    obtain ⟨x, hx, rfl⟩ := List.mem_map.1 ht
    have h2 := partT_le (hz x hx) x.params.length (Nat.le_refl _)
    have h3 := (hz x hx).few
    rw [partT_all] at h2
    omega)
  simp only [List.length_map] at h1
  have h2 : xs.length * (5100000 + 2) ≤ 8 * (5100000 + 2) := Nat.mul_le_mul_right _ hl
  omega
theorem chasT_parse {xs : List Cha} (ho : ∀ x ∈ xs, x.Ok) (hl : xs.length ≤ 8) : (chasT xs).length ≤ 3000 ∧ chasL (chasT xs) = .ok xs ∨ 3000 < (chasT xs).length ∧ chasL (chasT xs) = .error 4 := by
  by_cases h : (chasT xs).length ≤ 3000
  · exact Or.inl ⟨h, chas_back ho hl h⟩
  · refine Or.inr ⟨by omega, ?_⟩
    unfold chasL
    rw [if_pos (by omega)]
end Go.Proofs.YtegbacpenolehaaDoor
