/- Splitting at a byte, joining, and paths without point parts: plain laws. No program in sight. -/
import Derived.Test.YtkoobhgedoanhaaGreatDoorBase
namespace Go.Proofs.YtkoobhgedoanhaaGreatDoor

/-- the parts of l between the bytes c -/
def splitL (c : UInt8) : List UInt8 → List (List UInt8)
  | [] => [[]]
  | x :: l => if x = c then [] :: splitL c l else match splitL c l with
    | [] => [[x]]
    | p :: ps => (x :: p) :: ps
/-- joined by one byte -/
def joinL (c : UInt8) : List (List UInt8) → List UInt8
  | [] => []
  | [p] => p
  | p :: q :: ps => p ++ c :: joinL c (q :: ps)
theorem splitL_ne (c : UInt8) : ∀ l, splitL c l ≠ []
  | [] => by simp [splitL]
  | x :: l => by
    unfold splitL
    split
    · simp
    · split <;> simp
theorem splitL_free (c : UInt8) : ∀ l, ∀ p ∈ splitL c l, c ∉ p
  | [], p, h => by simp [splitL] at h; subst h; simp
  | x :: l, p, h => by
    have ih := splitL_free c l
    unfold splitL at h
    split at h
    · rcases List.mem_cons.1 h with rfl | h
      · simp
      · exact ih p h
    · rename_i hx
      split at h
      · rename_i e; exact absurd e (splitL_ne c l)
      · rename_i q qs e
        rw [e] at ih
        rcases List.mem_cons.1 h with rfl | h
        · intro hc
          rcases List.mem_cons.1 hc with rfl | hc
          · exact hx rfl
          · exact ih q (List.mem_cons_self ..) hc
        · exact ih p (List.mem_cons_of_mem _ h)
theorem splitL_hit (c : UInt8) (l : List UInt8) : splitL c (c :: l) = [] :: splitL c l := by rw [splitL, if_pos rfl]
theorem splitL_step {c x : UInt8} {l p : List UInt8} {ps : List (List UInt8)} (hx : ¬ x = c) (h : splitL c l = p :: ps) : splitL c (x :: l) = (x :: p) :: ps := by rw [splitL, if_neg hx, h]
/-- a part ahead of the first c -/
theorem splitL_app (c : UInt8) : ∀ (p l : List UInt8), c ∉ p → splitL c (p ++ c :: l) = p :: splitL c l
  | [], l, _ => splitL_hit c l
  | x :: p, l, h => by
    have hx : ¬ x = c := fun e => h (by rw [e]; exact List.mem_cons_self ..)
    exact splitL_step hx (splitL_app c p l (fun e => h (List.mem_cons_of_mem _ e)))
theorem splitL_one (c : UInt8) : ∀ p : List UInt8, c ∉ p → splitL c p = [p]
  | [], _ => rfl
  | x :: p, h => by
    have hx : ¬ x = c := fun e => h (by rw [e]; exact List.mem_cons_self ..)
    exact splitL_step hx (splitL_one c p (fun e => h (List.mem_cons_of_mem _ e)))
theorem split_join (c : UInt8) : ∀ ps : List (List UInt8), ps ≠ [] → (∀ p ∈ ps, c ∉ p) → splitL c (joinL c ps) = ps
  | [], h, _ => absurd rfl h
  | [p], _, h => by rw [joinL]; exact splitL_one c p (h p (List.mem_cons_self ..))
  | p :: q :: ps, _, h => by
    rw [joinL, splitL_app c p _ (h p (List.mem_cons_self ..)), split_join c (q :: ps) (by simp) (fun r hr => h r (List.mem_cons_of_mem _ hr))]
theorem join_split (c : UInt8) : ∀ l : List UInt8, joinL c (splitL c l) = l
  | [] => rfl
  | x :: l => by
    have ih := join_split c l
    have hne := splitL_ne c l
    unfold splitL
    split
    · rename_i hx
      subst hx
      cases e : splitL x l with
      | nil => exact absurd e hne
      | cons p ps => rw [joinL, ← e, ih]; rfl
    · cases e : splitL c l with
      | nil => exact absurd e hne
      | cons p ps =>
        rw [e] at ih
        show joinL c ((x :: p) :: ps) = x :: l
        cases ps with
        | nil => rw [joinL] at ih ⊢; rw [ih]
        | cons q qs => rw [joinL] at ih ⊢; rw [List.cons_append, ih]

/-! ### Clean -/
def dotP : List UInt8 := [46]
def dotsP : List UInt8 := [46, 46]
def popP (l : List (List UInt8)) : List (List UInt8) := if 1 < l.length then l.dropLast else l
/-- one part -/
def cleanStep (l : List (List UInt8)) (p : List UInt8) (last : Bool) : List (List UInt8) :=
  if p = dotsP then (if last then popP l ++ [[]] else popP l)
  else if p = dotP then (if last then l ++ [[]] else l)
  else l ++ [p]
def cleanGo : List (List UInt8) → List (List UInt8) → List (List UInt8)
  | l, [] => l
  | l, p :: ps => cleanGo (cleanStep l p ps.isEmpty) ps
def rootL (s : List UInt8) : List UInt8 := if s.head? = some 47 then s else 47 :: s
def cleanParts (s : List UInt8) : List (List UInt8) := cleanGo [] (splitL 47 (rootL s))
def cleanL (s : List UInt8) : List UInt8 := joinL 47 (cleanParts s)

def okP (p : List UInt8) : Prop := p ≠ dotsP ∧ p ≠ dotP ∧ (47 : UInt8) ∉ p
theorem okP_nil : okP [] := ⟨by decide, by decide, by simp⟩
/-- what is held while parts go by: nothing, or the empty first one and parts that are no points -/
def heldP (l : List (List UInt8)) : Prop := ∃ r, l = [] :: r ∧ ∀ p ∈ r, okP p
theorem heldP_pop {l : List (List UInt8)} (h : heldP l) : heldP (popP l) := by
  obtain ⟨r, rfl, hr⟩ := h
  unfold popP
  split
  · cases r with
    | nil => rename_i h1; simp at h1
    | cons a r =>
      refine ⟨(a :: r).dropLast, ?_, fun p hp => hr p (List.dropLast_subset _ hp)⟩
      rw [List.dropLast_cons_of_ne_nil (by simp)]
  · exact ⟨r, rfl, hr⟩
theorem heldP_push {l : List (List UInt8)} (h : heldP l) {p : List UInt8} (hp : okP p) : heldP (l ++ [p]) := by
  obtain ⟨r, rfl, hr⟩ := h
  refine ⟨r ++ [p], rfl, fun q hq => ?_⟩
  rcases List.mem_append.1 hq with hq | hq
  · exact hr q hq
  · rw [List.mem_singleton] at hq; subst hq; exact hp
theorem heldP_step {l : List (List UInt8)} (h : heldP l) (p : List UInt8) (hp : (47 : UInt8) ∉ p) (last : Bool) : heldP (cleanStep l p last) := by
  unfold cleanStep
  split
  · split
    · exact heldP_push (heldP_pop h) okP_nil
    · exact heldP_pop h
  · rename_i h1
    split
    · split
      · exact heldP_push h okP_nil
      · exact h
    · rename_i h2
      exact heldP_push h ⟨h1, h2, hp⟩
theorem popP_ne {l : List (List UInt8)} (h : heldP l) : 1 ≤ (popP l).length := by
  obtain ⟨r, e, _⟩ := heldP_pop h; rw [e]; simp
theorem heldP_last {l : List (List UInt8)} (h : heldP l) (p : List UInt8) : 2 ≤ (cleanStep l p true).length := by
  have h1 := popP_ne h
  have h2 : 1 ≤ l.length := by obtain ⟨r, e, _⟩ := h; rw [e]; simp
  unfold cleanStep
  split
  · simp; omega
  · split
    · simp; omega
    · simp; omega
theorem heldP_go : ∀ (ps l : List (List UInt8)), heldP l → (∀ p ∈ ps, (47 : UInt8) ∉ p) → ps ≠ [] → heldP (cleanGo l ps) ∧ 2 ≤ (cleanGo l ps).length
  | [], _, _, _, h => absurd rfl h
  | [p], l, h, hp, _ => ⟨heldP_step h p (hp p (List.mem_cons_self ..)) _, heldP_last h p⟩
  | p :: q :: ps, l, h, hp, _ => by
    show heldP (cleanGo (cleanStep l p _) (q :: ps)) ∧ _
    exact heldP_go (q :: ps) _ (heldP_step h p (hp p (List.mem_cons_self ..)) _) (fun r hr => hp r (List.mem_cons_of_mem _ hr)) (by simp)
theorem root_split (s : List UInt8) : ∃ t, rootL s = 47 :: t := by
  unfold rootL
  split
  · rename_i h
    cases s with
    | nil => cases h
    | cons a t => simp at h; exact ⟨t, by rw [h]⟩
  · exact ⟨s, rfl⟩
theorem clean_held (s : List UInt8) : ∃ a r, cleanParts s = [] :: a :: r ∧ (∀ p ∈ a :: r, okP p) := by
  obtain ⟨t, ht⟩ := root_split s
  have hg := heldP_go (splitL 47 t) [[]] ⟨[], rfl, fun _ h => by cases h⟩ (splitL_free 47 t) (splitL_ne 47 t)
  have e : cleanParts s = cleanGo [[]] (splitL 47 t) := by
    unfold cleanParts
    rw [ht]
    show cleanGo [] ([] :: splitL 47 t) = _
    show cleanGo (cleanStep [] [] _) (splitL 47 t) = _
    rfl
  rw [← e] at hg
  obtain ⟨⟨r, h1, h2⟩, h3⟩ := hg
  rw [h1] at h3
  cases r with
  | nil => simp at h3
  | cons a r => exact ⟨a, r, h1, h2⟩
/-- what holds no points stays -/
theorem clean_stays : ∀ (ps l : List (List UInt8)), (∀ p ∈ ps, okP p) → cleanGo l ps = l ++ ps
  | [], l, _ => by simp [cleanGo]
  | p :: ps, l, h => by
    have hp := h p (List.mem_cons_self ..)
    show cleanGo (cleanStep l p ps.isEmpty) ps = _
    have e : cleanStep l p ps.isEmpty = l ++ [p] := by unfold cleanStep; rw [if_neg hp.1, if_neg hp.2.1]
    rw [e, clean_stays ps _ (fun q hq => h q (List.mem_cons_of_mem _ hq))]
    simp
theorem clean_split (s : List UInt8) : splitL 47 (cleanL s) = cleanParts s := by
  obtain ⟨a, r, h, ho⟩ := clean_held s
  unfold cleanL
  refine split_join 47 _ (by rw [h]; simp) ?_
  rw [h]
  intro p hp
  rcases List.mem_cons.1 hp with rfl | hp
  · simp
  · exact (ho p hp).2.2
theorem clean_head (s : List UInt8) : (cleanL s).head? = some 47 := by
  obtain ⟨a, r, h, _⟩ := clean_held s
  unfold cleanL
  rw [h]
  rfl
theorem clean_twice (s : List UInt8) : cleanL (cleanL s) = cleanL s := by
  have hs := clean_split s
  obtain ⟨a, r, h, ho⟩ := clean_held s
  have e : cleanParts (cleanL s) = cleanParts s := by
    unfold cleanParts
    rw [show rootL (cleanL s) = cleanL s from if_pos (clean_head s), hs]
    show cleanGo [] (cleanParts s) = cleanParts s
    rw [clean_stays (cleanParts s) [] ?_]
    · rfl
    · rw [h]
      intro p hp
      rcases List.mem_cons.1 hp with rfl | hp
      · exact okP_nil
      · exact ho p hp
  rw [cleanL, e]; rfl
theorem clean_nodots (s : List UInt8) : ∀ p ∈ splitL 47 (cleanL s), p ≠ dotP ∧ p ≠ dotsP := by
  rw [clean_split]
  obtain ⟨a, r, h, ho⟩ := clean_held s
  rw [h]
  intro p hp
  rcases List.mem_cons.1 hp with rfl | hp
  · exact ⟨by decide, by decide⟩
  · exact ⟨(ho p hp).2.1, (ho p hp).1⟩
/-- Clean brings no byte but / -/
theorem split_mem (c : UInt8) : ∀ (l p : List UInt8), p ∈ splitL c l → ∀ x ∈ p, x ∈ l
  | [], p, h, x, hx => by simp [splitL] at h; subst h; cases hx
  | y :: l, p, h, x, hx => by
    have ih := split_mem c l
    unfold splitL at h
    split at h
    · rcases List.mem_cons.1 h with rfl | h
      · cases hx
      · exact List.mem_cons_of_mem _ (ih p h x hx)
    · split at h
      · rename_i e; exact absurd e (splitL_ne c l)
      · rename_i q qs e
        rw [e] at ih
        rcases List.mem_cons.1 h with rfl | h
        · rcases List.mem_cons.1 hx with rfl | hx
          · exact List.mem_cons_self ..
          · exact List.mem_cons_of_mem _ (ih q (List.mem_cons_self ..) x hx)
        · exact List.mem_cons_of_mem _ (ih p (List.mem_cons_of_mem _ h) x hx)
theorem join_mem (c : UInt8) : ∀ (ps : List (List UInt8)) (x : UInt8), x ∈ joinL c ps → x = c ∨ ∃ p ∈ ps, x ∈ p
  | [], x, h => by cases h
  | [p], x, h => Or.inr ⟨p, List.mem_cons_self .., h⟩
  | p :: q :: ps, x, h => by
    rw [joinL] at h
    rcases List.mem_append.1 h with h | h
    · exact Or.inr ⟨p, List.mem_cons_self .., h⟩
    · rcases List.mem_cons.1 h with h | h
      · exact Or.inl h
      · rcases join_mem c (q :: ps) x h with h | ⟨r, hr, hx⟩
        · exact Or.inl h
        · exact Or.inr ⟨r, List.mem_cons_of_mem _ hr, hx⟩
theorem step_mem {P : List UInt8 → Prop} (h0 : P []) {l : List (List UInt8)} (hl : ∀ p ∈ l, P p) {p : List UInt8} (hp : P p) (last : Bool) : ∀ q ∈ cleanStep l p last, P q := by
  have hpop : ∀ q ∈ popP l, P q := by
    unfold popP
    split
    · exact fun q hq => hl q (List.dropLast_subset _ hq)
    · exact hl
  have hap : ∀ (m : List (List UInt8)) (r : List UInt8), (∀ q ∈ m, P q) → P r → ∀ q ∈ m ++ [r], P q := fun m r hm hr q hq => by
    rcases List.mem_append.1 hq with hq | hq
    · exact hm q hq
    · rw [List.mem_singleton] at hq; subst hq; exact hr
  unfold cleanStep
  split
  · split
    · exact hap _ _ hpop h0
    · exact hpop
  · split
    · split
      · exact hap _ _ hl h0
      · exact hl
    · exact hap _ _ hl hp
theorem go_mem {P : List UInt8 → Prop} (h0 : P []) : ∀ (ps l : List (List UInt8)), (∀ p ∈ l, P p) → (∀ p ∈ ps, P p) → ∀ q ∈ cleanGo l ps, P q
  | [], _, hl, _ => hl
  | p :: ps, _, hl, hp => go_mem h0 ps _ (step_mem h0 hl (hp p (List.mem_cons_self ..)) _) (fun q hq => hp q (List.mem_cons_of_mem _ hq))
theorem clean_mem (s : List UInt8) (x : UInt8) (hx : x ∈ cleanL s) : x = 47 ∨ x ∈ s := by
  rcases join_mem 47 _ x hx with h | ⟨p, hp, hxp⟩
  · exact Or.inl h
  · refine go_mem (P := fun p => ∀ y ∈ p, y = 47 ∨ y ∈ s) (by simp) _ [] (fun p hp => by cases hp) (fun q hq y hy => ?_) p hp x hxp
    have := split_mem 47 _ q hq y hy
    unfold rootL at this
    split at this
    · exact Or.inr this
    · rcases List.mem_cons.1 this with h | h
      · exact Or.inl h
      · exact Or.inr h
/-- Clean lengthens by two bytes at most -/
theorem join_len (c : UInt8) : ∀ ps : List (List UInt8), (joinL c ps).length + 1 = (ps.map fun p => p.length + 1).sum + (if ps = [] then 1 else 0)
  | [] => rfl
  | [p] => by simp [joinL]
  | p :: q :: ps => by
    have ih := join_len c (q :: ps)
    rw [joinL]
    simp at ih ⊢
    omega
end Go.Proofs.YtkoobhgedoanhaaGreatDoor
