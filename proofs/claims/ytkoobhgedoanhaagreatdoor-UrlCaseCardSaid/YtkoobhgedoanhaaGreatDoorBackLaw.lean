/- A URL that was read is read again from its print. No program in sight. -/
import Derived.Test.YtkoobhgedoanhaaGreatDoorUrlLaws
namespace Go.Proofs.YtkoobhgedoanhaaGreatDoor

/-- a URL's print, as a list -/
def printL (u : UrlL) : List UInt8 := textO u.o ++ (u.path ++ (if u.query = [] then [] else 63 :: u.query))
theorem plainC_no35 : ∀ c : UInt8, plainC c = true → ¬ c = 35 := by
  intro c h e
  subst e
  exact absurd h (by decide +kernel)
theorem plainC_47 : plainC 47 = true := by decide +kernel
theorem path_mem {rest : List UInt8} {x : UInt8} (h : x ∈ cleanL (pathOf rest)) : x = 47 ∨ x ∈ pathOf rest := clean_mem _ x h
theorem pathOf_63 (rest : List UInt8) : (63 : UInt8) ∉ pathOf rest := by
  unfold pathOf
  split
  · decide
  · exact (cutL_is 63 (hostRest rest)).1
theorem takeW_app {p : UInt8 → Bool} : ∀ (a b : List UInt8), (∀ x ∈ a, p x = true) → (∀ x, b.head? = some x → p x = false) → (a ++ b).takeWhile p = a ∧ (a ++ b).dropWhile p = b
  | [], b, _, hb => by
    cases b with
    | nil => exact ⟨rfl, rfl⟩
    | cons x b => have := hb x rfl; exact ⟨by simp [this], by simp [this]⟩
  | y :: a, b, ha, hb => by
    have hy := ha y (List.mem_cons_self ..)
    obtain ⟨h1, h2⟩ := takeW_app a b (fun x hx => ha x (List.mem_cons_of_mem _ hx)) hb
    rw [List.cons_append, List.takeWhile_cons, List.dropWhile_cons, hy]
    simp only [if_true]
    exact ⟨by rw [h1], h2⟩
theorem here_bytes {o : OriL} (h : rightB o = true) : ∀ c ∈ hereO o, (97 ≤ c.toNat ∧ c.toNat ≤ 122) ∨ (48 ≤ c.toNat ∧ c.toNat ≤ 58) ∨ c.toNat = 45 ∨ c.toNat = 46 := by
  have h' := h
  unfold rightB at h'
  simp only [Bool.and_eq_true, decide_eq_true_eq] at h'
  intro c hc
  unfold hereO at hc
  rcases List.mem_append.1 hc with hc | hc
  · have := host_bytes h'.1 c hc; omega
  · split at hc
    · cases hc
    · rcases List.mem_cons.1 hc with rfl | hc
      · right; left; decide
      · rw [itoa_nat (by omega)] at hc
        have := digitB_iff.1 (List.all_eq_true.1 (decDigits_all _) c hc)
        omega
theorem here_len {o : OriL} (h : rightB o = true) : (hereO o).length ≤ 66 := by
  have hr := right_host h
  unfold hereO
  rw [List.length_append]
  split
  · simp; omega
  · have := decDigits_len 4 o.port.toNat (by omega)
    rw [itoa_nat (by omega)]
    simp only [List.length_cons]
    omega
theorem parse_print {l : List UInt8} {u : UrlL} (h : parseL l = .ok u) (hl : l.length ≤ 500) : parseL (printL u) = .ok u := by
  have hq := parse_query_len h
  have hr := parse_right h
  obtain ⟨hp1, hp2, hp3⟩ := parse_path h
  obtain ⟨sec, rest, _, h2, h3, h4, _, hu⟩ := parse_is h
  have hsec : u.o.secure = sec := by rw [hu]; exact place_secure _ _ h2
  have hpath : u.path = cleanL (pathOf rest) := by rw [hu]
  have hquery : u.query = queryOf rest := by rw [hu]
  have hplp : ∀ x ∈ u.path, plainC x = true := by
    intro x hx
    rw [hpath] at hx
    rcases path_mem hx with rfl | hx
    · exact plainC_47
    · have h3' : (pathOf rest).all plainC = true := by unfold pathL plainL at h3; rw [Bool.and_eq_true] at h3; exact h3.2
      exact List.all_eq_true.1 h3' x hx
  have hplq : ∀ x ∈ u.query, plainC x = true := by
    intro x hx
    rw [hquery] at hx
    exact List.all_eq_true.1 (show (queryOf rest).all plainC = true from h4) x hx
  have h63 : (63 : UInt8) ∉ u.path := by
    intro hx
    rw [hpath] at hx
    rcases path_mem hx with e | hx
    · exact absurd e (by decide)
    · exact pathOf_63 rest hx
  obtain ⟨tl, htl⟩ : ∃ tl, tl = u.path ++ (if u.query = [] then [] else 63 :: u.query) := ⟨_, rfl⟩
  have e0 : printL u = headL u.o.secure ++ (hereO u.o ++ tl) := by unfold printL; rw [text_here, htl, List.append_assoc]
  have hpne : u.path ≠ [] := by intro e; rw [e] at hp1; cases hp1
  have htlh : tl.head? = some 47 := by
    rw [htl]
    cases hp : u.path with
    | nil => exact absurd hp hpne
    | cons a r => rw [hp] at hp1; exact hp1
  have hpq : ∀ x ∈ tl, plainC x = true := by
    intro x hx
    rw [htl] at hx
    rcases List.mem_append.1 hx with hx | hx
    · exact hplp x hx
    · split at hx
      · cases hx
      · rcases List.mem_cons.1 hx with rfl | hx
        · decide +kernel
        · exact hplq x hx
  have h35 : (35 : UInt8) ∉ printL u := by
    rw [e0]
    intro hx
    rcases List.mem_append.1 hx with hx | hx
    · revert hx; cases u.o.secure <;> decide
    · rcases List.mem_append.1 hx with hx | hx
      · have := here_bytes hr 35 hx
        have e : (35 : UInt8).toNat = 35 := rfl
        omega
      · exact plainC_no35 35 (hpq 35 hx) rfl
  have hlen : ¬ 3000 < (printL u).length := by
    have a := here_len hr
    have b : (headL u.o.secure).length ≤ 8 := by cases u.o.secure <;> decide
    have c : tl.length ≤ 200 + 1 + 500 := by
      rw [htl, List.length_append]
      split
      · simp; omega
      · simp only [List.length_cons]; omega
    rw [e0, List.length_append, List.length_append]
    omega
  have htw := takeW_app (p := fun c => !([47, 63] : List UInt8).contains c) (hereO u.o) tl
    (fun x hx => by
      have hb := here_bytes hr x hx
      have e1 : ¬ x = 47 := fun e => by subst e; have : (47 : UInt8).toNat = 47 := rfl; omega
      have e2 : ¬ x = 63 := fun e => by subst e; have : (63 : UInt8).toNat = 63 := rfl; omega
      simp [e1, e2])
    (fun x hx => by rw [htlh] at hx; cases hx; decide)
  have hT : hostTill (hereO u.o ++ tl) = hereO u.o := htw.1
  have hR : hostRest (hereO u.o ++ tl) = tl := htw.2
  have hcut : cutL 63 tl = (u.path, u.query, decide (¬ u.query = [])) := by
    rw [htl]
    by_cases hqe : u.query = []
    · rw [if_pos hqe, List.append_nil, cutL_miss 63 _ h63, hqe]; rfl
    · rw [if_neg hqe, cutL_hit 63 _ _ h63, decide_eq_true hqe]
  have hPO : pathOf (hereO u.o ++ tl) = u.path := by unfold pathOf; rw [hR, hcut]; exact if_neg hpne
  have hQO : queryOf (hereO u.o ++ tl) = u.query := by unfold queryOf; rw [hR, hcut]
  have hPL := place_here hr
  have hc35 : (cutL 35 (printL u)).1 = printL u := by rw [cutL_miss 35 _ h35]
  unfold parseL
  rw [if_neg hlen, hc35, e0, scheme_head]
  show parseR u.o.secure (hereO u.o ++ tl) = _
  rw [parseR_5 (by rw [hT, hPL]) (by
      rw [hPO]; unfold pathL plainL
      rw [hp1]
      have : u.path.all plainC = true := List.all_eq_true.2 hplp
      rw [this]; rfl) (by rw [hQO]; exact List.all_eq_true.2 hplq) (by rw [hPO, hp3]; omega), hT, hPL, hPO, hQO, hp3]
end Go.Proofs.YtkoobhgedoanhaaGreatDoor
