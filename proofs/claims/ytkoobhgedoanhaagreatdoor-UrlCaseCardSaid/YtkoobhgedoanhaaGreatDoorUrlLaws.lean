/- URLs that were read: plain laws. No program in sight. -/
import Derived.Test.YtkoobhgedoanhaaGreatDoorPlainU
import Derived.Test.YtkoobhgedoanhaaGreatDoorPrintP
import Derived.Test.YtkoobhgedoanhaaGreatDoorClean
namespace Go.Proofs.YtkoobhgedoanhaaGreatDoor

theorem parse_is {l : List UInt8} {u : UrlL} (h : parseL l = .ok u) : ∃ sec rest, schemeL (cutL 35 l).1 = some (sec, rest) ∧ (placeL sec (hostTill rest)).2 = true ∧ pathL (pathOf rest) = true ∧ plainL (queryOf rest) = true ∧
    ¬ 200 < (cleanL (pathOf rest)).length ∧ u = ⟨(placeL sec (hostTill rest)).1, cleanL (pathOf rest), queryOf rest⟩ := by
  unfold parseL at h
  split at h
  · cases h
  · split at h
    · cases h
    · rename_i p hp
      unfold parseR at h
      by_cases h1 : (placeL p.1 (hostTill p.2)).2 = false
      · rw [if_pos h1] at h; cases h
      · rw [if_neg h1] at h
        by_cases h2 : pathL (pathOf p.2) = false
        · rw [if_pos h2] at h; cases h
        · rw [if_neg h2] at h
          by_cases h3 : plainL (queryOf p.2) = false
          · rw [if_pos h3] at h; cases h
          · rw [if_neg h3] at h
            by_cases h4 : 200 < (cleanL (pathOf p.2)).length
            · rw [if_pos h4] at h; cases h
            · rw [if_neg h4] at h
              exact ⟨p.1, p.2, hp, by simpa using h1, by simpa using h2, by simpa using h3, h4, (Except.ok.inj h).symm⟩
theorem cut_len (c : UInt8) (l : List UInt8) : (cutL c l).1.length ≤ l.length ∧ (cutL c l).2.1.length ≤ l.length := by
  rcases (cutL_is c l).2 with ⟨_, h⟩ | ⟨_, h, h2⟩
  · have := congrArg List.length h
    simp at this
    omega
  · rw [h2, ← h]; exact ⟨Nat.le_refl _, Nat.zero_le _⟩
theorem rest_len (l : List UInt8) : (hostRest l).length ≤ l.length := (List.dropWhile_suffix _).length_le
theorem parse_query_len {l : List UInt8} {u : UrlL} (h : parseL l = .ok u) : u.query.length ≤ l.length := by
  obtain ⟨sec, rest, h1, _, _, _, _, rfl⟩ := parse_is h
  have a := (cut_len 63 (hostRest rest)).2
  have b := rest_len rest
  have c := scheme_len h1
  have d := (cut_len 35 l).1
  show (queryOf rest).length ≤ _
  unfold queryOf
  omega
theorem parse_right {l : List UInt8} {u : UrlL} (h : parseL l = .ok u) : rightB u.o = true := by
  obtain ⟨sec, rest, _, h2, _, _, _, rfl⟩ := parse_is h
  exact place_right _ _ h2
theorem right_host {o : OriL} (h : rightB o = true) : o.host.length ≤ 60 ∧ 1 ≤ o.port ∧ o.port ≤ 65535 := by
  unfold rightB hostB at h
  simp only [Bool.and_eq_true, decide_eq_true_eq] at h
  exact ⟨h.1.1, h.2.1, h.2.2⟩
theorem parse_path {l : List UInt8} {u : UrlL} (h : parseL l = .ok u) : u.path.head? = some 47 ∧ u.path.length ≤ 200 ∧ cleanL u.path = u.path := by
  obtain ⟨sec, rest, _, _, _, _, h5, rfl⟩ := parse_is h
  exact ⟨clean_head _, Nat.le_of_not_lt h5, clean_twice _⟩
/-- what Parse answers, in two cases -/
theorem parseV_cases (l : List UInt8) : (∃ n : Nat, parseV l = .tuple #[.agg #[.bool false, .string ⟨#[]⟩, .int .i64 0, .string ⟨#[]⟩, .string ⟨#[]⟩], .iface 93 (.int .i64 n)]) ∨
    ∃ u : UrlL, parseL l = .ok u ∧ parseV l = .tuple #[.agg u.cells.toArray, .nilIface] := by
  unfold parseV
  cases parseL l with
  | ok u => exact Or.inr ⟨u, rfl, rfl⟩
  | error n => exact Or.inl ⟨n, rfl⟩
end Go.Proofs.YtkoobhgedoanhaaGreatDoor
