/- Where the head of a URL that was read ends, and its upper case: plain laws. No program in sight. -/
import Derived.Test.YtkoobhgedoanhaaGreatDoorCaseLaw
import Derived.Lib.Index
import Derived.Lib.IndexAny
import Derived.Lib.Case
namespace Go.Proofs.YtkoobhgedoanhaaGreatDoor

theorem upper_up (l : List UInt8) : Lib.toUpperA l = upL l := by
  unfold Lib.toUpperA upL
  refine List.map_congr_left fun c _ => ?_
  have e : Lib.isLowerB c = true ↔ 97 ≤ c.toNat ∧ c.toNat ≤ 122 := by
    unfold Lib.isLowerB
    simp only [Bool.and_eq_true, decide_eq_true_eq, UInt8.le_iff_toNat_le]
    exact Iff.rfl
  unfold Lib.upperB upB
  by_cases h : 97 ≤ c.toNat ∧ c.toNat ≤ 122
  · rw [if_pos h, if_pos (e.2 h)]
  · rw [if_neg h, if_neg (fun q => h (e.1 q))]
theorem lowB_hit {c d : UInt8} (hd : ¬ (97 ≤ d.toNat ∧ d.toNat ≤ 122)) (h : lowB c = d) : c = d := by
  unfold lowB at h
  split at h
  · rename_i hc
    exfalso
    apply hd
    rw [← h, UInt8.toNat_add]
    show 97 ≤ (c.toNat + 32) % 256 ∧ (c.toNat + 32) % 256 ≤ 122
    omega
  · exact h
theorem lowB_lt {c : UInt8} (h : (lowB c).toNat < 128) : c.toNat < 128 := by
  unfold lowB at h
  split at h
  · rename_i hc; omega
  · exact h
/-- the bytes of a head -/
theorem head_bytes {hd : List UInt8} {sec : Bool} (h2 : lowL hd = headL sec) : ∃ w, hd = w ++ [58, 47, 47] ∧ (∀ c ∈ w, ¬ c = 58) ∧ ∀ c ∈ hd, c.toNat < 128 := by
  have hl : hd.length = (headL sec).length := by rw [← h2]; unfold lowL; simp
  have hlow : ∀ c ∈ hd, c.toNat < 128 := by
    intro c hc
    have : lowB c ∈ headL sec := by rw [← h2]; exact List.mem_map.2 ⟨c, hc, rfl⟩
    apply lowB_lt
    revert this
    generalize lowB c = d
    cases sec
    · intro hd'; simp only [headL, httpL, Bool.false_eq_true, if_false, List.mem_cons, List.not_mem_nil, or_false] at hd'
      rcases hd' with rfl | rfl | rfl | rfl | rfl | rfl | rfl <;> decide
    · intro hd'; simp only [headL, httpsL, if_true, List.mem_cons, List.not_mem_nil, or_false] at hd'
      rcases hd' with rfl | rfl | rfl | rfl | rfl | rfl | rfl | rfl <;> decide
  have no58 : ∀ {c d : UInt8}, lowB c = d → d ≠ 58 → ¬ c = 58 := by
    intro c d h hd e
    subst e
    exact hd (h.symm.trans (by decide))
  cases sec
  · match hd, hl with
    | [a, b, c, d, e, f, g], _ =>
      simp only [lowL, List.map_cons, List.map_nil, headL, httpL, Bool.false_eq_true, if_false, List.cons.injEq, and_true] at h2
      obtain ⟨ha, hb, hc, hdd, he, hf, hg⟩ := h2
      obtain rfl := lowB_hit (by decide) he
      obtain rfl := lowB_hit (by decide) hf
      obtain rfl := lowB_hit (by decide) hg
      refine ⟨[a, b, c, d], rfl, ?_, hlow⟩
      intro x hx
      simp only [List.mem_cons, List.not_mem_nil, or_false] at hx
      rcases hx with rfl | rfl | rfl | rfl
      · exact no58 ha (by decide)
      · exact no58 hb (by decide)
      · exact no58 hc (by decide)
      · exact no58 hdd (by decide)
  · match hd, hl with
    | [a, b, c, d, q, e, f, g], _ =>
      simp only [lowL, List.map_cons, List.map_nil, headL, httpsL, if_true, List.cons.injEq, and_true] at h2
      obtain ⟨ha, hb, hc, hdd, hq, he, hf, hg⟩ := h2
      obtain rfl := lowB_hit (by decide) he
      obtain rfl := lowB_hit (by decide) hf
      obtain rfl := lowB_hit (by decide) hg
      refine ⟨[a, b, c, d, q], rfl, ?_, hlow⟩
      intro x hx
      simp only [List.mem_cons, List.not_mem_nil, or_false] at hx
      rcases hx with rfl | rfl | rfl | rfl | rfl
      · exact no58 ha (by decide)
      · exact no58 hb (by decide)
      · exact no58 hc (by decide)
      · exact no58 hdd (by decide)
      · exact no58 hq (by decide)
/-- where :// stands first -/
theorem index_head {w t : List UInt8} (h : ∀ c ∈ w, ¬ c = 58) : Lib.index (w ++ [58, 47, 47] ++ t) [58, 47, 47] = (w.length : Int) := by
  refine Lib.index_first (i := w.length) (by simp) ?_ ?_
  · unfold Lib.occAt
    rw [List.append_assoc, List.drop_left]
    rfl
  · intro j hj
    unfold Lib.occAt
    rw [List.append_assoc, List.drop_append_of_le_length (by omega)]
    have hx : w.drop j = w[j] :: w.drop (j + 1) := List.drop_eq_getElem_cons hj
    rw [hx]
    have := h w[j] (List.getElem_mem hj)
    show (58 == w[j] && _) = false
    rw [beq_eq_false_iff_ne.2 (Ne.symm this)]; rfl
theorem indexAny_app {r b : List UInt8} (hr : ∀ c ∈ r, ¬ c = 47 ∧ ¬ c = 63 ∧ ¬ c = 35) (hb : ∀ x, b.head? = some x → x = 47 ∨ x = 63 ∨ x = 35) :
    Lib.indexAny (r ++ b) [47, 63, 35] = if b = [] then -1 else (r.length : Int) := by
  have hno : ∀ c ∈ r, ([47, 63, 35] : List UInt8).contains c = false := by
    intro c hc
    have := hr c hc
    simp [this.1, this.2.1, this.2.2]
  cases b with
  | nil =>
    rw [if_pos rfl]
    refine Lib.indexAny_none ?_
    intro j x _ hx
    rw [List.append_nil] at hx
    exact hno x (List.mem_of_getElem? hx)
  | cons y b =>
    rw [if_neg (by simp)]
    refine Lib.indexAny_hit (i := r.length) (x := y) ?_ (by simp) ?_
    · intro j x hj hx
      rw [List.getElem?_append_left hj] at hx
      exact hno x (List.mem_of_getElem? hx)
    · rcases hb y rfl with rfl | rfl | rfl <;> decide
theorem takeW_all {p : UInt8 → Bool} : ∀ {l : List UInt8} {x : UInt8}, x ∈ l.takeWhile p → p x = true
  | [], _, h => by cases h
  | y :: l, x, h => by
    rw [List.takeWhile_cons] at h
    split at h
    · rename_i hy
      rcases List.mem_cons.1 h with rfl | h
      · exact hy
      · exact takeW_all h
    · cases h
theorem dropW_head {p : UInt8 → Bool} : ∀ {l : List UInt8} {x : UInt8}, (l.dropWhile p).head? = some x → p x = false
  | [], _, h => by cases h
  | y :: l, x, h => by
    rw [List.dropWhile_cons] at h
    split at h
    · exact dropW_head h
    · rename_i hy
      have : y = x := by simpa using h
      rw [← this]; simpa using hy
/-- the bytes of a place -/
theorem host_lt {m : List UInt8} (hm : hostB (lowL m) = true) : ∀ c ∈ m, c.toNat < 128 := by
  intro c hc
  have := host_bytes hm (lowB c) (List.mem_map.2 ⟨c, hc, rfl⟩)
  exact lowB_lt (by omega)
theorem place_low {sec : Bool} {l : List UInt8} (h : (placeL sec l).2 = true) : ∀ c ∈ l, c.toNat < 128 := by
  unfold placeL at h
  split at h
  · rename_i h1
    split at h
    · cases h
    · rename_i h2
      have hh : hostB (lowL (cutL 58 l).1) = true := by
        unfold rightB at h
        simp only [Bool.and_eq_true] at h
        exact h.1
      have hd : (cutL 58 l).2.1.all digitB = true := by
        by_cases q : (cutL 58 l).2.1.all digitB = true
        · exact q
        · exact absurd (Or.inr (Or.inr q)) h2
      intro c hc
      rcases (cutL_is 58 l).2 with ⟨_, e⟩ | ⟨e, _⟩
      · rw [e] at hc
        rcases List.mem_append.1 hc with hc | hc
        · exact host_lt hh c hc
        · rcases List.mem_cons.1 hc with rfl | hc
          · decide
          · have := digitB_iff.1 (List.all_eq_true.1 hd c hc); omega
      · rw [h1] at e; cases e
  · have hh : hostB (lowL l) = true := by
      unfold rightB at h
      simp only [Bool.and_eq_true] at h
      exact h.1
    exact host_lt hh
/-- UrlCase -/
theorem case_law {l : List UInt8} {u : UrlL} (h : parseL l = .ok u) : ∃ w r b : List UInt8, l = w ++ [58, 47, 47] ++ r ++ b ∧ Lib.index l [58, 47, 47] = (w.length : Int) ∧
    Lib.indexAny (r ++ b) [47, 63, 35] = (if b = [] then -1 else (r.length : Int)) ∧ (∀ c ∈ w ++ [58, 47, 47] ++ r, c.toNat < 128) ∧ parseL (Lib.toUpperA (w ++ [58, 47, 47] ++ r) ++ b) = .ok u := by
  obtain ⟨sec, rest, h1, h2, _⟩ := parse_is h
  obtain ⟨hc35, hcut⟩ := cutL_is 35 l
  obtain ⟨B, hl, hB⟩ : ∃ B, l = (cutL 35 l).1 ++ B ∧ ∀ x, B.head? = some x → x = 35 := by
    rcases hcut with ⟨_, e⟩ | ⟨_, e, _⟩
    · exact ⟨_, e, fun x hx => by simpa using hx.symm⟩
    · exact ⟨[], by rw [List.append_nil]; exact e, fun x hx => by cases hx⟩
  obtain ⟨hd, e1, e2, e3⟩ : ∃ hd, (cutL 35 l).1 = hd ++ rest ∧ hd.length = (headL sec).length ∧ lowL hd = headL sec := by
    unfold schemeL at h1
    split at h1
    · rename_i g
      cases h1
      exact ⟨_, (List.take_append_drop 7 _).symm, by rw [List.length_take, Nat.min_eq_left g.1]; rfl, g.2⟩
    · split at h1
      · rename_i g
        cases h1
        exact ⟨_, (List.take_append_drop 8 _).symm, by rw [List.length_take, Nat.min_eq_left g.1]; rfl, g.2⟩
      · cases h1
  obtain ⟨w, e4, e5, e6⟩ := head_bytes e3
  have hrest : rest = hostTill rest ++ hostRest rest := (List.takeWhile_append_dropWhile).symm
  have hr : ∀ c ∈ hostTill rest, ¬ c = 47 ∧ ¬ c = 63 ∧ ¬ c = 35 := by
    intro c hc
    have g := takeW_all hc
    have g35 : ¬ c = 35 := fun e => by
      subst e
      apply hc35
      rw [e1, hrest]
      exact List.mem_append_right _ (List.mem_append_left _ hc)
    refine ⟨fun e => ?_, fun e => ?_, g35⟩ <;> subst e <;> revert g <;> decide
  have hb : ∀ x, (hostRest rest ++ B).head? = some x → x = 47 ∨ x = 63 ∨ x = 35 := by
    intro x hx
    cases hq : hostRest rest with
    | nil => rw [hq, List.nil_append] at hx; exact Or.inr (Or.inr (hB x hx))
    | cons y t =>
      rw [hq] at hx
      have hyx : y = x := by simpa using hx
      subst hyx
      have g := dropW_head (p := fun c => !([47, 63] : List UInt8).contains c) (l := rest) (x := y) (by show (hostRest rest).head? = _; rw [hq]; rfl)
      simp only [Bool.not_eq_false', List.contains_eq_mem, List.mem_cons, List.not_mem_nil, or_false, decide_eq_true_eq] at g
      rcases g with g | g
      · exact Or.inl g
      · exact Or.inr (Or.inl g)
  have hlx : l = w ++ [58, 47, 47] ++ hostTill rest ++ (hostRest rest ++ B) := by
    conv => lhs; rw [hl, e1, e4, hrest]
    simp
  refine ⟨w, hostTill rest, hostRest rest ++ B, hlx, ?_, indexAny_app hr hb, ?_, ?_⟩
  · conv => lhs; rw [hlx, List.append_assoc (w ++ [58, 47, 47])]
    exact index_head e5
  · intro c hc
    rcases List.mem_append.1 hc with hc | hc
    · exact e6 c (by rw [e4]; exact hc)
    · exact place_low h2 c hc
  · rw [upper_up, ← e4, parse_up e2 e3 hr hb, e4, ← hlx]
    exact h
end Go.Proofs.YtkoobhgedoanhaaGreatDoor
