/- A URL that was read is read alike behind 'upper case' of its head, and with a fragment behind it: plain laws. No program in sight. -/
import Derived.Test.YtkoobhgedoanhaaGreatDoorBackLaw
namespace Go.Proofs.YtkoobhgedoanhaaGreatDoor

theorem cut_app (c : UInt8) (m : List UInt8) : ∀ l : List UInt8, (cutL c (l ++ c :: m)).1 = (cutL c l).1
  | [] => by simp [cutL]
  | x :: l => by
    rw [List.cons_append]
    unfold cutL
    split
    · rfl
    · show x :: _ = x :: _
      rw [cut_app c m l]
theorem parse_hash {l m : List UInt8} {u : UrlL} (h : parseL l = .ok u) (hl : l.length + m.length < 3000) : parseL (l ++ 35 :: m) = .ok u := by
  unfold parseL at h ⊢
  rw [if_neg (by omega)] at h
  rw [if_neg (by rw [List.length_append, List.length_cons]; omega), cut_app]
  exact h

/-- a byte's upper case, a text's -/
def upB (c : UInt8) : UInt8 := if 97 ≤ c.toNat ∧ c.toNat ≤ 122 then c - 32 else c
def upL (l : List UInt8) : List UInt8 := l.map upB
theorem upB_pos {c : UInt8} (h : 97 ≤ c.toNat ∧ c.toNat ≤ 122) : (upB c).toNat = c.toNat - 32 := by
  unfold upB
  rw [if_pos h, UInt8.toNat_sub_of_le _ _ (UInt8.le_iff_toNat_le.2 (by show 32 ≤ c.toNat; omega))]
  rfl
theorem upB_neg {c : UInt8} (h : ¬ (97 ≤ c.toNat ∧ c.toNat ≤ 122)) : upB c = c := by unfold upB; rw [if_neg h]
theorem low_up (c : UInt8) : lowB (upB c) = lowB c := by
  by_cases h : 97 ≤ c.toNat ∧ c.toNat ≤ 122
  · have e := upB_pos h
    unfold lowB
    rw [if_pos (by omega), if_neg (by omega)]
    unfold upB
    rw [if_pos h]
    apply UInt8.toNat_inj.1
    rw [UInt8.toNat_add, UInt8.toNat_sub_of_le _ _ (UInt8.le_iff_toNat_le.2 (by show 32 ≤ c.toNat; omega))]
    show (c.toNat - 32 + 32) % 256 = c.toNat
    omega
  · rw [upB_neg h]
theorem lowL_up (l : List UInt8) : lowL (upL l) = lowL l := by
  unfold lowL upL
  rw [List.map_map]
  exact List.map_congr_left fun c _ => low_up c
theorem up_eq {c d : UInt8} (hd : ¬ (65 ≤ d.toNat ∧ d.toNat ≤ 90)) (hd2 : ¬ (97 ≤ d.toNat ∧ d.toNat ≤ 122)) : upB c = d ↔ c = d := by
  by_cases h : 97 ≤ c.toNat ∧ c.toNat ≤ 122
  · have e := upB_pos h
    constructor
    · intro q; rw [q] at e; omega
    · intro q; rw [q] at h; omega
  · rw [upB_neg h]
theorem up_mem {d : UInt8} (hd : ¬ (65 ≤ d.toNat ∧ d.toNat ≤ 90)) (hd2 : ¬ (97 ≤ d.toNat ∧ d.toNat ≤ 122)) (l : List UInt8) : d ∈ upL l ↔ d ∈ l := by
  unfold upL
  rw [List.mem_map]
  constructor
  · rintro ⟨x, hx, e⟩; rw [← (up_eq hd hd2).1 e]; exact hx
  · intro h; exact ⟨d, h, (up_eq hd hd2).2 rfl⟩
theorem cut_up {d : UInt8} (hd : ¬ (65 ≤ d.toNat ∧ d.toNat ≤ 90)) (hd2 : ¬ (97 ≤ d.toNat ∧ d.toNat ≤ 122)) : ∀ l : List UInt8, cutL d (upL l) = (upL (cutL d l).1, upL (cutL d l).2.1, (cutL d l).2.2)
  | [] => rfl
  | x :: l => by
    have ih := cut_up hd hd2 l
    show cutL d (upB x :: upL l) = _
    unfold cutL
    by_cases h : x = d
    · rw [if_pos ((up_eq hd hd2).2 h), if_pos h]; rfl
    · rw [if_neg (fun e => h ((up_eq hd hd2).1 e)), if_neg h, ih]; rfl
theorem digit_up (c : UInt8) : digitB (upB c) = digitB c := by
  by_cases h : 97 ≤ c.toNat ∧ c.toNat ≤ 122
  · have e := upB_pos h
    unfold digitB
    rw [e, decide_eq_false (by omega), decide_eq_false (by omega)]
  · rw [upB_neg h]
theorem digits_up : ∀ l : List UInt8, (upL l).all digitB = l.all digitB
  | [] => rfl
  | x :: l => by
    show (digitB (upB x) && (upL l).all digitB) = (digitB x && l.all digitB)
    rw [digit_up, digits_up l]
theorem digits_fix {l : List UInt8} (h : l.all digitB = true) : upL l = l := by
  unfold upL
  conv => rhs; rw [← List.map_id l]
  refine List.map_congr_left fun c hc => ?_
  have := digitB_iff.1 (List.all_eq_true.1 h c hc)
  exact upB_neg (by omega)
theorem upL_len (l : List UInt8) : (upL l).length = l.length := by unfold upL; simp
theorem upL_nil (l : List UInt8) : upL l = [] ↔ l = [] := by unfold upL; simp
theorem place_up (sec : Bool) (l : List UInt8) : placeL sec (upL l) = placeL sec l := by
  unfold placeL
  rw [cut_up (by decide) (by decide)]
  dsimp only
  rw [lowL_up, lowL_up]
  by_cases h : (cutL 58 l).2.2 = true
  · rw [if_pos h, if_pos h]
    by_cases g : (cutL 58 l).2.1 = [] ∨ 5 < (cutL 58 l).2.1.length ∨ ¬ (cutL 58 l).2.1.all digitB = true
    · have g2 : upL (cutL 58 l).2.1 = [] ∨ 5 < (upL (cutL 58 l).2.1).length ∨ ¬ (upL (cutL 58 l).2.1).all digitB = true := by
        rcases g with g | g | g
        · exact Or.inl ((upL_nil _).2 g)
        · exact Or.inr (Or.inl (by rw [upL_len]; exact g))
        · exact Or.inr (Or.inr (by rw [digits_up]; exact g))
      rw [if_pos g2, if_pos g]
    · have hd : (cutL 58 l).2.1.all digitB = true := by
        by_cases q : (cutL 58 l).2.1.all digitB = true
        · exact q
        · exact absurd (Or.inr (Or.inr q)) g
      rw [digits_fix hd]
  · rw [if_neg h, if_neg h]
theorem cut_behind (c : UInt8) (b : List UInt8) : ∀ a : List UInt8, c ∉ a → (cutL c (a ++ b)).1 = a ++ (cutL c b).1
  | [], _ => rfl
  | x :: a, h => by
    have hx : ¬ x = c := fun e => h (by rw [e]; exact List.mem_cons_self ..)
    rw [List.cons_append, cutL, if_neg hx, List.cons_append]
    show x :: _ = x :: _
    rw [cut_behind c b a (fun e => h (List.mem_cons_of_mem _ e))]
/-- the head 'hd ++ r' in upper case: hd the scheme's bytes, r none of / ? #, behind it nothing or one of these -/
theorem parse_up {hd r b : List UInt8} {sec : Bool} (h1 : hd.length = (headL sec).length) (h2 : lowL hd = headL sec)
    (hr : ∀ c ∈ r, ¬ c = 47 ∧ ¬ c = 63 ∧ ¬ c = 35) (hb : ∀ x, b.head? = some x → x = 47 ∨ x = 63 ∨ x = 35) :
    parseL (upL (hd ++ r) ++ b) = parseL (hd ++ r ++ b) := by
  have hcore : ∀ hd' r' : List UInt8, hd'.length = (headL sec).length → lowL hd' = headL sec → (∀ c ∈ r', ¬ c = 47 ∧ ¬ c = 63 ∧ ¬ c = 35) →
      parseL (hd' ++ r' ++ b) = if 3000 < (hd' ++ r' ++ b).length then .error 4 else parseR sec (r' ++ (cutL 35 b).1) := by
    intro hd' r' g1 g2 g3
    have h35 : (35 : UInt8) ∉ hd' ++ r' := by
      intro e
      rcases List.mem_append.1 e with e | e
      · have : lowB 35 ∈ lowL hd' := List.mem_map.2 ⟨35, e, rfl⟩
        rw [g2] at this
        revert this
        cases sec <;> decide
      · exact (g3 35 e).2.2 rfl
    unfold parseL
    by_cases q : 3000 < (hd' ++ r' ++ b).length
    · rw [if_pos q, if_pos q]
    · rw [if_neg q, if_neg q, cut_behind 35 b _ h35, List.append_assoc]
      generalize r' ++ (cutL 35 b).1 = t
      have : schemeL (hd' ++ t) = some (sec, t) := by
        unfold schemeL
        cases sec
        · have z : hd'.length = 7 := g1
          rw [if_pos ⟨by rw [List.length_append]; omega, by rw [List.take_append_of_le_length (by omega), List.take_of_length_le (by omega)]; exact g2⟩, List.drop_append_of_le_length (by omega), List.drop_of_length_le (by omega)]
          rfl
        · have z : hd'.length = 8 := g1
          have n7 : ¬ (7 ≤ (hd' ++ t).length ∧ lowL ((hd' ++ t).take 7) = httpL) := by
            rintro ⟨_, e⟩
            rw [List.take_append_of_le_length (by omega)] at e
            have e2 : lowL (hd'.take 7) = (lowL hd').take 7 := by unfold lowL; rw [List.map_take]
            rw [e2, g2] at e
            revert e
            decide
          rw [if_neg n7, if_pos ⟨by rw [List.length_append]; omega, by rw [List.take_append_of_le_length (by omega), List.take_of_length_le (by omega)]; exact g2⟩, List.drop_append_of_le_length (by omega), List.drop_of_length_le (by omega)]
          rfl
      rw [this]
  have hup : upL (hd ++ r) = upL hd ++ upL r := by unfold upL; rw [List.map_append]
  have hr2 : ∀ c ∈ upL r, ¬ c = 47 ∧ ¬ c = 63 ∧ ¬ c = 35 := by
    intro c hc
    refine ⟨fun e => ?_, fun e => ?_, fun e => ?_⟩ <;> subst e
    · exact (hr _ ((up_mem (by decide) (by decide) r).1 hc)).1 rfl
    · exact (hr _ ((up_mem (by decide) (by decide) r).1 hc)).2.1 rfl
    · exact (hr _ ((up_mem (by decide) (by decide) r).1 hc)).2.2 rfl
  rw [hup, hcore (upL hd) (upL r) (by rw [upL_len, h1]) (by rw [lowL_up, h2]) hr2, hcore hd r h1 h2 hr]
  have hlen : (upL hd ++ upL r ++ b).length = (hd ++ r ++ b).length := by simp [upL_len]
  rw [hlen]
  by_cases q : 3000 < (hd ++ r ++ b).length
  · rw [if_pos q, if_pos q]
  · rw [if_neg q, if_neg q]
    have hb2 : ∀ x, (cutL 35 b).1.head? = some x → (!([47, 63] : List UInt8).contains x) = false := by
      intro x hx
      cases b with
      | nil => simp [cutL] at hx
      | cons y b =>
        unfold cutL at hx
        by_cases hy : y = 35
        · rw [if_pos hy] at hx; simp at hx
        · rw [if_neg hy] at hx
          have hxy : y = x := by simpa using hx
          subst hxy
          rcases hb y rfl with e | e | e
          · subst e; decide
          · subst e; decide
          · exact absurd e hy
    have hk : ∀ r' : List UInt8, (∀ c ∈ r', ¬ c = 47 ∧ ¬ c = 63 ∧ ¬ c = 35) → hostTill (r' ++ (cutL 35 b).1) = r' ∧ hostRest (r' ++ (cutL 35 b).1) = (cutL 35 b).1 := fun r' g =>
      takeW_app (p := fun c => !([47, 63] : List UInt8).contains c) r' (cutL 35 b).1 (fun x hx => by have := g x hx; simp [this.1, this.2.1]) hb2
    have k1 := hk r hr
    have k2 := hk (upL r) hr2
    unfold parseR pathOf queryOf
    rw [k1.1, k1.2, k2.1, k2.2, place_up]
end Go.Proofs.YtkoobhgedoanhaaGreatDoor
