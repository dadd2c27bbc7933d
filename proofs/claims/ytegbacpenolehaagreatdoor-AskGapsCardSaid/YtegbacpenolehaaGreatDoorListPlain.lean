/- Plain laws of lists of words: what is joined is read; two lists, one behind the other. No program in sight. -/
import Derived.Test.YtegbacpenolehaaGreatDoorList
import Derived.Lib.Repeat
namespace Go.Proofs.YtegbacpenolehaaGreatDoor
open Go.RowKit

theorem blank_byte {c : UInt8} (h : blankB c = true) : byteB c = false := by
  unfold blankB at h
  simp only [Bool.or_eq_true, beq_iff_eq] at h
  rcases h with rfl | rfl <;> decide
theorem byte_blank {c : UInt8} (h : byteB c = true) : blankB c = false := by
  cases hb : blankB c
  · rfl
  · rw [blank_byte hb] at h; cases h
theorem isL_parts {w : List UInt8} (h : isL w = true) : w.all byteB = true ∧ ∃ c w', w = c :: w' := by
  unfold isL at h
  simp only [Bool.and_eq_true, Bool.not_eq_true'] at h
  refine ⟨h.1, ?_⟩
  cases w with
  | nil => simp at h
  | cons c w' => exact ⟨c, w', rfl⟩
theorem takeW {w t : List UInt8} (h : w.all byteB = true) (ht : ∀ c, t.head? = some c → byteB c = false) : (w ++ t).takeWhile byteB = w := by
  rw [List.takeWhile_append_of_pos (by simpa [List.all_eq_true] using h)]
  cases t with
  | nil => simp
  | cons c t => rw [List.takeWhile_cons_of_neg (by simp [ht c rfl])]; simp
theorem dropW {w t : List UInt8} (h : w.all byteB = true) (ht : ∀ c, t.head? = some c → byteB c = false) : (w ++ t).dropWhile byteB = t := by
  rw [dropWhile_eq_drop, takeW h ht]; simp

/-- a word ahead -/
theorem listN_word (f : Nat) {w t : List UInt8} (hw : isL w = true) (ht : ∀ c, t.head? = some c → byteB c = false) : listN (f + 1) (w ++ t) =
    match t.dropWhile blankB with
    | [] => .ok [w]
    | c :: r4 => if c == 44 then (listN f r4).map ([w] ++ ·) else .error (r4.length + 1) := by
  obtain ⟨ha, c, w', rfl⟩ := isL_parts hw
  have hc : byteB c = true := by simp only [List.all_cons, Bool.and_eq_true] at ha; exact ha.1
  rw [listN]
  have e1 : ((c :: w') ++ t).dropWhile blankB = (c :: w') ++ t := by
    rw [List.cons_append, List.dropWhile_cons_of_neg (by simp [byte_blank hc])]
  simp only [e1, takeW ha ht, dropW ha ht]
  rfl
/-- blanks ahead are nothing -/
theorem listN_blank (f : Nat) {c : UInt8} {t : List UInt8} (h : blankB c = true) : listN (f + 1) (c :: t) = listN (f + 1) t := by
  rw [listN, listN]
  simp only [List.dropWhile_cons_of_pos h]

/-- what is joined is read -/
theorem listN_join : ∀ (ws : List (List UInt8)) (f : Nat), (∀ w ∈ ws, isL w = true) → ws.length < f → listN f (Lib.join ws [44, 32]) = .ok ws
  | [], 0, _, h => absurd h (Nat.not_lt_zero _)
  | [], f + 1, _, _ => rfl
  | [w], 0, _, h => absurd h (Nat.not_lt_zero _)
  | [w], f + 1, hw, _ => by
    have h := listN_word f (w := w) (t := []) (hw w (by simp)) (by simp)
    rw [List.append_nil] at h
    rw [Lib.join_one, h]; rfl
  | w :: w2 :: r, 0, _, h => absurd h (Nat.not_lt_zero _)
  | w :: w2 :: r, 1, _, h => by simp at h
  | w :: w2 :: r, f + 2, hw, hf => by
    have e : Lib.join (w :: w2 :: r) [44, 32] = w ++ (44 :: 32 :: Lib.join (w2 :: r) [44, 32]) := by
      rw [Lib.join_cons, Lib.join_cons]; simp [Lib.joinTail]
    rw [e, listN_word (f + 1) (hw w (by simp)) (by simp; decide)]
    rw [List.dropWhile_cons_of_neg (by decide)]
    simp only [beq_self_eq_true, if_true]
    rw [listN_blank f (by decide), listN_join (w2 :: r) (f + 1) (fun x hx => hw x (List.mem_cons_of_mem _ hx)) (by simp at hf ⊢; omega)]
    rfl
theorem wjoin_len : ∀ (ws : List (List UInt8)), (∀ w ∈ ws, isL w = true) → ws.length ≤ (Lib.join ws [44, 32]).length
  | [], _ => by simp
  | [w], hw => by
    obtain ⟨_, c, w', rfl⟩ := isL_parts (hw w (by simp))
    rw [Lib.join_one]; simp
  | w :: w2 :: r, hw => by
    have ih := wjoin_len (w2 :: r) (fun x hx => hw x (List.mem_cons_of_mem _ hx))
    have e : Lib.join (w :: w2 :: r) [44, 32] = w ++ (44 :: 32 :: Lib.join (w2 :: r) [44, 32]) := by
      rw [Lib.join_cons, Lib.join_cons]; simp [Lib.joinTail]
    rw [e]; simp at ih ⊢; omega
theorem listAll_join (ws : List (List UInt8)) (h : ∀ w ∈ ws, isL w = true) : listAll (Lib.join ws [44, 32]) = .ok ws :=
  listN_join ws _ h (Nat.lt_succ_of_le (wjoin_len ws h))

/-- each of a list is a word -/
theorem listN_words : ∀ (f : Nat) (r : List UInt8) (ws : List (List UInt8)), listN f r = .ok ws → ∀ w ∈ ws, isL w = true
  | 0, r, ws, h, w, hw => by rw [listN] at h; cases h; cases hw
  | f + 1, r, ws, h, w, hw => by
    rw [listN] at h
    try simp only at h
    have one : ∀ x ∈ (if ((r.dropWhile blankB).takeWhile byteB).isEmpty then [] else [(r.dropWhile blankB).takeWhile byteB]), isL x = true := by
      intro x hx
      by_cases he : ((r.dropWhile blankB).takeWhile byteB).isEmpty = true
      · rw [if_pos he] at hx; cases hx
      · rw [if_neg he] at hx
        simp at hx; subst hx
        unfold isL
        rw [List.all_takeWhile]; simpa using he
    cases e : ((r.dropWhile blankB).dropWhile byteB).dropWhile blankB with
    | nil => rw [e] at h; simp only at h; cases h; exact one w hw
    | cons c r4 =>
      rw [e] at h
      simp only at h
      by_cases hc : (c == 44) = true
      · rw [if_pos hc] at h
        cases hr : listN f r4 with
        | error m => rw [hr] at h; cases h
        | ok ws2 =>
          rw [hr] at h
          simp only [Except.map] at h
          cases h
          rcases List.mem_append.1 hw with g | g
          · exact one w g
          · exact listN_words f r4 ws2 hr w g
      · rw [if_neg hc] at h; cases h

theorem dropWhile_app (p : UInt8 → Bool) (l t : List UInt8) : (l ++ t).dropWhile p = if (l.dropWhile p).isEmpty then t.dropWhile p else l.dropWhile p ++ t := by
  rw [List.dropWhile_append]
theorem takeWhile_app {p : UInt8 → Bool} {l t : List UInt8} (ht : ∀ c, t.head? = some c → p c = false) : (l ++ t).takeWhile p = l.takeWhile p := by
  induction l with
  | nil =>
    cases t with
    | nil => rfl
    | cons c t => rw [List.nil_append, List.takeWhile_cons_of_neg (by simp [ht c rfl])]; rfl
  | cons a l ih => by_cases h : p a <;> simp [h, ih]
theorem dropWhile_stop {p : UInt8 → Bool} {t : List UInt8} (ht : ∀ c, t.head? = some c → p c = false) : t.dropWhile p = t := by
  cases t with
  | nil => rfl
  | cons c t => rw [List.dropWhile_cons_of_neg (by simp [ht c rfl])]
theorem dropWhile_keep {p : UInt8 → Bool} {l t : List UInt8} (ht : ∀ c, t.head? = some c → p c = false) : (l ++ t).dropWhile p = l.dropWhile p ++ t := by
  rw [dropWhile_app]
  split
  · rename_i h
    rw [dropWhile_stop ht, List.isEmpty_iff.1 h]; rfl
  · rfl

/-- the words of a round -/
def oneW (w : List UInt8) : List (List UInt8) := if w.isEmpty then [] else [w]
/-- a list, and a comma behind it (blanks about it), and more -/
theorem listN_then : ∀ (f g : Nat) (a t : List UInt8) (x : List (List UInt8)), a.length < f → a.length + t.length + 3 < g → listN f a = .ok x →
    listN g (a ++ (32 :: 44 :: 9 :: t)) = (listAll t).map (x ++ ·)
  | 0, _, _, _, _, h, _, _ => absurd h (Nat.not_lt_zero _)
  | f + 1, 0, _, _, _, _, h, _ => absurd h (Nat.not_lt_zero _)
  | f + 1, g + 1, a, t, x, hf, hg, h => by
    have hT : ∀ c, (32 :: 44 :: 9 :: t : List UInt8).head? = some c → byteB c = false := by intro c hc; simp at hc; subst hc; decide
    have hT2 : (32 :: 44 :: 9 :: t : List UInt8).dropWhile blankB = 44 :: 9 :: t := by
      rw [List.dropWhile_cons_of_pos (by decide), List.dropWhile_cons_of_neg (by decide)]
    have hT3 : ∀ c, (44 :: 9 :: t : List UInt8).head? = some c → byteB c = false := by intro c hc; simp at hc; subst hc; decide
    have tail : ∀ g', t.length + 1 < g' → listN g' (9 :: t) = listAll t := by
      intro g' hg'
      cases g' with
      | zero => omega
      | succ g' => rw [listN_blank g' (by decide), listN_fuel (g' + 1) (by omega)]; rfl
    rw [listN] at h ⊢
    try simp only at h ⊢
    rw [dropWhile_app blankB a]
    by_cases he : (a.dropWhile blankB).isEmpty = true
    · rw [if_pos he, hT2]
      rw [List.isEmpty_iff.1 he] at h
      have hx : x = [] := by cases h; rfl
      subst hx
      rw [dropWhile_stop hT3, List.takeWhile_cons_of_neg (by decide), List.dropWhile_cons_of_neg (by decide)]
      simp only [beq_self_eq_true, if_true]
      rw [tail g (by omega)]
      simp
    · rw [if_neg he]
      have hlen := (List.dropWhile_suffix (p := blankB) (l := a)).length_le
      generalize a.dropWhile blankB = a1 at h he hlen ⊢
      rw [takeWhile_app hT, dropWhile_keep hT, dropWhile_app blankB (a1.dropWhile byteB)]
      have hlen2 := (List.dropWhile_suffix (p := byteB) (l := a1)).length_le
      have hlen3 := (List.dropWhile_suffix (p := blankB) (l := a1.dropWhile byteB)).length_le
      cases e : (a1.dropWhile byteB).dropWhile blankB with
      | nil =>
        rw [e] at h
        simp only at h
        cases h
        rw [if_pos (show ([] : List UInt8).isEmpty = true from rfl), hT2]
        simp only [beq_self_eq_true, if_true]
        rw [tail g (by omega)]
      | cons c r4 =>
        rw [e] at h hlen3
        simp at hlen3
        simp only at h
        rw [if_neg (by simp)]
        simp only [List.cons_append]
        by_cases hc : (c == 44) = true
        · rw [if_pos hc] at h ⊢
          cases hr : listN f r4 with
          | error m => rw [hr] at h; cases h
          | ok x2 =>
            rw [hr] at h
            simp only [Except.map] at h
            cases h
            rw [listN_then f g r4 t x2 (by omega) (by omega) hr]
            cases listAll t <;> simp [Except.map]
        · rw [if_neg hc] at h; cases h

theorem listAll_then {a t : List UInt8} {x : List (List UInt8)} (h : listAll a = .ok x) : listAll (a ++ (32 :: 44 :: 9 :: t)) = (listAll t).map (x ++ ·) :=
  listN_then _ _ a t x (Nat.lt_succ_self _) (by simp; omega) h
theorem listAll_seps : ∀ (n : Nat) (b : List UInt8), listAll (Lib.repeatL [32, 44, 9] n ++ b) = listAll b
  | 0, b => rfl
  | n + 1, b => by
    have h := listAll_then (a := []) (t := Lib.repeatL [32, 44, 9] n ++ b) (x := []) (by rfl)
    have e : Lib.repeatL [32, 44, 9] (n + 1) ++ b = [] ++ (32 :: 44 :: 9 :: (Lib.repeatL [32, 44, 9] n ++ b)) := by simp [Lib.repeatL]
    rw [e, h, listAll_seps n b]
    cases listAll b <;> simp [Except.map]
/-- two lists, one behind the other -/
theorem listAll_pieces {a b : List UInt8} {x y : List (List UInt8)} (n : Nat) (ha : listAll a = .ok x) (hb : listAll b = .ok y) : listAll (a ++ Lib.repeatL [32, 44, 9] (n + 1) ++ b) = .ok (x ++ y) := by
  have e : a ++ Lib.repeatL [32, 44, 9] (n + 1) ++ b = a ++ (32 :: 44 :: 9 :: (Lib.repeatL [32, 44, 9] n ++ b)) := by simp [Lib.repeatL]
  rw [e, listAll_then ha, listAll_seps, hb]
  rfl
end Go.Proofs.YtegbacpenolehaaGreatDoor
