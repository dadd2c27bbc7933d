/- Origins and URLs as texts: plain laws. No program in sight. The fact 'worded' of the statements on words. strings.Trim by a set of ASCII bytes: what is left; nothing is left just where all bytes are of the set. The laws' pick. token.Seconds; the law SecondsOrder. Package fetch: Simple, Method. strings.Cut by one byte. Package fetch: Plain. Package fetch: Plain, the whole. slices.Sort and slices.Compact over rows of strings of the call's own. -/
import Derived.Test.YtkoobhgedoanhaaGreatDoorCB2
import Derived.Test.YtkoobhgedoanhaaGreatDoorCB1
import Derived.Lib.ItoaMem
import Derived.Lib.Atoi
import Derived.Test.YtkoobhgedoanhaaGreatDoorShelf
import Derived.Lib.SlTrimSet
import Derived.Shelf.Strings.SlTrimAscii
import Derived.IntWalk
import Derived.Sort.OwnSorted
namespace Go.Proofs.YtkoobhgedoanhaaGreatDoor

/-! ### numerals -/
def digitB (c : UInt8) : Bool := decide (48 ≤ c.toNat ∧ c.toNat ≤ 57)
theorem digitB_iff {c : UInt8} : digitB c = true ↔ 48 ≤ c.toNat ∧ c.toNat ≤ 57 := by unfold digitB; simp
def decV (l : List UInt8) : Nat := l.foldl (fun n c => n * 10 + (c.toNat - 48)) 0
theorem ofNat_dig (u : Nat) (h : u < 10) : (UInt8.ofNat (48 + u)).toNat = 48 + u := by
  rw [UInt8.toNat_ofNat']; omega
theorem decDigits_small {u : Nat} (h : u < 10) : Lib.decDigits u = [UInt8.ofNat (48 + u)] := by rw [Lib.decDigits, dif_pos h]
theorem decDigits_big {u : Nat} (h : ¬ u < 10) : Lib.decDigits u = Lib.decDigits (u / 10) ++ [UInt8.ofNat (48 + u % 10)] := by rw [Lib.decDigits, dif_neg h]
theorem decDigits_all (u : Nat) : (Lib.decDigits u).all digitB = true := by
  induction u using Nat.strongRecOn with
  | _ u ih =>
    by_cases h : u < 10
    · rw [decDigits_small h, List.all_cons, List.all_nil, Bool.and_true, digitB_iff, ofNat_dig u h]; omega
    · rw [decDigits_big h, List.all_append, ih (u / 10) (by omega), List.all_cons, List.all_nil, Bool.and_true, Bool.true_and, digitB_iff, ofNat_dig _ (Nat.mod_lt _ (by omega))]
      have := Nat.mod_lt u (show 0 < 10 by omega)
      omega
theorem decV_digits (u : Nat) : decV (Lib.decDigits u) = u := by
  induction u using Nat.strongRecOn with
  | _ u ih =>
    by_cases h : u < 10
    · rw [decDigits_small h]
      show 0 * 10 + ((UInt8.ofNat (48 + u)).toNat - 48) = u
      rw [ofNat_dig u h]; omega
    · have hi := ih (u / 10) (by omega)
      rw [decDigits_big h]
      unfold decV at hi ⊢
      rw [List.foldl_append, hi]
      show u / 10 * 10 + ((UInt8.ofNat (48 + u % 10)).toNat - 48) = u
      rw [ofNat_dig _ (Nat.mod_lt _ (by omega))]; omega
theorem decDigits_ne (u : Nat) : Lib.decDigits u ≠ [] := by
  by_cases h : u < 10
  · rw [decDigits_small h]; simp
  · rw [decDigits_big h]; simp
theorem decDigits_len : ∀ (k u : Nat), u < 10 ^ (k + 1) → (Lib.decDigits u).length ≤ k + 1
  | 0, u, h => by rw [decDigits_small (by simpa using h)]; simp
  | k + 1, u, h => by
    by_cases h2 : u < 10
    · rw [decDigits_small h2]; simp
    · have := decDigits_len k (u / 10) (by rw [Nat.pow_succ] at h; omega)
      rw [decDigits_big h2]; simp; omega
theorem decFrom_all : ∀ (l : List UInt8) (n : Nat), l.all digitB = true → Lib.decFrom n l = some (l.foldl (fun n c => n * 10 + (c.toNat - 48)) n)
  | [], n, _ => rfl
  | c :: l, n, h => by
    rw [List.all_cons, Bool.and_eq_true] at h
    have hc := digitB_iff.1 h.1
    have hd : Lib.digitVal c = some (c.toNat - 48) := by
      unfold Lib.digitVal
      rw [if_pos hc]
    rw [Lib.decFrom, hd]
    exact decFrom_all l _ h.2
theorem atoi_all {l : List UInt8} (h : l.all digitB = true) (h0 : l ≠ []) : Lib.atoi l = some (decV l : Int) := by
  cases l with
  | nil => exact absurd rfl h0
  | cons c l =>
    have hc := digitB_iff.1 (Bool.and_eq_true _ _ ▸ List.all_cons ▸ h).1
    have h1 : ¬ c = 45 := fun e => by subst e; exact absurd hc (by decide)
    have h2 : ¬ c = 43 := fun e => by subst e; exact absurd hc (by decide)
    show (if (c == 45) = true then (Lib.decNat l).map fun (m : Nat) => -(m : Int) else if (c == 43) = true then (Lib.decNat l).map fun (m : Nat) => (m : Int) else (Lib.decNat (c :: l)).map fun (m : Nat) => (m : Int)) = _
    rw [if_neg (by simpa using h1), if_neg (by simpa using h2)]
    have e : Lib.decNat (c :: l) = some (decV (c :: l)) := by
      unfold Lib.decNat
      rw [if_neg (by simp), decFrom_all _ _ h]
      rfl
    rw [e]
    rfl

/-! ### cutting at a byte -/
/-- ahead of the first c, behind it, whether there is one -/
def cutL (c : UInt8) : List UInt8 → List UInt8 × List UInt8 × Bool
  | [] => ([], [], false)
  | x :: l => if x = c then ([], l, true) else (x :: (cutL c l).1, (cutL c l).2.1, (cutL c l).2.2)
theorem cutL_hit (c : UInt8) : ∀ (a b : List UInt8), c ∉ a → cutL c (a ++ c :: b) = (a, b, true)
  | [], b, _ => by simp [cutL]
  | x :: a, b, h => by
    have hx : ¬ x = c := fun e => h (by rw [e]; exact List.mem_cons_self ..)
    rw [List.cons_append, cutL, if_neg hx, cutL_hit c a b (fun e => h (List.mem_cons_of_mem _ e))]
theorem cutL_miss (c : UInt8) : ∀ (a : List UInt8), c ∉ a → cutL c a = (a, [], false)
  | [], _ => rfl
  | x :: a, h => by
    have hx : ¬ x = c := fun e => h (by rw [e]; exact List.mem_cons_self ..)
    rw [cutL, if_neg hx, cutL_miss c a (fun e => h (List.mem_cons_of_mem _ e))]
/-- what a cut is -/
theorem cutL_is (c : UInt8) : ∀ l : List UInt8, c ∉ (cutL c l).1 ∧ (((cutL c l).2.2 = true ∧ l = (cutL c l).1 ++ c :: (cutL c l).2.1) ∨ ((cutL c l).2.2 = false ∧ l = (cutL c l).1 ∧ (cutL c l).2.1 = []))
  | [] => ⟨by simp [cutL], Or.inr ⟨rfl, rfl, rfl⟩⟩
  | x :: l => by
    have ih := cutL_is c l
    unfold cutL
    split
    · rename_i h
      exact ⟨by simp, Or.inl ⟨rfl, by rw [h]; rfl⟩⟩
    · rename_i h
      refine ⟨fun e => ?_, ?_⟩
      · rcases List.mem_cons.1 e with e | e
        · exact h e.symm
        · exact ih.1 e
      · rcases ih.2 with ⟨h1, h2⟩ | ⟨h1, h2, h3⟩
        · exact Or.inl ⟨h1, by rw [List.cons_append, ← h2]⟩
        · exact Or.inr ⟨h1, by rw [← h2], h3⟩
/-- ahead of the first byte that p takes, and from it on -/
def tillL (p : UInt8 → Bool) (l : List UInt8) : List UInt8 × List UInt8 := (l.takeWhile (!p ·), l.dropWhile (!p ·))

/-! ### origins -/
def hostC (c : UInt8) : Bool := decide (97 ≤ c.toNat ∧ c.toNat ≤ 122) || decide (48 ≤ c.toNat ∧ c.toNat ≤ 57) || decide (c.toNat = 45)
def labB (l : List UInt8) : Bool := !l.isEmpty && !(l.head? == some 45) && !(l.getLast? == some 45) && l.all hostC
def hostB (l : List UInt8) : Bool := decide (l.length ≤ 60) && (splitL 46 l).all labB
def portB (s : Bool) : Int := if s then 443 else 80
/-- an origin, its host as a list -/
structure OriL where
  secure : Bool
  host : List UInt8
  port : Int
def rightB (o : OriL) : Bool := hostB o.host && (decide (1 ≤ o.port) && decide (o.port ≤ 65535))
def httpL : List UInt8 := [104, 116, 116, 112, 58, 47, 47]
def httpsL : List UInt8 := [104, 116, 116, 112, 115, 58, 47, 47]
def headL (s : Bool) : List UInt8 := if s then httpsL else httpL
def textO (o : OriL) : List UInt8 := headL o.secure ++ o.host ++ (if o.port = portB o.secure then [] else 58 :: Lib.itoa o.port)
def schemeL (l : List UInt8) : Option (Bool × List UInt8) :=
  if 7 ≤ l.length ∧ lowL (l.take 7) = httpL then some (false, l.drop 7)
  else if 8 ≤ l.length ∧ lowL (l.take 8) = httpsL then some (true, l.drop 8)
  else none
def noO : OriL := ⟨false, [], 0⟩
def placeL (secure : Bool) (l : List UInt8) : OriL × Bool :=
  if (cutL 58 l).2.2 then
    if (cutL 58 l).2.1 = [] ∨ 5 < (cutL 58 l).2.1.length ∨ ¬ (cutL 58 l).2.1.all digitB = true then (noO, false)
    else (⟨secure, lowL (cutL 58 l).1, decV (cutL 58 l).2.1⟩, rightB ⟨secure, lowL (cutL 58 l).1, decV (cutL 58 l).2.1⟩)
  else (⟨secure, lowL l, portB secure⟩, rightB ⟨secure, lowL l, portB secure⟩)
def originL (l : List UInt8) : Option OriL :=
  match schemeL l with
  | none => none
  | some (secure, rest) => if (placeL secure rest).2 then some (placeL secure rest).1 else none

theorem lowL_append (a b : List UInt8) : lowL (a ++ b) = lowL a ++ lowL b := by simp [lowL]
theorem lowB_fix {c : UInt8} (h : ¬ (65 ≤ c.toNat ∧ c.toNat ≤ 90)) : lowB c = c := by unfold lowB; rw [if_neg h]
theorem lowL_fix : ∀ {l : List UInt8}, (∀ c ∈ l, ¬ (65 ≤ c.toNat ∧ c.toNat ≤ 90)) → lowL l = l
  | [], _ => rfl
  | c :: l, h => by
    show lowB c :: lowL l = _
    rw [lowB_fix (h c (List.mem_cons_self ..)), lowL_fix (fun d hd => h d (List.mem_cons_of_mem _ hd))]
theorem hostC_iff {c : UInt8} : hostC c = true ↔ (97 ≤ c.toNat ∧ c.toNat ≤ 122) ∨ (48 ≤ c.toNat ∧ c.toNat ≤ 57) ∨ c.toNat = 45 := by
  unfold hostC; simp [or_assoc]
/-- the bytes of a host: its labels' and points -/
theorem host_mem {l : List UInt8} (h : hostB l = true) : ∀ c ∈ l, hostC c = true ∨ c = 46 := by
  unfold hostB at h
  rw [Bool.and_eq_true] at h
  intro c hc
  have hj := join_split 46 l
  rw [← hj] at hc
  rcases join_mem 46 _ c hc with e | ⟨p, hp, hx⟩
  · exact Or.inr e
  · have := List.all_eq_true.1 h.2 p hp
    unfold labB at this
    rw [Bool.and_eq_true] at this
    exact Or.inl (List.all_eq_true.1 this.2 c hx)
theorem host_bytes {l : List UInt8} (h : hostB l = true) : ∀ c ∈ l, (97 ≤ c.toNat ∧ c.toNat ≤ 122) ∨ (48 ≤ c.toNat ∧ c.toNat ≤ 57) ∨ c.toNat = 45 ∨ c.toNat = 46 := by
  intro c hc
  rcases host_mem h c hc with e | e
  · rcases hostC_iff.1 e with e | e | e
    · exact Or.inl e
    · exact Or.inr (Or.inl e)
    · exact Or.inr (Or.inr (Or.inl e))
  · subst e; exact Or.inr (Or.inr (Or.inr rfl))
theorem host_low {l : List UInt8} (h : hostB l = true) : lowL l = l := lowL_fix fun c hc => by have := host_bytes h c hc; omega
theorem host_none {l : List UInt8} (h : hostB l = true) (d : UInt8) (h1 : ¬ ((97 ≤ d.toNat ∧ d.toNat ≤ 122) ∨ (48 ≤ d.toNat ∧ d.toNat ≤ 57) ∨ d.toNat = 45 ∨ d.toNat = 46)) : d ∉ l := fun hd => h1 (host_bytes h d hd)
theorem digits_none {l : List UInt8} (h : l.all digitB = true) (d : UInt8) (h1 : ¬ (48 ≤ d.toNat ∧ d.toNat ≤ 57)) : d ∉ l := fun hd => h1 (digitB_iff.1 (List.all_eq_true.1 h d hd))
/-- what stands behind the scheme of an origin's text -/
def hereO (o : OriL) : List UInt8 := o.host ++ (if o.port = portB o.secure then [] else 58 :: Lib.itoa o.port)
theorem text_here (o : OriL) : textO o = headL o.secure ++ hereO o := by unfold textO hereO; rw [List.append_assoc]
theorem scheme_head (s : Bool) (l : List UInt8) : schemeL (headL s ++ l) = some (s, l) := by
  cases s
  · unfold schemeL
    rw [if_pos ⟨by simp [headL, httpL], by simp [headL, httpL]; decide⟩]
    rfl
  · unfold schemeL
    rw [if_neg (fun h => absurd h.2 (by simp [headL, httpsL]; decide)), if_pos ⟨by simp [headL, httpsL], by simp [headL, httpsL]; decide⟩]
    rfl
theorem itoa_nat {n : Int} (h : 0 ≤ n) : Lib.itoa n = Lib.decDigits n.toNat := by unfold Lib.itoa; rw [if_neg (by omega)]
theorem place_here {o : OriL} (h : rightB o = true) : placeL o.secure (hereO o) = (o, true) := by
  obtain ⟨sec, host, port⟩ := o
  have h' := h
  unfold rightB at h'
  simp only [Bool.and_eq_true, decide_eq_true_eq] at h'
  obtain ⟨hh, h1, h2⟩ := h'
  have hl := host_low hh
  have hc : (58 : UInt8) ∉ host := host_none hh 58 (by decide)
  unfold hereO placeL
  by_cases hp : port = portB sec
  · subst hp
    simp only [if_true, List.append_nil, cutL_miss 58 host hc, Bool.false_eq_true, if_false, hl, h]
  · have e := itoa_nat (show 0 ≤ port by omega)
    have hd := decDigits_all port.toNat
    have hn := decDigits_ne port.toNat
    have hlen := decDigits_len 4 port.toNat (by omega)
    have hv := decV_digits port.toNat
    simp only [hp, if_false, cutL_hit 58 host _ hc, if_true, e]
    rw [if_neg (by simp only [not_or, Decidable.not_not]; exact ⟨hn, by omega, hd⟩), hl, hv]
    have : ((port.toNat : Nat) : Int) = port := by omega
    rw [this, h]
theorem origin_text {o : OriL} (h : rightB o = true) : originL (textO o) = some o := by
  unfold originL
  rw [text_here, scheme_head]
  simp only [place_here h, if_true]
theorem text_inj {o p : OriL} (ho : rightB o = true) (hp : rightB p = true) (h : textO o = textO p) : o = p := by
  have h1 := origin_text ho
  rw [h, origin_text hp] at h1
  exact (Option.some.inj h1).symm
theorem place_right (secure : Bool) (l : List UInt8) (h : (placeL secure l).2 = true) : rightB (placeL secure l).1 = true := by
  unfold placeL at h ⊢
  split
  · rename_i h1
    rw [if_pos h1] at h
    split
    · rename_i h2; rw [if_pos h2] at h; cases h
    · rename_i h2; rw [if_neg h2] at h; exact h
  · rename_i h1; rw [if_neg h1] at h; exact h
theorem place_secure (secure : Bool) (l : List UInt8) (h : (placeL secure l).2 = true) : (placeL secure l).1.secure = secure := by
  unfold placeL at h ⊢
  split
  · rename_i h1
    rw [if_pos h1] at h
    split
    · rename_i h2; rw [if_pos h2] at h; cases h
    · rfl
  · rfl
end Go.Proofs.YtkoobhgedoanhaaGreatDoor

namespace Go.Proofs.YtkoobhgedoanhaaGreatDoor
open Go.RowKit

theorem drewN_fr {S : Nat → Prop} {a w w' : World} (h : Fr S a w) (hw : ∃ n, w' = w.drewN n) : Fr S a w' := by
  obtain ⟨n, rfl⟩ := hw
  exact h.drewN n

theorem ListPost.isOk {s : ByteArray} {w w' : World} {e : Ending} {ws : List (List UInt8)} (h : ListPost s w e w') (hl : listAll s.data.toList = .ok ws) (hn : ws.length ≤ 40) :
    ∃ v, e = .returned (.tuple #[v, .nilIface]) ∧ Strs w.heap.size w' v (wordsB ws) ∧ Fr noB w w' := by
  obtain ⟨v, er, he, hf, hm⟩ := h
  rw [hl] at hm
  have hm' : if 40 < ws.length then v = .slice none 0 0 ∧ ErrIs w' er (some (4, none)) else Strs w.heap.size w' v (wordsB ws) ∧ er = .nilIface := hm
  rw [if_neg (show ¬ 40 < ws.length by omega)] at hm'
  obtain ⟨hv, hr⟩ := hm'
  exact ⟨v, by rw [he, hr], hv, hf⟩
theorem QuotePost.isOk {s : ByteArray} {w w' : World} {e : Ending} (h : QuotePost s w e w') (ht : textL s.data.toList = true) :
    e = .returned (.tuple #[.string ⟨(quoteL s.data.toList).toArray⟩, .nilIface]) ∧ Fr noB w w' := by
  obtain ⟨he, hf⟩ := h
  rw [if_pos ht] at he
  exact ⟨he, hf⟩
theorem QuotePost.isBad {s : ByteArray} {w w' : World} {e : Ending} (h : QuotePost s w e w') (ht : textL s.data.toList = false) :
    e = .returned (.tuple #[.string ⟨#[]⟩, .iface 93 (.int .i64 3)]) ∧ Fr noB w w' := by
  obtain ⟨he, hf⟩ := h
  rw [ht] at he
  exact ⟨he, hf⟩

theorem QuotedPost.isOk {b i j : Nat} {s : ByteArray} {w w' : World} {e : Ending} {a : List UInt8} (h : QuotedPost b s i w e w') (hq : quotedAt s.data.toList i = Option.some (a, j)) :
    e = .returned (.tuple #[.string ⟨a.toArray⟩, .bool true]) ∧ CurAt w' b s j ∧ Fr (one b) w w' := by
  obtain ⟨he, hc, hf⟩ := h
  rw [hq] at he
  have h1 : quotedText s.data.toList i = a := by simp [quotedText, hq]
  have h2 : quotedEnd s.data.toList i = j := by simp [quotedEnd, hq]
  rw [h1] at he
  rw [h2] at hc
  exact ⟨he, hc, hf⟩
theorem QuotedPost.isNone {b i : Nat} {s : ByteArray} {w w' : World} {e : Ending} (h : QuotedPost b s i w e w') (hq : quotedAt s.data.toList i = Option.none) :
    e = .returned (.tuple #[.string ⟨#[]⟩, .bool false]) ∧ CurAt w' b s i ∧ Fr (one b) w w' := by
  obtain ⟨he, hc, hf⟩ := h
  rw [hq] at he
  have h1 : quotedText s.data.toList i = [] := by simp [quotedText, hq]
  have h2 : quotedEnd s.data.toList i = i := by simp [quotedEnd, hq]
  rw [h1] at he
  rw [h2] at hc
  exact ⟨he, hc, hf⟩
/-- []string{a, b} in a new block -/
theorem strs_new2 (w : World) (x y : ByteArray) : StrsAt (w.alloc (.cells #[.string x, .string y] 9)) (.slice (some ⟨w.heap.size, 0, none⟩) 2 2) [x, y] := by
  refine Or.inr ⟨w.heap.size, 0, 2, rfl, Nat.le_refl _, by simp [maxLen], by simp, fun j z hj => ?_⟩
  rw [Nat.zero_add, World.cell?_alloc_mark]
  match j, hj with
  | 0, hj => simp at hj; subst hj; rfl
  | 1, hj => simp at hj; subst hj; rfl
theorem CurAt.frN {w w' : World} {b i : Nat} {s : ByteArray} (h : CurAt w b s i) (hf : Fr noB w w') : CurAt w' b s i := h.fr hf (fun h => h)
end Go.Proofs.YtkoobhgedoanhaaGreatDoor

namespace Go.Proofs.YtkoobhgedoanhaaGreatDoor
open Go.RowKit

theorem dropWhile_nil {α : Type} {p : α → Bool} : ∀ {l : List α}, l.dropWhile p = [] ↔ l.all p = true
  | [] => by simp
  | a :: l => by
    rw [List.dropWhile_cons, List.all_cons]
    cases h : p a
    · simp
    · simp only [if_true, Bool.true_and]; exact dropWhile_nil
theorem trimS_nil (l cs : List UInt8) : Lib.trimS l cs = [] ↔ l.all (cs.contains ·) = true := by
  unfold Lib.trimS Lib.trimLeftS Lib.trimRightS
  rw [dropWhile_nil]
  constructor
  · intro h
    have h2 : l.reverse.dropWhile (cs.contains ·) = [] := by
      cases hq : l.reverse.dropWhile (cs.contains ·) with
      | nil => rfl
      | cons a r =>
        exfalso
        have hh := List.head?_dropWhile_not (p := (cs.contains ·)) l.reverse
        rw [hq] at h hh
        simp only [List.head?_cons, List.reverse_cons, List.all_append, List.all_cons, List.all_nil, Bool.and_true, Bool.and_eq_true] at h hh
        rw [h.2] at hh
        simp at hh
    rw [dropWhile_nil] at h2
    simpa using h2
  · intro h
    rw [List.all_eq_true] at h ⊢
    intro x hx
    refine h x ?_
    have h1 := (List.dropWhile_sublist (cs.contains ·) (l := l.reverse)).subset (List.mem_reverse.1 hx)
    exact List.mem_reverse.1 h1
theorem byteArray_nil {s : ByteArray} : s.data.toList = [] ↔ s.size = 0 := by
  constructor
  · intro h; have : s.data.toList.length = 0 := by rw [h]; rfl
    simpa using this
  · intro h; apply List.eq_nil_of_length_eq_zero; simpa using h
/-- strings.Trim by a set -/
theorem TrimSet_any (s cs : ByteArray) (w : World) (hs : s.size ≤ 9223372036854775807) (h2 : 2 ≤ cs.size) (hcs : cs.size < 4294967281) (hascii : ∀ b ∈ cs.data.toList, b.toNat < 128) :
    Calls Tryz.prog 103 #[.string s, .string cs] w fun e w' => e = .returned (.string ⟨(Lib.trimS s.data.toList cs.data.toList).toArray⟩) ∧ Fr noB w w' := by
  by_cases h0 : s.size = 0
  · refine (Any.strings_Trim_empty Tryz.lays160 s cs w (Or.inl h0)).mono fun e w' ⟨he, hw⟩ => ⟨?_, hw ▸ Fr.refl _ _⟩
    have e0 := byteArray_nil.2 h0
    rw [he, e0]
    congr 2
    rw [show Lib.trimS [] cs.data.toList = [] from rfl]
    cases s with
    | mk d => simp at e0; rw [e0]
  · refine (Any.strings_Trim_set Tryz.lays160 (fun w => by kernel_rfl) (by kernel_rfl) s cs w h2 (by omega) hs hcs (fun j b hj => hascii b (List.mem_of_getElem? hj))).mono fun e w' ⟨he, q, hw⟩ => ⟨he, ?_⟩
    rw [hw]
    exact (((Fr.refl noB w).alloc _).alloc _).drewN q
end Go.Proofs.YtkoobhgedoanhaaGreatDoor

namespace Go.Proofs.YtkoobhgedoanhaaGreatDoor
open Go.RowKit

/-- pick: one of n that a number stands for -/
def pickI (a n : Int) : Int := (a % 18446744073709551616) % n
theorem pickI_range (a n : Int) (hn : 0 < n) : 0 ≤ pickI a n ∧ pickI a n < n := ⟨Int.emod_nonneg _ (by omega), Int.emod_lt_of_pos _ hn⟩
theorem pick_val (a n : Int) (hn : 0 < n) (hn2 : n < 4611686018427387904) : wrap64 ((IntKind.u64.wrap a).tmod n) = pickI a n := by
  have e : IntKind.u64.wrap a = a % 18446744073709551616 := by simp [IntKind.wrap, IntKind.signed, IntKind.bits]
  rw [e, Int.tmod_eq_emod_of_nonneg (Int.emod_nonneg _ (by decide))]
  have h := pickI_range a n hn
  unfold pickI at h ⊢
  exact IntWalk.wrap64_in _ ⟨by omega, by omega⟩
set_option maxHeartbeats 1000000 in
theorem pick_any (a n : Int) (w : World) (hn : 0 < n) (hn2 : n < 4611686018427387904) :
    Calls Tryz.prog 28 #[.int .i64 a, .int .i64 n] w fun e w' => e = .returned (.int .i64 (pickI a n)) ∧ w = w' := by
  go_enter Tryz.func28, Tryz.ntmps28
  go_wp2
  go_ret
  exact ⟨ret_int (pick_val a n hn hn2), rfl⟩
end Go.Proofs.YtkoobhgedoanhaaGreatDoor

namespace Go.Proofs.YtkoobhgedoanhaaGreatDoor
open Go.RowKit

def digC (c : UInt8) : Bool := decide (48 ≤ c.toNat ∧ c.toNat ≤ 57)
theorem digC_iff {c : UInt8} : digC c = true ↔ 48 ≤ c.toNat ∧ c.toNat ≤ 57 := by unfold digC; simp
def digs : ByteArray := ⟨#[48, 49, 50, 51, 52, 53, 54, 55, 56, 57]⟩
theorem digs_ascii : ∀ b ∈ digs.data.toList, b.toNat < 128 := by decide +kernel
theorem digs_has : ∀ n : Fin 256, digs.data.toList.contains n.val.toUInt8 = digC n.val.toUInt8 := by decide +kernel
theorem digs_has' (c : UInt8) : digs.data.toList.contains c = digC c := by
  have h := digs_has ⟨c.toNat, c.toNat_lt⟩
  simpa using h
theorem digs_all (l : List UInt8) : l.all (digs.data.toList.contains ·) = l.all digC := by
  congr 1; funext c; exact digs_has' c
def secStep (n : Int) (c : UInt8) : Int := min (n * 10 + ((c.toNat : Int) - 48)) 2147483648
def secL (l : List UInt8) : Int := l.foldl secStep 0
def digitsB (l : List UInt8) : Bool := !l.isEmpty && l.all digC
theorem secL_snoc {l : List UInt8} {k : Nat} {x : UInt8} (h : l[k]? = some x) : secL (l.take (k + 1)) = secStep (secL (l.take k)) x := by
  rw [List.take_add_one, h]; simp [secL]
theorem secL_range : ∀ (l : List UInt8) (n : Int), l.all digC = true → 0 ≤ n → n ≤ 2147483648 → 0 ≤ l.foldl secStep n ∧ l.foldl secStep n ≤ 2147483648
  | [], n, _, h0, h1 => ⟨h0, h1⟩
  | c :: l, n, h, h0, h1 => by
    rw [List.all_cons, Bool.and_eq_true] at h
    have hc := digC_iff.1 h.1
    rw [List.foldl_cons]
    refine secL_range l _ h.2 ?_ ?_ <;> (unfold secStep; omega)
def SecPost (s : ByteArray) (w : World) (e : Ending) (w' : World) : Prop :=
  e = .returned (.tuple (if digitsB s.data.toList then #[.int .i64 (secL s.data.toList), .nilIface] else #[.int .i64 0, .iface 93 (.int .i64 3)])) ∧ Fr noB w w'
theorem SecPost.ok {s : ByteArray} {w w' : World} {e : Ending} (h : SecPost s w e w') (hd : digitsB s.data.toList = true) : e = .returned (.tuple #[.int .i64 (secL s.data.toList), .nilIface]) ∧ Fr noB w w' := by
  obtain ⟨he, hf⟩ := h; rw [hd] at he; exact ⟨he, hf⟩
theorem SecPost.no {s : ByteArray} {w w' : World} {e : Ending} (h : SecPost s w e w') (hd : digitsB s.data.toList = false) : e = .returned (.tuple #[.int .i64 0, .iface 93 (.int .i64 3)]) ∧ Fr noB w w' := by
  obtain ⟨he, hf⟩ := h; rw [hd] at he; exact ⟨he, hf⟩
def SecRel (s : ByteArray) (w : World) (n i : Value) (wr : World) : Prop := ∃ k : Nat, k ≤ s.size ∧ i = .int .i64 k ∧ n = .int .i64 (secL (s.data.toList.take k)) ∧ Fr noB w wr
set_option maxHeartbeats 1000000 in
theorem Seconds_any (s : ByteArray) (w : World) (hs : s.size < 17592186044416) :
    Calls Tryz.prog 73 #[.string s] w (SecPost s w) := by
  by_cases h0 : s.size = 0
  · have hnil := byteArray_nil.2 h0
    have hd := Lib.hid (show digitsB s.data.toList = false by rw [hnil]; rfl)
    have he : s.toList.isEmpty = true := by rw [ByteArray.toList_eq, hnil]; rfl
    have he' : s.toList = [] := by rw [ByteArray.toList_eq, hnil]
    clear hnil
    go_enter Tryz.func73, Tryz.ntmps73
    go_wp2
    go_ret2
    unfold SecPost
    rw [hd.out]
    exact ⟨rfl, Fr.refl _ _⟩
  · have hne : s.data.toList ≠ [] := fun h => h0 (byteArray_nil.1 h)
    have he : s.toList.isEmpty = false := by rw [ByteArray.toList_eq]; simpa using hne
    have he' : ¬ s.toList = [] := by rw [ByteArray.toList_eq]; exact hne
    have TR := Lib.hid (TrimSet_any s digs w (by omega) (by decide) (by decide) digs_ascii)
    cases hall : s.data.toList.all digC
    · have hd := Lib.hid (show digitsB s.data.toList = false by unfold digitsB; rw [hall]; simp)
      have htn := Lib.hid (show Lib.trimS s.data.toList digs.data.toList ≠ [] from fun h => by rw [trimS_nil, digs_all, hall] at h; cases h)
      clear hall hne
      go_enter Tryz.func73, Tryz.ntmps73
      go_wp2_with fail
      refine TR.out.mono ?_
      rintro e w1 ⟨rfl, hf1⟩
      have t1 : ¬ (⟨(Lib.trimS s.data.toList digs.data.toList).toArray⟩ : ByteArray).toList = [] := by rw [ByteArray.toList_eq]; simpa using htn.out
      have t2 : (⟨(Lib.trimS s.data.toList digs.data.toList).toArray⟩ : ByteArray).toList.isEmpty = false := by rw [ByteArray.toList_eq]; simpa using htn.out
      generalize (⟨(Lib.trimS s.data.toList digs.data.toList).toArray⟩ : ByteArray) = z at *
      go_wp2
      go_ret2
      unfold SecPost
      rw [hd.out]
      exact ⟨rfl, hf1⟩
    · have hd := Lib.hid (show digitsB s.data.toList = true by unfold digitsB; rw [hall]; simpa using hne)
      have htn := Lib.hid (show Lib.trimS s.data.toList digs.data.toList = [] by rw [trimS_nil, digs_all, hall])
      have HALL := Lib.hid hall
      clear hall hne
      go_enter Tryz.func73, Tryz.ntmps73
      go_wp2_with fail
      refine TR.out.mono ?_
      rintro e w1 ⟨rfl, hf1⟩
      rw [htn.out]
      clear TR
      go_wp2
      go_loopw [4, 16] (SecRel s w) (fun _ i _ => s.size - (intOf i).toNat)
      case atStart => exact ⟨0, Nat.zero_le _, rfl, rfl, hf1⟩
      case round =>
        obtain ⟨k, hk, rfl, rfl, hfr⟩ := hrel
        have hr := secL_range (s.data.toList.take k) 0 (by rw [List.all_eq_true]; exact fun x hx => List.all_eq_true.1 HALL.out x (List.mem_of_mem_take hx)) (by omega) (by omega)
        change 0 ≤ secL (s.data.toList.take k) ∧ secL (s.data.toList.take k) ≤ 2147483648 at hr
        obtain ⟨r0, r1⟩ := hr
        by_cases hks : k < s.size
        · have hat := byte_at s k hks
          have hdg := digC_iff.1 (List.all_eq_true.1 HALL.out _ (List.mem_of_getElem? hat))
          have hsn := Lib.hid (secL_snoc hat)
          generalize hx : s[k] = x at hat hdg hsn
          obtain ⟨d0, d1⟩ := hdg
          clear hat
          generalize secL (s.data.toList.take k) = n at *
          go_wp2
          go_roundw
          case rel => exact ⟨k + 1, by omega, by go_num, by rw [hsn.out]; rfl, hfr⟩
          case measure => simp [intOf]; omega
        · have hfin := Lib.hid (show secL (s.data.toList.take k) = secL s.data.toList by rw [List.take_of_length_le (by simp; omega)])
          go_wp2
          go_ret2
          unfold SecPost
          rw [hd.out, ← hfin.out]
          exact ⟨rfl, hfr⟩
end Go.Proofs.YtkoobhgedoanhaaGreatDoor

namespace Go.Proofs.YtkoobhgedoanhaaGreatDoor
open Go.RowKit

def methodsB : List ByteArray := [⟨#[68, 69, 76, 69, 84, 69]⟩, ⟨#[71, 69, 84]⟩, ⟨#[72, 69, 65, 68]⟩, ⟨#[79, 80, 84, 73, 79, 78, 83]⟩, ⟨#[80, 79, 83, 84]⟩, ⟨#[80, 85, 84]⟩]
def methodGo : List ByteArray → ByteArray → ByteArray
  | [], s => s
  | m :: l, s => if sameL s.data.toList m.data.toList then m else methodGo l s
/-- fetch.Method -/
def methodB (s : ByteArray) : ByteArray := methodGo methodsB s
/-- fetch.Simple -/
def simpleB (s : ByteArray) : Bool := s.toList == [71, 69, 84] || s.toList == [72, 69, 65, 68] || s.toList == [80, 79, 83, 84]
theorem methodGo_mem : ∀ (l : List ByteArray) (s : ByteArray), (methodGo l s ∈ l ∧ sameL s.data.toList (methodGo l s).data.toList = true) ∨ methodGo l s = s
  | [], s => .inr rfl
  | m :: l, s => by
    unfold methodGo
    by_cases h : sameL s.data.toList m.data.toList = true
    · rw [if_pos h]; exact .inl ⟨List.mem_cons_self .., h⟩
    · rw [if_neg h]
      rcases methodGo_mem l s with ⟨h1, h2⟩ | h1
      · exact .inl ⟨List.mem_cons_of_mem _ h1, h2⟩
      · exact .inr h1
theorem methods_fix : ∀ m ∈ methodsB, methodB m = m := by decide +kernel
theorem method_twice (s : ByteArray) : methodB (methodB s) = methodB s := by
  rcases methodGo_mem methodsB s with ⟨h, _⟩ | h
  · exact methods_fix _ h
  · show methodB (methodGo methodsB s) = _; rw [h]
theorem sameL_refl (a : List UInt8) : sameL a a = true := by unfold sameL; simp
theorem sameL_swap (a b : List UInt8) : sameL a b = sameL b a := by unfold sameL; rw [Bool.eq_iff_iff, beq_iff_eq, beq_iff_eq]; exact eq_comm
theorem method_same (s : ByteArray) : sameL (methodB s).data.toList s.data.toList = true := by
  rcases methodGo_mem methodsB s with ⟨_, h⟩ | h
  · rw [sameL_swap]; exact h
  · show sameL (methodGo methodsB s).data.toList _ = true; rw [h]; exact sameL_refl _
theorem methodGo_like : ∀ (l : List ByteArray) (s t : ByteArray), sameL s.data.toList t.data.toList = true → (methodGo l s = methodGo l t) ∨ (methodGo l s = s)
  | [], s, t, _ => .inr rfl
  | m :: l, s, t, h => by
    have hl : lowL s.data.toList = lowL t.data.toList := by unfold sameL at h; simpa using h
    have e : sameL t.data.toList m.data.toList = sameL s.data.toList m.data.toList := by unfold sameL; rw [hl]
    unfold methodGo
    rw [e]
    by_cases hm : sameL s.data.toList m.data.toList = true
    · rw [if_pos hm, if_pos hm]; exact .inl rfl
    · rw [if_neg hm, if_neg hm]; exact methodGo_like l s t h
theorem method_like {s t : ByteArray} (h : sameL s.data.toList t.data.toList = true) (hn : ¬ methodB s = s) : methodB t = methodB s := by
  rcases methodGo_like methodsB s t h with h1 | h1
  · exact h1.symm
  · exact absurd h1 hn
theorem simple_fix (s : ByteArray) (h : simpleB s = true) : methodB s = s := by
  unfold simpleB at h
  simp only [Bool.or_eq_true, beq_iff_eq] at h
  have hs : ∀ l : List UInt8, s.toList = l → s = ⟨l.toArray⟩ := fun l hl => by
    apply Go.WideShapes.bytes_inj
    rw [ByteArray.toList_eq] at hl
    rw [hl]
  rcases h with (h | h) | h
  · rw [hs _ h]; decide +kernel
  · rw [hs _ h]; decide +kernel
  · rw [hs _ h]; decide +kernel
theorem Simple_any (s : ByteArray) (w : World) :
    Calls Tryz.prog 81 #[.string s] w fun e w' => e = .returned (.bool (simpleB s)) ∧ w = w' := by
  by_cases h1 : s.toList = [71, 69, 84]
  · have hb := Lib.hid (show simpleB s = true by unfold simpleB; rw [h1]; rfl)
    go_enter Tryz.func81, Tryz.ntmps81
    go_wp2
    go_ret
    exact ⟨ret_bool hb.out.symm, rfl⟩
  · by_cases h2 : s.toList = [72, 69, 65, 68]
    · have hb := Lib.hid (show simpleB s = true by unfold simpleB; rw [h2]; rfl)
      go_enter Tryz.func81, Tryz.ntmps81
      go_wp2
      go_ret
      exact ⟨ret_bool hb.out.symm, rfl⟩
    · have hb := Lib.hid (show simpleB s = (s.toList == [71, 69, 84] || s.toList == [72, 69, 65, 68] || s.toList == [80, 79, 83, 84]) from rfl)
      go_enter Tryz.func81, Tryz.ntmps81
      go_wp2
      go_ret
      exact ⟨ret_bool hb.out.symm, rfl⟩
def MeRel (s : ByteArray) (w : World) (i : Value) (wr : World) : Prop := ∃ k : Nat, k ≤ 6 ∧ i = .int .i64 k ∧ methodB s = methodGo (methodsB.drop k) s ∧ Fr noB w wr
set_option maxRecDepth 100000 in
set_option maxHeartbeats 2000000 in
theorem Method_any (s : ByteArray) (w : World) (hs : s.size < 100000) :
    Calls Tryz.prog 75 #[.string s] w fun e w' => e = .returned (.string (methodB s)) ∧ Fr noB w w' := by
  have HC := Lib.hid (show ∀ U, Fr noB (w.alloc (.cells (methodsB.map Value.string).toArray 9)) U → ∀ (k : Nat) x, methodsB[k]? = some x → U.cell? ⟨w.heap.size, k, none⟩ = some (.string x) from fun U hU k x hx => by
    have h := hU.keep (new_block w (.cells (methodsB.map Value.string).toArray 9)) (fun h => h)
    have e : (methodsB.map Value.string)[k]? = some (.string x) := by rw [List.getElem?_map, hx]; rfl
    simp only [World.cell?, h]
    simpa using e)
  have hfb : Fr noB w (w.alloc (.cells (methodsB.map Value.string).toArray 9)) := (Fr.refl noB w).alloc _
  have HFB := Lib.hid hfb
  obtain ⟨wb, hwb⟩ : ∃ wb, wb = w.alloc (.cells (methodsB.map Value.string).toArray 9) := ⟨_, rfl⟩
  rw [← hwb] at HC HFB
  have HWB := Lib.hid (show wb = w.alloc (.cells #[.string ⟨#[68, 69, 76, 69, 84, 69]⟩, .string ⟨#[71, 69, 84]⟩, .string ⟨#[72, 69, 65, 68]⟩, .string ⟨#[79, 80, 84, 73, 79, 78, 83]⟩, .string ⟨#[80, 79, 83, 84]⟩, .string ⟨#[80, 85, 84]⟩] 9) from hwb)
  clear hwb hfb
  go_enter Tryz.func75, Tryz.ntmps75
  go_wp2
  rw [← HWB.out]
  go_loopw [7] (MeRel s wb) (fun i _ => 6 - (intOf i).toNat)
  case atStart => exact ⟨0, by omega, rfl, rfl, Fr.refl _ _⟩
  case round =>
    obtain ⟨k, hk, rfl, hm, hfr⟩ := hrel
    by_cases hk6 : k < 6
    · have hki : (k : Int) < 6 := by omega
      obtain ⟨m, hmk⟩ : ∃ m, methodsB[k]? = some m := ⟨_, List.getElem?_eq_getElem (by show k < 6; exact hk6)⟩
      have hcell := HC.out wr hfr k m hmk
      have hmz : m.size ≤ 10 := (show ∀ x ∈ methodsB, x.size ≤ 10 by decide) m (List.mem_of_getElem? hmk)
      have HD := Lib.hid (show methodB s = if sameL s.data.toList m.data.toList then m else methodGo (methodsB.drop (k + 1)) s by
        rw [hm, List.drop_eq_getElem_cons (show k < methodsB.length from hk6)]
        have e : methodsB[k]'(show k < methodsB.length from hk6) = m := by rw [List.getElem?_eq_getElem (show k < methodsB.length from hk6)] at hmk; exact Option.some.inj hmk
        rw [e]; rfl)
      clear hm hmk
      have HSA := Lib.hid (Same_any s m wr (by omega) (by omega))
      go_wp2_with fail
      refine HSA.out.mono ?_
      rintro e w5 ⟨rfl, hf5⟩
      clear HSA
      cases hsm : sameL s.data.toList m.data.toList
      · have HD2 := Lib.hid (show methodB s = methodGo (methodsB.drop (k + 1)) s by rw [HD.out, hsm]; rfl)
        clear hsm
        go_wp2
        go_roundw
        case rel => exact ⟨k + 1, by omega, by go_num, HD2.out, hfr.trans hf5⟩
        case measure => simp [intOf]; omega
      · have HD2 := Lib.hid (show methodB s = m by rw [HD.out, hsm]; rfl)
        clear hsm
        go_wp2
        go_ret
        exact ⟨by rw [HD2.out]; rfl, HFB.out.trans (hfr.trans hf5)⟩
    · have hki : ¬ (k : Int) < 6 := by omega
      have HD2 := Lib.hid (show methodB s = s by rw [hm, List.drop_eq_nil_of_le (by show 6 ≤ k; omega)]; rfl)
      clear hm
      go_wp2
      go_ret
      exact ⟨by rw [HD2.out]; rfl, HFB.out.trans hfr⟩
end Go.Proofs.YtkoobhgedoanhaaGreatDoor

namespace Go.Proofs.YtkoobhgedoanhaaGreatDoor
open Go.RowKit

theorem idx_first : ∀ (a b : List UInt8) (c : UInt8), (∀ x ∈ a, x ≠ c) → Lib.indexByte (a ++ c :: b) c = (a.length : Int)
  | [], b, c, _ => by simp [Lib.indexByte]
  | x :: a, b, c, h => by
    have hx : ¬ x = c := h x (List.mem_cons_self ..)
    have ih := idx_first a b c (fun y hy => h y (List.mem_cons_of_mem _ hy))
    show (if x == c then (0 : Int) else if Lib.indexByte (a ++ c :: b) c == -1 then -1 else Lib.indexByte (a ++ c :: b) c + 1) = _
    rw [ih, if_neg (by simpa using hx), if_neg (by simp)]
    simp
theorem idx_neg : ∀ (l : List UInt8) (c : UInt8), ¬ 0 ≤ Lib.indexByte l c ↔ ∀ x ∈ l, x ≠ c
  | [], c => by simp [Lib.indexByte]
  | x :: l, c => by
    have ih := idx_neg l c
    have hge := Lib.indexByte_ge l c
    show ¬ 0 ≤ (if x == c then (0 : Int) else if Lib.indexByte l c == -1 then -1 else Lib.indexByte l c + 1) ↔ _
    by_cases hx : x = c
    · subst hx; simp
    · rw [if_neg (by simpa using hx)]
      by_cases h1 : Lib.indexByte l c = -1
      · rw [if_pos (by simpa using h1)]
        constructor
        · intro _ y hy
          rcases List.mem_cons.1 hy with rfl | hy
          · exact hx
          · exact ih.1 (by rw [h1]; decide) y hy
        · intro _; decide
      · rw [if_neg (by simpa using h1)]
        constructor
        · intro h; omega
        · intro h
          have := ih.2 (fun y hy => h y (List.mem_cons_of_mem _ hy))
          omega
set_option maxHeartbeats 1000000 in
theorem cut1_hit (s : ByteArray) (c : UInt8) (i : Nat) (w : World) (hs : s.size < 4398046511104) (hi : Lib.indexByte s.data.toList c = (i : Int)) (hl : i < s.size) :
    Calls Tryz.prog 87 #[.string s, .string ⟨#[c]⟩] w fun e w' => e = .returned (.tuple #[.string (s.extract 0 i), .string (s.extract (i + 1) s.size), .bool true]) ∧ ∃ n, w' = w.drewN n := by
  have hin : Calls Tryz.prog 132 #[.string s, .string ⟨#[c]⟩] w fun e w' => e = .returned (.tuple #[.string (s.extract 0 i), .string (s.extract (i + 1) s.size), .bool true]) ∧ ∃ n, w' = w.drewN n := by
    have q0 : (0 : Int) ≤ (i : Int) := by omega
    have q1 : (i : Int) ≤ (s.size : Int) := by omega
    have q2 : (i : Int) + 1 ≤ (s.size : Int) := by omega
    have q3 : (0 : Int) ≤ (i : Int) + 1 := by omega
    go_enter Tryz.func132, Tryz.ntmps132
    go_wp2_with fail
    refine (Tryz.stringslite_Index_one s c w).mono ?_
    rintro e w1 ⟨rfl, rfl⟩
    rw [hi]
    go_wp2
    go_quiet (fail)
    go_wp2
    go_ret3
    exact ⟨rfl, _, rfl⟩
  go_enter Tryz.func87, Tryz.ntmps87
  go_wp2_with fail
  refine hin.mono ?_
  rintro e w1 ⟨rfl, n, rfl⟩
  go_wp2
  go_ret3
  exact ⟨rfl, n, rfl⟩
set_option maxHeartbeats 1000000 in
theorem cut1_miss (s : ByteArray) (c : UInt8) (w : World) (hi : ¬ 0 ≤ Lib.indexByte s.data.toList c) :
    Calls Tryz.prog 87 #[.string s, .string ⟨#[c]⟩] w fun e w' => e = .returned (.tuple #[.string s, .string ⟨#[]⟩, .bool false]) ∧ w' = w := by
  have hin : Calls Tryz.prog 132 #[.string s, .string ⟨#[c]⟩] w fun e w' => e = .returned (.tuple #[.string s, .string ⟨#[]⟩, .bool false]) ∧ w' = w := by
    go_enter Tryz.func132, Tryz.ntmps132
    go_wp2_with fail
    refine (Tryz.stringslite_Index_one s c w).mono ?_
    rintro e w1 ⟨rfl, rfl⟩
    go_wp2
    go_ret3
    exact ⟨rfl, rfl⟩
  go_enter Tryz.func87, Tryz.ntmps87
  go_wp2_with fail
  refine hin.mono ?_
  rintro e w1 ⟨rfl, rfl⟩
  go_wp2
  go_ret3
  exact ⟨rfl, rfl⟩
end Go.Proofs.YtkoobhgedoanhaaGreatDoor

namespace Go.Proofs.YtkoobhgedoanhaaGreatDoor
open Go.RowKit

def marksL : List UInt8 := [34, 40, 41, 58, 60, 62, 63, 64, 91, 92, 93, 123, 125]
def unsafeB (c : UInt8) : Bool := (decide (c.toNat < 32) && !decide (c.toNat = 9)) || decide (c.toNat = 127) || decide (0 ≤ Lib.indexByte marksL c)
set_option maxRecDepth 100000 in
set_option maxHeartbeats 1000000 in
theorem unsafe_any (c : UInt8) (w : World) :
    Calls Tryz.prog 170 #[.int .u8 (c.toNat : Int)] w fun e w' => e = .returned (.bool (unsafeB c)) ∧ w' = w := by
  by_cases h1 : c.toNat < 32 ∧ ¬ c.toNat = 9
  · obtain ⟨h1, h2⟩ := h1
    have hb := Lib.hid (show unsafeB c = true by unfold unsafeB; rw [decide_eq_true h1, decide_eq_false h2]; rfl)
    have i1 : (c.toNat : Int) < 32 := by omega
    have i2 : ¬ (c.toNat : Int) = 9 := by omega
    go_enter Tryz.func170, Tryz.ntmps170
    go_wp2
    go_ret
    exact ⟨ret_bool hb.out.symm, rfl⟩
  · by_cases h3 : c.toNat = 127
    · have hb := Lib.hid (show unsafeB c = true by unfold unsafeB; rw [decide_eq_true h3]; simp)
      have i1 : ¬ (c.toNat : Int) < 32 := by omega
      have i3 : (c.toNat : Int) = 127 := by omega
      go_enter Tryz.func170, Tryz.ntmps170
      go_wp2
      go_ret
      exact ⟨ret_bool hb.out.symm, rfl⟩
    · have hb := Lib.hid (show unsafeB c = decide (0 ≤ Lib.indexByte marksL c) by
        unfold unsafeB
        rw [decide_eq_false h3]
        by_cases h4 : c.toNat < 32
        · have h9 : c.toNat = 9 := by omega
          rw [decide_eq_true h4, decide_eq_true h9]; rfl
        · rw [decide_eq_false h4]; rfl)
      have HI := Lib.hid (show Calls Tryz.prog 135 #[.string ⟨#[34, 40, 41, 58, 60, 62, 63, 64, 91, 92, 93, 123, 125]⟩, .int .u8 (c.toNat : Int)] w fun e w' => e = .returned (.int .i64 (Lib.indexByte marksL c)) ∧ w' = w from
        (Tryz.strings_IndexByte ⟨#[34, 40, 41, 58, 60, 62, 63, 64, 91, 92, 93, 123, 125]⟩ c.toNat w).mono fun e w' ⟨he, hw⟩ => ⟨by
          have hc : ((c.toNat : Int).toNat.toUInt8) = c := by simp
          rw [hc] at he
          rw [he]; rfl, hw⟩)
      by_cases h4 : c.toNat < 32
      · have i1 : (c.toNat : Int) < 32 := by omega
        have i2 : (c.toNat : Int) = 9 := by omega
        have hi9 := HI.out
        rw [i2] at hi9
        have HI9 := Lib.hid hi9
        clear hi9
        have i3 : ((c.toNat : Int) == 127) = false := by rw [beq_eq_false_iff_ne]; omega
        go_enter Tryz.func170, Tryz.ntmps170
        go_wp2_with fail
        refine HI9.out.mono ?_
        rintro e u ⟨rfl, rfl⟩
        go_wp2
        go_ret
        first | exact ⟨ret_bool hb.out.symm, rfl⟩ | exact ⟨ret_bool (show (((c.toNat : Int) == 127) || decide (0 ≤ Lib.indexByte marksL c)) = unsafeB c by rw [i3, hb.out]; rfl), rfl⟩
      · have i1 : ¬ (c.toNat : Int) < 32 := by omega
        have i2 : ¬ (c.toNat : Int) = 127 := by omega
        have i3 : ((c.toNat : Int) == 127) = false := by rw [beq_eq_false_iff_ne]; exact i2
        go_enter Tryz.func170, Tryz.ntmps170
        go_wp2_with fail
        refine HI.out.mono ?_
        rintro e u ⟨rfl, rfl⟩
        go_wp2
        go_ret
        first | exact ⟨ret_bool hb.out.symm, rfl⟩ | exact ⟨ret_bool (show (((c.toNat : Int) == 127) || decide (0 ≤ Lib.indexByte marksL c)) = unsafeB c by rw [i3, hb.out]; rfl), rfl⟩

def langL : List UInt8 := [32, 42, 44, 45, 46, 59, 61]
def langC (c : UInt8) : Bool := alnumB c || decide (0 ≤ Lib.indexByte langL c)
def langB (s : ByteArray) : Bool := s.data.toList.all langC
def LaRel (s : ByteArray) (w : World) (i : Value) (wr : World) : Prop := ∃ k : Nat, k ≤ s.size ∧ i = .int .i64 k ∧ (s.data.toList.take k).all langC = true ∧ Fr noB w wr
set_option maxRecDepth 100000 in
set_option maxHeartbeats 2000000 in
theorem language_any (s : ByteArray) (w : World) (hs : s.size < 100000) :
    Calls Tryz.prog 171 #[.string s] w fun e w' => e = .returned (.bool (langB s)) ∧ Fr noB w w' := by
  go_enter Tryz.func171, Tryz.ntmps171
  go_wp2
  go_loopw [7] (LaRel s w) (fun i _ => s.size - (intOf i).toNat)
  case atStart => exact ⟨0, by omega, rfl, rfl, Fr.refl _ _⟩
  case round =>
    obtain ⟨k, hk, rfl, hall, hfr⟩ := hrel
    by_cases hks : k < s.size
    · have hki : (k : Int) < (s.size : Int) := by omega
      have hby := byte_at s k hks
      have HI := Lib.hid (show Calls Tryz.prog 135 #[.string ⟨#[32, 42, 44, 45, 46, 59, 61]⟩, .int .u8 (s[k].toNat : Int)] wr fun e w' => e = .returned (.int .i64 (Lib.indexByte langL s[k])) ∧ w' = wr from
        (Tryz.strings_IndexByte ⟨#[32, 42, 44, 45, 46, 59, 61]⟩ s[k].toNat wr).mono fun e w' ⟨he, hw⟩ => ⟨by
          have hc : ((s[k].toNat : Int).toNat.toUInt8) = s[k] := by simp
          rw [hc] at he
          rw [he]; rfl, hw⟩)
      have HYES := Lib.hid (show langC s[k] = true → (s.data.toList.take (k + 1)).all langC = true from fun h => by rw [List.take_add_one, hby, List.all_append, hall]; simp [h])
      have HNO := Lib.hid (show langC s[k] = false → langB s = false from fun h => by unfold langB; rw [List.all_eq_false]; exact ⟨s[k], List.mem_of_getElem? hby, by simp [h]⟩)
      have hlt := s[k].toNat_lt
      by_cases g0 : s[k].toNat ≤ 47
      · have q1 : (s[k].toNat : Int) < 48 := by omega
        have q2 : ¬ 57 < (s[k].toNat : Int) := by omega
        have q3 : (s[k].toNat : Int) < 97 := by omega
        have q4 : ¬ 122 < (s[k].toNat : Int) := by omega
        have q5 : (s[k].toNat : Int) < 65 := by omega
        have q6 : ¬ 90 < (s[k].toNat : Int) := by omega
        have hal : alnumB s[k] = false := by unfold alnumB; simp; omega
        have HAL := Lib.hid hal
        clear hal hby hall
        go_wp2_with fail
        refine HI.out.mono ?_
        rintro e u ⟨rfl, rfl⟩
        by_cases hix : 0 ≤ Lib.indexByte langL s[k]
        · have hix2 : ¬ Lib.indexByte langL s[k] < 0 := by omega
          have HY := Lib.hid (HYES.out (by unfold langC; rw [HAL.out, decide_eq_true hix]; rfl))
          go_wp2
          go_roundw
          case rel => exact ⟨k + 1, by omega, by go_num, HY.out, hfr⟩
          case measure => simp [intOf]; omega
        · have hix2 : Lib.indexByte langL s[k] < 0 := by omega
          have HN := Lib.hid (HNO.out (by unfold langC; rw [HAL.out, decide_eq_false hix]; rfl))
          go_wp2
          go_ret
          exact ⟨by rw [HN.out]; rfl, hfr⟩
      · skip
        by_cases g1 : s[k].toNat ≤ 57
        · have q1 : ¬ (s[k].toNat : Int) < 48 := by omega
          have q2 : ¬ 57 < (s[k].toNat : Int) := by omega
          have q3 : (s[k].toNat : Int) < 97 := by omega
          have q4 : ¬ 122 < (s[k].toNat : Int) := by omega
          have q5 : (s[k].toNat : Int) < 65 := by omega
          have q6 : ¬ 90 < (s[k].toNat : Int) := by omega
          have hy := HYES.out (by unfold langC alnumB; simp; omega)
          have HY := Lib.hid hy
          clear hy hall hby
          go_wp2
          go_roundw
          case rel => exact ⟨k + 1, by omega, by go_num, HY.out, hfr⟩
          case measure => simp [intOf]; omega
        · skip
          by_cases g2 : s[k].toNat ≤ 64
          · have q1 : ¬ (s[k].toNat : Int) < 48 := by omega
            have q2 : 57 < (s[k].toNat : Int) := by omega
            have q3 : (s[k].toNat : Int) < 97 := by omega
            have q4 : ¬ 122 < (s[k].toNat : Int) := by omega
            have q5 : (s[k].toNat : Int) < 65 := by omega
            have q6 : ¬ 90 < (s[k].toNat : Int) := by omega
            have hal : alnumB s[k] = false := by unfold alnumB; simp; omega
            have HAL := Lib.hid hal
            clear hal hby hall
            go_wp2_with fail
            refine HI.out.mono ?_
            rintro e u ⟨rfl, rfl⟩
            by_cases hix : 0 ≤ Lib.indexByte langL s[k]
            · have hix2 : ¬ Lib.indexByte langL s[k] < 0 := by omega
              have HY := Lib.hid (HYES.out (by unfold langC; rw [HAL.out, decide_eq_true hix]; rfl))
              go_wp2
              go_roundw
              case rel => exact ⟨k + 1, by omega, by go_num, HY.out, hfr⟩
              case measure => simp [intOf]; omega
            · have hix2 : Lib.indexByte langL s[k] < 0 := by omega
              have HN := Lib.hid (HNO.out (by unfold langC; rw [HAL.out, decide_eq_false hix]; rfl))
              go_wp2
              go_ret
              exact ⟨by rw [HN.out]; rfl, hfr⟩
          · skip
            by_cases g3 : s[k].toNat ≤ 90
            · have q1 : ¬ (s[k].toNat : Int) < 48 := by omega
              have q2 : 57 < (s[k].toNat : Int) := by omega
              have q3 : (s[k].toNat : Int) < 97 := by omega
              have q4 : ¬ 122 < (s[k].toNat : Int) := by omega
              have q5 : ¬ (s[k].toNat : Int) < 65 := by omega
              have q6 : ¬ 90 < (s[k].toNat : Int) := by omega
              have hy := HYES.out (by unfold langC alnumB; simp; omega)
              have HY := Lib.hid hy
              clear hy hall hby
              go_wp2
              go_roundw
              case rel => exact ⟨k + 1, by omega, by go_num, HY.out, hfr⟩
              case measure => simp [intOf]; omega
            · skip
              by_cases g4 : s[k].toNat ≤ 96
              · have q1 : ¬ (s[k].toNat : Int) < 48 := by omega
                have q2 : 57 < (s[k].toNat : Int) := by omega
                have q3 : (s[k].toNat : Int) < 97 := by omega
                have q4 : ¬ 122 < (s[k].toNat : Int) := by omega
                have q5 : ¬ (s[k].toNat : Int) < 65 := by omega
                have q6 : 90 < (s[k].toNat : Int) := by omega
                have hal : alnumB s[k] = false := by unfold alnumB; simp; omega
                have HAL := Lib.hid hal
                clear hal hby hall
                go_wp2_with fail
                refine HI.out.mono ?_
                rintro e u ⟨rfl, rfl⟩
                by_cases hix : 0 ≤ Lib.indexByte langL s[k]
                · have hix2 : ¬ Lib.indexByte langL s[k] < 0 := by omega
                  have HY := Lib.hid (HYES.out (by unfold langC; rw [HAL.out, decide_eq_true hix]; rfl))
                  go_wp2
                  go_roundw
                  case rel => exact ⟨k + 1, by omega, by go_num, HY.out, hfr⟩
                  case measure => simp [intOf]; omega
                · have hix2 : Lib.indexByte langL s[k] < 0 := by omega
                  have HN := Lib.hid (HNO.out (by unfold langC; rw [HAL.out, decide_eq_false hix]; rfl))
                  go_wp2
                  go_ret
                  exact ⟨by rw [HN.out]; rfl, hfr⟩
              · skip
                by_cases g5 : s[k].toNat ≤ 122
                · have q1 : ¬ (s[k].toNat : Int) < 48 := by omega
                  have q2 : 57 < (s[k].toNat : Int) := by omega
                  have q3 : ¬ (s[k].toNat : Int) < 97 := by omega
                  have q4 : ¬ 122 < (s[k].toNat : Int) := by omega
                  have q5 : ¬ (s[k].toNat : Int) < 65 := by omega
                  have q6 : 90 < (s[k].toNat : Int) := by omega
                  have hy := HYES.out (by unfold langC alnumB; simp; omega)
                  have HY := Lib.hid hy
                  clear hy hall hby
                  go_wp2
                  go_roundw
                  case rel => exact ⟨k + 1, by omega, by go_num, HY.out, hfr⟩
                  case measure => simp [intOf]; omega
                · skip
                  have q1 : ¬ (s[k].toNat : Int) < 48 := by omega
                  have q2 : 57 < (s[k].toNat : Int) := by omega
                  have q3 : ¬ (s[k].toNat : Int) < 97 := by omega
                  have q4 : 122 < (s[k].toNat : Int) := by omega
                  have q5 : ¬ (s[k].toNat : Int) < 65 := by omega
                  have q6 : 90 < (s[k].toNat : Int) := by omega
                  have hal : alnumB s[k] = false := by unfold alnumB; simp; omega
                  have HAL := Lib.hid hal
                  clear hal hby hall
                  go_wp2_with fail
                  refine HI.out.mono ?_
                  rintro e u ⟨rfl, rfl⟩
                  by_cases hix : 0 ≤ Lib.indexByte langL s[k]
                  · have hix2 : ¬ Lib.indexByte langL s[k] < 0 := by omega
                    have HY := Lib.hid (HYES.out (by unfold langC; rw [HAL.out, decide_eq_true hix]; rfl))
                    go_wp2
                    go_roundw
                    case rel => exact ⟨k + 1, by omega, by go_num, HY.out, hfr⟩
                    case measure => simp [intOf]; omega
                  · have hix2 : Lib.indexByte langL s[k] < 0 := by omega
                    have HN := Lib.hid (HNO.out (by unfold langC; rw [HAL.out, decide_eq_false hix]; rfl))
                    go_wp2
                    go_ret
                    exact ⟨by rw [HN.out]; rfl, hfr⟩
    · have hki : ¬ (k : Int) < (s.size : Int) := by omega
      have hfin := Lib.hid (show langB s = true by
        unfold langB
        rw [List.take_of_length_le (by simp; omega)] at hall
        exact hall)
      clear hall
      go_wp2
      go_ret
      exact ⟨by rw [hfin.out]; rfl, hfr⟩
end Go.Proofs.YtkoobhgedoanhaaGreatDoor

namespace Go.Proofs.YtkoobhgedoanhaaGreatDoor
open Go.RowKit

def safeB (s : ByteArray) : Bool := s.data.toList.all fun c => !unsafeB c
def kindsB : List ByteArray := [⟨#[97, 112, 112, 108, 105, 99, 97, 116, 105, 111, 110, 47, 120, 45, 119, 119, 119, 45, 102, 111, 114, 109, 45, 117, 114, 108, 101, 110, 99, 111, 100, 101, 100]⟩, ⟨#[109, 117, 108, 116, 105, 112, 97, 114, 116, 47, 102, 111, 114, 109, 45, 100, 97, 116, 97]⟩, ⟨#[116, 101, 120, 116, 47, 112, 108, 97, 105, 110]⟩]
def beforeB (s : ByteArray) (c : UInt8) : ByteArray := if 0 ≤ Lib.indexByte s.data.toList c then s.extract 0 (Lib.indexByte s.data.toList c).toNat else s
def kindB (s : ByteArray) : ByteArray := ⟨(lowL (Lib.trimS (beforeB s 59).data.toList [32, 9])).toArray⟩
/-- fetch.Plain -/
def plainB (name value : ByteArray) : Bool :=
  if 128 < value.size then false
  else if lowL name.data.toList = [97, 99, 99, 101, 112, 116] then safeB value
  else if lowL name.data.toList = [97, 99, 99, 101, 112, 116, 45, 108, 97, 110, 103, 117, 97, 103, 101] then langB value
  else if lowL name.data.toList = [99, 111, 110, 116, 101, 110, 116, 45, 108, 97, 110, 103, 117, 97, 103, 101] then langB value
  else if lowL name.data.toList = [99, 111, 110, 116, 101, 110, 116, 45, 116, 121, 112, 101] then safeB value && Lib.containsS kindsB (kindB value)
  else false
theorem dropWhile_le (p : UInt8 → Bool) : ∀ l : List UInt8, (l.dropWhile p).length ≤ l.length
  | [] => Nat.le_refl _
  | a :: l => by
    rw [List.dropWhile_cons]
    split
    · exact Nat.le_succ_of_le (dropWhile_le p l)
    · exact Nat.le_refl _
theorem trimS_le (l cs : List UInt8) : (Lib.trimS l cs).length ≤ l.length := by
  unfold Lib.trimS Lib.trimLeftS Lib.trimRightS
  refine Nat.le_trans (dropWhile_le _ _) ?_
  rw [List.length_reverse]
  refine Nat.le_trans (dropWhile_le _ _) ?_
  rw [List.length_reverse]
  exact Nat.le_refl _
def PlRel (s : ByteArray) (w : World) (b i : Value) (wr : World) : Prop := ∃ k : Nat, k ≤ s.size ∧ i = .int .i64 k ∧ b = .bool ((s.data.toList.take k).all fun c => !unsafeB c) ∧ Fr noB w wr
set_option maxRecDepth 100000 in
set_option maxHeartbeats 4000000 in
theorem Plain_any (name value : ByteArray) (w : World) (hn : name.size < 100000) (hv : value.size < 100000) :
    Calls Tryz.prog 129 #[.agg #[.string name, .string value]] w fun e w' => e = .returned (.bool (plainB name value)) ∧ Fr noB w w' := by
  obtain ⟨wb, hwb⟩ : ∃ wb, wb = w.alloc (.cells #[.string name, .string value] 79) := ⟨_, rfl⟩
  have hfb : Fr noB w wb := by rw [hwb]; exact (Fr.refl noB w).alloc _
  have hk1 : wb.heap[w.heap.size]? = some (.cells #[.string name, .string value] 79 (0, 0)) := by rw [hwb]; exact new_block _ _
  have HC := Lib.hid (show ∀ U, Fr noB wb U → U.cell? ⟨w.heap.size, 0, none⟩ = some (.string name) ∧ U.cell? ⟨w.heap.size, 1, none⟩ = some (.string value) from fun U hU => by
    have j1 := hU.keep hk1 (fun h => h)
    simp [World.cell?, j1])
  have HWB := Lib.hid hwb
  have HFB := Lib.hid hfb
  clear hwb hfb hk1
  by_cases h128 : 128 < value.size
  · have HP := Lib.hid (show plainB name value = false by unfold plainB; rw [if_pos h128])
    have i128 : (128 : Int) < (value.size : Int) := by omega
    go_enter Tryz.func129, Tryz.ntmps129
    go_wp2
    rw [← HWB.out]
    go_ret
    exact ⟨by rw [HP.out]; rfl, HFB.out⟩
  · have HP := Lib.hid (show plainB name value = if lowL name.data.toList = [97, 99, 99, 101, 112, 116] then safeB value
  else if lowL name.data.toList = [97, 99, 99, 101, 112, 116, 45, 108, 97, 110, 103, 117, 97, 103, 101] then langB value
  else if lowL name.data.toList = [99, 111, 110, 116, 101, 110, 116, 45, 108, 97, 110, 103, 117, 97, 103, 101] then langB value
  else if lowL name.data.toList = [99, 111, 110, 116, 101, 110, 116, 45, 116, 121, 112, 101] then safeB value && Lib.containsS kindsB (kindB value)
  else false by unfold plainB; rw [if_neg h128])
    have i128 : ¬ (128 : Int) < (value.size : Int) := by omega
    go_enter Tryz.func129, Tryz.ntmps129
    go_wp2
    rw [← HWB.out]
    go_loopw [3, 15] (PlRel value wb) (fun _ i _ => value.size - (intOf i).toNat)
    case atStart => exact ⟨0, by omega, rfl, rfl, Fr.refl _ _⟩
    case round =>
      obtain ⟨k, hk, rfl, rfl, hfr⟩ := hrel
      obtain ⟨c0, c1⟩ := HC.out wr hfr
      by_cases hks : k < value.size
      · have hki : (k : Int) < (value.size : Int) := by omega
        have hby := byte_at value k hks
        have HST := Lib.hid (show ((value.data.toList.take (k + 1)).all fun c => !unsafeB c) = (((value.data.toList.take k).all fun c => !unsafeB c) && !unsafeB value[k]) by rw [List.take_add_one, hby, List.all_append]; simp)
        clear hby
        cases hb : (value.data.toList.take k).all fun c => !unsafeB c
        · have HS2 := Lib.hid (show ((value.data.toList.take (k + 1)).all fun c => !unsafeB c) = false by rw [HST.out, hb]; rfl)
          clear hb
          go_wp2
          go_roundw
          case rel => exact ⟨k + 1, by omega, by go_num, by rw [HS2.out], hfr⟩
          case measure => simp [intOf]; omega
        · have HS2 := Lib.hid (show ((value.data.toList.take (k + 1)).all fun c => !unsafeB c) = !unsafeB value[k] by rw [HST.out, hb]; rfl)
          clear hb
          go_wp2_with fail
          refine (unsafe_any value[k] _).mono ?_
          rintro e u ⟨rfl, rfl⟩
          go_wp2
          go_roundw
          case rel => exact ⟨k + 1, by omega, by go_num, by rw [HS2.out], hfr⟩
          case measure => simp [intOf]; omega
      · have hki : ¬ (k : Int) < (value.size : Int) := by omega
        rw [show ((value.data.toList.take k).all fun c => !unsafeB c) = safeB value from by rw [List.take_of_length_le (by simp; omega)]; rfl]
        generalize safeB value = sf at *
        go_wp2_with fail
        refine (Lower_any name wr (by omega)).mono ?_
        rintro e u1 ⟨rfl, hf1⟩
        have HF1 := Lib.hid (hfr.trans hf1)
        clear hf1 c0 c1
        obtain ⟨c0, c1⟩ := HC.out u1 HF1.out
        generalize lowL name.data.toList = nl at *
        by_cases a1 : nl = [97, 99, 99, 101, 112, 116]
        · subst a1
          have HE := Lib.hid (show plainB name value = sf by rw [HP.out, if_pos rfl])
          go_wp2
          go_ret
          exact ⟨by rw [HE.out]; rfl, HFB.out.trans HF1.out⟩
        have HP1 := Lib.hid (by have h := HP.out; rw [if_neg a1] at h; exact h)
        have b1 : (nl == [97, 99, 99, 101, 112, 116]) = false := beq_eq_false_iff_ne.2 a1
        by_cases a2 : nl = [97, 99, 99, 101, 112, 116, 45, 108, 97, 110, 103, 117, 97, 103, 101]
        · subst a2
          have HE := Lib.hid (show plainB name value = langB value by rw [HP1.out, if_pos rfl])
          clear b1 a1
          go_wp2_with fail
          refine (language_any value u1 hv).mono ?_
          rintro e u2 ⟨rfl, hf2⟩
          go_wp2
          go_ret
          exact ⟨by rw [HE.out]; rfl, HFB.out.trans (HF1.out.trans hf2)⟩
        have HP2 := Lib.hid (by have h := HP1.out; rw [if_neg a2] at h; exact h)
        have b2 : (nl == [97, 99, 99, 101, 112, 116, 45, 108, 97, 110, 103, 117, 97, 103, 101]) = false := beq_eq_false_iff_ne.2 a2
        by_cases a3 : nl = [99, 111, 110, 116, 101, 110, 116, 45, 108, 97, 110, 103, 117, 97, 103, 101]
        · subst a3
          have HE := Lib.hid (show plainB name value = langB value by rw [HP2.out, if_pos rfl])
          clear b1 a1 b2 a2
          go_wp2_with fail
          refine (language_any value u1 hv).mono ?_
          rintro e u2 ⟨rfl, hf2⟩
          go_wp2
          go_ret
          exact ⟨by rw [HE.out]; rfl, HFB.out.trans (HF1.out.trans hf2)⟩
        have HP3 := Lib.hid (by have h := HP2.out; rw [if_neg a3] at h; exact h)
        have b3 : (nl == [99, 111, 110, 116, 101, 110, 116, 45, 108, 97, 110, 103, 117, 97, 103, 101]) = false := beq_eq_false_iff_ne.2 a3
        by_cases a4 : nl = [99, 111, 110, 116, 101, 110, 116, 45, 116, 121, 112, 101]
        · subst a4
          have HE := Lib.hid (show plainB name value = (sf && Lib.containsS kindsB (kindB value)) by rw [HP3.out, if_pos rfl])
          clear b1 a1 b2 a2 b3 a3
          have HCUT := Lib.hid (show Calls Tryz.prog 87 #[.string value, .string ⟨#[59]⟩] u1 fun e w' => (∃ r f, e = .returned (.tuple #[.string (beforeB value 59), .string r, .bool f])) ∧ Fr noB u1 w' by
            by_cases hc : 0 ≤ Lib.indexByte value.data.toList 59
            · obtain ⟨i, hi⟩ : ∃ i : Nat, Lib.indexByte value.data.toList 59 = (i : Int) := ⟨(Lib.indexByte value.data.toList 59).toNat, by omega⟩
              have hl : i < value.size := by
                have h := (Lib.indexByte_some hi).1
                have := (List.getElem?_eq_some_iff.1 h).1
                simpa using this
              refine (cut1_hit value 59 i u1 (by omega) hi hl).mono ?_
              rintro e w' ⟨rfl, n, rfl⟩
              refine ⟨⟨value.extract (i + 1) value.size, true, ?_⟩, (Fr.refl noB u1).drewN n⟩
              unfold beforeB
              rw [if_pos hc, hi]; rfl
            · refine (cut1_miss value 59 u1 hc).mono ?_
              rintro e w' ⟨rfl, rfl⟩
              refine ⟨⟨⟨#[]⟩, false, ?_⟩, Fr.refl _ _⟩
              unfold beforeB
              rw [if_neg hc])
          have hbz : (beforeB value 59).size ≤ value.size := by
            unfold beforeB
            split
            · simp [ByteArray.size_extract]; omega
            · exact Nat.le_refl _
          have HKB := Lib.hid (show kindB value = ⟨(lowL (Lib.trimS (beforeB value 59).data.toList [32, 9])).toArray⟩ from rfl)
          generalize beforeB value 59 = bv at *
          go_wp2_with fail
          refine HCUT.out.mono ?_
          rintro e u2 ⟨⟨r, f, rfl⟩, hf2⟩
          have HF2 := Lib.hid (HF1.out.trans hf2)
          clear HCUT hf2
          go_wp2_with fail
          refine (TrimSet_any bv ⟨#[32, 9]⟩ u2 (by omega) (by decide) (by decide) (by decide)).mono ?_
          rintro e u3 ⟨rfl, hf3⟩
          have HF3 := Lib.hid (HF2.out.trans hf3)
          clear hf3
          have htl := trimS_le bv.data.toList [32, 9]
          have hbs : bv.data.toList.length = bv.size := by simp
          rw [show (⟨#[32, 9]⟩ : ByteArray).data.toList = [32, 9] from rfl]
          generalize Lib.trimS bv.data.toList [32, 9] = tl at *
          have htz : (⟨tl.toArray⟩ : ByteArray).size < 17592186044416 := by show tl.toArray.size < _; simp; omega
          go_wp2_with fail
          refine (Lower_any ⟨tl.toArray⟩ u3 htz).mono ?_
          rintro e u4 ⟨rfl, hf4⟩
          have HF4 := Lib.hid (HF3.out.trans hf4)
          rw [show (⟨(lowL (⟨tl.toArray⟩ : ByteArray).data.toList).toArray⟩ : ByteArray) = kindB value from by rw [HKB.out]]
          clear hf4 htl htz hbs
          generalize kindB value = kv at *
          cases sf
          · go_wp2
            go_ret
            exact ⟨by rw [HE.out]; rfl, HFB.out.trans (Fr.trans HF4.out (by repeat (first | exact Fr.refl _ _ | apply Fr.alloc)))⟩
          · have HCO := Lib.hid (Tryz.slices_Contains_string u4.heap.size 0 3 3 kindsB kv (u4.alloc (.cells (kindsB.map Value.string).toArray 9)) (Nat.le_of_ble_eq_true rfl) (Nat.le_of_ble_eq_true rfl) (fun j hj => by
              have h := new_block u4 (.cells (kindsB.map Value.string).toArray 9)
              have e : (kindsB.map Value.string)[j]? = some (.string (kindsB.getD j ByteArray.empty)) := by rw [List.getElem?_map, List.getElem?_eq_getElem hj, List.getD_eq_getElem?_getD, List.getElem?_eq_getElem hj]; rfl
              rw [Nat.zero_add]
              simp only [World.cell?, h]
              simpa using e))
            have HF5 := Lib.hid (show Fr noB wb (u4.alloc (.cells (kindsB.map Value.string).toArray 9)) from HF4.out.alloc _)
            go_wp2_with fail
            refine HCO.out.mono ?_
            rintro e u5 ⟨rfl, rfl⟩
            rw [show kindsB.take 3 = kindsB from rfl]
            go_wp2
            go_ret
            exact ⟨by rw [HE.out]; rfl, HFB.out.trans HF5.out⟩
        have b4 : (nl == [99, 111, 110, 116, 101, 110, 116, 45, 116, 121, 112, 101]) = false := beq_eq_false_iff_ne.2 a4
        have HE := Lib.hid (show plainB name value = false by rw [HP3.out, if_neg a4])
        go_wp2
        go_ret
        exact ⟨by rw [HE.out]; rfl, HFB.out.trans HF1.out⟩
end Go.Proofs.YtkoobhgedoanhaaGreatDoor

namespace Go.Proofs.YtkoobhgedoanhaaGreatDoor
open Go.RowKit Go.Sort

def sortLs (ls : List (List UInt8)) : List (List UInt8) := ls.mergeSort fun x y => decide (x ≤ y)
theorem Sort_any (base : Nat) (v : Value) (ls : List (List UInt8)) (w : World) (h : w.ownsRow base 9 1 v ls.length (ls.map encStr)) (hl : ls.length < 1000000) :
    Calls Tryz.prog 130 #[v] w fun e w' => e = .returned (.tuple #[]) ∧ w'.ownsRow base 9 1 v ls.length ((sortLs ls).map encStr) ∧ w.grownBy w' v.ownBlock := by
  rcases h.2 with ⟨rfl, h0⟩ | ⟨g, cap, cur, rfl, hbase, hb, h1, h2, h3, h4⟩
  · obtain rfl : ls = [] := List.length_eq_zero_iff.1 h0
    refine (Tryz.slices_Sort_string_none none 0 w).mono ?_
    rintro e w' ⟨rfl, rfl⟩
    exact ⟨rfl, by rw [show sortLs [] = [] by simp [sortLs]]; exact h, ⟨rfl, rfl, rfl, Nat.le_refl _, fun _ _ _ => rfl⟩⟩
  · refine (Tryz.slices_Sort_string g 0 cap ls w (holds_of_block hb (by simpa using h4)) (lt_of_some hb) (by omega)).mono ?_
    rintro e w' ⟨rfl, n, os, rfl⟩
    exact ⟨rfl, ownsRow_sorted (by simp) hbase hb h1 h2 h3, grownBy_sorted _⟩
theorem compact_any (base : Nat) (v : Value) (ls : List (List UInt8)) (w : World) (h : w.ownsRow base 9 1 v ls.length (ls.map encStr)) (hl : ls.length < 1000000) :
    Calls Tryz.prog 131 #[v] w fun e w' => ∃ u, e = .returned u ∧ w'.ownsRow base 9 1 u (Lib.compact ls).length ((Lib.compact ls).map encStr) ∧ w.grownBy w' v.ownBlock := by
  rcases h.2 with ⟨rfl, h0⟩ | ⟨g, cap, cur, rfl, hbase, hb, h1, h2, h3, h4⟩
  · obtain rfl : ls = [] := List.length_eq_zero_iff.1 h0
    refine (Tryz.slices_Compact_string_empty none 0 w).mono ?_
    rintro e w' ⟨rfl, rfl⟩
    exact ⟨_, rfl, h, ⟨rfl, rfl, rfl, Nat.le_refl _, fun _ _ _ => rfl⟩⟩
  · refine (Tryz.slices_Compact_string g 0 cap ls w (holds_of_block hb (by simpa using h4)) (by omega) h1).mono ?_
    have hle := Lib.compact_length_le ls
    obtain ⟨ts, hts⟩ : ∃ ts : List (List UInt8), ts = Lib.compact ls ++ List.replicate (ls.length - (Lib.compact ls).length) [] := ⟨_, rfl⟩
    have hlen : ts.length = ls.length := by rw [hts, List.length_append, List.length_replicate]; omega
    rw [← hts]
    rintro e w' ⟨rfl, q, rfl⟩
    have hw := heap_sorted (n := q) (os := #[]) ts.toArray hb
    have hg := grownBy_sorted (w := w) (g := g) (n := q) (os := #[]) ts.toArray
    rw [grow_empty] at hw hg
    have tk := take_putCells cur ts (by omega)
    refine ⟨_, rfl, ⟨by simp, .inr ⟨g, cap, _, rfl, hbase, hw, by omega, h2, by simp [putCells, h3], ?_⟩⟩, hg⟩
    have e1 : (putCells encStr 0 ts.toArray cur).toList.take (Lib.compact ls).length = ((putCells encStr 0 ts.toArray cur).toList.take ts.length).take (Lib.compact ls).length := by
      rw [List.take_take, Nat.min_eq_left (by omega)]
    rw [Nat.mul_one, e1, tk, hts, List.map_append, List.take_left' (by simp)]
end Go.Proofs.YtkoobhgedoanhaaGreatDoor
