/- Origins and URLs as texts: plain laws. No program in sight. -/
import Derived.Test.YtkoobhgedoanhaaGreatDoorCleanPure
import Derived.Test.YtkoobhgedoanhaaGreatDoorLower
import Derived.Lib.ItoaMem
import Derived.Lib.Atoi
namespace Go.Proofs.YtkoobhgedoanhaaGreatDoor

/-! ### numerals -/
def digitB (c : UInt8) : Bool := decide (48 ≤ c.toNat ∧ c.toNat ≤ 57)
theorem digitB_iff {c : UInt8} : digitB c = true ↔ 48 ≤ c.toNat ∧ c.toNat ≤ 57 := by unfold digitB; simp
def decV (l : List UInt8) : Nat := l.foldl (fun n c => n * 10 + (c.toNat - 48)) 0
theorem ofNat_dig (u : Nat) (h : u < 10) : (UInt8.ofNat (48 + u)).toNat = 48 + u := by
  rw [UInt8.toNat_ofNat']; omega
theorem decDigits_small {u : Nat} (h : u < 10) : Lib.decDigits u = [UInt8.ofNat (48 + u)] := by rw [Lib.decDigits, dif_pos h]
theorem decDigits_big {u : Nat} (h : ¬ u < 10) : Lib.decDigits u = Lib.decDigits (u / 10) ++ [UInt8.ofNat (48 + u % 10)] := by rw [Lib.decDigits, dif_neg h]
theorem decDigits_all (u : Nat) : (Lib.decDigits u).all digitB = true := by
  induction u using Nat.strongRecOn with
  | _ u ih =>
    by_cases h : u < 10
    · rw [decDigits_small h, List.all_cons, List.all_nil, Bool.and_true, digitB_iff, ofNat_dig u h]; omega
    · rw [decDigits_big h, List.all_append, ih (u / 10) (by omega), List.all_cons, List.all_nil, Bool.and_true, Bool.true_and, digitB_iff, ofNat_dig _ (Nat.mod_lt _ (by omega))]
      have := Nat.mod_lt u (show 0 < 10 by omega)
      omega
theorem decV_digits (u : Nat) : decV (Lib.decDigits u) = u := by
  induction u using Nat.strongRecOn with
  | _ u ih =>
    by_cases h : u < 10
    · rw [decDigits_small h]
      show 0 * 10 + ((UInt8.ofNat (48 + u)).toNat - 48) = u
      rw [ofNat_dig u h]; omega
    · have hi := ih (u / 10) (by omega)
      rw [decDigits_big h]
      unfold decV at hi ⊢
      rw [List.foldl_append, hi]
      show u / 10 * 10 + ((UInt8.ofNat (48 + u % 10)).toNat - 48) = u
      rw [ofNat_dig _ (Nat.mod_lt _ (by omega))]; omega
theorem decDigits_ne (u : Nat) : Lib.decDigits u ≠ [] := by
  by_cases h : u < 10
  · rw [decDigits_small h]; simp
  · rw [decDigits_big h]; simp
theorem decDigits_len : ∀ (k u : Nat), u < 10 ^ (k + 1) → (Lib.decDigits u).length ≤ k + 1
  | 0, u, h => by rw [decDigits_small (by simpa using h)]; simp
  | k + 1, u, h => by
    by_cases h2 : u < 10
    · rw [decDigits_small h2]; simp
    · have := decDigits_len k (u / 10) (by rw [Nat.pow_succ] at h; omega)
      rw [decDigits_big h2]; simp; omega
theorem decFrom_all : ∀ (l : List UInt8) (n : Nat), l.all digitB = true → Lib.decFrom n l = some (l.foldl (fun n c => n * 10 + (c.toNat - 48)) n)
  | [], n, _ => rfl
  | c :: l, n, h => by
    rw [List.all_cons, Bool.and_eq_true] at h
    have hc := digitB_iff.1 h.1
    have hd : Lib.digitVal c = some (c.toNat - 48) := by
      unfold Lib.digitVal
      rw [if_pos hc]
    rw [Lib.decFrom, hd]
    exact decFrom_all l _ h.2
theorem atoi_all {l : List UInt8} (h : l.all digitB = true) (h0 : l ≠ []) : Lib.atoi l = some (decV l : Int) := by
  cases l with
  | nil => exact absurd rfl h0
  | cons c l =>
    have hc := digitB_iff.1 (Bool.and_eq_true _ _ ▸ List.all_cons ▸ h).1
    have h1 : ¬ c = 45 := fun e => by subst e; exact absurd hc (by decide)
    have h2 : ¬ c = 43 := fun e => by subst e; exact absurd hc (by decide)
    show (if (c == 45) = true then (Lib.decNat l).map fun (m : Nat) => -(m : Int) else if (c == 43) = true then (Lib.decNat l).map fun (m : Nat) => (m : Int) else (Lib.decNat (c :: l)).map fun (m : Nat) => (m : Int)) = _
    rw [if_neg (by simpa using h1), if_neg (by simpa using h2)]
    have e : Lib.decNat (c :: l) = some (decV (c :: l)) := by
      unfold Lib.decNat
      rw [if_neg (by simp), decFrom_all _ _ h]
      rfl
    rw [e]
    rfl

/-! ### cutting at a byte -/
/-- ahead of the first c, behind it, whether there is one -/
def cutL (c : UInt8) : List UInt8 → List UInt8 × List UInt8 × Bool
  | [] => ([], [], false)
  | x :: l => if x = c then ([], l, true) else (x :: (cutL c l).1, (cutL c l).2.1, (cutL c l).2.2)
theorem cutL_hit (c : UInt8) : ∀ (a b : List UInt8), c ∉ a → cutL c (a ++ c :: b) = (a, b, true)
  | [], b, _ => by simp [cutL]
  | x :: a, b, h => by
    have hx : ¬ x = c := fun e => h (by rw [e]; exact List.mem_cons_self ..)
    rw [List.cons_append, cutL, if_neg hx, cutL_hit c a b (fun e => h (List.mem_cons_of_mem _ e))]
theorem cutL_miss (c : UInt8) : ∀ (a : List UInt8), c ∉ a → cutL c a = (a, [], false)
  | [], _ => rfl
  | x :: a, h => by
    have hx : ¬ x = c := fun e => h (by rw [e]; exact List.mem_cons_self ..)
    rw [cutL, if_neg hx, cutL_miss c a (fun e => h (List.mem_cons_of_mem _ e))]
/-- what a cut is -/
theorem cutL_is (c : UInt8) : ∀ l : List UInt8, c ∉ (cutL c l).1 ∧ (((cutL c l).2.2 = true ∧ l = (cutL c l).1 ++ c :: (cutL c l).2.1) ∨ ((cutL c l).2.2 = false ∧ l = (cutL c l).1 ∧ (cutL c l).2.1 = []))
  | [] => ⟨by simp [cutL], Or.inr ⟨rfl, rfl, rfl⟩⟩
  | x :: l => by
    have ih := cutL_is c l
    unfold cutL
    split
    · rename_i h
      exact ⟨by simp, Or.inl ⟨rfl, by rw [h]; rfl⟩⟩
    · rename_i h
      refine ⟨fun e => ?_, ?_⟩
      · rcases List.mem_cons.1 e with e | e
        · exact h e.symm
        · exact ih.1 e
      · rcases ih.2 with ⟨h1, h2⟩ | ⟨h1, h2, h3⟩
        · exact Or.inl ⟨h1, by rw [List.cons_append, ← h2]⟩
        · exact Or.inr ⟨h1, by rw [← h2], h3⟩
/-- ahead of the first byte that p takes, and from it on -/
def tillL (p : UInt8 → Bool) (l : List UInt8) : List UInt8 × List UInt8 := (l.takeWhile (!p ·), l.dropWhile (!p ·))

/-! ### origins -/
def hostC (c : UInt8) : Bool := decide (97 ≤ c.toNat ∧ c.toNat ≤ 122) || decide (48 ≤ c.toNat ∧ c.toNat ≤ 57) || decide (c.toNat = 45)
def labB (l : List UInt8) : Bool := !l.isEmpty && !(l.head? == some 45) && !(l.getLast? == some 45) && l.all hostC
def hostB (l : List UInt8) : Bool := decide (l.length ≤ 60) && (splitL 46 l).all labB
def portB (s : Bool) : Int := if s then 443 else 80
/-- an origin, its host as a list -/
structure OriL where
  secure : Bool
  host : List UInt8
  port : Int
def rightB (o : OriL) : Bool := hostB o.host && (decide (1 ≤ o.port) && decide (o.port ≤ 65535))
def httpL : List UInt8 := [104, 116, 116, 112, 58, 47, 47]
def httpsL : List UInt8 := [104, 116, 116, 112, 115, 58, 47, 47]
def headL (s : Bool) : List UInt8 := if s then httpsL else httpL
def textO (o : OriL) : List UInt8 := headL o.secure ++ o.host ++ (if o.port = portB o.secure then [] else 58 :: Lib.itoa o.port)
def schemeL (l : List UInt8) : Option (Bool × List UInt8) :=
  if 7 ≤ l.length ∧ lowL (l.take 7) = httpL then some (false, l.drop 7)
  else if 8 ≤ l.length ∧ lowL (l.take 8) = httpsL then some (true, l.drop 8)
  else none
def noO : OriL := ⟨false, [], 0⟩
def placeL (secure : Bool) (l : List UInt8) : OriL × Bool :=
  if (cutL 58 l).2.2 then
    if (cutL 58 l).2.1 = [] ∨ 5 < (cutL 58 l).2.1.length ∨ ¬ (cutL 58 l).2.1.all digitB = true then (noO, false)
    else (⟨secure, lowL (cutL 58 l).1, decV (cutL 58 l).2.1⟩, rightB ⟨secure, lowL (cutL 58 l).1, decV (cutL 58 l).2.1⟩)
  else (⟨secure, lowL l, portB secure⟩, rightB ⟨secure, lowL l, portB secure⟩)
def originL (l : List UInt8) : Option OriL :=
  match schemeL l with
  | none => none
  | some (secure, rest) => if (placeL secure rest).2 then some (placeL secure rest).1 else none

theorem lowL_append (a b : List UInt8) : lowL (a ++ b) = lowL a ++ lowL b := by simp [lowL]
theorem lowB_fix {c : UInt8} (h : ¬ (65 ≤ c.toNat ∧ c.toNat ≤ 90)) : lowB c = c := by unfold lowB; rw [if_neg h]
theorem lowL_fix : ∀ {l : List UInt8}, (∀ c ∈ l, ¬ (65 ≤ c.toNat ∧ c.toNat ≤ 90)) → lowL l = l
  | [], _ => rfl
  | c :: l, h => by
    show lowB c :: lowL l = _
    rw [lowB_fix (h c (List.mem_cons_self ..)), lowL_fix (fun d hd => h d (List.mem_cons_of_mem _ hd))]
theorem hostC_iff {c : UInt8} : hostC c = true ↔ (97 ≤ c.toNat ∧ c.toNat ≤ 122) ∨ (48 ≤ c.toNat ∧ c.toNat ≤ 57) ∨ c.toNat = 45 := by
  unfold hostC; simp [or_assoc]
/-- the bytes of a host: its labels' and points -/
theorem host_mem {l : List UInt8} (h : hostB l = true) : ∀ c ∈ l, hostC c = true ∨ c = 46 := by
  unfold hostB at h
  rw [Bool.and_eq_true] at h
  intro c hc
  have hj := join_split 46 l
  rw [← hj] at hc
  rcases join_mem 46 _ c hc with e | ⟨p, hp, hx⟩
  · exact Or.inr e
  · have := List.all_eq_true.1 h.2 p hp
    unfold labB at this
    rw [Bool.and_eq_true] at this
    exact Or.inl (List.all_eq_true.1 this.2 c hx)
theorem host_bytes {l : List UInt8} (h : hostB l = true) : ∀ c ∈ l, (97 ≤ c.toNat ∧ c.toNat ≤ 122) ∨ (48 ≤ c.toNat ∧ c.toNat ≤ 57) ∨ c.toNat = 45 ∨ c.toNat = 46 := by
  intro c hc
  rcases host_mem h c hc with e | e
  · rcases hostC_iff.1 e with e | e | e
    · exact Or.inl e
    · exact Or.inr (Or.inl e)
    · exact Or.inr (Or.inr (Or.inl e))
  · subst e; exact Or.inr (Or.inr (Or.inr rfl))
theorem host_low {l : List UInt8} (h : hostB l = true) : lowL l = l := lowL_fix fun c hc => by have := host_bytes h c hc; omega
theorem host_none {l : List UInt8} (h : hostB l = true) (d : UInt8) (h1 : ¬ ((97 ≤ d.toNat ∧ d.toNat ≤ 122) ∨ (48 ≤ d.toNat ∧ d.toNat ≤ 57) ∨ d.toNat = 45 ∨ d.toNat = 46)) : d ∉ l := fun hd => h1 (host_bytes h d hd)
theorem digits_none {l : List UInt8} (h : l.all digitB = true) (d : UInt8) (h1 : ¬ (48 ≤ d.toNat ∧ d.toNat ≤ 57)) : d ∉ l := fun hd => h1 (digitB_iff.1 (List.all_eq_true.1 h d hd))
/-- what stands behind the scheme of an origin's text -/
def hereO (o : OriL) : List UInt8 := o.host ++ (if o.port = portB o.secure then [] else 58 :: Lib.itoa o.port)
theorem text_here (o : OriL) : textO o = headL o.secure ++ hereO o := by unfold textO hereO; rw [List.append_assoc]
theorem scheme_head (s : Bool) (l : List UInt8) : schemeL (headL s ++ l) = some (s, l) := by
  cases s
  · unfold schemeL
    rw [if_pos ⟨by simp [headL, httpL], by simp [headL, httpL]; decide⟩]
    rfl
  · unfold schemeL
    rw [if_neg (fun h => absurd h.2 (by simp [headL, httpsL]; decide)), if_pos ⟨by simp [headL, httpsL], by simp [headL, httpsL]; decide⟩]
    rfl
theorem itoa_nat {n : Int} (h : 0 ≤ n) : Lib.itoa n = Lib.decDigits n.toNat := by unfold Lib.itoa; rw [if_neg (by omega)]
theorem place_here {o : OriL} (h : rightB o = true) : placeL o.secure (hereO o) = (o, true) := by
  obtain ⟨sec, host, port⟩ := o
  have h' := h
  unfold rightB at h'
  simp only [Bool.and_eq_true, decide_eq_true_eq] at h'
  obtain ⟨hh, h1, h2⟩ := h'
  have hl := host_low hh
  have hc : (58 : UInt8) ∉ host := host_none hh 58 (by decide)
  unfold hereO placeL
  by_cases hp : port = portB sec
  · subst hp
    simp only [if_true, List.append_nil, cutL_miss 58 host hc, Bool.false_eq_true, if_false, hl, h]
  · have e := itoa_nat (show 0 ≤ port by omega)
    have hd := decDigits_all port.toNat
    have hn := decDigits_ne port.toNat
    have hlen := decDigits_len 4 port.toNat (by omega)
    have hv := decV_digits port.toNat
    simp only [hp, if_false, cutL_hit 58 host _ hc, if_true, e]
    rw [if_neg (by simp only [not_or, Decidable.not_not]; exact ⟨hn, by omega, hd⟩), hl, hv]
    have : ((port.toNat : Nat) : Int) = port := by omega
    rw [this, h]
theorem origin_text {o : OriL} (h : rightB o = true) : originL (textO o) = some o := by
  unfold originL
  rw [text_here, scheme_head]
  simp only [place_here h, if_true]
theorem text_inj {o p : OriL} (ho : rightB o = true) (hp : rightB p = true) (h : textO o = textO p) : o = p := by
  have h1 := origin_text ho
  rw [h, origin_text hp] at h1
  exact (Option.some.inj h1).symm
theorem place_right (secure : Bool) (l : List UInt8) (h : (placeL secure l).2 = true) : rightB (placeL secure l).1 = true := by
  unfold placeL at h ⊢
  split
  · rename_i h1
    rw [if_pos h1] at h
    split
    · rename_i h2; rw [if_pos h2] at h; cases h
    · rename_i h2; rw [if_neg h2] at h; exact h
  · rename_i h1; rw [if_neg h1] at h; exact h
theorem place_secure (secure : Bool) (l : List UInt8) (h : (placeL secure l).2 = true) : (placeL secure l).1.secure = secure := by
  unfold placeL at h ⊢
  split
  · rename_i h1
    rw [if_pos h1] at h
    split
    · rename_i h2; rw [if_pos h2] at h; cases h
    · rfl
  · rfl
end Go.Proofs.YtkoobhgedoanhaaGreatDoor
