/- What challenges ask for: the best one, and great letters or small: plain laws. No program in sight. -/
import Derived.Test.YtegbacpenolehaaGreatDoorKnownPure
import Derived.Test.YtegbacpenolehaaGreatDoorLowLaws
namespace Go.Proofs.YtegbacpenolehaaGreatDoor
open Go.RowKit

theorem algR_range {s : Bs} {k : Int} {b : Bool} (h : algR s = some (k, b)) : 2 ≤ k ∧ k ≤ 3 := by
  unfold algR at h
  split at h
  · cases h; omega
  split at h
  · cases h; omega
  split at h
  · cases h; omega
  split at h
  · cases h; omega
  · cases h
theorem knownL_range {x : Cha} {a : AskOf Texts} (h : knownL x = some a) : 1 ≤ a.scheme ∧ a.scheme ≤ 3 := by
  unfold knownL at h
  split at h
  · cases h
  split at h
  · cases h; simp
  split at h
  · cases h
  rename_i k b hk
  have := algR_range hk
  split at h
  · cases h
  split at h
  · cases h
  split at h
  · cases h
  · cases h; simp only; omega
theorem bestTo_ge (a : AskOf Texts) (x : Cha) : a.scheme ≤ (bestTo a x).scheme := by
  unfold bestTo
  split
  · exact Int.le_refl _
  · split
    · omega
    · exact Int.le_refl _
theorem bestTo_known {a b : AskOf Texts} {x : Cha} (h : knownL x = some b) : b.scheme ≤ (bestTo a x).scheme := by
  unfold bestTo
  rw [h]
  simp only
  split <;> omega
theorem fold_ge : ∀ (l : List Cha) (a : AskOf Texts), a.scheme ≤ (l.foldl bestTo a).scheme
  | [], _ => Int.le_refl _
  | x :: l, a => Int.le_trans (bestTo_ge a x) (fold_ge l (bestTo a x))
theorem fold_known : ∀ (l : List Cha) (a : AskOf Texts) (x : Cha) (b : AskOf Texts), x ∈ l → knownL x = some b → b.scheme ≤ (l.foldl bestTo a).scheme
  | y :: l, a, x, b, hx, hb => by
    rcases List.mem_cons.1 hx with rfl | h
    · exact Int.le_trans (bestTo_known hb) (fold_ge l _)
    · exact fold_known l _ x b h hb
theorem fold_is : ∀ (l : List Cha) (a : AskOf Texts), l.foldl bestTo a = a ∨ ∃ x ∈ l, knownL x = some (l.foldl bestTo a)
  | [], _ => Or.inl rfl
  | x :: l, a => by
    rw [List.foldl_cons]
    rcases fold_is l (bestTo a x) with h | ⟨y, hy, h⟩
    · rw [h]
      unfold bestTo
      split
      · exact Or.inl rfl
      · rename_i b hb
        split
        · exact Or.inr ⟨x, List.mem_cons_self .., hb⟩
        · exact Or.inl rfl
    · exact Or.inr ⟨y, List.mem_cons_of_mem _ hy, h⟩
theorem bestL_known {l : List Cha} {x : Cha} {b : AskOf Texts} (hx : x ∈ l) (hb : knownL x = some b) : b.scheme ≤ (bestL l).scheme := fold_known l noAsk x b hx hb
theorem bestL_is (l : List Cha) : bestL l = noAsk ∨ ∃ x ∈ l, knownL x = some (bestL l) := fold_is l noAsk
theorem bestL_pos (l : List Cha) : 0 ≤ (bestL l).scheme := fold_ge l noAsk
theorem bestL_ok {l : List Cha} {x : Cha} {b : AskOf Texts} (hx : x ∈ l) (hb : knownL x = some b) : 0 < (bestL l).scheme := by
  have := bestL_known hx hb
  have := knownL_range hb
  omega
theorem bestL_le {l m : List Cha} (h : ∀ x ∈ l, x ∈ m) : (bestL l).scheme ≤ (bestL m).scheme := by
  rcases bestL_is l with e | ⟨x, hx, e⟩
  · rw [e]; exact bestL_pos m
  · exact bestL_known (h x hx) e
theorem bestL_rev (l : List Cha) : (bestL l.reverse).scheme = (bestL l).scheme :=
  Int.le_antisymm (bestL_le fun x hx => by simpa using hx) (bestL_le fun x hx => by simpa using hx)
/-- a challenge that asks for what is asked for best -/
def asksB (a : AskOf Texts) (x : Cha) : Bool :=
  match knownL x with
  | none => false
  | some b => b.scheme == a.scheme && (b.realm.toList == a.realm.toList && b.nonce.toList == a.nonce.toList)
theorem asks_best (l : List Cha) : l.any (asksB (bestL l)) = decide (0 < (bestL l).scheme) := by
  rcases bestL_is l with e | ⟨x, hx, e⟩
  · have h0 : (bestL l).scheme = 0 := by rw [e]; rfl
    rw [h0, decide_eq_false (by omega), List.any_eq_false]
    intro x hx
    unfold asksB
    cases hk : knownL x with
    | none => simp
    | some b =>
      have := bestL_ok hx hk
      omega
  · rw [decide_eq_true (bestL_ok hx e), List.any_eq_true]
    refine ⟨x, hx, ?_⟩
    unfold asksB
    rw [e]; simp

/-! great letters or small -/
def lowC (x : Cha) : Cha := ⟨lowL x.scheme, x.token, x.params.map fun p => (lowL p.1, p.2)⟩
theorem sameL_lowl (a b : Bs) : sameL (lowL a) b = sameL a b := by unfold sameL; rw [lowL_lowL]
theorem getP_low (ps : List Par) (n : Bs) : getP (ps.map fun p => (lowL p.1, p.2)) n = getP ps n := by
  unfold getP
  induction ps with
  | nil => rfl
  | cons p ps ih =>
    rw [List.map_cons, List.find?_cons, List.find?_cons]
    simp only [sameL_lowl]
    cases sameL p.1 n
    · exact ih
    · rfl
theorem knownL_low (x : Cha) : knownL (lowC x) = knownL x := by
  unfold knownL lowC qopP
  simp only [getP_low, sameL_lowl]
end Go.Proofs.YtegbacpenolehaaGreatDoor
