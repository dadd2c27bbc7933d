/- The first place where a predicate holds. Plain. -/
import Derived.WalkKit
namespace Go.Proofs.YtkoobhgedoanhaaDoor

/-- the first place where p holds, or -1 -/
def idxP {α : Type} (p : α → Bool) : List α → Nat → Int
  | [], _ => -1
  | x :: l, i => if p x then i else idxP p l (i + 1)
theorem idxP_any {α : Type} (p : α → Bool) : ∀ (l : List α) (i : Nat), decide (0 ≤ idxP p l i) = l.any p
  | [], _ => rfl
  | x :: l, i => by
    rw [idxP, List.any_cons]
    cases h : p x
    · simp only [Bool.false_eq_true, if_false, Bool.false_or]; exact idxP_any p l (i + 1)
    · simp
theorem idxP_hit {α : Type} {p : α → Bool} {l : List α} {k i : Nat} {x : α} (h : l[k]? = some x) (hp : p x = true) (hn : (l.take k).any p = false) : idxP p l i = ((i + k : Nat) : Int) := by
  induction l generalizing k i with
  | nil => simp at h
  | cons a l ih =>
    cases k with
    | zero => simp at h; subst h; rw [idxP, if_pos hp]; rfl
    | succ k =>
      simp only [List.getElem?_cons_succ] at h
      simp only [List.take_succ_cons, List.any_cons, Bool.or_eq_false_iff] at hn
      rw [idxP, hn.1]
      simp only [Bool.false_eq_true, if_false]
      rw [ih h hn.2]; congr 1; omega
theorem idxP_none {α : Type} {p : α → Bool} {l : List α} {i : Nat} (hn : l.any p = false) : idxP p l i = -1 := by
  induction l generalizing i with
  | nil => rfl
  | cons a l ih =>
    simp only [List.any_cons, Bool.or_eq_false_iff] at hn
    rw [idxP, hn.1]
    simp only [Bool.false_eq_true, if_false]
    exact ih hn.2
theorem any_take_succ {α : Type} {p : α → Bool} {l : List α} {k : Nat} {x : α} (h : l[k]? = some x) (hn : (l.take k).any p = false) (hp : p x = false) : (l.take (k + 1)).any p = false := by
  rw [List.take_add_one, h]; simp only [List.any_append, hn, Option.toList_some, List.any_cons, hp, List.any_nil, Bool.or_false]

theorem take_snocG {α : Type} {l : List α} {k : Nat} {x : α} (h : l[k]? = some x) : l.take (k + 1) = l.take k ++ [x] := by rw [List.take_add_one, h]; rfl
end Go.Proofs.YtkoobhgedoanhaaDoor
