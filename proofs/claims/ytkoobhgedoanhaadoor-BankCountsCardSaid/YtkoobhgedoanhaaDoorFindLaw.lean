/- Which grant counts: laws of find's fold. No program in sight. -/
import Derived.Test.YtkoobhgedoanhaaDoorBank4
namespace Go.Proofs.YtkoobhgedoanhaaDoor
open Go.RowKit

theorem snocInd {α : Type} {p : List α → Prop} (h0 : p []) (h1 : ∀ l x, p l → p (l ++ [x])) (l : List α) : p l := by
  rw [← List.reverse_reverse l]
  induction l.reverse with
  | nil => exact h0
  | cons a m ih => rw [List.reverse_cons]; exact h1 _ _ ih
/-- find's fold: nothing, or the greatest -/
theorem findL_best {α : Type} (f : α → Int) (l : List α) : (findL f l 0 (-1, -1) = (-1, -1) ∧ ∀ x ∈ l, f x < 0) ∨ ∃ (k : Nat) (x : α), l[k]? = some x ∧ findL f l 0 (-1, -1) = (f x, (k : Int)) ∧ 0 ≤ f x ∧ ∀ y ∈ l, f y ≤ f x := by
  induction l using snocInd with
  | h0 => exact Or.inl ⟨rfl, by simp⟩
  | h1 l x ih =>
    rw [findL_snoc, Nat.zero_add]
    rcases ih with ⟨e, h⟩ | ⟨k, z, hz, e, h0, h⟩
    · rw [e]
      by_cases hx : 0 ≤ f x
      · rw [if_pos ⟨hx, by show (-1 : Int) ≤ f x; omega⟩]
        refine Or.inr ⟨l.length, x, by simp, rfl, hx, fun y hy => ?_⟩
        rcases List.mem_append.1 hy with hy | hy
        · have := h y hy; omega
        · simp at hy; subst hy; omega
      · rw [if_neg (fun h => hx h.1)]
        refine Or.inl ⟨rfl, fun y hy => ?_⟩
        rcases List.mem_append.1 hy with hy | hy
        · exact h y hy
        · simp at hy; subst hy; omega
    · rw [e]
      have hk := (List.getElem?_eq_some_iff.1 hz).1
      by_cases hx : 0 ≤ f x ∧ f z ≤ f x
      · rw [if_pos hx]
        refine Or.inr ⟨l.length, x, by simp, rfl, hx.1, fun y hy => ?_⟩
        rcases List.mem_append.1 hy with hy | hy
        · have := h y hy; omega
        · simp at hy; subst hy; omega
      · rw [if_neg hx]
        refine Or.inr ⟨k, z, by rw [List.getElem?_append_left hk]; exact hz, rfl, h0, fun y hy => ?_⟩
        rcases List.mem_append.1 hy with hy | hy
        · exact h y hy
        · simp at hy; subst hy; omega
theorem findG_some {gs : List (GrantOf Texts)} {o : Ori} {proxy : Bool} {path : ByteArray} {g : GrantOf Texts} (h : findG gs o proxy path = some g) : 0 ≤ reachG o proxy path g ∧ ∀ y ∈ gs, reachG o proxy path y ≤ reachG o proxy path g := by
  unfold findG findI at h
  rcases findL_best (reachG o proxy path) gs with ⟨e, _⟩ | ⟨k, x, hx, e, h0, hm⟩
  · rw [e, if_neg (by decide)] at h; cases h
  · rw [e, if_pos (by show (0 : Int) ≤ k; omega)] at h
    have : gs[(k : Int).toNat]? = some g := h
    rw [Int.toNat_natCast, hx] at this
    cases this
    exact ⟨h0, hm⟩
theorem findG_none {gs : List (GrantOf Texts)} {o : Ori} {proxy : Bool} {path : ByteArray} (h : findG gs o proxy path = none) : ∀ y ∈ gs, reachG o proxy path y < 0 := by
  unfold findG findI at h
  rcases findL_best (reachG o proxy path) gs with ⟨_, h'⟩ | ⟨k, x, hx, e, h0, hm⟩
  · exact h'
  · rw [e, if_pos (by show (0 : Int) ≤ k; omega)] at h
    have : gs[(k : Int).toNat]? = none := h
    rw [Int.toNat_natCast, hx] at this
    cases this
end Go.Proofs.YtkoobhgedoanhaaDoor
