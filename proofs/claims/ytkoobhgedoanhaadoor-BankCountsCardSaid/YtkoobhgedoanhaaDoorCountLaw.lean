/- USE BY USE: the plain law. No program in sight. -/
import Derived.Test.YtkoobhgedoanhaaDoorFindLaw
import Derived.Test.YtkoobhgedoanhaaDoorBank7
import Derived.Test.YtkoobhgedoanhaaDoorOnceP
namespace Go.Proofs.YtkoobhgedoanhaaDoor
open Go.RowKit

def GrantOf.usedN {D : Type} (g : GrantOf D) (n : Nat) : GrantOf D := { g with count := g.count + n }
theorem GrantOf.usedN_succ {D : Type} (g : GrantOf D) (n : Nat) : (g.usedN n).used = g.usedN (n + 1) := by
  unfold GrantOf.usedN GrantOf.used
  simp only [GrantOf.mk.injEq, true_and, and_true]
  omega
section
variable {o : Ori} {proxy : Bool} {path : ByteArray}
/-- find, where the last one reaches as far as any -/
theorem find_last {l : List (GrantOf Texts)} {g : GrantOf Texts} (h0 : 0 ≤ reachG o proxy path g) (h : ∀ y ∈ l, reachG o proxy path y ≤ reachG o proxy path g) : findI (l ++ [g]) o proxy path = (l.length : Int) := by
  unfold findI
  rw [findL_snoc, Nat.zero_add, if_pos]
  refine ⟨h0, ?_⟩
  rcases findL_best (reachG o proxy path) l with ⟨e, _⟩ | ⟨k, x, hx, e, _, _⟩
  · rw [e]; show (-1 : Int) ≤ _; omega
  · rw [e]; exact h x (List.mem_of_getElem? hx)
theorem use_at {gs : List (GrantOf Texts)} {k : Nat} {g : GrantOf Texts} (hf : findI gs o proxy path = (k : Int)) (hg : gs[k]? = some g) (hc : g.count < 4294967295) :
    useL gs o proxy path = (gs.take k ++ gs.drop (k + 1) ++ [g.used], .ok g.used) := by
  have hn : ¬ (4294967295 : Int) ≤ g.count := by omega
  unfold useL
  rw [hf, if_pos (by omega), Int.toNat_natCast, hg]
  simp only [if_neg hn]
theorem use_last {l : List (GrantOf Texts)} {g : GrantOf Texts} (h0 : 0 ≤ reachG o proxy path g) (h : ∀ y ∈ l, reachG o proxy path y ≤ reachG o proxy path g) (hc : g.count < 4294967295) :
    useL (l ++ [g]) o proxy path = (l ++ [g.used], .ok g.used) := by
  rw [use_at (k := l.length) (find_last h0 h) (by simp) hc]
  simp
theorem use_none {gs : List (GrantOf Texts)} (h : findG gs o proxy path = none) : useL gs o proxy path = (gs, .error 8) := by
  have hi : findI gs o proxy path = -1 := by
    rcases findI_in gs o proxy path with ⟨k, hk, e⟩ | e
    · unfold findG at h
      rw [e, if_pos (by omega), Int.toNat_natCast, List.getElem?_eq_getElem hk] at h
      cases h
    · exact e
  unfold useL
  rw [hi]; rfl
end
/-- what is left beside a grant -/
def restL (gs : List (GrantOf Texts)) (g : GrantOf Texts) : List (GrantOf Texts) := gs.filter (fun x => !sameG g.o g.proxy g.a.realm x)
theorem sameG_comm (x y : GrantOf Texts) : sameG x.o x.proxy x.a.realm y = sameG y.o y.proxy y.a.realm x := by
  rw [Bool.eq_iff_iff]
  unfold sameG sameB
  simp only [Bool.and_eq_true, Ori.eqB_iff, beq_iff_eq]
  constructor
  · rintro ⟨h1, h2, h3⟩; exact ⟨h1.symm, h2.symm, h3.symm⟩
  · rintro ⟨h1, h2, h3⟩; exact ⟨h1.symm, h2.symm, h3.symm⟩
theorem sameG_self (x : GrantOf Texts) : sameG x.o x.proxy x.a.realm x = true := by
  unfold sameG sameB
  simp [(Ori.eqB_iff _ _).2]
theorem rest_at {gs : List (GrantOf Texts)} (h : Apart gs) {k : Nat} {g : GrantOf Texts} (hg : gs[k]? = some g) : restL gs g = gs.take k ++ gs.drop (k + 1) := by
  have hk := (List.getElem?_eq_some_iff.1 hg).1
  have e : gs = gs.take k ++ g :: gs.drop (k + 1) := by
    obtain ⟨_, e⟩ := List.getElem?_eq_some_iff.1 hg
    rw [← e, List.getElem_cons_drop, List.take_append_drop]
  unfold Apart at h
  rw [e, List.pairwise_append, List.pairwise_cons] at h
  obtain ⟨_, ⟨h2, _⟩, h3⟩ := h
  have f1 : (gs.take k).filter (fun x => !sameG g.o g.proxy g.a.realm x) = gs.take k := by
    rw [List.filter_eq_self]
    intro x hx
    rw [h3 x hx g List.mem_cons_self]; rfl
  have f2 : (gs.drop (k + 1)).filter (fun x => !sameG g.o g.proxy g.a.realm x) = gs.drop (k + 1) := by
    rw [List.filter_eq_self]
    intro x hx
    rw [sameG_comm g x, h2 x hx]; rfl
  unfold restL
  conv => lhs; rw [e]
  rw [List.filter_append, List.filter_cons, sameG_self, f1, f2]
  simp
/-- the grants behind n uses -/
def useN (gs : List (GrantOf Texts)) (g : GrantOf Texts) (n : Nat) : List (GrantOf Texts) := if n = 0 then gs else restL gs g ++ [g.usedN n]
theorem count_law {gs : List (GrantOf Texts)} {o : Ori} {proxy : Bool} {path : ByteArray} {g : GrantOf Texts} (ha : Apart gs) (hf : findG gs o proxy path = some g) (n : Nat) (hc : g.count + n < 4294967295) :
    useL (useN gs g n) o proxy path = (useN gs g (n + 1), .ok (g.usedN (n + 1))) := by
  obtain ⟨h0, hm⟩ := findG_some hf
  obtain ⟨k, hk, he⟩ : ∃ k : Nat, gs[k]? = some g ∧ findI gs o proxy path = (k : Int) := by
    rcases findI_in gs o proxy path with ⟨k, hk, e⟩ | e
    · unfold findG at hf
      rw [e, if_pos (by omega), Int.toNat_natCast] at hf
      exact ⟨k, hf, e⟩
    · unfold findG at hf
      rw [e] at hf; cases hf
  have hr := rest_at ha hk
  have hn1 : useN gs g (n + 1) = restL gs g ++ [g.usedN (n + 1)] := by unfold useN; rw [if_neg (by omega)]
  rw [hn1]
  by_cases hn : n = 0
  · subst hn
    have hu : useN gs g 0 = gs := rfl
    rw [hu, use_at he hk (by omega), hr]
    have : g.used = g.usedN (0 + 1) := by rw [← GrantOf.usedN_succ]; unfold GrantOf.usedN GrantOf.used; simp
    rw [this]
  · have hu : useN gs g n = restL gs g ++ [g.usedN n] := by unfold useN; rw [if_neg hn]
    rw [hu, use_last (g := g.usedN n) h0 ?_ hc, GrantOf.usedN_succ]
    intro y hy
    exact hm y (List.mem_filter.1 hy).1
theorem filledL_mem {gs : List (GrantOf Texts)} {x : GrantOf Texts} (h : x ∈ filledL gs) : x ∈ gs := by
  induction gs using snocInd with
  | h0 => cases h
  | h1 l y ih =>
    rw [filledL_snoc] at h
    unfold putL at h
    have h := List.mem_of_mem_drop h
    rcases List.mem_append.1 h with h | h
    · exact List.mem_append_left _ (ih (List.mem_filter.1 h).1)
    · exact List.mem_append_right _ h
end Go.Proofs.YtkoobhgedoanhaaDoor
