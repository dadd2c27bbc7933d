/- Laws of books: what BookOver, BookSound say. No program in sight. -/
import Derived.Test.YtkoobhgedoanhaaDoorPassPure
namespace Go.Proofs.YtkoobhgedoanhaaDoor
open Go.RowKit

theorem sound_any {l : List Pas} {r : ReqL} {t : Int} {f : Pas → Bool} (h : (bookFor (bookPut [] l t) r t).any f = true) : l.any (fun p => r.mine t p && f p) = true := by
  obtain ⟨p, hp, hf⟩ := List.any_eq_true.1 h
  unfold bookFor at hp
  obtain ⟨h1, h2⟩ := List.mem_filter.1 hp
  have := (bookPut_mem h1).2
  rcases this with h | h
  · cases h
  · exact List.any_eq_true.2 ⟨p, h, by rw [h2, hf]; rfl⟩
theorem sound_law {l : List Pas} {r : ReqL} {t : Int} (hn : r.needs = true) (hc : bookCovers (bookPut [] l t) r t = true) :
    (simpleB (methodB r.method) = false → l.any (fun p => r.mine t p && p.lets (methodB r.method) r.wth) = true) ∧ ∀ h ∈ askedB r.heads, l.any (fun p => r.mine t p && p.letsH h r.wth) = true := by
  unfold bookCovers at hc
  rw [hn] at hc
  simp only [Bool.not_true, Bool.false_or] at hc
  unfold ReqL.covers coversB at hc
  simp only [Bool.and_eq_true, List.all_eq_true] at hc
  refine ⟨fun hs => ?_, fun h hh => sound_any (hc.2 h hh)⟩
  rw [hs, Bool.false_or] at hc
  exact sound_any hc.1
/-- the last time of all -/
def lastT (l : List Pas) (s : Int) : Int := l.foldl (fun n p => max n p.til) s
theorem lastT_snoc (l : List Pas) (p : Pas) (s : Int) : lastT (l ++ [p]) s = max (lastT l s) p.til := by simp [lastT]
theorem lastT_ge : ∀ (l : List Pas) (s : Int), s ≤ lastT l s ∧ ∀ p ∈ l, p.til ≤ lastT l s
  | [], s => ⟨Int.le_refl _, fun _ h => by cases h⟩
  | q :: l, s => by
    have ih := lastT_ge l (max s q.til)
    have e : lastT (q :: l) s = lastT l (max s q.til) := rfl
    rw [e]
    refine ⟨by omega, fun p hp => ?_⟩
    rcases List.mem_cons.1 hp with rfl | hp
    · omega
    · exact ih.2 p hp
theorem over_last {l : List Pas} {r : ReqL} {s : Int} : bookFor (bookPut [] l s) r (lastT l s) = [] ∧ bookCovers (bookPut [] l s) r (lastT l s) = !r.needs := by
  have h : ∀ p ∈ bookPut [] l s, p.til ≤ lastT l s := fun p hp => by
    rcases (bookPut_mem hp).2 with h | h
    · cases h
    · exact (lastT_ge l s).2 p h
  exact ⟨for_last h, covers_last h⟩
theorem eqB_self (p : Pas) : p.eqB p = true := (Pas.eqB_iff p p).2 rfl
theorem early_has {b : List Pas} {r : ReqL} {s t : Int} (h : s ≤ t) {p : Pas} (hp : p ∈ bookFor b r t) : (bookFor b r s).any (fun q => p.eqB q) = true :=
  List.any_eq_true.2 ⟨p, for_early h hp, eqB_self p⟩
end Go.Proofs.YtkoobhgedoanhaaDoor
