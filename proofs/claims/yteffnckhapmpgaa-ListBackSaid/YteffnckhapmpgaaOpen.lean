/- What the reading of an argument gives the walks. -/
import Derived.Test.YteffnckhapmpgaaStrs
import Derived.ProofKit
namespace Go.Proofs.Yteffnckhapmpgaa
open Go.ChangeShapes Go.WideShapes Go.ChangeAt Go.RowKit

theorem cells_str : Try.prog.cellsOf 9 = 1 := by kernel_rfl
set_option maxRecDepth 100000 in
theorem open_strsAt {H : Type} {enc : TypeId × Value → H} {W : World} {base : Nat} {v : Value} {d : DataW H} {p : List MemPlace}
    (hv : Value.okWide Try.prog W .any base 44 v) (h : DataW.Trod enc Try.prog W 0 (fun _ => true) true 44 v d p) : ∃ ss, StrsAt W v ss := by
  obtain ⟨a, len, cap, rfl⟩ := okWide_slice Try.underlying44 hv
  obtain ⟨fuel, hf⟩ := h
  rcases open_strings Try.underlying44 Try.underlying9 cells_str hf with ⟨hcs, _⟩ | ⟨x, l, c, ss, hcs, _, hl, hm, hz, _, hcell, _⟩
  · simp [Value.cells] at hcs
    obtain ⟨rfl, rfl, rfl⟩ := hcs
    exact ⟨[], StrsAt.nil _⟩
  · simp [Value.cells] at hcs
    obtain ⟨rfl, rfl, rfl⟩ := hcs
    simp at hz
    by_cases h0 : len = 0
    · subst h0
      exact ⟨[], Or.inl ⟨_, _, rfl, rfl, fun e => by cases e⟩⟩
    · obtain ⟨b, off, spot⟩ := x
      have hc0 := hcell 0 (by omega)
      have hspot : spot = none := by simpa [Addr.add] using World.cell?_spot hc0
      subst hspot
      have hadd : ∀ j, (Addr.add ⟨b, off, none⟩ j) = ⟨b, off + j, none⟩ := by intro j; unfold Addr.add; split <;> simp_all
      refine ⟨ss.take len, Or.inr ⟨b, off, cap, ?_, by simp; omega, hm, World.block_lt_of_cell? _ _ hc0, ?_⟩⟩
      · rw [List.length_take, Nat.min_eq_left (by omega)]
      · intro j y hj
        have hj1 : j < len := by have := (List.getElem?_eq_some_iff.1 hj).1; simp at this; omega
        have h1 := hcell j (by omega)
        rw [hadd] at h1
        rw [List.getElem?_take_of_lt hj1] at hj
        rw [h1]; simp [List.getD, hj]
end Go.Proofs.Yteffnckhapmpgaa
