/- slices.Sort and slices.Compact over rows of strings of the call's own. -/
import Derived.Test.YtkoobhgedoanhaaDoorStrs
import Derived.Sort.OwnSorted
namespace Go.Proofs.YtkoobhgedoanhaaDoor
open Go.RowKit Go.Sort

def sortLs (ls : List (List UInt8)) : List (List UInt8) := ls.mergeSort fun x y => decide (x ≤ y)
theorem Sort_any (base : Nat) (v : Value) (ls : List (List UInt8)) (w : World) (h : w.ownsRow base 9 1 v ls.length (ls.map encStr)) (hl : ls.length < 1000000) :
    Calls Tryd.prog 72 #[v] w fun e w' => e = .returned (.tuple #[]) ∧ w'.ownsRow base 9 1 v ls.length ((sortLs ls).map encStr) ∧ w.grownBy w' v.ownBlock := by
  rcases h.2 with ⟨rfl, h0⟩ | ⟨g, cap, cur, rfl, hbase, hb, h1, h2, h3, h4⟩
  · obtain rfl : ls = [] := List.length_eq_zero_iff.1 h0
    refine (Tryd.slices_Sort_string_none none 0 w).mono ?_
    rintro e w' ⟨rfl, rfl⟩
    exact ⟨rfl, by rw [show sortLs [] = [] by simp [sortLs]]; exact h, ⟨rfl, rfl, rfl, Nat.le_refl _, fun _ _ _ => rfl⟩⟩
  · refine (Tryd.slices_Sort_string g 0 cap ls w (holds_of_block hb (by simpa using h4)) (lt_of_some hb) (by omega)).mono ?_
    rintro e w' ⟨rfl, n, os, rfl⟩
    exact ⟨rfl, ownsRow_sorted (by simp) hbase hb h1 h2 h3, grownBy_sorted _⟩
theorem compact_any (base : Nat) (v : Value) (ls : List (List UInt8)) (w : World) (h : w.ownsRow base 9 1 v ls.length (ls.map encStr)) (hl : ls.length < 1000000) :
    Calls Tryd.prog 73 #[v] w fun e w' => ∃ u, e = .returned u ∧ w'.ownsRow base 9 1 u (Lib.compact ls).length ((Lib.compact ls).map encStr) ∧ w.grownBy w' v.ownBlock := by
  rcases h.2 with ⟨rfl, h0⟩ | ⟨g, cap, cur, rfl, hbase, hb, h1, h2, h3, h4⟩
  · obtain rfl : ls = [] := List.length_eq_zero_iff.1 h0
    refine (Tryd.slices_Compact_string_empty none 0 w).mono ?_
    rintro e w' ⟨rfl, rfl⟩
    exact ⟨_, rfl, h, ⟨rfl, rfl, rfl, Nat.le_refl _, fun _ _ _ => rfl⟩⟩
  · refine (Tryd.slices_Compact_string g 0 cap ls w (holds_of_block hb (by simpa using h4)) (by omega) h1).mono ?_
    have hle := Lib.compact_length_le ls
    obtain ⟨ts, hts⟩ : ∃ ts : List (List UInt8), ts = Lib.compact ls ++ List.replicate (ls.length - (Lib.compact ls).length) [] := ⟨_, rfl⟩
    have hlen : ts.length = ls.length := by rw [hts, List.length_append, List.length_replicate]; omega
    rw [← hts]
    rintro e w' ⟨rfl, q, rfl⟩
    have hw := heap_sorted (n := q) (os := #[]) ts.toArray hb
    have hg := grownBy_sorted (w := w) (g := g) (n := q) (os := #[]) ts.toArray
    rw [grow_empty] at hw hg
    have tk := take_putCells cur ts (by omega)
    refine ⟨_, rfl, ⟨by simp, .inr ⟨g, cap, _, rfl, hbase, hw, by omega, h2, by simp [putCells, h3], ?_⟩⟩, hg⟩
    have e1 : (putCells encStr 0 ts.toArray cur).toList.take (Lib.compact ls).length = ((putCells encStr 0 ts.toArray cur).toList.take ts.length).take (Lib.compact ls).length := by
      rw [List.take_take, Nat.min_eq_left (by omega)]
    rw [Nat.mul_one, e1, tk, hts, List.map_append, List.take_left' (by simp)]
end Go.Proofs.YtkoobhgedoanhaaDoor
