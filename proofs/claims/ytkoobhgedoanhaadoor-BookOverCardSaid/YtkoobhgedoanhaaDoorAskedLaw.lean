/- The names that must be asked for: order, and one header more: plain laws. No program in sight. -/
import Derived.Test.YtkoobhgedoanhaaDoorAskd
import Derived.Test.YtkoobhgedoanhaaDoorLowLaws
namespace Go.Proofs.YtkoobhgedoanhaaDoor
open Go.RowKit Go.Sort

theorem bs_trans (a b c : List UInt8) (h : (decide (a ≤ b)) = true) (h2 : (decide (b ≤ c)) = true) : (decide (a ≤ c)) = true := by
  simp only [decide_eq_true_eq] at *; exact List.le_trans h h2
theorem bs_total (a b : List UInt8) : (decide (a ≤ b) || decide (b ≤ a)) = true := by
  simp only [Bool.or_eq_true, decide_eq_true_eq]; exact List.le_total a b
theorem sortLs_pair (l : List (List UInt8)) : (sortLs l).Pairwise (fun x y => (decide (x ≤ y)) = true) := List.pairwise_mergeSort bs_trans bs_total l
theorem sortLs_perm (l : List (List UInt8)) : (sortLs l).Perm l := List.mergeSort_perm l _
theorem sortLs_eq {l m : List (List UInt8)} (h : l.Perm m) : sortLs l = sortLs m := by
  refine List.Perm.eq_of_pairwise (le := fun x y => (decide (x ≤ y)) = true) ?_ (sortLs_pair l) (sortLs_pair m) ((sortLs_perm l).trans (h.trans (sortLs_perm m).symm))
  intro a b _ _ h1 h2
  simp only [decide_eq_true_eq] at h1 h2
  exact List.le_antisymm h1 h2

/-- compact: what is kept, place by place -/
theorem compact_mem (zs : List (List UInt8)) (x : List UInt8) : x ∈ Lib.compact zs → x ∈ zs := by
  intro h
  unfold Lib.compact Lib.compactUpTo at h
  obtain ⟨j, hj, rfl⟩ := List.mem_map.1 h
  have hj' := List.mem_range.1 (List.mem_filter.1 hj).1
  have : zs.toArray[j]! = zs[j] := by simp [getElem!_pos, hj']
  rw [this]; exact List.getElem_mem hj'
theorem mem_compact (zs : List (List UInt8)) : ∀ (j : Nat) (x : List UInt8), zs[j]? = some x → x ∈ Lib.compact zs
  | 0, x, h => by
    obtain ⟨hl, e⟩ := List.getElem?_eq_some_iff.1 h
    unfold Lib.compact Lib.compactUpTo
    refine List.mem_map.2 ⟨0, List.mem_filter.2 ⟨List.mem_range.2 hl, by simp [Lib.keeps]⟩, by simp [getElem!_pos, hl, e]⟩
  | j + 1, x, h => by
    obtain ⟨hl, e⟩ := List.getElem?_eq_some_iff.1 h
    have e1 : zs.toArray[j + 1]! = zs[j + 1] := by simp [getElem!_pos, hl]
    have e2 : zs.toArray[j]! = zs[j] := by simp [getElem!_pos, Nat.lt_of_succ_lt hl]
    by_cases hk : zs[j + 1] = zs[j]
    · refine mem_compact zs j x ?_
      rw [List.getElem?_eq_getElem (Nat.lt_of_succ_lt hl), ← e, hk]
    · unfold Lib.compact Lib.compactUpTo
      refine List.mem_map.2 ⟨j + 1, List.mem_filter.2 ⟨List.mem_range.2 hl, ?_⟩, by rw [e1, e]⟩
      unfold Lib.keeps
      simp only [decide_eq_true_eq, Nat.add_sub_cancel, e1, e2]
      exact Or.inr hk
theorem compact_iff (zs : List (List UInt8)) (x : List UInt8) : x ∈ Lib.compact zs ↔ x ∈ zs :=
  ⟨compact_mem zs x, fun h => by obtain ⟨j, hj, e⟩ := List.mem_iff_getElem.1 h; exact mem_compact zs j x (by rw [List.getElem?_eq_getElem hj, e])⟩
/-- what is kept of a sorted row rises -/
theorem compact_rises {zs : List (List UInt8)} (h : zs.Pairwise (fun x y => (decide (x ≤ y)) = true)) : (Lib.compact zs).Pairwise (fun x y => x < y) := by
  unfold Lib.compact Lib.compactUpTo
  rw [List.pairwise_map, List.pairwise_filter]
  have hr : (List.range zs.length).Pairwise (fun i j => i < j) := List.pairwise_lt_range
  have hm : (List.range zs.length).Pairwise (fun i j => i < j ∧ j < zs.length) := by
    refine List.Pairwise.imp_of_mem ?_ hr
    intro a b _ hb hab
    exact ⟨hab, List.mem_range.1 hb⟩
  refine hm.imp ?_
  rintro i j ⟨hij, hj⟩ _ hkj
  have hle : ∀ (p q : Nat) (hp : p < zs.length) (hq : q < zs.length), p ≤ q → zs[p] ≤ zs[q] := by
    intro p q hp hq hpq
    rcases Nat.eq_or_lt_of_le hpq with rfl | hlt
    · exact List.le_refl _
    · have := (List.pairwise_iff_getElem.1 h) p q hp hq hlt
      simpa using this
  have e1 : zs.toArray[i]! = zs[i] := by simp [getElem!_pos, Nat.lt_trans hij hj]
  have e2 : zs.toArray[j]! = zs[j] := by simp [getElem!_pos, hj]
  have e3 : zs.toArray[j - 1]! = zs[j - 1] := by simp [getElem!_pos, show j - 1 < zs.length by omega]
  unfold Lib.keeps at hkj
  rw [e2, e3] at hkj
  have hne : zs[j] ≠ zs[j - 1] := by
    rcases of_decide_eq_true hkj with h0 | h0
    · omega
    · exact h0
  rw [e1, e2]
  have h1 := hle i (j - 1) (by omega) (by omega) (by omega)
  have h2 := hle (j - 1) j (by omega) hj (by omega)
  have h3 : zs[i] ≤ zs[j] := List.le_trans h1 h2
  refine Classical.byContradiction fun hn => ?_
  have h4 : zs[j] ≤ zs[i] := List.not_lt.1 hn
  exact hne (List.le_antisymm (List.le_trans h4 h1) h2)

theorem rawB_rev (ps : List Prm) : (rawB ps.reverse).Perm (rawB ps) := by
  unfold rawB outB plB nB
  simp only [List.filter_reverse, List.map_reverse, List.sum_reverse]
  split
  · exact (List.reverse_perm _).append (List.reverse_perm _)
  · exact (List.reverse_perm _).append (List.Perm.refl _)
theorem askedL_rev (ps : List Prm) : askedL ps.reverse = askedL ps := by
  unfold askedL
  rw [sortLs_eq ((rawB_rev ps).map _)]
theorem askedB_rev (ps : List Prm) : askedB ps.reverse = askedB ps := by unfold askedB; rw [askedL_rev]
theorem askedL_mem (ps : List Prm) (x : List UInt8) : x ∈ askedL ps ↔ x ∈ (rawB ps).map fun s => s.data.toList := by
  unfold askedL
  rw [compact_iff]
  exact (sortLs_perm _).mem_iff
theorem askedB_mem (ps : List Prm) (x : ByteArray) : x ∈ askedB ps ↔ x ∈ rawB ps := by
  unfold askedB
  constructor
  · intro h
    obtain ⟨l, hl, rfl⟩ := List.mem_map.1 h
    obtain ⟨s, hs, rfl⟩ := List.mem_map.1 ((askedL_mem ps l).1 hl)
    simpa using hs
  · intro h
    exact List.mem_map.2 ⟨x.data.toList, (askedL_mem ps _).2 (List.mem_map.2 ⟨x, h, rfl⟩), by simp⟩
theorem rawB_low {ps : List Prm} {x : ByteArray} (h : x ∈ rawB ps) : ∃ p ∈ ps, x = lowA p.1 := by
  unfold rawB outB plB at h
  rcases List.mem_append.1 h with h | h
  · obtain ⟨p, hp, rfl⟩ := List.mem_map.1 h
    exact ⟨p, (List.mem_filter.1 hp).1, rfl⟩
  · split at h
    · obtain ⟨p, hp, rfl⟩ := List.mem_map.1 h
      exact ⟨p, (List.mem_filter.1 hp).1, rfl⟩
    · cases h
theorem lowA_lowA (s : ByteArray) : lowA (lowA s) = lowA s := by
  unfold lowA
  simp [lowL_lowL]
theorem lowA_sz (s : ByteArray) : (lowA s).size = s.size := lowSize s
theorem askedB_low {ps : List Prm} {x : ByteArray} (h : x ∈ askedB ps) : lowA x = x ∧ ∃ p ∈ ps, x.size = p.1.size := by
  obtain ⟨p, hp, rfl⟩ := rawB_low ((askedB_mem ps x).1 h)
  exact ⟨lowA_lowA _, p, hp, lowA_sz _⟩
/-- rising -/
theorem askedB_rises (ps : List Prm) (i : Nat) (x y : ByteArray) (hx : (askedB ps)[i]? = some x) (hy : (askedB ps)[i + 1]? = some y) : x.data.toList < y.data.toList := by
  have h := compact_rises (sortLs_pair ((rawB ps).map fun s => s.data.toList))
  have h' : (askedL ps).Pairwise (fun x y => x < y) := h
  unfold askedB at hx hy
  rw [List.getElem?_map] at hx hy
  obtain ⟨a, ha, rfl⟩ := Option.map_eq_some_iff.1 hx
  obtain ⟨b, hb, rfl⟩ := Option.map_eq_some_iff.1 hy
  obtain ⟨hi, rfl⟩ := List.getElem?_eq_some_iff.1 ha
  obtain ⟨hj, rfl⟩ := List.getElem?_eq_some_iff.1 hb
  simpa using (List.pairwise_iff_getElem.1 h') i (i + 1) hi hj (Nat.lt_succ_self i)
/-- one header more -/
theorem rawB_more (ps : List Prm) (p : Prm) : (∀ x ∈ rawB ps, x ∈ rawB (ps ++ [p])) ∧ (plainB p.1 p.2 = false → lowA p.1 ∈ rawB (ps ++ [p])) := by
  cases hp : plainB p.1 p.2
  · obtain ⟨s1, s2, s3⟩ := outB_snoc_no ps p hp
    unfold rawB
    rw [s1, s2, s3]
    refine ⟨fun x hx => ?_, fun _ => by simp⟩
    rcases List.mem_append.1 hx with h | h
    · exact List.mem_append_left _ (List.mem_append_left _ h)
    · exact List.mem_append_right _ h
  · obtain ⟨s1, s2, s3⟩ := outB_snoc_yes ps p hp
    unfold rawB
    rw [s1, s2, s3]
    refine ⟨fun x hx => ?_, fun h => by cases h⟩
    rcases List.mem_append.1 hx with h | h
    · exact List.mem_append_left _ h
    · refine List.mem_append_right _ ?_
      split at h
      · rename_i hn
        rw [if_pos (by omega)]
        exact List.mem_append_left _ h
      · cases h
theorem askedB_more (ps : List Prm) (p : Prm) : (∀ x ∈ askedB ps, x ∈ askedB (ps ++ [p])) ∧ (plainB p.1 p.2 = false → lowA p.1 ∈ askedB (ps ++ [p])) :=
  ⟨fun x hx => (askedB_mem _ _).2 ((rawB_more ps p).1 x ((askedB_mem _ _).1 hx)), fun h => (askedB_mem _ _).2 ((rawB_more ps p).2 h)⟩
theorem askedB_len (ps : List Prm) : (askedB ps).length ≤ 2 * ps.length := by
  unfold askedB askedL
  rw [List.length_map]
  have h1 := Lib.compact_length_le (sortLs ((rawB ps).map fun s => s.data.toList))
  have h2 : (sortLs ((rawB ps).map fun s => s.data.toList)).length = (rawB ps).length := by unfold sortLs; simp
  have h3 : (rawB ps).length ≤ 2 * ps.length := by
    unfold rawB
    rw [List.length_append]
    have := outB_le ps
    split
    · have := plB_le ps; omega
    · simp; omega
  omega
end Go.Proofs.YtkoobhgedoanhaaDoor
