/- strings.Split by one byte. -/
import Derived.Test.YtkoobhgedoanhaaGreatDoorCleanPure
import Derived.Test.YtkoobhgedoanhaaGreatDoorCut1
import Derived.Shelf.Strings.Split
namespace Go.Proofs.YtkoobhgedoanhaaGreatDoor
open Go.RowKit

/-- the first c of l stands at i -/
theorem idx_split : ∀ (l : List UInt8) (c : UInt8) (i : Nat), Lib.indexByte l c = (i : Int) → l = l.take i ++ c :: l.drop (i + 1) ∧ c ∉ l.take i
  | [], c, i, h => by simp [Lib.indexByte] at h
  | x :: l, c, i, h => by
    have hge := Lib.indexByte_ge l c
    have h' : (if x == c then (0 : Int) else if Lib.indexByte l c == -1 then -1 else Lib.indexByte l c + 1) = (i : Int) := h
    by_cases hx : x = c
    · rw [if_pos (by simpa using hx)] at h'
      obtain rfl : i = 0 := by omega
      subst hx
      exact ⟨rfl, by simp⟩
    · rw [if_neg (by simpa using hx)] at h'
      by_cases h1 : Lib.indexByte l c = -1
      · rw [if_pos (by simpa using h1)] at h'; omega
      · rw [if_neg (by simpa using h1)] at h'
        obtain ⟨j, rfl⟩ : ∃ j, i = j + 1 := ⟨i - 1, by omega⟩
        obtain ⟨e1, e2⟩ := idx_split l c j (by omega)
        refine ⟨?_, ?_⟩
        · show x :: l = x :: (l.take j ++ c :: l.drop (j + 1))
          rw [← e1]
        · intro hc
          rcases List.mem_cons.1 hc with rfl | hc
          · exact hx rfl
          · exact e2 hc
theorem idx_lt {l : List UInt8} {c : UInt8} {i : Nat} (h : Lib.indexByte l c = (i : Int)) : i < l.length := by
  obtain ⟨e, _⟩ := idx_split l c i h
  have := congrArg List.length e
  simp at this
  omega
/-- the parts of a text between the bytes c -/
def partsB (c : UInt8) (s : ByteArray) : List ByteArray := (splitL c s.data.toList).map fun l => ⟨l.toArray⟩
theorem ofList_extract (s : ByteArray) (a b : Nat) : s.extract a b = ⟨((s.data.toList.drop a).take (b - a)).toArray⟩ := by
  have h := Lib.extract_data s a b
  have h2 : (s.extract a b).data = ((s.data.toList.drop a).take (b - a)).toArray := by rw [← h]
  calc s.extract a b = ⟨(s.extract a b).data⟩ := rfl
    _ = _ := by rw [h2]
theorem partsB_hit (c : UInt8) (s : ByteArray) (i : Nat) (h : Lib.indexByte s.data.toList c = (i : Int)) : partsB c s = s.extract 0 i :: partsB c (s.extract (i + 1) s.size) := by
  obtain ⟨e, hn⟩ := idx_split _ _ _ h
  unfold partsB
  conv => lhs; rw [e, splitL_app c _ _ hn, List.map_cons]
  rw [ofList_extract, ofList_extract, List.take_of_length_le (l := s.data.toList.drop (i + 1)) (by simp)]
  rfl
theorem partsB_miss (c : UInt8) (s : ByteArray) (h : ¬ 0 ≤ Lib.indexByte s.data.toList c) : partsB c s = [s] := by
  have hn : c ∉ s.data.toList := fun hc => (idx_neg _ _).1 h c hc rfl
  unfold partsB
  rw [splitL_one c _ hn]
  rfl
theorem indexB_one (s : ByteArray) (c : UInt8) : Lib.indexB s ⟨#[c]⟩ = Lib.indexByte s.data.toList c := by
  show Lib.index s.data.toList [c] = _
  exact Lib.index_one _ _
theorem parts_count (c : UInt8) : ∀ (k : Nat) (s : ByteArray), Lib.countB s ⟨#[c]⟩ = k → Lib.splitB ⟨#[c]⟩ 0 k s = partsB c s
  | 0, s, hk => by
    rcases Lib.indexB_cases s ⟨#[c]⟩ with hix | ⟨i, hix, _⟩
    · rw [Lib.splitB_zero, partsB_miss c s (by rw [← indexB_one, hix]; decide)]
    · have := Lib.countB_hit s ⟨#[c]⟩ i (Nat.le_refl _) hix; omega
  | k + 1, s, hk => by
    rcases Lib.indexB_cases s ⟨#[c]⟩ with hix | ⟨i, hix, _⟩
    · rw [Lib.countB_miss s ⟨#[c]⟩ hix] at hk; omega
    · have hct := Lib.countB_hit s ⟨#[c]⟩ i (Nat.le_refl _) hix
      rw [Lib.splitB_hit _ 0 k s i hix, partsB_hit c s i (by rw [← indexB_one]; exact hix)]
      have e : Lib.splitB ⟨#[c]⟩ 0 k (s.extract (i + (⟨#[c]⟩ : ByteArray).size) s.size) = partsB c (s.extract (i + 1) s.size) := parts_count c k (s.extract (i + 1) s.size) (by
        have : Lib.countB (s.extract (i + (⟨#[c]⟩ : ByteArray).size) s.size) ⟨#[c]⟩ = k := by omega
        exact this)
      rw [e]; rfl
theorem countB_one (s : ByteArray) (c : UInt8) : Lib.countB s ⟨#[c]⟩ = Lib.countByte s.data.toList c := by
  show Lib.count s.data.toList [c] = _
  exact Lib.count_one _ _
set_option maxHeartbeats 1000000 in
/-- strings.Split by one byte -/
theorem Split1_any (s : ByteArray) (c : UInt8) (w : World) (hs : s.size < 4294967281) :
    Calls Tryz.prog 66 #[.string s, .string ⟨#[c]⟩] w fun e w' => e = .returned (.slice (some ⟨w.heap.size, 0, none⟩) (partsB c s).length (partsB c s).length) ∧ w' = w.alloc (.cells ((partsB c s).map Value.string).toArray 9) := by
  have hc1 : (1 : Nat) ≤ (⟨#[c]⟩ : ByteArray).size := Nat.le_refl _
  have hle := Lib.countB_le ⟨#[c]⟩ hc1 s.size s (Nat.le_refl _)
  have hlen := Lib.splitB_all ⟨#[c]⟩ hc1 0 _ s rfl
  have hsp : Lib.splitB ⟨#[c]⟩ 0 (Lib.countB s ⟨#[c]⟩) s = partsB c s := parts_count c _ s rfl
  have k : Calls Tryz.prog 122 #[.string s, .string ⟨#[c]⟩, .int .i64 (0 : Nat), .int .i64 (-1)] w fun e w' =>
      e = .returned (.slice (some ⟨w.heap.size, 0, none⟩) (Lib.splitB ⟨#[c]⟩ 0 (Lib.countB s ⟨#[c]⟩ + 1 - 1) s).length (Lib.countB s ⟨#[c]⟩ + 1)) ∧ w' = w.alloc (.cells (Lib.cellsOf (Lib.splitB ⟨#[c]⟩ 0 (Lib.countB s ⟨#[c]⟩ + 1 - 1) s) (Lib.countB s ⟨#[c]⟩ + 1)) 9) :=
    Any.strings_genSplit_core Tryz.lays221 (by kernel_rfl) s ⟨#[c]⟩ 0 (-1) (Lib.countB s ⟨#[c]⟩ + 1) w hs hc1 (Nat.zero_le _)
      (fun x cc _ => (Any.strings_Index_one Tryz.lays143 x c _).mono fun e w' ⟨he, hw⟩ => ⟨by rw [he, indexB_one], hw⟩)
      ((Any.strings_Count_one Tryz.lays138 s c w).mono fun e w' ⟨he, hw⟩ => ⟨by rw [he, countB_one], hw⟩)
      (by decide) (by decide) (by rw [if_pos (by decide)]; omega)
  rw [Nat.add_sub_cancel, hlen] at k
  have e2 : Lib.cellsOf (Lib.splitB ⟨#[c]⟩ 0 (Lib.countB s ⟨#[c]⟩) s) (Lib.countB s ⟨#[c]⟩ + 1) = ((Lib.splitB ⟨#[c]⟩ 0 (Lib.countB s ⟨#[c]⟩) s).map Value.string).toArray := by rw [← hlen]; exact Lib.cellsOf_full _
  rw [e2, ← hlen, hsp] at k
  go_enter Tryz.func66, Tryz.ntmps66
  go_wp2_with fail
  refine k.mono ?_
  rintro e w1 ⟨rfl, rfl⟩
  go_wp2
  go_ret
  exact ⟨rfl, rfl⟩
end Go.Proofs.YtkoobhgedoanhaaGreatDoor
