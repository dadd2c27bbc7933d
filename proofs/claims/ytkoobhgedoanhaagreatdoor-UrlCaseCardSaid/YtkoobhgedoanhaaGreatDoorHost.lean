/- url.host: strings.SplitSeq by one byte, and the range over it. -/
import Derived.Test.YtkoobhgedoanhaaGreatDoorRange
import Derived.Test.YtkoobhgedoanhaaGreatDoorSplit1
import Derived.Test.YtkoobhgedoanhaaGreatDoorUrlPure
import Derived.Shelf.Abstract
import Derived.Shelf.RegionOpen
import Derived.OwnWalkIn
import Derived.TacticsInMore
import Derived.LoopNIn
import Derived.LoopIn
namespace Go.Proofs.YtkoobhgedoanhaaGreatDoor
open Go.RowKit Go.Shelf
attribute [local go_sem] Oper.semAt_some

set_option maxHeartbeats 1000000 in
theorem Index1_any (s : ByteArray) (c : UInt8) (w : World) :
    Calls Tryz.prog 37 #[.string s, .string ⟨#[c]⟩] w fun e w' => e = .returned (.int .i64 (Lib.indexByte s.data.toList c)) ∧ w' = w := by
  go_enter Tryz.func37, Tryz.ntmps37
  go_wp2_with fail
  refine (Tryz.stringslite_Index_one s c w).mono ?_
  rintro e w1 ⟨rfl, rfl⟩
  go_wp2
  go_ret
  exact ⟨rfl, rfl⟩

def strLen (w : World) (k : Nat) : Nat := match w.cell? ⟨k, 0, none⟩ with
  | some (.string s) => s.size + 1
  | _ => 0
set_option maxRecDepth 100000 in
set_option maxHeartbeats 2000000 in
theorem splitSeq1_gives (s : ByteArray) (k n : Nat) (w : World) (hn : 1 ≤ n) (hs : s.size < 100000)
    (h0 : w.heap[k]? = some (.cells #[.string s] 9 (0, 0))) (h1 : w.heap[k + 1]? = some (.cells #[.string ⟨#[46]⟩] 9 (0, 0))) (h2 : w.heap[k + 2]? = some (.cells #[.int .i64 0] 3 (0, 0))) :
    GivesS Fence.wide n Tryz.prog 231 #[.pointer (some ⟨k + 1, 0, none⟩), .pointer (some ⟨k, 0, none⟩), .pointer (some ⟨k + 2, 0, none⟩)] (fun x : ByteArray => Value.string x) k (partsB 46 s) w := by
  intro l J Jx W hfW hJ hJx hY hJ0
  have b0 := hfW.keep h0 (fun h => h)
  have b1 := hfW.keep h1 (fun h => h)
  have b2 := hfW.keep h2 (fun h => h)
  have c0 : W.cell? ⟨k, 0, none⟩ = some (.string s) := by simp [World.cell?, b0]
  have c1 : W.cell? ⟨k + 1, 0, none⟩ = some (.string ⟨#[46]⟩) := by simp [World.cell?, b1]
  refine callsIn_of_wp Tryz.func231 rfl trivial ?_ rfl
  simp only [Tryz.ntmps231, List.size_toArray, List.length_cons, List.length_nil, Nat.reduceAdd, Nat.reduceSub, Array.replicate_succ, Array.replicate_zero, List.push_toArray, List.append_toArray, List.nil_append, List.cons_append]
  gi_wp2
  gi_loopw [] (fun wr => ∃ (pre : List ByteArray) (r : ByteArray), pre ++ partsB 46 r = partsB 46 s ∧ r.size ≤ s.size ∧ wr.heap[k]? = some (.cells #[.string r] 9 (0, 0)) ∧ wr.heap[k + 1]? = some (.cells #[.string ⟨#[46]⟩] 9 (0, 0)) ∧ wr.heap[k + 2]? = some (.cells #[.int .i64 0] 3 (0, 0)) ∧ J pre wr) (fun wr => strLen wr k)
  case atStart => exact ⟨[], s, rfl, Nat.le_refl _, b0, b1, b2, hJ0⟩
  case round =>
    obtain ⟨pre, r, hpr, hrs, d0, d1, d2, hj⟩ := hrel
    have e0 : wr.cell? ⟨k, 0, none⟩ = some (.string r) := by simp [World.cell?, d0]
    have e1 : wr.cell? ⟨k + 1, 0, none⟩ = some (.string ⟨#[46]⟩) := by simp [World.cell?, d1]
    have e2 : wr.cell? ⟨k + 2, 0, none⟩ = some (.int .i64 0) := by simp [World.cell?, d2]
    gi_wp2_with fail
    refine ⟨trivial, ?_⟩
    refine (callsIn_wide.2 (Index1_any r 46 wr)).mono ?_
    rintro e u ⟨rfl, rfl⟩
    by_cases hix : 0 ≤ Lib.indexByte r.data.toList 46
    · obtain ⟨i, hi⟩ : ∃ i : Nat, Lib.indexByte r.data.toList 46 = (i : Int) := ⟨(Lib.indexByte r.data.toList 46).toNat, by omega⟩
      have hil : i < r.size := by have := idx_lt hi; simpa using this
      have HPH := Lib.hid (partsB_hit 46 r i hi)
      rw [hi]
      clear hi hix
      have q0 : ¬ (i : Int) < 0 := by omega
      have q1 : (0 : Int) ≤ (i : Int) := by omega
      have q2 : (i : Int) ≤ (r.size : Int) := by omega
      have q3 : (i : Int) + 1 ≤ (r.size : Int) := by omega
      have q4 : (0 : Int) ≤ (i : Int) + 1 := by omega
      obtain ⟨fn, tmps, assign, body, hy, hR⟩ := hY pre (r.extract 0 i) u hj ⟨partsB 46 (r.extract (i + 1) r.size), by rw [List.append_assoc, List.singleton_append, ← HPH.out]; exact hpr⟩
      gi_wp2
      refine hR.mono ?_
      rintro e W3 (⟨rfl, hJ3, hk3⟩ | ⟨rfl, hx3⟩)
      · have f0 := (hk3 k (by omega) (by omega)).trans d0
        have f1 := (hk3 (k + 1) (by omega) (by omega)).trans d1
        have f2 := (hk3 (k + 2) (by omega) (by omega)).trans d2
        clear e0 e1 e2 hk3
        have e0 : W3.cell? ⟨k, 0, none⟩ = some (.string r) := by simp [World.cell?, f0]
        have e1 : W3.cell? ⟨k + 1, 0, none⟩ = some (.string ⟨#[46]⟩) := by simp [World.cell?, f1]
        have e3 : W3.frozen? ⟨k, 0, none⟩ = false := by simp [World.frozen?, f0]
        gi_wp2
        have g0 : (W3.setCell ⟨k, 0, none⟩ (.string (r.extract (i + 1) r.size))).heap[k]? = some (.cells #[.string (r.extract (i + 1) r.size)] 9 (0, 0)) := by simp [World.setCell, Array.getElem?_modify, f0]
        have hz : (r.extract (i + 1) r.size).size = r.size - (i + 1) := by rw [ByteArray.size_extract]; omega
        refine ⟨⟨pre ++ [r.extract 0 i], r.extract (i + 1) r.size, by rw [List.append_assoc, List.singleton_append, ← HPH.out]; exact hpr, by omega, g0, (Below.heap_setCell _ _ _ _ (by simp)).trans f1, (Below.heap_setCell _ _ _ _ (by simp)).trans f2, hJ _ _ _ hJ3 ((Fr.refl (fun j => j = k) W3).setCell (p := ⟨k, 0, none⟩) (fun _ => rfl) _)⟩, ?_⟩
        unfold strLen
        simp only [World.cell?, g0, d0]
        simp
        omega
      · gi_wp2
        refine bodyPost_ret (results_none rfl _ _ _) rfl ?_
        exact ⟨⟨_, rfl⟩, .inr ⟨pre ++ [r.extract 0 i], ⟨partsB 46 (r.extract (i + 1) r.size), by rw [List.append_assoc, List.singleton_append, ← HPH.out]; exact hpr⟩, hx3⟩⟩
    · have HPM := Lib.hid (show pre ++ [r] = partsB 46 s by rw [← partsB_miss 46 r hix]; exact hpr)
      obtain ⟨fn, tmps, assign, body, hy, hR⟩ := hY pre r u hj ⟨[], by rw [List.append_nil]; exact HPM.out⟩
      have q0 : Lib.indexByte r.data.toList 46 < 0 := by omega
      clear hix
      gi_wp2
      refine hR.mono ?_
      rintro e W3 (⟨rfl, hJ3, hk3⟩ | ⟨rfl, hx3⟩)
      · gi_wp2
        go_end0
        exact ⟨⟨_, rfl⟩, .inl (by rw [← HPM.out]; exact hJ3)⟩
      · gi_wp2
        go_end0
        exact ⟨⟨_, rfl⟩, .inr ⟨pre ++ [r], ⟨[], by rw [List.append_nil]; exact HPM.out⟩, hx3⟩⟩
end Go.Proofs.YtkoobhgedoanhaaGreatDoor
