/- strings.Cut by one byte. -/
import Derived.Test.YtkoobhgedoanhaaGreatDoorStrs
import Derived.Test.YtkoobhgedoanhaaGreatDoorTrim
namespace Go.Proofs.YtkoobhgedoanhaaGreatDoor
open Go.RowKit

theorem idx_first : ∀ (a b : List UInt8) (c : UInt8), (∀ x ∈ a, x ≠ c) → Lib.indexByte (a ++ c :: b) c = (a.length : Int)
  | [], b, c, _ => by simp [Lib.indexByte]
  | x :: a, b, c, h => by
    have hx : ¬ x = c := h x (List.mem_cons_self ..)
    have ih := idx_first a b c (fun y hy => h y (List.mem_cons_of_mem _ hy))
    show (if x == c then (0 : Int) else if Lib.indexByte (a ++ c :: b) c == -1 then -1 else Lib.indexByte (a ++ c :: b) c + 1) = _
    rw [ih, if_neg (by simpa using hx), if_neg (by simp)]
    simp
theorem idx_neg : ∀ (l : List UInt8) (c : UInt8), ¬ 0 ≤ Lib.indexByte l c ↔ ∀ x ∈ l, x ≠ c
  | [], c => by simp [Lib.indexByte]
  | x :: l, c => by
    have ih := idx_neg l c
    have hge := Lib.indexByte_ge l c
    show ¬ 0 ≤ (if x == c then (0 : Int) else if Lib.indexByte l c == -1 then -1 else Lib.indexByte l c + 1) ↔ _
    by_cases hx : x = c
    · subst hx; simp
    · rw [if_neg (by simpa using hx)]
      by_cases h1 : Lib.indexByte l c = -1
      · rw [if_pos (by simpa using h1)]
        constructor
        · intro _ y hy
          rcases List.mem_cons.1 hy with rfl | hy
          · exact hx
          · exact ih.1 (by rw [h1]; decide) y hy
        · intro _; decide
      · rw [if_neg (by simpa using h1)]
        constructor
        · intro h; omega
        · intro h
          have := ih.2 (fun y hy => h y (List.mem_cons_of_mem _ hy))
          omega
set_option maxHeartbeats 1000000 in
theorem cut1_hit (s : ByteArray) (c : UInt8) (i : Nat) (w : World) (hs : s.size < 4398046511104) (hi : Lib.indexByte s.data.toList c = (i : Int)) (hl : i < s.size) :
    Calls Tryz.prog 87 #[.string s, .string ⟨#[c]⟩] w fun e w' => e = .returned (.tuple #[.string (s.extract 0 i), .string (s.extract (i + 1) s.size), .bool true]) ∧ ∃ n, w' = w.drewN n := by
  have hin : Calls Tryz.prog 132 #[.string s, .string ⟨#[c]⟩] w fun e w' => e = .returned (.tuple #[.string (s.extract 0 i), .string (s.extract (i + 1) s.size), .bool true]) ∧ ∃ n, w' = w.drewN n := by
    have q0 : (0 : Int) ≤ (i : Int) := by omega
    have q1 : (i : Int) ≤ (s.size : Int) := by omega
    have q2 : (i : Int) + 1 ≤ (s.size : Int) := by omega
    have q3 : (0 : Int) ≤ (i : Int) + 1 := by omega
    go_enter Tryz.func132, Tryz.ntmps132
    go_wp2_with fail
    refine (Tryz.stringslite_Index_one s c w).mono ?_
    rintro e w1 ⟨rfl, rfl⟩
    rw [hi]
    go_wp2
    go_quiet (fail)
    go_wp2
    go_ret3
    exact ⟨rfl, _, rfl⟩
  go_enter Tryz.func87, Tryz.ntmps87
  go_wp2_with fail
  refine hin.mono ?_
  rintro e w1 ⟨rfl, n, rfl⟩
  go_wp2
  go_ret3
  exact ⟨rfl, n, rfl⟩
set_option maxHeartbeats 1000000 in
theorem cut1_miss (s : ByteArray) (c : UInt8) (w : World) (hi : ¬ 0 ≤ Lib.indexByte s.data.toList c) :
    Calls Tryz.prog 87 #[.string s, .string ⟨#[c]⟩] w fun e w' => e = .returned (.tuple #[.string s, .string ⟨#[]⟩, .bool false]) ∧ w' = w := by
  have hin : Calls Tryz.prog 132 #[.string s, .string ⟨#[c]⟩] w fun e w' => e = .returned (.tuple #[.string s, .string ⟨#[]⟩, .bool false]) ∧ w' = w := by
    go_enter Tryz.func132, Tryz.ntmps132
    go_wp2_with fail
    refine (Tryz.stringslite_Index_one s c w).mono ?_
    rintro e w1 ⟨rfl, rfl⟩
    go_wp2
    go_ret3
    exact ⟨rfl, rfl⟩
  go_enter Tryz.func87, Tryz.ntmps87
  go_wp2_with fail
  refine hin.mono ?_
  rintro e w1 ⟨rfl, rfl⟩
  go_wp2
  go_ret3
  exact ⟨rfl, rfl⟩
end Go.Proofs.YtkoobhgedoanhaaGreatDoor
