/- Walks over the package token: bytes. -/
import Derived.Test.YtkoobhgedoanhaaGreatDoorRows
import Derived.Test.YtkoobhgedoanhaaGreatDoorShelf
import Derived.Test.YtkoobhgedoanhaaGreatDoorBase
import Derived.WalkKit
import Derived.WalkSpells
import Derived.WalkLawsBesides
import Derived.Deep.QuietTactic
import Derived.BigQuiet
namespace Go.Proofs.YtkoobhgedoanhaaGreatDoor
open Go.RowKit

/-- token.text -/
def textN (n : Nat) : Bool := n == 9 || (decide (32 ≤ n) && n != 127)
def textB (c : UInt8) : Bool := textN c.toNat

set_option maxHeartbeats 400000 in
theorem text_any (c : UInt8) (w : World) :
    Calls Tryz.prog 109 #[.int .u8 c.toNat] w fun e w' => e = .returned (.bool (textB c)) ∧ w = w' := by
  go_enter Tryz.func109, Tryz.ntmps109
  go_wp2
  all_goals
    go_ret
    refine ⟨ret_bool ?_, rfl⟩
    rw [Bool.eq_iff_iff]
    simp [textB, textN]
    omega

/-- token.Byte -/
def marks : List UInt8 := [33, 35, 36, 37, 38, 39, 42, 43, 45, 46, 94, 95, 124, 126, 96]
def isMark (c : UInt8) : Bool := decide (0 ≤ Lib.indexByte marks c)
theorem mark_iff (c : UInt8) : 0 ≤ Lib.indexByte [33, 35, 36, 37, 38, 39, 42, 43, 45, 46, 94, 95, 124, 126, 96] c ↔ isMark c = true := by
  unfold isMark marks; rw [decide_eq_true_iff]
def byteB (c : UInt8) : Bool := alnumB c || isMark c

set_option maxHeartbeats 400000 in
theorem Byte_any (c : UInt8) (w : World) :
    Calls Tryz.prog 110 #[.int .u8 c.toNat] w fun e w' => e = .returned (.bool (byteB c)) ∧ w = w' := by
  go_enter Tryz.func110, Tryz.ntmps110
  go_wp2_with (go_at_call 135; refine (Tryz.strings_IndexByte _ _ _).mono ?_; rintro e w' ⟨rfl, rfl⟩)
  all_goals
    go_ret
    refine ⟨ret_bool ?_, rfl⟩
    rw [Bool.eq_iff_iff]
    simp [byteB, alnumB, mark_iff]
    cases isMark c <;> simp <;> omega

/-- A cursor: a block of two cells, the text and the place. -/
def CurAt (w : World) (b : Nat) (s : ByteArray) (i : Nat) : Prop := w.heap[b]? = some (.cells #[.string s, .int .i64 i] 154 (0, 0))

theorem CurAt.cell0 {w : World} {b i : Nat} {s : ByteArray} (h : CurAt w b s i) : w.cell? ⟨b, 0, none⟩ = some (.string s) := by simp [World.cell?, show w.heap[b]? = _ from h]
theorem CurAt.cell1 {w : World} {b i : Nat} {s : ByteArray} (h : CurAt w b s i) : w.cell? ⟨b, 1, none⟩ = some (.int .i64 i) := by simp [World.cell?, show w.heap[b]? = _ from h]
theorem CurAt.free {w : World} {b i : Nat} {s : ByteArray} (h : CurAt w b s i) (k : Nat) : w.frozen? ⟨b, k, none⟩ = false := by simp [World.frozen?, show w.heap[b]? = _ from h]

set_option maxHeartbeats 400000 in
theorem On_any (s : ByteArray) (w : World) :
    Calls Tryz.prog 46 #[.string s] w fun e w' => e = .returned (.pointer (some ⟨w.heap.size, 0, none⟩)) ∧ w' = w.alloc (.cells #[.string s, .int .i64 0] 154 (0, 0)) := by
  go_enter Tryz.func46, Tryz.ntmps46
  go_wp2
  go_ret
  exact ⟨rfl, rfl⟩

set_option maxHeartbeats 400000 in
theorem At_any (b : Nat) (s : ByteArray) (i : Nat) (w : World) (h : CurAt w b s i) :
    Calls Tryz.prog 49 #[.pointer (some ⟨b, 0, none⟩)] w fun e w' => e = .returned (.int .i64 i) ∧ w = w' := by
  have h0 := h.cell0
  have h1 := h.cell1
  go_enter Tryz.func49, Tryz.ntmps49
  go_wp2
  go_ret
  exact ⟨rfl, rfl⟩

set_option maxHeartbeats 400000 in
theorem End_any (b : Nat) (s : ByteArray) (i : Nat) (w : World) (h : CurAt w b s i) :
    Calls Tryz.prog 58 #[.pointer (some ⟨b, 0, none⟩)] w fun e w' => e = .returned (.bool (decide (s.size ≤ i))) ∧ ∃ n, w' = w.drewN n := by
  have h0 := h.cell0
  have h1 := h.cell1
  go_enter Tryz.func58, Tryz.ntmps58
  go_wp2
  go_quiet (fail)
  go_wp2
  go_ret
  exact ⟨rfl, _, rfl⟩

/-- the block's number alone -/

theorem CurAt.setCell {w : World} {b i j : Nat} {s : ByteArray} (h : CurAt w b s i) : CurAt (w.setCell ⟨b, 1, none⟩ (.int .i64 j)) b s j := by
  unfold CurAt at *
  simp [World.setCell, Array.getElem?_modify, h]
theorem CurAt.drewN {w : World} {b i : Nat} {s : ByteArray} (h : CurAt w b s i) (n : Nat) : CurAt (w.drewN n) b s i := h
theorem CurAt.lt {w : World} {b i : Nat} {s : ByteArray} (h : CurAt w b s i) : b < w.heap.size := lt_of_some h


/-- a cursor over s, wherever it stands -/
def CurBlk (w : World) (b : Nat) (s : ByteArray) : Prop := ∃ v, w.heap[b]? = some (.cells #[.string s, v] 154 (0, 0))
theorem CurAt.blk {w : World} {b i : Nat} {s : ByteArray} (h : CurAt w b s i) : CurBlk w b s := ⟨_, h⟩
theorem CurBlk.set {w : World} {b : Nat} {s : ByteArray} {u : Value} (h : CurBlk w b s) : CurBlk (w.setCell ⟨b, 1, none⟩ u) b s := by
  obtain ⟨v, h⟩ := h
  exact ⟨u, by simp [World.setCell, Array.getElem?_modify, h]⟩
theorem CurBlk.drewN {w : World} {b n : Nat} {s : ByteArray} (h : CurBlk w b s) : CurBlk (w.drewN n) b s := h
theorem CurBlk.drew {w : World} {b : Nat} {s : ByteArray} (h : CurBlk w b s) : CurBlk w.drew b s := h
theorem CurBlk.at {w : World} {b j : Nat} {s : ByteArray} (h : CurBlk w b s) : CurAt (w.setCell ⟨b, 1, none⟩ (.int .i64 j)) b s j := by
  obtain ⟨v, h⟩ := h
  unfold CurAt
  simp [World.setCell, Array.getElem?_modify, h]
theorem CurAt.alloc {w : World} {b i : Nat} {s : ByteArray} {o : Obj} (h : CurAt w b s i) : CurAt (w.alloc o) b s i := by
  have hb := h.lt
  unfold CurAt at *
  rw [Below.heap_alloc _ _ _ hb]; exact h
theorem CurAt.fr {w w' : World} {b i : Nat} {s : ByteArray} {S : Nat → Prop} (h : CurAt w b s i) (hf : Fr S w w') (hn : ¬ S b) : CurAt w' b s i := hf.keep h hn

/-- Mark: whether the byte stands there. -/
def markB (s : ByteArray) (i : Nat) (c : UInt8) : Bool := decide (s.data.toList[i]? = some c)
/-- where the cursor is behind Mark -/
def markTo (s : ByteArray) (i : Nat) (c : UInt8) : Nat := if markB s i c then i + 1 else i
theorem markB_yes {s : ByteArray} {i : Nat} {c : UInt8} (hi : i < s.size) (hc : s[i] = c) : markB s i c = true := by simp [markB, byte_at s i hi, hc]
theorem markB_no {s : ByteArray} {i : Nat} {c : UInt8} (hi : i < s.size) (hc : ¬ s[i] = c) : markB s i c = false := by simp [markB, byte_at s i hi, hc]
theorem markB_end {s : ByteArray} {i : Nat} {c : UInt8} (hi : ¬ i < s.size) : markB s i c = false := by simp [markB, byte_off s i hi]
theorem markTo_yes {s : ByteArray} {i : Nat} {c : UInt8} (h : markB s i c = true) : markTo s i c = i + 1 := by simp [markTo, h]
theorem markTo_no {s : ByteArray} {i : Nat} {c : UInt8} (h : markB s i c = false) : markTo s i c = i := by simp [markTo, h]
theorem byte_ne {a c : UInt8} (h : ¬ a = c) : ((a.toNat : Int) == (c.toNat : Int)) = false := by
  rw [beq_eq_false_iff_ne]; intro e; exact h (UInt8.toNat_inj.1 (by omega))
set_option maxHeartbeats 400000 in
theorem Mark_any (b : Nat) (s : ByteArray) (i : Nat) (c : UInt8) (w : World) (h : CurAt w b s i) (hs : s.size ≤ maxLen) :
    Calls Tryz.prog 108 #[.pointer (some ⟨b, 0, none⟩), .int .u8 c.toNat] w fun e w' => e = .returned (.bool (markB s i c)) ∧ CurAt w' b s (markTo s i c) ∧ Fr (one b) w w' := by
  have h0 := h.cell0
  have h1 := h.cell1
  have hf := h.free 1
  unfold maxLen at hs
  by_cases hi : i < s.size
  · have hd : decide (i < s.size) = true := by simp [hi]
    by_cases hc : s[i] = c
    · rw [markB_yes hi hc, markTo_yes (markB_yes hi hc)]
      have hn : ((s[i].toNat : Int) == (c.toNat : Int)) = true := by simp [hc]
      clear hc
      go_enter Tryz.func108, Tryz.ntmps108
      go_wp2
      go_quiet (fail)
      go_wp2
      go_ret
      exact ⟨rfl, (h.setCell (j := i + 1)).drewN _, Fr.one_set w b _ _⟩
    · rw [markB_no hi hc, markTo_no (markB_no hi hc)]
      have hn := byte_ne hc
      clear hc
      go_enter Tryz.func108, Tryz.ntmps108
      go_wp2
      go_quiet (fail)
      go_wp2
      go_ret
      exact ⟨rfl, h.drewN _, (Fr.refl _ _).drewN _⟩
  · have hd : decide (i < s.size) = false := by simp; omega
    rw [markB_end hi, markTo_no (markB_end hi)]
    go_enter Tryz.func108, Tryz.ntmps108
    go_wp2
    go_quiet (fail)
    go_wp2
    go_ret
    exact ⟨rfl, h, (Fr.refl _ _).drewN _⟩

end Go.Proofs.YtkoobhgedoanhaaGreatDoor
