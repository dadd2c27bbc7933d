/- Walks over the package token: the cursor's loops. -/
import Derived.Test.YtkoobhgedoanhaaGreatDoorToken1
import Derived.Deep.RegionWith
import Derived.Deep.LoopGhost
import Derived.Lib.Hide
namespace Go.Proofs.YtkoobhgedoanhaaGreatDoor
open Go.RowKit

/-- behind the longest stretch of bytes with p, from i on -/
def spanEnd (p : UInt8 → Bool) (l : List UInt8) (i : Nat) : Nat := i + ((l.drop i).takeWhile p).length
theorem spanEnd_step {p : UInt8 → Bool} {l : List UInt8} {i : Nat} {c : UInt8} (h : l[i]? = some c) (hp : p c = true) : spanEnd p l i = spanEnd p l (i + 1) := by
  have hi : i < l.length := by
    rcases Nat.lt_or_ge i l.length with g | g
    · exact g
    · simp [List.getElem?_eq_none g] at h
  unfold spanEnd
  have e : l.drop i = c :: l.drop (i + 1) := by
    rw [List.drop_eq_getElem_cons hi]
    rw [List.getElem?_eq_getElem hi] at h
    simp at h; rw [h]
  rw [e, List.takeWhile_cons_of_pos hp]
  simp; omega
theorem spanEnd_stop {p : UInt8 → Bool} {l : List UInt8} {i : Nat} (h : ∀ c, l[i]? = some c → p c = false) : spanEnd p l i = i := by
  unfold spanEnd
  rcases Nat.lt_or_ge i l.length with g | g
  · rw [List.drop_eq_getElem_cons g, List.takeWhile_cons_of_neg]
    · rfl
    · have := h l[i] (List.getElem?_eq_getElem g); simp [this]
  · simp [List.drop_eq_nil_of_le g]
theorem spanEnd_le {p : UInt8 → Bool} {l : List UInt8} {i : Nat} (h : i ≤ l.length) : spanEnd p l i ≤ l.length := by
  unfold spanEnd
  have := (List.takeWhile_prefix p (l := l.drop i)).length_le
  simp at this; omega
theorem spanEnd_ge {p : UInt8 → Bool} {l : List UInt8} {i : Nat} : i ≤ spanEnd p l i := by unfold spanEnd; omega

/-- the place of a cursor in a world -/
def curPos (w : World) (b : Nat) : Nat := match w.cell? ⟨b, 1, none⟩ with | some (.int _ n) => n.toNat | _ => 0
theorem CurAt.pos {w : World} {b i : Nat} {s : ByteArray} (h : CurAt w b s i) : curPos w b = i := by simp [curPos, h.cell1]

theorem meas_lt {w : World} {b k : Nat} {s : ByteArray} (h : CurAt w b s (k + 1)) (hk : k < s.size) : s.size - curPos w b < s.size - k := by rw [h.pos]; omega

def blankB (c : UInt8) : Bool := c == 32 || c == 9

theorem u8_eq {c : UInt8} (n : Nat) (hn : n < 256) : ((c.toNat : Int) == (n : Int)) = (c == n.toUInt8) := by
  rw [Bool.eq_iff_iff, beq_iff_eq, beq_iff_eq, ← UInt8.toNat_inj]
  have : (n.toUInt8).toNat = n := by simp; omega
  rw [this]; omega

set_option maxHeartbeats 1000000 in
theorem Blanks_any (b : Nat) (s : ByteArray) (i : Nat) (w : World) (h : CurAt w b s i) (hs : s.size ≤ maxLen) (hi : i ≤ s.size) :
    Calls Tryz.prog 106 #[.pointer (some ⟨b, 0, none⟩)] w fun e w' => e = .returned (.bool (decide (i < spanEnd blankB s.data.toList i))) ∧ CurAt w' b s (spanEnd blankB s.data.toList i) ∧ Fr (one b) w w' := by
  have h0 := h.cell0
  have h1 := h.cell1
  unfold maxLen at hs
  go_enter Tryz.func106, Tryz.ntmps106
  go_wp2
  clear h0 h1
  go_loopw [] (fun wr => ∃ k, i ≤ k ∧ k ≤ s.size ∧ CurAt wr b s k ∧ spanEnd blankB s.data.toList k = spanEnd blankB s.data.toList i ∧ Fr (one b) w wr) (fun wr => s.size - curPos wr b)
  case atStart => exact ⟨i, Nat.le_refl _, hi, h, rfl, Fr.refl _ _⟩
  case round =>
    obtain ⟨k, hik, hks, hc, hsp, hfr⟩ := hrel
    have HSP := Lib.hid hsp
    clear hsp
    have h0 := hc.cell0
    have h1 := hc.cell1
    have hf := hc.free 1
    have hpos := Lib.hid hc.pos
    by_cases hk : k < s.size
    · have hd : decide (k < s.size) = true := by simp [hk]
      have hat := Lib.hid (byte_at s k hk)
      generalize hx : s[k] = x at hat
      have go : blankB x = true → spanEnd blankB s.data.toList (k + 1) = spanEnd blankB s.data.toList i := fun hb => (spanEnd_step hat.out hb).symm.trans HSP.out
      have GO := Lib.hid go
      clear go
      cases e1 : x == 32
      · have n1 : ((x.toNat : Int) == 32) = false := by rw [← e1]; exact u8_eq 32 (by decide)
        cases e2 : x == 9
        · have n2 : ((x.toNat : Int) == 9) = false := by rw [← e2]; exact u8_eq 9 (by decide)
          have hstop := Lib.hid (spanEnd_stop (p := blankB) (l := s.data.toList) (i := k) (fun c hcc => by rw [hat.out] at hcc; cases hcc; simp [blankB, e1, e2]))
          clear e1 e2
          go_wp2
          go_quiet (fail)
          go_wp2
          go_ret
          rw [← HSP.out, hstop.out]
          exact ⟨rfl, hc, by repeat (first | exact hfr | apply Fr.drewN)⟩
        · have n2 : ((x.toNat : Int) == 9) = true := by rw [← e2]; exact u8_eq 9 (by decide)
          have hn := Lib.hid (GO.out (by simp [blankB, e2]))
          clear e1 e2
          go_wp2
          go_quiet (fail)
          go_wp2
          go_roundw
          case rel => exact ⟨k + 1, by omega, by omega, (hc.setCell (j := k + 1)).drewN _, hn.out, hfr.trans (Fr.one_set wr b _ _)⟩
          case measure => rw [hpos.out]; exact meas_lt (hc.setCell (j := k + 1)) hk
      · have n1 : ((x.toNat : Int) == 32) = true := by rw [← e1]; exact u8_eq 32 (by decide)
        have hn := Lib.hid (GO.out (by simp [blankB, e1]))
        clear e1
        go_wp2
        go_quiet (fail)
        go_wp2
        go_roundw
        case rel => exact ⟨k + 1, by omega, by omega, (hc.setCell (j := k + 1)).drewN _, hn.out, hfr.trans (Fr.one_set wr b _ _)⟩
        case measure => rw [hpos.out]; exact meas_lt (hc.setCell (j := k + 1)) hk
    · have hd : decide (k < s.size) = false := by simp; omega
      have hstop := Lib.hid (spanEnd_stop (p := blankB) (l := s.data.toList) (i := k) (fun c hcc => by rw [byte_off s k hk] at hcc; cases hcc))
      go_wp2
      go_quiet (fail)
      go_wp2
      go_ret
      rw [← HSP.out, hstop.out]
      exact ⟨rfl, hc, by repeat (first | exact hfr | apply Fr.drewN)⟩

set_option maxHeartbeats 1000000 in
theorem Word_any (b : Nat) (s : ByteArray) (i : Nat) (w : World) (h : CurAt w b s i) (hs : s.size ≤ maxLen) (hi : i ≤ s.size) :
    Calls Tryz.prog 107 #[.pointer (some ⟨b, 0, none⟩)] w fun e w' => e = .returned (.string (s.extract i (spanEnd byteB s.data.toList i))) ∧ CurAt w' b s (spanEnd byteB s.data.toList i) ∧ Fr (one b) w w' := by
  have h0 := h.cell0
  have h1 := h.cell1
  unfold maxLen at hs
  go_enter Tryz.func107, Tryz.ntmps107
  go_wp2
  clear h0 h1
  go_loopw [] (fun wr => ∃ k, i ≤ k ∧ k ≤ s.size ∧ CurAt wr b s k ∧ spanEnd byteB s.data.toList k = spanEnd byteB s.data.toList i ∧ Fr (one b) w wr) (fun wr => s.size - curPos wr b)
  case atStart => exact ⟨i, Nat.le_refl _, hi, h, rfl, Fr.refl _ _⟩
  case round =>
    obtain ⟨k, hik, hks, hc, hsp, hfr⟩ := hrel
    have HSP := Lib.hid hsp
    clear hsp
    have h0 := hc.cell0
    have h1 := hc.cell1
    have hf := hc.free 1
    have hpos := Lib.hid hc.pos
    by_cases hk : k < s.size
    · have hd : decide (k < s.size) = true := by simp [hk]
      have hat := Lib.hid (byte_at s k hk)
      generalize hx : s[k] = x at hat
      have go : byteB x = true → spanEnd byteB s.data.toList (k + 1) = spanEnd byteB s.data.toList i := fun hb => (spanEnd_step hat.out hb).symm.trans HSP.out
      have GO := Lib.hid go
      clear go
      cases e1 : byteB x
      · have hstop := Lib.hid (spanEnd_stop (p := byteB) (l := s.data.toList) (i := k) (fun c hcc => by rw [hat.out] at hcc; cases hcc; exact e1))
        go_wp2
        go_quiet ((go_at_call 110; exact quiet_eq (Byte_any _ _)))
        go_wp2
        go_quiet (fail)
        go_wp2
        go_ret
        rw [← HSP.out, hstop.out]
        exact ⟨rfl, hc, by repeat (first | exact hfr | apply Fr.drewN)⟩
      · have hn := Lib.hid (GO.out e1)
        go_wp2
        go_quiet ((go_at_call 110; exact quiet_eq (Byte_any _ _)))
        go_wp2
        go_roundw
        case rel => exact ⟨k + 1, by omega, by omega, (hc.setCell (j := k + 1)).drewN _, hn.out, hfr.trans (Fr.one_set wr b _ _)⟩
        case measure => rw [hpos.out]; exact meas_lt (hc.setCell (j := k + 1)) hk
    · have hd : decide (k < s.size) = false := by simp; omega
      have hstop := Lib.hid (spanEnd_stop (p := byteB) (l := s.data.toList) (i := k) (fun c hcc => by rw [byte_off s k hk] at hcc; cases hcc))
      go_wp2
      go_quiet (fail)
      go_wp2
      go_quiet (fail)
      go_wp2
      go_ret
      rw [← HSP.out, hstop.out]
      exact ⟨rfl, hc, by repeat (first | exact hfr | apply Fr.drewN)⟩
end Go.Proofs.YtkoobhgedoanhaaGreatDoor
