/- Walks: token.Value, Cursor.Go. -/
import Derived.Test.YtegbacpenolehaaDoorToken4
namespace Go.Proofs.YtegbacpenolehaaDoor
open Go.RowKit

/-- Go: the place, held within the text. -/
def goTo (k : Int) (n : Nat) : Nat := (max 0 (min k n)).toNat
set_option maxHeartbeats 400000 in
theorem Go_any (b : Nat) (s : ByteArray) (i : Nat) (k : Int) (w : World) (h : CurAt w b s i) (hs : s.size ≤ maxLen) :
    Calls Tryd.prog 174 #[.pointer (some ⟨b, 0, none⟩), .int .i64 k] w fun e w' => e = .returned (.tuple #[]) ∧ CurAt w' b s (goTo k s.size) ∧ Fr (one b) w w' := by
  have h0 := h.cell0
  have h1 := h.cell1
  have hf := h.free 1
  unfold maxLen at hs
  go_enter Tryd.func174, Tryd.ntmps174
  go_wp2
  go_end0
  rw [show max 0 (min k (s.size : Int)) = ((goTo k s.size : Nat) : Int) from by unfold goTo; omega]
  exact ⟨rfl, h.setCell, Fr.one_set w b _ 0⟩

/-- token.Value: a word as it is, else between marks -/
def valueOk (l : List UInt8) : Bool := isL l || textL l
def valueL (l : List UInt8) : List UInt8 := if isL l then l else quoteL l
def ValuePost (s : ByteArray) (w : World) (e : Ending) (w' : World) : Prop :=
  e = .returned (.tuple (if valueOk s.data.toList then #[.string ⟨(valueL s.data.toList).toArray⟩, .nilIface] else #[.string ⟨#[]⟩, .iface 46 (.int .i64 3)])) ∧ Fr noB w w'

set_option maxHeartbeats 1000000 in
theorem Value_any (s : ByteArray) (w : World) (hs : s.size < 17592186044416) :
    Calls Tryd.prog 88 #[.string s] w (ValuePost s w) := by
  cases e1 : isL s.data.toList
  · cases e2 : textL s.data.toList
    · have hq : ∀ e w', QuotePost s w e w' → e = .returned (.tuple #[.string ⟨#[]⟩, .iface 46 (.int .i64 3)]) ∧ Fr noB w w' := fun e w' h => by rw [QuotePost, e2] at h; exact h
      have hfin := Lib.hid (show valueOk s.data.toList = false by simp [valueOk, e1, e2])
      clear e2
      go_enter Tryd.func88, Tryd.ntmps88
      go_wp2_with (first | (go_at_call 91; refine (Is_any _ _ hs).mono ?_; rintro e w' ⟨rfl, rfl⟩) | (go_at_call 103; refine (Quote_any _ _ hs).mono ?_; intro e w' hp; obtain ⟨rfl, hfr⟩ := hq e w' hp))
      go_ret2
      exact ⟨by rw [hfin.out]; rfl, hfr⟩
    · have hq : ∀ e w', QuotePost s w e w' → e = .returned (.tuple #[.string ⟨(quoteL s.data.toList).toArray⟩, .nilIface]) ∧ Fr noB w w' := fun e w' h => by rw [QuotePost, e2] at h; exact h
      have hfin := Lib.hid (show valueOk s.data.toList = true ∧ valueL s.data.toList = quoteL s.data.toList by simp [valueOk, valueL, e1, e2])
      clear e2
      go_enter Tryd.func88, Tryd.ntmps88
      go_wp2_with (first | (go_at_call 91; refine (Is_any _ _ hs).mono ?_; rintro e w' ⟨rfl, rfl⟩) | (go_at_call 103; refine (Quote_any _ _ hs).mono ?_; intro e w' hp; obtain ⟨rfl, hfr⟩ := hq e w' hp))
      go_ret2
      exact ⟨by rw [hfin.out.1, hfin.out.2]; rfl, hfr⟩
  · have hfin := Lib.hid (show valueOk s.data.toList = true ∧ valueL s.data.toList = s.data.toList by simp [valueOk, valueL, e1])
    go_enter Tryd.func88, Tryd.ntmps88
    go_wp2_with (go_at_call 91; refine (Is_any _ _ hs).mono ?_; rintro e w' ⟨rfl, rfl⟩)
    go_ret2
    exact ⟨by rw [hfin.out.1, hfin.out.2]; rfl, Fr.refl _ _⟩
end Go.Proofs.YtegbacpenolehaaDoor
