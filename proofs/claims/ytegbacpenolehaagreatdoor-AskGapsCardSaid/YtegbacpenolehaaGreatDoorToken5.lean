/- Walks: Cursor.Go; the plain form of token.Value. -/
import Derived.Test.YtegbacpenolehaaGreatDoorToken4
namespace Go.Proofs.YtegbacpenolehaaGreatDoor
open Go.RowKit

/-- Go: the place, held within the text. -/
def goTo (k : Int) (n : Nat) : Nat := (max 0 (min k n)).toNat
set_option maxHeartbeats 400000 in
theorem Go_any (b : Nat) (s : ByteArray) (i : Nat) (k : Int) (w : World) (h : CurAt w b s i) (hs : s.size ≤ maxLen) :
    Calls Tryz.prog 134 #[.pointer (some ⟨b, 0, none⟩), .int .i64 k] w fun e w' => e = .returned (.tuple #[]) ∧ CurAt w' b s (goTo k s.size) ∧ Fr (one b) w w' := by
  have h0 := h.cell0
  have h1 := h.cell1
  have hf := h.free 1
  unfold maxLen at hs
  go_enter Tryz.func134, Tryz.ntmps134
  go_wp2
  go_end0
  rw [show max 0 (min k (s.size : Int)) = ((goTo k s.size : Nat) : Int) from by unfold goTo; omega]
  exact ⟨rfl, h.setCell, Fr.one_set w b _ 0⟩

/-- token.Value: a word as it is, else between marks -/
def valueOk (l : List UInt8) : Bool := isL l || textL l
def valueL (l : List UInt8) : List UInt8 := if isL l then l else quoteL l
end Go.Proofs.YtegbacpenolehaaGreatDoor
