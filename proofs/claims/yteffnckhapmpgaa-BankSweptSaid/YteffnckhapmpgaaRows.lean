/-
  No cell of these rows narrows 'for every input' (looked for: loops, veiled, ifaces, maps, wideKeys, modest, calm, conditions, laid).
  DERIVED. THE GIVEN ROWS OF THIS SEAT. 11 by the template 'for every input the law returns true; each argument reads behind the call as it read before'; 0 by the template 'total and deterministic' (their statements: YteffnckhapmpgaaTotals.lean).
  GIVEN WITH THE SEED: the statements are not yours to turn. If you find one false, say at which input.
  Laid BY PROGRAM, IN A SANDBOX (cutbox-rows.mjs): the forced cells as the released guide's own fill.sh prints them over the translation d3b03640c416896b… (all of the seat's roots in one cut). By AI agents, Wed Nov 11 2026. No macro, syntax, notation, axiom, sorry.
-/
import Derived.Test.YteffnckhapmpgaaChecked
import GoSem.Claim
import GoSem.ClaimJoined
import GoSem.ClaimMapViews
import Derived.JoinedTies
import Derived.KernelRfl
namespace Go.Proofs.Yteffnckhapmpgaa
/- THE CELL 'sum', in the pinned program and in every row, IS THE sha256 OF THE DUMP (.gsa) THAT YteffnckhapmpgaaProg.lean LOADS. Nothing in Lean hashes anything: it is a label: what it is worth is what the hold of that sum in a sandbox is worth. -/
noncomputable def Try.pinned : Pinned := { name := "yteffnckhapmpgaa", sum := "d3b03640c416896b5cf6645f45d390a8a0d0bde37f5171ebf7039e89b04c1b52", checked := Try.checked }
namespace Rows
def none {H : Type} : Left H := { results := [], args := [] }

/-- 'gatepostkeep.QuoteBack': WHATEVER THE INPUT: true; the input reads as it did. -/
def quoteBackSpec : ChangeSpec := { name := "quoteBack", fn := fun _ => fun
  | [d1, d2] => { results := [.lit (.bool true)], args := [d1, d2] }
  | _ => none }
def quoteBackRow : OpenClaim := { program := "yteffnckhapmpgaa", sum := "d3b03640c416896b5cf6645f45d390a8a0d0bde37f5171ebf7039e89b04c1b52", func := "gatepost/gatepostkeep.QuoteBack", spec := "quoteBack", inPlace := ["internal/bytealg.IndexByteString"], apart := false }
def QuoteBackSaid : Prop := quoteBackRow.holds Try.pinned (OpenSpec.ofChange quoteBackSpec)

/-- ITS FALSE NEIGHBOUR: 'it returns false'. Refute it at one input. -/
def quoteBackWrong : ChangeSpec := { name := "quoteBack", fn := fun _ => fun
  | [d1, d2] => { results := [.lit (.bool false)], args := [d1, d2] }
  | _ => none }
def QuoteBackWrongFalsely : Prop := quoteBackRow.holds Try.pinned (OpenSpec.ofChange quoteBackWrong)

/-- 'gatepostkeep.QuoteStays': WHATEVER THE INPUT: true; the input reads as it did. -/
def quoteStaysSpec : ChangeSpec := { name := "quoteStays", fn := fun _ => fun
  | [d1, d2] => { results := [.lit (.bool true)], args := [d1, d2] }
  | _ => none }
def quoteStaysRow : OpenClaim := { program := "yteffnckhapmpgaa", sum := "d3b03640c416896b5cf6645f45d390a8a0d0bde37f5171ebf7039e89b04c1b52", func := "gatepost/gatepostkeep.QuoteStays", spec := "quoteStays", inPlace := ["internal/bytealg.IndexByteString"], apart := false }
def QuoteStaysSaid : Prop := quoteStaysRow.holds Try.pinned (OpenSpec.ofChange quoteStaysSpec)

/-- ITS FALSE NEIGHBOUR: 'it returns false'. Refute it at one input. -/
def quoteStaysWrong : ChangeSpec := { name := "quoteStays", fn := fun _ => fun
  | [d1, d2] => { results := [.lit (.bool false)], args := [d1, d2] }
  | _ => none }
def QuoteStaysWrongFalsely : Prop := quoteStaysRow.holds Try.pinned (OpenSpec.ofChange quoteStaysWrong)

/-- 'gatepostkeep.BankFarthest': WHATEVER THE INPUT: true; the input reads as it did. -/
def bankFarthestSpec : ChangeSpec := { name := "bankFarthest", fn := fun _ => fun
  | [d1, d2, d3, d4] => { results := [.lit (.bool true)], args := [d1, d2, d3, d4] }
  | _ => none }
def bankFarthestRow : OpenClaim := { program := "yteffnckhapmpgaa", sum := "d3b03640c416896b5cf6645f45d390a8a0d0bde37f5171ebf7039e89b04c1b52", func := "gatepost/gatepostkeep.BankFarthest", spec := "bankFarthest", unfollowed := true, recurses := true, apart := false }
def BankFarthestSaid : Prop := bankFarthestRow.holds Try.pinned (OpenSpec.ofChange bankFarthestSpec)

/-- ITS FALSE NEIGHBOUR: 'it returns false'. Refute it at one input. -/
def bankFarthestWrong : ChangeSpec := { name := "bankFarthest", fn := fun _ => fun
  | [d1, d2, d3, d4] => { results := [.lit (.bool false)], args := [d1, d2, d3, d4] }
  | _ => none }
def BankFarthestWrongFalsely : Prop := bankFarthestRow.holds Try.pinned (OpenSpec.ofChange bankFarthestWrong)

/-- 'gatepostkeep.ValueBack': WHATEVER THE INPUT: true; the input reads as it did. -/
def valueBackSpec : ChangeSpec := { name := "valueBack", fn := fun _ => fun
  | [d1, d2] => { results := [.lit (.bool true)], args := [d1, d2] }
  | _ => none }
def valueBackRow : OpenClaim := { program := "yteffnckhapmpgaa", sum := "d3b03640c416896b5cf6645f45d390a8a0d0bde37f5171ebf7039e89b04c1b52", func := "gatepost/gatepostkeep.ValueBack", spec := "valueBack", inPlace := ["internal/bytealg.IndexByteString"], apart := false }
def ValueBackSaid : Prop := valueBackRow.holds Try.pinned (OpenSpec.ofChange valueBackSpec)

/-- ITS FALSE NEIGHBOUR: 'it returns false'. Refute it at one input. -/
def valueBackWrong : ChangeSpec := { name := "valueBack", fn := fun _ => fun
  | [d1, d2] => { results := [.lit (.bool false)], args := [d1, d2] }
  | _ => none }
def ValueBackWrongFalsely : Prop := valueBackRow.holds Try.pinned (OpenSpec.ofChange valueBackWrong)

/-- 'gatepostkeep.BankOnce': WHATEVER THE INPUT: true; the input reads as it did. -/
def bankOnceSpec : ChangeSpec := { name := "bankOnce", fn := fun _ => fun
  | [d] => { results := [.lit (.bool true)], args := [d] }
  | _ => none }
def bankOnceRow : OpenClaim := { program := "yteffnckhapmpgaa", sum := "d3b03640c416896b5cf6645f45d390a8a0d0bde37f5171ebf7039e89b04c1b52", func := "gatepost/gatepostkeep.BankOnce", spec := "bankOnce", unfollowed := true, recurses := true, apart := false }
def BankOnceSaid : Prop := bankOnceRow.holds Try.pinned (OpenSpec.ofChange bankOnceSpec)

/-- ITS FALSE NEIGHBOUR: 'it returns false'. Refute it at one input. -/
def bankOnceWrong : ChangeSpec := { name := "bankOnce", fn := fun _ => fun
  | [d] => { results := [.lit (.bool false)], args := [d] }
  | _ => none }
def BankOnceWrongFalsely : Prop := bankOnceRow.holds Try.pinned (OpenSpec.ofChange bankOnceWrong)

/-- 'gatepostkeep.SpaceHolds': WHATEVER THE INPUT: true; the input reads as it did. -/
def spaceHoldsSpec : ChangeSpec := { name := "spaceHolds", fn := fun _ => fun
  | [d1, d2, d3] => { results := [.lit (.bool true)], args := [d1, d2, d3] }
  | _ => none }
def spaceHoldsRow : OpenClaim := { program := "yteffnckhapmpgaa", sum := "d3b03640c416896b5cf6645f45d390a8a0d0bde37f5171ebf7039e89b04c1b52", func := "gatepost/gatepostkeep.SpaceHolds", spec := "spaceHolds", unfollowed := true, recurses := true, apart := false }
def SpaceHoldsSaid : Prop := spaceHoldsRow.holds Try.pinned (OpenSpec.ofChange spaceHoldsSpec)

/-- ITS FALSE NEIGHBOUR: 'it returns false'. Refute it at one input. -/
def spaceHoldsWrong : ChangeSpec := { name := "spaceHolds", fn := fun _ => fun
  | [d1, d2, d3] => { results := [.lit (.bool false)], args := [d1, d2, d3] }
  | _ => none }
def SpaceHoldsWrongFalsely : Prop := spaceHoldsRow.holds Try.pinned (OpenSpec.ofChange spaceHoldsWrong)

/-- 'gatepostkeep.BankTakes': WHATEVER THE INPUT: true; the input reads as it did. -/
def bankTakesSpec : ChangeSpec := { name := "bankTakes", fn := fun _ => fun
  | [d1, d2, d3] => { results := [.lit (.bool true)], args := [d1, d2, d3] }
  | _ => none }
def bankTakesRow : OpenClaim := { program := "yteffnckhapmpgaa", sum := "d3b03640c416896b5cf6645f45d390a8a0d0bde37f5171ebf7039e89b04c1b52", func := "gatepost/gatepostkeep.BankTakes", spec := "bankTakes", unfollowed := true, recurses := true, apart := false }
def BankTakesSaid : Prop := bankTakesRow.holds Try.pinned (OpenSpec.ofChange bankTakesSpec)

/-- ITS FALSE NEIGHBOUR: 'it returns false'. Refute it at one input. -/
def bankTakesWrong : ChangeSpec := { name := "bankTakes", fn := fun _ => fun
  | [d1, d2, d3] => { results := [.lit (.bool false)], args := [d1, d2, d3] }
  | _ => none }
def BankTakesWrongFalsely : Prop := bankTakesRow.holds Try.pinned (OpenSpec.ofChange bankTakesWrong)

/-- 'gatepostkeep.BankApart': WHATEVER THE INPUT: true; the input reads as it did. -/
def bankApartSpec : ChangeSpec := { name := "bankApart", fn := fun _ => fun
  | [d1, d2] => { results := [.lit (.bool true)], args := [d1, d2] }
  | _ => none }
def bankApartRow : OpenClaim := { program := "yteffnckhapmpgaa", sum := "d3b03640c416896b5cf6645f45d390a8a0d0bde37f5171ebf7039e89b04c1b52", func := "gatepost/gatepostkeep.BankApart", spec := "bankApart", unfollowed := true, recurses := true, apart := false }
def BankApartSaid : Prop := bankApartRow.holds Try.pinned (OpenSpec.ofChange bankApartSpec)

/-- ITS FALSE NEIGHBOUR: 'it returns false'. Refute it at one input. -/
def bankApartWrong : ChangeSpec := { name := "bankApart", fn := fun _ => fun
  | [d1, d2] => { results := [.lit (.bool false)], args := [d1, d2] }
  | _ => none }
def BankApartWrongFalsely : Prop := bankApartRow.holds Try.pinned (OpenSpec.ofChange bankApartWrong)

/-- 'gatepostkeep.BankSwept': WHATEVER THE INPUT: true; the input reads as it did. -/
def bankSweptSpec : ChangeSpec := { name := "bankSwept", fn := fun _ => fun
  | [d1, d2, d3] => { results := [.lit (.bool true)], args := [d1, d2, d3] }
  | _ => none }
def bankSweptRow : OpenClaim := { program := "yteffnckhapmpgaa", sum := "d3b03640c416896b5cf6645f45d390a8a0d0bde37f5171ebf7039e89b04c1b52", func := "gatepost/gatepostkeep.BankSwept", spec := "bankSwept", unfollowed := true, recurses := true, apart := false }
def BankSweptSaid : Prop := bankSweptRow.holds Try.pinned (OpenSpec.ofChange bankSweptSpec)

/-- ITS FALSE NEIGHBOUR: 'it returns false'. Refute it at one input. -/
def bankSweptWrong : ChangeSpec := { name := "bankSwept", fn := fun _ => fun
  | [d1, d2, d3] => { results := [.lit (.bool false)], args := [d1, d2, d3] }
  | _ => none }
def BankSweptWrongFalsely : Prop := bankSweptRow.holds Try.pinned (OpenSpec.ofChange bankSweptWrong)

/-- 'gatepostkeep.ListBack': WHATEVER THE INPUT: true; the input reads as it did. -/
def listBackSpec : ChangeSpec := { name := "listBack", fn := fun _ => fun
  | [d1, d2] => { results := [.lit (.bool true)], args := [d1, d2] }
  | _ => none }
def listBackRow : OpenClaim := { program := "yteffnckhapmpgaa", sum := "d3b03640c416896b5cf6645f45d390a8a0d0bde37f5171ebf7039e89b04c1b52", func := "gatepost/gatepostkeep.ListBack", spec := "listBack", inPlace := ["internal/bytealg.IndexByteString", "internal/abi.NoEscape", "internal/bytealg.MakeNoZero"], unfollowed := true, recurses := true, apart := false }
def ListBackSaid : Prop := listBackRow.holds Try.pinned (OpenSpec.ofChange listBackSpec)

/-- ITS FALSE NEIGHBOUR: 'it returns false'. Refute it at one input. -/
def listBackWrong : ChangeSpec := { name := "listBack", fn := fun _ => fun
  | [d1, d2] => { results := [.lit (.bool false)], args := [d1, d2] }
  | _ => none }
def ListBackWrongFalsely : Prop := listBackRow.holds Try.pinned (OpenSpec.ofChange listBackWrong)

/-- 'gatepostkeep.ListPieces': WHATEVER THE INPUT: true; the input reads as it did. -/
def listPiecesSpec : ChangeSpec := { name := "listPieces", fn := fun _ => fun
  | [d1, d2, d3] => { results := [.lit (.bool true)], args := [d1, d2, d3] }
  | _ => none }
def listPiecesRow : OpenClaim := { program := "yteffnckhapmpgaa", sum := "d3b03640c416896b5cf6645f45d390a8a0d0bde37f5171ebf7039e89b04c1b52", func := "gatepost/gatepostkeep.ListPieces", spec := "listPieces", inPlace := ["internal/bytealg.IndexByteString", "internal/abi.NoEscape", "internal/bytealg.MakeNoZero"], apart := false }
def ListPiecesSaid : Prop := listPiecesRow.holds Try.pinned (OpenSpec.ofChange listPiecesSpec)

/-- ITS FALSE NEIGHBOUR: 'it returns false'. Refute it at one input. -/
def listPiecesWrong : ChangeSpec := { name := "listPieces", fn := fun _ => fun
  | [d1, d2, d3] => { results := [.lit (.bool false)], args := [d1, d2, d3] }
  | _ => none }
def ListPiecesWrongFalsely : Prop := listPiecesRow.holds Try.pinned (OpenSpec.ofChange listPiecesWrong)

/- THE SECOND FORM. 'bulk': how many values and letters a reading holds, each counted each time it is reached (what is shared counts as often as it is met; a slice's spare places count too). A statement '..UptoSaid' is the law's where the arguments, and the package variables that the reading takes, are together of bulk at most 1048576: NARROWER than '..Said'. Prove '..Said' where nothing that the law and all that it calls make is longer than what came in: it says more and counts as full. Else prove '..UptoSaid'. A law counts once. -/
mutual
def uptoBulk {H : Type} : DataW H → Nat
  | .lit (.string bytes) => bytes.length + 1
  | .lit _ => 1
  | .nil => 1
  | .ptr d => uptoBulk d + 1
  | .slice elems spare => uptoBulkAll elems + uptoBulkAll spare + 1
  | .agg parts => uptoBulkAll parts + 1
  | .iface _ d => uptoBulk d + 1
  | .map entries => uptoBulkEntries entries + 1
  | .held _ => 1
def uptoBulkAll {H : Type} : List (DataW H) → Nat
  | [] => 0
  | d :: r => uptoBulk d + uptoBulkAll r
def uptoBulkEntries {H : Type} : List (Lit × DataW H) → Nat
  | [] => 0
  | x :: r => uptoBulkEntry x + uptoBulkEntries r
def uptoBulkEntry {H : Type} : Lit × DataW H → Nat
  | (.string bytes, d) => bytes.length + uptoBulk d + 1
  | (_, d) => uptoBulk d + 1
 end
def uptoSmall : (H : Type) → List (DataW H) → Bool := fun _ ds => decide (uptoBulkAll ds ≤ 1048576)
def OpenSpec.upto (s : _root_.Go.ChangeSpec) : _root_.Go.OpenSpec := { _root_.Go.OpenSpec.ofChange s with cond := some uptoSmall }

/-- 'gatepostkeep.QuoteBack', WHERE WHAT IT READS IS OF BULK AT MOST 1048576: true; the input reads as it did. -/
def quoteBackUptoRow : OpenClaim := { program := "yteffnckhapmpgaa", sum := "d3b03640c416896b5cf6645f45d390a8a0d0bde37f5171ebf7039e89b04c1b52", func := "gatepost/gatepostkeep.QuoteBack", spec := "quoteBack", inPlace := ["internal/bytealg.IndexByteString"], apart := false, narrowed := true }
def QuoteBackUptoSaid : Prop := quoteBackUptoRow.holds Try.pinned (OpenSpec.upto quoteBackSpec)

/-- 'gatepostkeep.QuoteStays', WHERE WHAT IT READS IS OF BULK AT MOST 1048576: true; the input reads as it did. -/
def quoteStaysUptoRow : OpenClaim := { program := "yteffnckhapmpgaa", sum := "d3b03640c416896b5cf6645f45d390a8a0d0bde37f5171ebf7039e89b04c1b52", func := "gatepost/gatepostkeep.QuoteStays", spec := "quoteStays", inPlace := ["internal/bytealg.IndexByteString"], apart := false, narrowed := true }
def QuoteStaysUptoSaid : Prop := quoteStaysUptoRow.holds Try.pinned (OpenSpec.upto quoteStaysSpec)

/-- 'gatepostkeep.BankFarthest', WHERE WHAT IT READS IS OF BULK AT MOST 1048576: true; the input reads as it did. -/
def bankFarthestUptoRow : OpenClaim := { program := "yteffnckhapmpgaa", sum := "d3b03640c416896b5cf6645f45d390a8a0d0bde37f5171ebf7039e89b04c1b52", func := "gatepost/gatepostkeep.BankFarthest", spec := "bankFarthest", unfollowed := true, recurses := true, apart := false, narrowed := true }
def BankFarthestUptoSaid : Prop := bankFarthestUptoRow.holds Try.pinned (OpenSpec.upto bankFarthestSpec)

/-- 'gatepostkeep.ValueBack', WHERE WHAT IT READS IS OF BULK AT MOST 1048576: true; the input reads as it did. -/
def valueBackUptoRow : OpenClaim := { program := "yteffnckhapmpgaa", sum := "d3b03640c416896b5cf6645f45d390a8a0d0bde37f5171ebf7039e89b04c1b52", func := "gatepost/gatepostkeep.ValueBack", spec := "valueBack", inPlace := ["internal/bytealg.IndexByteString"], apart := false, narrowed := true }
def ValueBackUptoSaid : Prop := valueBackUptoRow.holds Try.pinned (OpenSpec.upto valueBackSpec)

/-- 'gatepostkeep.BankOnce', WHERE WHAT IT READS IS OF BULK AT MOST 1048576: true; the input reads as it did. -/
def bankOnceUptoRow : OpenClaim := { program := "yteffnckhapmpgaa", sum := "d3b03640c416896b5cf6645f45d390a8a0d0bde37f5171ebf7039e89b04c1b52", func := "gatepost/gatepostkeep.BankOnce", spec := "bankOnce", unfollowed := true, recurses := true, apart := false, narrowed := true }
def BankOnceUptoSaid : Prop := bankOnceUptoRow.holds Try.pinned (OpenSpec.upto bankOnceSpec)

/-- 'gatepostkeep.SpaceHolds', WHERE WHAT IT READS IS OF BULK AT MOST 1048576: true; the input reads as it did. -/
def spaceHoldsUptoRow : OpenClaim := { program := "yteffnckhapmpgaa", sum := "d3b03640c416896b5cf6645f45d390a8a0d0bde37f5171ebf7039e89b04c1b52", func := "gatepost/gatepostkeep.SpaceHolds", spec := "spaceHolds", unfollowed := true, recurses := true, apart := false, narrowed := true }
def SpaceHoldsUptoSaid : Prop := spaceHoldsUptoRow.holds Try.pinned (OpenSpec.upto spaceHoldsSpec)

/-- 'gatepostkeep.BankTakes', WHERE WHAT IT READS IS OF BULK AT MOST 1048576: true; the input reads as it did. -/
def bankTakesUptoRow : OpenClaim := { program := "yteffnckhapmpgaa", sum := "d3b03640c416896b5cf6645f45d390a8a0d0bde37f5171ebf7039e89b04c1b52", func := "gatepost/gatepostkeep.BankTakes", spec := "bankTakes", unfollowed := true, recurses := true, apart := false, narrowed := true }
def BankTakesUptoSaid : Prop := bankTakesUptoRow.holds Try.pinned (OpenSpec.upto bankTakesSpec)

/-- 'gatepostkeep.BankApart', WHERE WHAT IT READS IS OF BULK AT MOST 1048576: true; the input reads as it did. -/
def bankApartUptoRow : OpenClaim := { program := "yteffnckhapmpgaa", sum := "d3b03640c416896b5cf6645f45d390a8a0d0bde37f5171ebf7039e89b04c1b52", func := "gatepost/gatepostkeep.BankApart", spec := "bankApart", unfollowed := true, recurses := true, apart := false, narrowed := true }
def BankApartUptoSaid : Prop := bankApartUptoRow.holds Try.pinned (OpenSpec.upto bankApartSpec)

/-- 'gatepostkeep.BankSwept', WHERE WHAT IT READS IS OF BULK AT MOST 1048576: true; the input reads as it did. -/
def bankSweptUptoRow : OpenClaim := { program := "yteffnckhapmpgaa", sum := "d3b03640c416896b5cf6645f45d390a8a0d0bde37f5171ebf7039e89b04c1b52", func := "gatepost/gatepostkeep.BankSwept", spec := "bankSwept", unfollowed := true, recurses := true, apart := false, narrowed := true }
def BankSweptUptoSaid : Prop := bankSweptUptoRow.holds Try.pinned (OpenSpec.upto bankSweptSpec)

/-- 'gatepostkeep.ListBack', WHERE WHAT IT READS IS OF BULK AT MOST 1048576: true; the input reads as it did. -/
def listBackUptoRow : OpenClaim := { program := "yteffnckhapmpgaa", sum := "d3b03640c416896b5cf6645f45d390a8a0d0bde37f5171ebf7039e89b04c1b52", func := "gatepost/gatepostkeep.ListBack", spec := "listBack", inPlace := ["internal/bytealg.IndexByteString", "internal/abi.NoEscape", "internal/bytealg.MakeNoZero"], unfollowed := true, recurses := true, apart := false, narrowed := true }
def ListBackUptoSaid : Prop := listBackUptoRow.holds Try.pinned (OpenSpec.upto listBackSpec)

/-- 'gatepostkeep.ListPieces', WHERE WHAT IT READS IS OF BULK AT MOST 1048576: true; the input reads as it did. -/
def listPiecesUptoRow : OpenClaim := { program := "yteffnckhapmpgaa", sum := "d3b03640c416896b5cf6645f45d390a8a0d0bde37f5171ebf7039e89b04c1b52", func := "gatepost/gatepostkeep.ListPieces", spec := "listPieces", inPlace := ["internal/bytealg.IndexByteString", "internal/abi.NoEscape", "internal/bytealg.MakeNoZero"], apart := false, narrowed := true }
def ListPiecesUptoSaid : Prop := listPiecesUptoRow.holds Try.pinned (OpenSpec.upto listPiecesSpec)

end Rows
end Go.Proofs.Yteffnckhapmpgaa
