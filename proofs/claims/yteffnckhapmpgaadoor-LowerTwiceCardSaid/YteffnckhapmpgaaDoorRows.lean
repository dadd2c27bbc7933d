/-
  NARROWER THAN 'FOR EVERY INPUT', by the rows' own cells (each row's printed sentence says how): BankCounts: laid · HexBack: laid · HexPieces: laid · BaseBack: laid · BasePieces: laid · LowerTwice: laid · SameOnes: laid.
  DERIVED. THE GIVEN ROWS OF THIS SEAT. 7 by the template 'for every input the law returns true; each argument reads behind the call as it read before'; 0 by the template 'total and deterministic' (their statements: YteffnckhapmpgaaDoorTotals.lean).
  GIVEN WITH THE SEED: the statements are not yours to turn. If you find one false, say at which input.
  Laid BY PROGRAM, IN A SANDBOX (cutbox-rows.mjs): the forced cells as the released guide's own fill.sh prints them over the translation 6aa06403b748f4c0… (all of the seat's roots in one cut). By AI agents, Wed Nov 11 2026. No macro, syntax, notation, axiom, sorry.
-/
import Derived.Test.YteffnckhapmpgaaDoorChecked
import GoSem.PinnedTables
import GoSem.Claim
import GoSem.ClaimJoined
import GoSem.ClaimMapViews
import Derived.JoinedTies
import Derived.KernelRfl
namespace Go.Proofs.YteffnckhapmpgaaDoor
/- THE CELL 'sum', in the pinned program and in every row, IS THE sha256 OF THE DUMP (.gsa) THAT YteffnckhapmpgaaDoorProg.lean LOADS. Nothing in Lean hashes anything: it is a label: what it is worth is what the hold of that sum in a sandbox is worth. -/
noncomputable def Tryd.pinned : Pinned := { name := "yteffnckhapmpgaadoor", sum := "6aa06403b748f4c03ef98a3af8777f3db7c3df7450bec97d26096400dd40e670", checked := Tryd.checked }
namespace Rows
def none {H : Type} : Left H := { results := [], args := [] }

/- WHAT THE LISTED PACKAGE-LEVEL VARIABLES READ AS WHEN THE CALL BEGINS. Each datum BY PROGRAM (the guide's laid-datum.mjs) off the statement by which the dump's own 'gosem.cut.vars' lays the variable. In a bare row this is a premise. The card (YteffnckhapmpgaaDoorCards.lean) ties it to the program's text. -/
def laid_errors_errorType {H : Type} : DataW H := .iface "internal/reflectlite.rtype" (.agg [.ptr (.lit (.string [101, 114, 114, 111, 114]))])
def laid_unicode_utf8_acceptRanges {H : Type} : DataW H := .agg [.agg [.lit (.int .u8 128), .lit (.int .u8 191)], .agg [.lit (.int .u8 160), .lit (.int .u8 191)], .agg [.lit (.int .u8 128), .lit (.int .u8 159)], .agg [.lit (.int .u8 144), .lit (.int .u8 191)], .agg [.lit (.int .u8 128), .lit (.int .u8 143)], .agg [.lit (.int .u8 0), .lit (.int .u8 0)], .agg [.lit (.int .u8 0), .lit (.int .u8 0)], .agg [.lit (.int .u8 0), .lit (.int .u8 0)], .agg [.lit (.int .u8 0), .lit (.int .u8 0)], .agg [.lit (.int .u8 0), .lit (.int .u8 0)], .agg [.lit (.int .u8 0), .lit (.int .u8 0)], .agg [.lit (.int .u8 0), .lit (.int .u8 0)], .agg [.lit (.int .u8 0), .lit (.int .u8 0)], .agg [.lit (.int .u8 0), .lit (.int .u8 0)], .agg [.lit (.int .u8 0), .lit (.int .u8 0)], .agg [.lit (.int .u8 0), .lit (.int .u8 0)]]
/-- One of Go's own tables, pinned by name: the form's constant. -/
def laid_unicode_utf8_first : DataW Unit := Go.Pinned.utf8First

/-- 'gatepostkeep.BankCounts': WHATEVER THE INPUT: true; the input reads as it did. -/
def bankCountsSpec : ChangeSpec := { name := "bankCounts", fn := fun _ => fun
  | [d1, d2, d3, d4, d5] => { results := [.lit (.bool true)], args := [d1, d2, d3, d4, d5] }
  | _ => none }
def bankCountsRow : OpenClaim := { program := "yteffnckhapmpgaadoor", sum := "6aa06403b748f4c03ef98a3af8777f3db7c3df7450bec97d26096400dd40e670", func := "gatepost/gatepostkeep.BankCounts", spec := "bankCounts", inPlace := ["internal/reflectlite.ValueOf", "(internal/reflectlite.Value).Type", "(internal/reflectlite.Value).IsNil", "internal/reflectlite.TypeOf", "(internal/reflectlite.Value).Elem", "(internal/reflectlite.Value).Set"], unfollowed := true, recurses := true, named := ["errors.errorType"], apart := false, laid := [("errors.errorType", laid_errors_errorType)] }
def BankCountsSaid : Prop := bankCountsRow.holds Tryd.pinned (OpenSpec.ofChange bankCountsSpec)

/-- ITS FALSE NEIGHBOUR: 'it returns false'. Refute it at one input. -/
def bankCountsWrong : ChangeSpec := { name := "bankCounts", fn := fun _ => fun
  | [d1, d2, d3, d4, d5] => { results := [.lit (.bool false)], args := [d1, d2, d3, d4, d5] }
  | _ => none }
def BankCountsWrongFalsely : Prop := bankCountsRow.holds Tryd.pinned (OpenSpec.ofChange bankCountsWrong)

/-- 'gatepostkeep.HexBack': WHATEVER THE INPUT: true; the input reads as it did. -/
def hexBackSpec : ChangeSpec := { name := "hexBack", fn := fun _ => fun
  | [d1, d2] => { results := [.lit (.bool true)], args := [d1, d2] }
  | _ => none }
def hexBackRow : OpenClaim := { program := "yteffnckhapmpgaadoor", sum := "6aa06403b748f4c03ef98a3af8777f3db7c3df7450bec97d26096400dd40e670", func := "gatepost/gatepostkeep.HexBack", spec := "hexBack", inPlace := ["internal/bytealg.IndexByteString", "internal/abi.NoEscape", "internal/bytealg.IndexString"], named := ["unicode/utf8.first", "unicode/utf8.acceptRanges", "internal/bytealg.MaxLen"], apart := false, laid := [("unicode/utf8.acceptRanges", laid_unicode_utf8_acceptRanges), ("unicode/utf8.first", laid_unicode_utf8_first)] }
def HexBackSaid : Prop := hexBackRow.holds Tryd.pinned (OpenSpec.ofChange hexBackSpec)

/-- ITS FALSE NEIGHBOUR: 'it returns false'. Refute it at one input. -/
def hexBackWrong : ChangeSpec := { name := "hexBack", fn := fun _ => fun
  | [d1, d2] => { results := [.lit (.bool false)], args := [d1, d2] }
  | _ => none }
def HexBackWrongFalsely : Prop := hexBackRow.holds Tryd.pinned (OpenSpec.ofChange hexBackWrong)

/-- 'gatepostkeep.HexPieces': WHATEVER THE INPUT: true; the input reads as it did. -/
def hexPiecesSpec : ChangeSpec := { name := "hexPieces", fn := fun _ => fun
  | [d1, d2] => { results := [.lit (.bool true)], args := [d1, d2] }
  | _ => none }
def hexPiecesRow : OpenClaim := { program := "yteffnckhapmpgaadoor", sum := "6aa06403b748f4c03ef98a3af8777f3db7c3df7450bec97d26096400dd40e670", func := "gatepost/gatepostkeep.HexPieces", spec := "hexPieces", inPlace := ["internal/bytealg.IndexByteString", "internal/abi.NoEscape", "internal/bytealg.IndexString"], named := ["unicode/utf8.first", "unicode/utf8.acceptRanges", "internal/bytealg.MaxLen"], apart := false, laid := [("unicode/utf8.acceptRanges", laid_unicode_utf8_acceptRanges), ("unicode/utf8.first", laid_unicode_utf8_first)] }
def HexPiecesSaid : Prop := hexPiecesRow.holds Tryd.pinned (OpenSpec.ofChange hexPiecesSpec)

/-- ITS FALSE NEIGHBOUR: 'it returns false'. Refute it at one input. -/
def hexPiecesWrong : ChangeSpec := { name := "hexPieces", fn := fun _ => fun
  | [d1, d2] => { results := [.lit (.bool false)], args := [d1, d2] }
  | _ => none }
def HexPiecesWrongFalsely : Prop := hexPiecesRow.holds Tryd.pinned (OpenSpec.ofChange hexPiecesWrong)

/-- 'gatepostkeep.BaseBack': WHATEVER THE INPUT: true; the input reads as it did. -/
def baseBackSpec : ChangeSpec := { name := "baseBack", fn := fun _ => fun
  | [d1, d2] => { results := [.lit (.bool true)], args := [d1, d2] }
  | _ => none }
def baseBackRow : OpenClaim := { program := "yteffnckhapmpgaadoor", sum := "6aa06403b748f4c03ef98a3af8777f3db7c3df7450bec97d26096400dd40e670", func := "gatepost/gatepostkeep.BaseBack", spec := "baseBack", inPlace := ["internal/bytealg.IndexByteString", "internal/abi.NoEscape", "internal/bytealg.IndexString"], named := ["unicode/utf8.first", "unicode/utf8.acceptRanges", "internal/bytealg.MaxLen"], apart := false, laid := [("unicode/utf8.acceptRanges", laid_unicode_utf8_acceptRanges), ("unicode/utf8.first", laid_unicode_utf8_first)] }
def BaseBackSaid : Prop := baseBackRow.holds Tryd.pinned (OpenSpec.ofChange baseBackSpec)

/-- ITS FALSE NEIGHBOUR: 'it returns false'. Refute it at one input. -/
def baseBackWrong : ChangeSpec := { name := "baseBack", fn := fun _ => fun
  | [d1, d2] => { results := [.lit (.bool false)], args := [d1, d2] }
  | _ => none }
def BaseBackWrongFalsely : Prop := baseBackRow.holds Tryd.pinned (OpenSpec.ofChange baseBackWrong)

/-- 'gatepostkeep.BasePieces': WHATEVER THE INPUT: true; the input reads as it did. -/
def basePiecesSpec : ChangeSpec := { name := "basePieces", fn := fun _ => fun
  | [d1, d2] => { results := [.lit (.bool true)], args := [d1, d2] }
  | _ => none }
def basePiecesRow : OpenClaim := { program := "yteffnckhapmpgaadoor", sum := "6aa06403b748f4c03ef98a3af8777f3db7c3df7450bec97d26096400dd40e670", func := "gatepost/gatepostkeep.BasePieces", spec := "basePieces", inPlace := ["internal/bytealg.IndexByteString", "internal/abi.NoEscape", "internal/bytealg.IndexString"], named := ["unicode/utf8.first", "unicode/utf8.acceptRanges", "internal/bytealg.MaxLen"], apart := false, laid := [("unicode/utf8.acceptRanges", laid_unicode_utf8_acceptRanges), ("unicode/utf8.first", laid_unicode_utf8_first)] }
def BasePiecesSaid : Prop := basePiecesRow.holds Tryd.pinned (OpenSpec.ofChange basePiecesSpec)

/-- ITS FALSE NEIGHBOUR: 'it returns false'. Refute it at one input. -/
def basePiecesWrong : ChangeSpec := { name := "basePieces", fn := fun _ => fun
  | [d1, d2] => { results := [.lit (.bool false)], args := [d1, d2] }
  | _ => none }
def BasePiecesWrongFalsely : Prop := basePiecesRow.holds Tryd.pinned (OpenSpec.ofChange basePiecesWrong)

/-- 'gatepostkeep.LowerTwice': WHATEVER THE INPUT: true; the input reads as it did. -/
def lowerTwiceSpec : ChangeSpec := { name := "lowerTwice", fn := fun _ => fun
  | [d1, d2] => { results := [.lit (.bool true)], args := [d1, d2] }
  | _ => none }
def lowerTwiceRow : OpenClaim := { program := "yteffnckhapmpgaadoor", sum := "6aa06403b748f4c03ef98a3af8777f3db7c3df7450bec97d26096400dd40e670", func := "gatepost/gatepostkeep.LowerTwice", spec := "lowerTwice", inPlace := ["internal/bytealg.IndexByteString", "internal/abi.NoEscape", "internal/bytealg.IndexString"], named := ["unicode/utf8.first", "unicode/utf8.acceptRanges", "internal/bytealg.MaxLen"], apart := false, laid := [("unicode/utf8.acceptRanges", laid_unicode_utf8_acceptRanges), ("unicode/utf8.first", laid_unicode_utf8_first)] }
def LowerTwiceSaid : Prop := lowerTwiceRow.holds Tryd.pinned (OpenSpec.ofChange lowerTwiceSpec)

/-- ITS FALSE NEIGHBOUR: 'it returns false'. Refute it at one input. -/
def lowerTwiceWrong : ChangeSpec := { name := "lowerTwice", fn := fun _ => fun
  | [d1, d2] => { results := [.lit (.bool false)], args := [d1, d2] }
  | _ => none }
def LowerTwiceWrongFalsely : Prop := lowerTwiceRow.holds Tryd.pinned (OpenSpec.ofChange lowerTwiceWrong)

/-- 'gatepostkeep.SameOnes': WHATEVER THE INPUT: true; the input reads as it did. -/
def sameOnesSpec : ChangeSpec := { name := "sameOnes", fn := fun _ => fun
  | [d1, d2, d3] => { results := [.lit (.bool true)], args := [d1, d2, d3] }
  | _ => none }
def sameOnesRow : OpenClaim := { program := "yteffnckhapmpgaadoor", sum := "6aa06403b748f4c03ef98a3af8777f3db7c3df7450bec97d26096400dd40e670", func := "gatepost/gatepostkeep.SameOnes", spec := "sameOnes", inPlace := ["internal/bytealg.IndexByteString", "internal/abi.NoEscape", "internal/bytealg.IndexString"], named := ["unicode/utf8.first", "unicode/utf8.acceptRanges", "internal/bytealg.MaxLen"], apart := false, laid := [("unicode/utf8.acceptRanges", laid_unicode_utf8_acceptRanges), ("unicode/utf8.first", laid_unicode_utf8_first)] }
def SameOnesSaid : Prop := sameOnesRow.holds Tryd.pinned (OpenSpec.ofChange sameOnesSpec)

/-- ITS FALSE NEIGHBOUR: 'it returns false'. Refute it at one input. -/
def sameOnesWrong : ChangeSpec := { name := "sameOnes", fn := fun _ => fun
  | [d1, d2, d3] => { results := [.lit (.bool false)], args := [d1, d2, d3] }
  | _ => none }
def SameOnesWrongFalsely : Prop := sameOnesRow.holds Tryd.pinned (OpenSpec.ofChange sameOnesWrong)

/- THE SECOND FORM. 'bulk': how many values and letters a reading holds, each counted each time it is reached (what is shared counts as often as it is met; a slice's spare places count too). A statement '..UptoSaid' is the law's where the arguments, and the package variables that the reading takes, are together of bulk at most 1048576: NARROWER than '..Said'. Prove '..Said' where nothing that the law and all that it calls make is longer than what came in: it says more and counts as full. Else prove '..UptoSaid'. A law counts once. -/
mutual
def uptoBulk {H : Type} : DataW H → Nat
  | .lit (.string bytes) => bytes.length + 1
  | .lit _ => 1
  | .nil => 1
  | .ptr d => uptoBulk d + 1
  | .slice elems spare => uptoBulkAll elems + uptoBulkAll spare + 1
  | .agg parts => uptoBulkAll parts + 1
  | .iface _ d => uptoBulk d + 1
  | .map entries => uptoBulkEntries entries + 1
  | .held _ => 1
def uptoBulkAll {H : Type} : List (DataW H) → Nat
  | [] => 0
  | d :: r => uptoBulk d + uptoBulkAll r
def uptoBulkEntries {H : Type} : List (Lit × DataW H) → Nat
  | [] => 0
  | x :: r => uptoBulkEntry x + uptoBulkEntries r
def uptoBulkEntry {H : Type} : Lit × DataW H → Nat
  | (.string bytes, d) => bytes.length + uptoBulk d + 1
  | (_, d) => uptoBulk d + 1
 end
def uptoSmall : (H : Type) → List (DataW H) → Bool := fun _ ds => decide (uptoBulkAll ds ≤ 1048576)
def OpenSpec.upto (s : _root_.Go.ChangeSpec) : _root_.Go.OpenSpec := { _root_.Go.OpenSpec.ofChange s with cond := some uptoSmall }

/-- 'gatepostkeep.BankCounts', WHERE WHAT IT READS IS OF BULK AT MOST 1048576: true; the input reads as it did. -/
def bankCountsUptoRow : OpenClaim := { program := "yteffnckhapmpgaadoor", sum := "6aa06403b748f4c03ef98a3af8777f3db7c3df7450bec97d26096400dd40e670", func := "gatepost/gatepostkeep.BankCounts", spec := "bankCounts", inPlace := ["internal/reflectlite.ValueOf", "(internal/reflectlite.Value).Type", "(internal/reflectlite.Value).IsNil", "internal/reflectlite.TypeOf", "(internal/reflectlite.Value).Elem", "(internal/reflectlite.Value).Set"], unfollowed := true, recurses := true, named := ["errors.errorType"], apart := false, laid := [("errors.errorType", laid_errors_errorType)], narrowed := true }
def BankCountsUptoSaid : Prop := bankCountsUptoRow.holds Tryd.pinned (OpenSpec.upto bankCountsSpec)

/-- 'gatepostkeep.HexBack', WHERE WHAT IT READS IS OF BULK AT MOST 1048576: true; the input reads as it did. -/
def hexBackUptoRow : OpenClaim := { program := "yteffnckhapmpgaadoor", sum := "6aa06403b748f4c03ef98a3af8777f3db7c3df7450bec97d26096400dd40e670", func := "gatepost/gatepostkeep.HexBack", spec := "hexBack", inPlace := ["internal/bytealg.IndexByteString", "internal/abi.NoEscape", "internal/bytealg.IndexString"], named := ["unicode/utf8.first", "unicode/utf8.acceptRanges", "internal/bytealg.MaxLen"], apart := false, laid := [("unicode/utf8.acceptRanges", laid_unicode_utf8_acceptRanges), ("unicode/utf8.first", laid_unicode_utf8_first)], narrowed := true }
def HexBackUptoSaid : Prop := hexBackUptoRow.holds Tryd.pinned (OpenSpec.upto hexBackSpec)

/-- 'gatepostkeep.HexPieces', WHERE WHAT IT READS IS OF BULK AT MOST 1048576: true; the input reads as it did. -/
def hexPiecesUptoRow : OpenClaim := { program := "yteffnckhapmpgaadoor", sum := "6aa06403b748f4c03ef98a3af8777f3db7c3df7450bec97d26096400dd40e670", func := "gatepost/gatepostkeep.HexPieces", spec := "hexPieces", inPlace := ["internal/bytealg.IndexByteString", "internal/abi.NoEscape", "internal/bytealg.IndexString"], named := ["unicode/utf8.first", "unicode/utf8.acceptRanges", "internal/bytealg.MaxLen"], apart := false, laid := [("unicode/utf8.acceptRanges", laid_unicode_utf8_acceptRanges), ("unicode/utf8.first", laid_unicode_utf8_first)], narrowed := true }
def HexPiecesUptoSaid : Prop := hexPiecesUptoRow.holds Tryd.pinned (OpenSpec.upto hexPiecesSpec)

/-- 'gatepostkeep.BaseBack', WHERE WHAT IT READS IS OF BULK AT MOST 1048576: true; the input reads as it did. -/
def baseBackUptoRow : OpenClaim := { program := "yteffnckhapmpgaadoor", sum := "6aa06403b748f4c03ef98a3af8777f3db7c3df7450bec97d26096400dd40e670", func := "gatepost/gatepostkeep.BaseBack", spec := "baseBack", inPlace := ["internal/bytealg.IndexByteString", "internal/abi.NoEscape", "internal/bytealg.IndexString"], named := ["unicode/utf8.first", "unicode/utf8.acceptRanges", "internal/bytealg.MaxLen"], apart := false, laid := [("unicode/utf8.acceptRanges", laid_unicode_utf8_acceptRanges), ("unicode/utf8.first", laid_unicode_utf8_first)], narrowed := true }
def BaseBackUptoSaid : Prop := baseBackUptoRow.holds Tryd.pinned (OpenSpec.upto baseBackSpec)

/-- 'gatepostkeep.BasePieces', WHERE WHAT IT READS IS OF BULK AT MOST 1048576: true; the input reads as it did. -/
def basePiecesUptoRow : OpenClaim := { program := "yteffnckhapmpgaadoor", sum := "6aa06403b748f4c03ef98a3af8777f3db7c3df7450bec97d26096400dd40e670", func := "gatepost/gatepostkeep.BasePieces", spec := "basePieces", inPlace := ["internal/bytealg.IndexByteString", "internal/abi.NoEscape", "internal/bytealg.IndexString"], named := ["unicode/utf8.first", "unicode/utf8.acceptRanges", "internal/bytealg.MaxLen"], apart := false, laid := [("unicode/utf8.acceptRanges", laid_unicode_utf8_acceptRanges), ("unicode/utf8.first", laid_unicode_utf8_first)], narrowed := true }
def BasePiecesUptoSaid : Prop := basePiecesUptoRow.holds Tryd.pinned (OpenSpec.upto basePiecesSpec)

/-- 'gatepostkeep.LowerTwice', WHERE WHAT IT READS IS OF BULK AT MOST 1048576: true; the input reads as it did. -/
def lowerTwiceUptoRow : OpenClaim := { program := "yteffnckhapmpgaadoor", sum := "6aa06403b748f4c03ef98a3af8777f3db7c3df7450bec97d26096400dd40e670", func := "gatepost/gatepostkeep.LowerTwice", spec := "lowerTwice", inPlace := ["internal/bytealg.IndexByteString", "internal/abi.NoEscape", "internal/bytealg.IndexString"], named := ["unicode/utf8.first", "unicode/utf8.acceptRanges", "internal/bytealg.MaxLen"], apart := false, laid := [("unicode/utf8.acceptRanges", laid_unicode_utf8_acceptRanges), ("unicode/utf8.first", laid_unicode_utf8_first)], narrowed := true }
def LowerTwiceUptoSaid : Prop := lowerTwiceUptoRow.holds Tryd.pinned (OpenSpec.upto lowerTwiceSpec)

/-- 'gatepostkeep.SameOnes', WHERE WHAT IT READS IS OF BULK AT MOST 1048576: true; the input reads as it did. -/
def sameOnesUptoRow : OpenClaim := { program := "yteffnckhapmpgaadoor", sum := "6aa06403b748f4c03ef98a3af8777f3db7c3df7450bec97d26096400dd40e670", func := "gatepost/gatepostkeep.SameOnes", spec := "sameOnes", inPlace := ["internal/bytealg.IndexByteString", "internal/abi.NoEscape", "internal/bytealg.IndexString"], named := ["unicode/utf8.first", "unicode/utf8.acceptRanges", "internal/bytealg.MaxLen"], apart := false, laid := [("unicode/utf8.acceptRanges", laid_unicode_utf8_acceptRanges), ("unicode/utf8.first", laid_unicode_utf8_first)], narrowed := true }
def SameOnesUptoSaid : Prop := sameOnesUptoRow.holds Tryd.pinned (OpenSpec.upto sameOnesSpec)

end Rows
end Go.Proofs.YteffnckhapmpgaaDoor
