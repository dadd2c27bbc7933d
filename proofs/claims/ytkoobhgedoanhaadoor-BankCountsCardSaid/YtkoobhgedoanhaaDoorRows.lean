/-
  NARROWER THAN 'FOR EVERY INPUT', by the rows' own cells (each row's printed sentence says how): BankCounts: laid · BookFew: laid · BookOver: laid · BookSound: laid · BookGone: laid.
  DERIVED. THE GIVEN ROWS OF THIS SEAT. 5 by the template 'for every input the law returns true; each argument reads behind the call as it read before'; 0 by the template 'total and deterministic' (their statements: YtkoobhgedoanhaaDoorTotals.lean).
  GIVEN WITH THE SEED: the statements are not yours to turn. If you find one false, say at which input.
  Laid BY PROGRAM, IN A SANDBOX (cutbox-rows.mjs): the forced cells as the released guide's own fill.sh prints them over the translation 67965b5759fab6f1… (all of the seat's roots in one cut). By AI agents, Wed Nov 11 2026. No macro, syntax, notation, axiom, sorry.
-/
import Derived.Test.YtkoobhgedoanhaaDoorChecked
import GoSem.PinnedTables
import GoSem.Claim
import GoSem.ClaimJoined
import GoSem.ClaimMapViews
import Derived.JoinedTies
import Derived.KernelRfl
namespace Go.Proofs.YtkoobhgedoanhaaDoor
/- THE CELL 'sum', in the pinned program and in every row, IS THE sha256 OF THE DUMP (.gsa) THAT YtkoobhgedoanhaaDoorProg.lean LOADS. Nothing in Lean hashes anything: it is a label: what it is worth is what the hold of that sum in a sandbox is worth. -/
noncomputable def Tryd.pinned : Pinned := { name := "ytkoobhgedoanhaadoor", sum := "67965b5759fab6f1c8b0a8dc5523eff25ffa80dda3f8e464fb2365e2427dcb54", checked := Tryd.checked }
namespace Rows
def none {H : Type} : Left H := { results := [], args := [] }

/- WHAT THE LISTED PACKAGE-LEVEL VARIABLES READ AS WHEN THE CALL BEGINS. Each datum BY PROGRAM (the guide's laid-datum.mjs) off the statement by which the dump's own 'gosem.cut.vars' lays the variable. In a bare row this is a premise. The card (YtkoobhgedoanhaaDoorCards.lean) ties it to the program's text. -/
def laid_errors_errorType {H : Type} : DataW H := .iface "internal/reflectlite.rtype" (.agg [.ptr (.lit (.string [101, 114, 114, 111, 114]))])
def laid_unicode_utf8_acceptRanges {H : Type} : DataW H := .agg [.agg [.lit (.int .u8 128), .lit (.int .u8 191)], .agg [.lit (.int .u8 160), .lit (.int .u8 191)], .agg [.lit (.int .u8 128), .lit (.int .u8 159)], .agg [.lit (.int .u8 144), .lit (.int .u8 191)], .agg [.lit (.int .u8 128), .lit (.int .u8 143)], .agg [.lit (.int .u8 0), .lit (.int .u8 0)], .agg [.lit (.int .u8 0), .lit (.int .u8 0)], .agg [.lit (.int .u8 0), .lit (.int .u8 0)], .agg [.lit (.int .u8 0), .lit (.int .u8 0)], .agg [.lit (.int .u8 0), .lit (.int .u8 0)], .agg [.lit (.int .u8 0), .lit (.int .u8 0)], .agg [.lit (.int .u8 0), .lit (.int .u8 0)], .agg [.lit (.int .u8 0), .lit (.int .u8 0)], .agg [.lit (.int .u8 0), .lit (.int .u8 0)], .agg [.lit (.int .u8 0), .lit (.int .u8 0)], .agg [.lit (.int .u8 0), .lit (.int .u8 0)]]
/-- One of Go's own tables, pinned by name: the form's constant. -/
def laid_unicode_utf8_first : DataW Unit := Go.Pinned.utf8First

/-- 'gatepostkeep.BankCounts': WHATEVER THE INPUT: true; the input reads as it did. -/
def bankCountsSpec : ChangeSpec := { name := "bankCounts", fn := fun _ => fun
  | [d1, d2, d3, d4, d5] => { results := [.lit (.bool true)], args := [d1, d2, d3, d4, d5] }
  | _ => none }
def bankCountsRow : OpenClaim := { program := "ytkoobhgedoanhaadoor", sum := "67965b5759fab6f1c8b0a8dc5523eff25ffa80dda3f8e464fb2365e2427dcb54", func := "gatepost/gatepostkeep.BankCounts", spec := "bankCounts", inPlace := ["internal/reflectlite.ValueOf", "(internal/reflectlite.Value).Type", "(internal/reflectlite.Value).IsNil", "internal/reflectlite.TypeOf", "(internal/reflectlite.Value).Elem", "(internal/reflectlite.Value).Set"], unfollowed := true, recurses := true, named := ["errors.errorType"], apart := false, laid := [("errors.errorType", laid_errors_errorType)] }
def BankCountsSaid : Prop := bankCountsRow.holds Tryd.pinned (OpenSpec.ofChange bankCountsSpec)

/-- ITS FALSE NEIGHBOUR: 'it returns false'. Refute it at one input. -/
def bankCountsWrong : ChangeSpec := { name := "bankCounts", fn := fun _ => fun
  | [d1, d2, d3, d4, d5] => { results := [.lit (.bool false)], args := [d1, d2, d3, d4, d5] }
  | _ => none }
def BankCountsWrongFalsely : Prop := bankCountsRow.holds Tryd.pinned (OpenSpec.ofChange bankCountsWrong)

/-- 'gatepostkeep.BookFew': WHATEVER THE INPUT: true; the input reads as it did. -/
def bookFewSpec : ChangeSpec := { name := "bookFew", fn := fun _ => fun
  | [d1, d2, d3, d4] => { results := [.lit (.bool true)], args := [d1, d2, d3, d4] }
  | _ => none }
def bookFewRow : OpenClaim := { program := "ytkoobhgedoanhaadoor", sum := "67965b5759fab6f1c8b0a8dc5523eff25ffa80dda3f8e464fb2365e2427dcb54", func := "gatepost/gatepostkeep.BookFew", spec := "bookFew", inPlace := ["internal/bytealg.IndexByteString", "internal/bytealg.IndexString"], unfollowed := true, recurses := true, named := ["internal/bytealg.MaxLen", "unicode/utf8.first", "unicode/utf8.acceptRanges"], apart := false, laid := [("unicode/utf8.acceptRanges", laid_unicode_utf8_acceptRanges), ("unicode/utf8.first", laid_unicode_utf8_first)] }
def BookFewSaid : Prop := bookFewRow.holds Tryd.pinned (OpenSpec.ofChange bookFewSpec)

/-- ITS FALSE NEIGHBOUR: 'it returns false'. Refute it at one input. -/
def bookFewWrong : ChangeSpec := { name := "bookFew", fn := fun _ => fun
  | [d1, d2, d3, d4] => { results := [.lit (.bool false)], args := [d1, d2, d3, d4] }
  | _ => none }
def BookFewWrongFalsely : Prop := bookFewRow.holds Tryd.pinned (OpenSpec.ofChange bookFewWrong)

/-- 'gatepostkeep.BookOver': WHATEVER THE INPUT: true; the input reads as it did. -/
def bookOverSpec : ChangeSpec := { name := "bookOver", fn := fun _ => fun
  | [d1, d2, d3, d4] => { results := [.lit (.bool true)], args := [d1, d2, d3, d4] }
  | _ => none }
def bookOverRow : OpenClaim := { program := "ytkoobhgedoanhaadoor", sum := "67965b5759fab6f1c8b0a8dc5523eff25ffa80dda3f8e464fb2365e2427dcb54", func := "gatepost/gatepostkeep.BookOver", spec := "bookOver", inPlace := ["internal/bytealg.IndexByteString", "internal/bytealg.IndexString"], unfollowed := true, recurses := true, named := ["internal/bytealg.MaxLen", "unicode/utf8.first", "unicode/utf8.acceptRanges"], apart := false, laid := [("unicode/utf8.acceptRanges", laid_unicode_utf8_acceptRanges), ("unicode/utf8.first", laid_unicode_utf8_first)] }
def BookOverSaid : Prop := bookOverRow.holds Tryd.pinned (OpenSpec.ofChange bookOverSpec)

/-- ITS FALSE NEIGHBOUR: 'it returns false'. Refute it at one input. -/
def bookOverWrong : ChangeSpec := { name := "bookOver", fn := fun _ => fun
  | [d1, d2, d3, d4] => { results := [.lit (.bool false)], args := [d1, d2, d3, d4] }
  | _ => none }
def BookOverWrongFalsely : Prop := bookOverRow.holds Tryd.pinned (OpenSpec.ofChange bookOverWrong)

/-- 'gatepostkeep.BookSound': WHATEVER THE INPUT: true; the input reads as it did. -/
def bookSoundSpec : ChangeSpec := { name := "bookSound", fn := fun _ => fun
  | [d1, d2, d3] => { results := [.lit (.bool true)], args := [d1, d2, d3] }
  | _ => none }
def bookSoundRow : OpenClaim := { program := "ytkoobhgedoanhaadoor", sum := "67965b5759fab6f1c8b0a8dc5523eff25ffa80dda3f8e464fb2365e2427dcb54", func := "gatepost/gatepostkeep.BookSound", spec := "bookSound", inPlace := ["internal/bytealg.IndexByteString", "internal/bytealg.IndexString"], unfollowed := true, recurses := true, named := ["internal/bytealg.MaxLen", "unicode/utf8.first", "unicode/utf8.acceptRanges"], apart := false, laid := [("unicode/utf8.acceptRanges", laid_unicode_utf8_acceptRanges), ("unicode/utf8.first", laid_unicode_utf8_first)] }
def BookSoundSaid : Prop := bookSoundRow.holds Tryd.pinned (OpenSpec.ofChange bookSoundSpec)

/-- ITS FALSE NEIGHBOUR: 'it returns false'. Refute it at one input. -/
def bookSoundWrong : ChangeSpec := { name := "bookSound", fn := fun _ => fun
  | [d1, d2, d3] => { results := [.lit (.bool false)], args := [d1, d2, d3] }
  | _ => none }
def BookSoundWrongFalsely : Prop := bookSoundRow.holds Tryd.pinned (OpenSpec.ofChange bookSoundWrong)

/-- 'gatepostkeep.BookGone': WHATEVER THE INPUT: true; the input reads as it did. -/
def bookGoneSpec : ChangeSpec := { name := "bookGone", fn := fun _ => fun
  | [d1, d2, d3] => { results := [.lit (.bool true)], args := [d1, d2, d3] }
  | _ => none }
def bookGoneRow : OpenClaim := { program := "ytkoobhgedoanhaadoor", sum := "67965b5759fab6f1c8b0a8dc5523eff25ffa80dda3f8e464fb2365e2427dcb54", func := "gatepost/gatepostkeep.BookGone", spec := "bookGone", inPlace := ["internal/bytealg.IndexByteString", "internal/bytealg.IndexString"], unfollowed := true, recurses := true, named := ["internal/bytealg.MaxLen", "unicode/utf8.first", "unicode/utf8.acceptRanges"], apart := false, laid := [("unicode/utf8.acceptRanges", laid_unicode_utf8_acceptRanges), ("unicode/utf8.first", laid_unicode_utf8_first)] }
def BookGoneSaid : Prop := bookGoneRow.holds Tryd.pinned (OpenSpec.ofChange bookGoneSpec)

/-- ITS FALSE NEIGHBOUR: 'it returns false'. Refute it at one input. -/
def bookGoneWrong : ChangeSpec := { name := "bookGone", fn := fun _ => fun
  | [d1, d2, d3] => { results := [.lit (.bool false)], args := [d1, d2, d3] }
  | _ => none }
def BookGoneWrongFalsely : Prop := bookGoneRow.holds Tryd.pinned (OpenSpec.ofChange bookGoneWrong)

/- THE SECOND FORM. 'bulk': how many values and letters a reading holds, each counted each time it is reached (what is shared counts as often as it is met; a slice's spare places count too). A statement '..UptoSaid' is the law's where the arguments, and the package variables that the reading takes, are together of bulk at most 1048576: NARROWER than '..Said'. Prove '..Said' where nothing that the law and all that it calls make is longer than what came in: it says more and counts as full. Else prove '..UptoSaid'. A law counts once. -/
mutual
def uptoBulk {H : Type} : DataW H → Nat
  | .lit (.string bytes) => bytes.length + 1
  | .lit _ => 1
  | .nil => 1
  | .ptr d => uptoBulk d + 1
  | .slice elems spare => uptoBulkAll elems + uptoBulkAll spare + 1
  | .agg parts => uptoBulkAll parts + 1
  | .iface _ d => uptoBulk d + 1
  | .map entries => uptoBulkEntries entries + 1
  | .held _ => 1
def uptoBulkAll {H : Type} : List (DataW H) → Nat
  | [] => 0
  | d :: r => uptoBulk d + uptoBulkAll r
def uptoBulkEntries {H : Type} : List (Lit × DataW H) → Nat
  | [] => 0
  | x :: r => uptoBulkEntry x + uptoBulkEntries r
def uptoBulkEntry {H : Type} : Lit × DataW H → Nat
  | (.string bytes, d) => bytes.length + uptoBulk d + 1
  | (_, d) => uptoBulk d + 1
 end
def uptoSmall : (H : Type) → List (DataW H) → Bool := fun _ ds => decide (uptoBulkAll ds ≤ 1048576)
def OpenSpec.upto (s : _root_.Go.ChangeSpec) : _root_.Go.OpenSpec := { _root_.Go.OpenSpec.ofChange s with cond := some uptoSmall }

/-- 'gatepostkeep.BankCounts', WHERE WHAT IT READS IS OF BULK AT MOST 1048576: true; the input reads as it did. -/
def bankCountsUptoRow : OpenClaim := { program := "ytkoobhgedoanhaadoor", sum := "67965b5759fab6f1c8b0a8dc5523eff25ffa80dda3f8e464fb2365e2427dcb54", func := "gatepost/gatepostkeep.BankCounts", spec := "bankCounts", inPlace := ["internal/reflectlite.ValueOf", "(internal/reflectlite.Value).Type", "(internal/reflectlite.Value).IsNil", "internal/reflectlite.TypeOf", "(internal/reflectlite.Value).Elem", "(internal/reflectlite.Value).Set"], unfollowed := true, recurses := true, named := ["errors.errorType"], apart := false, laid := [("errors.errorType", laid_errors_errorType)], narrowed := true }
def BankCountsUptoSaid : Prop := bankCountsUptoRow.holds Tryd.pinned (OpenSpec.upto bankCountsSpec)

/-- 'gatepostkeep.BookFew', WHERE WHAT IT READS IS OF BULK AT MOST 1048576: true; the input reads as it did. -/
def bookFewUptoRow : OpenClaim := { program := "ytkoobhgedoanhaadoor", sum := "67965b5759fab6f1c8b0a8dc5523eff25ffa80dda3f8e464fb2365e2427dcb54", func := "gatepost/gatepostkeep.BookFew", spec := "bookFew", inPlace := ["internal/bytealg.IndexByteString", "internal/bytealg.IndexString"], unfollowed := true, recurses := true, named := ["internal/bytealg.MaxLen", "unicode/utf8.first", "unicode/utf8.acceptRanges"], apart := false, laid := [("unicode/utf8.acceptRanges", laid_unicode_utf8_acceptRanges), ("unicode/utf8.first", laid_unicode_utf8_first)], narrowed := true }
def BookFewUptoSaid : Prop := bookFewUptoRow.holds Tryd.pinned (OpenSpec.upto bookFewSpec)

/-- 'gatepostkeep.BookOver', WHERE WHAT IT READS IS OF BULK AT MOST 1048576: true; the input reads as it did. -/
def bookOverUptoRow : OpenClaim := { program := "ytkoobhgedoanhaadoor", sum := "67965b5759fab6f1c8b0a8dc5523eff25ffa80dda3f8e464fb2365e2427dcb54", func := "gatepost/gatepostkeep.BookOver", spec := "bookOver", inPlace := ["internal/bytealg.IndexByteString", "internal/bytealg.IndexString"], unfollowed := true, recurses := true, named := ["internal/bytealg.MaxLen", "unicode/utf8.first", "unicode/utf8.acceptRanges"], apart := false, laid := [("unicode/utf8.acceptRanges", laid_unicode_utf8_acceptRanges), ("unicode/utf8.first", laid_unicode_utf8_first)], narrowed := true }
def BookOverUptoSaid : Prop := bookOverUptoRow.holds Tryd.pinned (OpenSpec.upto bookOverSpec)

/-- 'gatepostkeep.BookSound', WHERE WHAT IT READS IS OF BULK AT MOST 1048576: true; the input reads as it did. -/
def bookSoundUptoRow : OpenClaim := { program := "ytkoobhgedoanhaadoor", sum := "67965b5759fab6f1c8b0a8dc5523eff25ffa80dda3f8e464fb2365e2427dcb54", func := "gatepost/gatepostkeep.BookSound", spec := "bookSound", inPlace := ["internal/bytealg.IndexByteString", "internal/bytealg.IndexString"], unfollowed := true, recurses := true, named := ["internal/bytealg.MaxLen", "unicode/utf8.first", "unicode/utf8.acceptRanges"], apart := false, laid := [("unicode/utf8.acceptRanges", laid_unicode_utf8_acceptRanges), ("unicode/utf8.first", laid_unicode_utf8_first)], narrowed := true }
def BookSoundUptoSaid : Prop := bookSoundUptoRow.holds Tryd.pinned (OpenSpec.upto bookSoundSpec)

/-- 'gatepostkeep.BookGone', WHERE WHAT IT READS IS OF BULK AT MOST 1048576: true; the input reads as it did. -/
def bookGoneUptoRow : OpenClaim := { program := "ytkoobhgedoanhaadoor", sum := "67965b5759fab6f1c8b0a8dc5523eff25ffa80dda3f8e464fb2365e2427dcb54", func := "gatepost/gatepostkeep.BookGone", spec := "bookGone", inPlace := ["internal/bytealg.IndexByteString", "internal/bytealg.IndexString"], unfollowed := true, recurses := true, named := ["internal/bytealg.MaxLen", "unicode/utf8.first", "unicode/utf8.acceptRanges"], apart := false, laid := [("unicode/utf8.acceptRanges", laid_unicode_utf8_acceptRanges), ("unicode/utf8.first", laid_unicode_utf8_first)], narrowed := true }
def BookGoneUptoSaid : Prop := bookGoneUptoRow.holds Tryd.pinned (OpenSpec.upto bookGoneSpec)

end Rows
end Go.Proofs.YtkoobhgedoanhaaDoor
