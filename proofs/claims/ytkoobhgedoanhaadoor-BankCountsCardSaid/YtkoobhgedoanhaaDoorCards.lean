/-
  DERIVED. GIVEN WITH THE SEED: THE CARDS: each row of YtkoobhgedoanhaaDoorRows.lean that lists a variable, with what it lists TIED to the program's text (the seventh form; the later family's looks); each row that meets fmt, with fmt's text TOLD by the authors' own Lean function (tested against real Go, not proved from fmt's source: count such statements apart). THE CARD IS WHAT COUNTS. Prove the row's statement (the work); the ties are given (YtkoobhgedoanhaaDoorTie.lean); close each card by the builder's one call (the guide's Derived/Test/ToyasCard.lean, 'card_holds'). Laid BY PROGRAM, IN A SANDBOX (cutbox-door.mjs). By AI agents, Wed Nov 11 2026. No macro, syntax, notation, axiom, sorry.
-/
import Derived.Test.YtkoobhgedoanhaaDoorRows
import GoSem.ClaimSeven
namespace Go.Proofs.YtkoobhgedoanhaaDoor
namespace Rows

/-- THE TIED CARD OF 'gatepostkeep.BankCounts'. -/
def bankCountsCard : Claim7 := { stood := { row := bankCountsRow, standIns := [], harness := (true, "85fc72a20b29cab7e347e7dbe765da5ce46ee27c16cef5e42dbccb876ced12e4"), looks := true }, kinds := [], alts := [], laidByText := true, laidKinds := [.handle], laidTests := true, laidLooks := .later }
def BankCountsCardSaid : Prop := Claim7.holds Tryd.pinned (.plain (OpenSpec.ofChange bankCountsSpec)) bankCountsCard

/-- THE TIED CARD OF 'gatepostkeep.BookFew'. -/
def bookFewCard : Claim7 := { stood := { row := bookFewRow, standIns := [], harness := (true, "85fc72a20b29cab7e347e7dbe765da5ce46ee27c16cef5e42dbccb876ced12e4"), looks := true }, kinds := [], alts := [], laidByText := true, laidKinds := [.data, .pinned], laidTests := true, laidLooks := .later }
def BookFewCardSaid : Prop := Claim7.holds Tryd.pinned (.plain (OpenSpec.ofChange bookFewSpec)) bookFewCard

/-- THE TIED CARD OF 'gatepostkeep.BookOver'. -/
def bookOverCard : Claim7 := { stood := { row := bookOverRow, standIns := [], harness := (true, "85fc72a20b29cab7e347e7dbe765da5ce46ee27c16cef5e42dbccb876ced12e4"), looks := true }, kinds := [], alts := [], laidByText := true, laidKinds := [.data, .pinned], laidTests := true, laidLooks := .later }
def BookOverCardSaid : Prop := Claim7.holds Tryd.pinned (.plain (OpenSpec.ofChange bookOverSpec)) bookOverCard

/-- THE TIED CARD OF 'gatepostkeep.BookSound'. -/
def bookSoundCard : Claim7 := { stood := { row := bookSoundRow, standIns := [], harness := (true, "85fc72a20b29cab7e347e7dbe765da5ce46ee27c16cef5e42dbccb876ced12e4"), looks := true }, kinds := [], alts := [], laidByText := true, laidKinds := [.data, .pinned], laidTests := true, laidLooks := .later }
def BookSoundCardSaid : Prop := Claim7.holds Tryd.pinned (.plain (OpenSpec.ofChange bookSoundSpec)) bookSoundCard

/-- THE TIED CARD OF 'gatepostkeep.BookGone'. -/
def bookGoneCard : Claim7 := { stood := { row := bookGoneRow, standIns := [], harness := (true, "85fc72a20b29cab7e347e7dbe765da5ce46ee27c16cef5e42dbccb876ced12e4"), looks := true }, kinds := [], alts := [], laidByText := true, laidKinds := [.data, .pinned], laidTests := true, laidLooks := .later }
def BookGoneCardSaid : Prop := Claim7.holds Tryd.pinned (.plain (OpenSpec.ofChange bookGoneSpec)) bookGoneCard

/-- THE SECOND FORM's CARD OF 'gatepostkeep.BankCounts'. -/
def bankCountsUptoCard : Claim7 := { stood := { row := bankCountsUptoRow, standIns := [], harness := (true, "85fc72a20b29cab7e347e7dbe765da5ce46ee27c16cef5e42dbccb876ced12e4"), looks := true }, kinds := [], alts := [], laidByText := true, laidKinds := [.handle], laidTests := true, laidLooks := .later }
def BankCountsUptoCardSaid : Prop := Claim7.holds Tryd.pinned (.plain (OpenSpec.upto bankCountsSpec)) bankCountsUptoCard

/-- THE SECOND FORM's CARD OF 'gatepostkeep.BookFew'. -/
def bookFewUptoCard : Claim7 := { stood := { row := bookFewUptoRow, standIns := [], harness := (true, "85fc72a20b29cab7e347e7dbe765da5ce46ee27c16cef5e42dbccb876ced12e4"), looks := true }, kinds := [], alts := [], laidByText := true, laidKinds := [.data, .pinned], laidTests := true, laidLooks := .later }
def BookFewUptoCardSaid : Prop := Claim7.holds Tryd.pinned (.plain (OpenSpec.upto bookFewSpec)) bookFewUptoCard

/-- THE SECOND FORM's CARD OF 'gatepostkeep.BookOver'. -/
def bookOverUptoCard : Claim7 := { stood := { row := bookOverUptoRow, standIns := [], harness := (true, "85fc72a20b29cab7e347e7dbe765da5ce46ee27c16cef5e42dbccb876ced12e4"), looks := true }, kinds := [], alts := [], laidByText := true, laidKinds := [.data, .pinned], laidTests := true, laidLooks := .later }
def BookOverUptoCardSaid : Prop := Claim7.holds Tryd.pinned (.plain (OpenSpec.upto bookOverSpec)) bookOverUptoCard

/-- THE SECOND FORM's CARD OF 'gatepostkeep.BookSound'. -/
def bookSoundUptoCard : Claim7 := { stood := { row := bookSoundUptoRow, standIns := [], harness := (true, "85fc72a20b29cab7e347e7dbe765da5ce46ee27c16cef5e42dbccb876ced12e4"), looks := true }, kinds := [], alts := [], laidByText := true, laidKinds := [.data, .pinned], laidTests := true, laidLooks := .later }
def BookSoundUptoCardSaid : Prop := Claim7.holds Tryd.pinned (.plain (OpenSpec.upto bookSoundSpec)) bookSoundUptoCard

/-- THE SECOND FORM's CARD OF 'gatepostkeep.BookGone'. -/
def bookGoneUptoCard : Claim7 := { stood := { row := bookGoneUptoRow, standIns := [], harness := (true, "85fc72a20b29cab7e347e7dbe765da5ce46ee27c16cef5e42dbccb876ced12e4"), looks := true }, kinds := [], alts := [], laidByText := true, laidKinds := [.data, .pinned], laidTests := true, laidLooks := .later }
def BookGoneUptoCardSaid : Prop := Claim7.holds Tryd.pinned (.plain (OpenSpec.upto bookGoneSpec)) bookGoneUptoCard
end Rows
end Go.Proofs.YtkoobhgedoanhaaDoor
