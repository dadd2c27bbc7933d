/-
  DERIVED. GIVEN WITH THE SEED: THE CARDS: each row of YtegbacpenolehaaDoorRows.lean that lists a variable, with what it lists TIED to the program's text (the seventh form; the later family's looks); each row that meets fmt, with fmt's text TOLD by the authors' own Lean function (tested against real Go, not proved from fmt's source: count such statements apart). THE CARD IS WHAT COUNTS. Prove the row's statement (the work); the ties are given (YtegbacpenolehaaDoorTie.lean); close each card by the builder's one call (the guide's Derived/Test/ToyasCard.lean, 'card_holds'). Laid BY PROGRAM, IN A SANDBOX (cutbox-door.mjs). By AI agents, Wed Nov 11 2026. No macro, syntax, notation, axiom, sorry.
-/
import Derived.Test.YtegbacpenolehaaDoorRows
import GoSem.ClaimSeven
namespace Go.Proofs.YtegbacpenolehaaDoor
namespace Rows

/-- THE TIED CARD OF 'gatepostkeep.BankCounts'. -/
def bankCountsCard : Claim7 := { stood := { row := bankCountsRow, standIns := [], harness := (true, "4c492032a0960c410b1923f84a9da76b1b9885754d4fba185221ea3d02447db6"), looks := true }, kinds := [], alts := [], laidByText := true, laidKinds := [.handle], laidTests := true, laidLooks := .later }
def BankCountsCardSaid : Prop := Claim7.holds Tryd.pinned (.plain (OpenSpec.ofChange bankCountsSpec)) bankCountsCard

/-- THE TIED CARD OF 'gatepostkeep.AskAgain'. -/
def askAgainCard : Claim7 := { stood := { row := askAgainRow, standIns := [], harness := (true, "4c492032a0960c410b1923f84a9da76b1b9885754d4fba185221ea3d02447db6"), looks := true }, kinds := [], alts := [], laidByText := true, laidKinds := [.data, .pinned], laidTests := true, laidLooks := .later }
def AskAgainCardSaid : Prop := Claim7.holds Tryd.pinned (.plain (OpenSpec.ofChange askAgainSpec)) askAgainCard

/-- THE TIED CARD OF 'gatepostkeep.AskBest'. -/
def askBestCard : Claim7 := { stood := { row := askBestRow, standIns := [], harness := (true, "4c492032a0960c410b1923f84a9da76b1b9885754d4fba185221ea3d02447db6"), looks := true }, kinds := [], alts := [], laidByText := true, laidKinds := [.data, .pinned], laidTests := true, laidLooks := .later }
def AskBestCardSaid : Prop := Claim7.holds Tryd.pinned (.plain (OpenSpec.ofChange askBestSpec)) askBestCard

/-- THE TIED CARD OF 'gatepostkeep.AskBack'. -/
def askBackCard : Claim7 := { stood := { row := askBackRow, standIns := [], harness := (true, "4c492032a0960c410b1923f84a9da76b1b9885754d4fba185221ea3d02447db6"), looks := true }, kinds := [], alts := [], laidByText := true, laidKinds := [.data, .pinned], laidTests := true, laidLooks := .later }
def AskBackCardSaid : Prop := Claim7.holds Tryd.pinned (.plain (OpenSpec.ofChange askBackSpec)) askBackCard

/-- THE TIED CARD OF 'gatepostkeep.BookFew'. -/
def bookFewCard : Claim7 := { stood := { row := bookFewRow, standIns := [], harness := (true, "4c492032a0960c410b1923f84a9da76b1b9885754d4fba185221ea3d02447db6"), looks := true }, kinds := [], alts := [], laidByText := true, laidKinds := [.data, .pinned], laidTests := true, laidLooks := .later }
def BookFewCardSaid : Prop := Claim7.holds Tryd.pinned (.plain (OpenSpec.ofChange bookFewSpec)) bookFewCard

/-- THE TIED CARD OF 'gatepostkeep.BookOver'. -/
def bookOverCard : Claim7 := { stood := { row := bookOverRow, standIns := [], harness := (true, "4c492032a0960c410b1923f84a9da76b1b9885754d4fba185221ea3d02447db6"), looks := true }, kinds := [], alts := [], laidByText := true, laidKinds := [.data, .pinned], laidTests := true, laidLooks := .later }
def BookOverCardSaid : Prop := Claim7.holds Tryd.pinned (.plain (OpenSpec.ofChange bookOverSpec)) bookOverCard

/-- THE TIED CARD OF 'gatepostkeep.BookSound'. -/
def bookSoundCard : Claim7 := { stood := { row := bookSoundRow, standIns := [], harness := (true, "4c492032a0960c410b1923f84a9da76b1b9885754d4fba185221ea3d02447db6"), looks := true }, kinds := [], alts := [], laidByText := true, laidKinds := [.data, .pinned], laidTests := true, laidLooks := .later }
def BookSoundCardSaid : Prop := Claim7.holds Tryd.pinned (.plain (OpenSpec.ofChange bookSoundSpec)) bookSoundCard

/-- THE TIED CARD OF 'gatepostkeep.BookGone'. -/
def bookGoneCard : Claim7 := { stood := { row := bookGoneRow, standIns := [], harness := (true, "4c492032a0960c410b1923f84a9da76b1b9885754d4fba185221ea3d02447db6"), looks := true }, kinds := [], alts := [], laidByText := true, laidKinds := [.data, .pinned], laidTests := true, laidLooks := .later }
def BookGoneCardSaid : Prop := Claim7.holds Tryd.pinned (.plain (OpenSpec.ofChange bookGoneSpec)) bookGoneCard

/-- THE TIED CARD OF 'gatepostkeep.AskCase'. -/
def askCaseCard : Claim7 := { stood := { row := askCaseRow, standIns := [], harness := (true, "4c492032a0960c410b1923f84a9da76b1b9885754d4fba185221ea3d02447db6"), looks := true }, kinds := [], alts := [], laidByText := true, laidKinds := [.data, .pinned], laidTests := true, laidLooks := .later }
def AskCaseCardSaid : Prop := Claim7.holds Tryd.pinned (.plain (OpenSpec.ofChange askCaseSpec)) askCaseCard

/-- THE TIED CARD OF 'gatepostkeep.AskedMore'. -/
def askedMoreCard : Claim7 := { stood := { row := askedMoreRow, standIns := [], harness := (true, "4c492032a0960c410b1923f84a9da76b1b9885754d4fba185221ea3d02447db6"), looks := true }, kinds := [], alts := [], laidByText := true, laidKinds := [.data, .pinned], laidTests := true, laidLooks := .later }
def AskedMoreCardSaid : Prop := Claim7.holds Tryd.pinned (.plain (OpenSpec.ofChange askedMoreSpec)) askedMoreCard

/-- THE TIED CARD OF 'gatepostkeep.AskedOrder'. -/
def askedOrderCard : Claim7 := { stood := { row := askedOrderRow, standIns := [], harness := (true, "4c492032a0960c410b1923f84a9da76b1b9885754d4fba185221ea3d02447db6"), looks := true }, kinds := [], alts := [], laidByText := true, laidKinds := [.data, .pinned], laidTests := true, laidLooks := .later }
def AskedOrderCardSaid : Prop := Claim7.holds Tryd.pinned (.plain (OpenSpec.ofChange askedOrderSpec)) askedOrderCard

/-- THE SECOND FORM's CARD OF 'gatepostkeep.BankCounts'. -/
def bankCountsUptoCard : Claim7 := { stood := { row := bankCountsUptoRow, standIns := [], harness := (true, "4c492032a0960c410b1923f84a9da76b1b9885754d4fba185221ea3d02447db6"), looks := true }, kinds := [], alts := [], laidByText := true, laidKinds := [.handle], laidTests := true, laidLooks := .later }
def BankCountsUptoCardSaid : Prop := Claim7.holds Tryd.pinned (.plain (OpenSpec.upto bankCountsSpec)) bankCountsUptoCard

/-- THE SECOND FORM's CARD OF 'gatepostkeep.AskAgain'. -/
def askAgainUptoCard : Claim7 := { stood := { row := askAgainUptoRow, standIns := [], harness := (true, "4c492032a0960c410b1923f84a9da76b1b9885754d4fba185221ea3d02447db6"), looks := true }, kinds := [], alts := [], laidByText := true, laidKinds := [.data, .pinned], laidTests := true, laidLooks := .later }
def AskAgainUptoCardSaid : Prop := Claim7.holds Tryd.pinned (.plain (OpenSpec.upto askAgainSpec)) askAgainUptoCard

/-- THE SECOND FORM's CARD OF 'gatepostkeep.AskBest'. -/
def askBestUptoCard : Claim7 := { stood := { row := askBestUptoRow, standIns := [], harness := (true, "4c492032a0960c410b1923f84a9da76b1b9885754d4fba185221ea3d02447db6"), looks := true }, kinds := [], alts := [], laidByText := true, laidKinds := [.data, .pinned], laidTests := true, laidLooks := .later }
def AskBestUptoCardSaid : Prop := Claim7.holds Tryd.pinned (.plain (OpenSpec.upto askBestSpec)) askBestUptoCard

/-- THE SECOND FORM's CARD OF 'gatepostkeep.AskBack'. -/
def askBackUptoCard : Claim7 := { stood := { row := askBackUptoRow, standIns := [], harness := (true, "4c492032a0960c410b1923f84a9da76b1b9885754d4fba185221ea3d02447db6"), looks := true }, kinds := [], alts := [], laidByText := true, laidKinds := [.data, .pinned], laidTests := true, laidLooks := .later }
def AskBackUptoCardSaid : Prop := Claim7.holds Tryd.pinned (.plain (OpenSpec.upto askBackSpec)) askBackUptoCard

/-- THE SECOND FORM's CARD OF 'gatepostkeep.BookFew'. -/
def bookFewUptoCard : Claim7 := { stood := { row := bookFewUptoRow, standIns := [], harness := (true, "4c492032a0960c410b1923f84a9da76b1b9885754d4fba185221ea3d02447db6"), looks := true }, kinds := [], alts := [], laidByText := true, laidKinds := [.data, .pinned], laidTests := true, laidLooks := .later }
def BookFewUptoCardSaid : Prop := Claim7.holds Tryd.pinned (.plain (OpenSpec.upto bookFewSpec)) bookFewUptoCard

/-- THE SECOND FORM's CARD OF 'gatepostkeep.BookOver'. -/
def bookOverUptoCard : Claim7 := { stood := { row := bookOverUptoRow, standIns := [], harness := (true, "4c492032a0960c410b1923f84a9da76b1b9885754d4fba185221ea3d02447db6"), looks := true }, kinds := [], alts := [], laidByText := true, laidKinds := [.data, .pinned], laidTests := true, laidLooks := .later }
def BookOverUptoCardSaid : Prop := Claim7.holds Tryd.pinned (.plain (OpenSpec.upto bookOverSpec)) bookOverUptoCard

/-- THE SECOND FORM's CARD OF 'gatepostkeep.BookSound'. -/
def bookSoundUptoCard : Claim7 := { stood := { row := bookSoundUptoRow, standIns := [], harness := (true, "4c492032a0960c410b1923f84a9da76b1b9885754d4fba185221ea3d02447db6"), looks := true }, kinds := [], alts := [], laidByText := true, laidKinds := [.data, .pinned], laidTests := true, laidLooks := .later }
def BookSoundUptoCardSaid : Prop := Claim7.holds Tryd.pinned (.plain (OpenSpec.upto bookSoundSpec)) bookSoundUptoCard

/-- THE SECOND FORM's CARD OF 'gatepostkeep.BookGone'. -/
def bookGoneUptoCard : Claim7 := { stood := { row := bookGoneUptoRow, standIns := [], harness := (true, "4c492032a0960c410b1923f84a9da76b1b9885754d4fba185221ea3d02447db6"), looks := true }, kinds := [], alts := [], laidByText := true, laidKinds := [.data, .pinned], laidTests := true, laidLooks := .later }
def BookGoneUptoCardSaid : Prop := Claim7.holds Tryd.pinned (.plain (OpenSpec.upto bookGoneSpec)) bookGoneUptoCard

/-- THE SECOND FORM's CARD OF 'gatepostkeep.AskCase'. -/
def askCaseUptoCard : Claim7 := { stood := { row := askCaseUptoRow, standIns := [], harness := (true, "4c492032a0960c410b1923f84a9da76b1b9885754d4fba185221ea3d02447db6"), looks := true }, kinds := [], alts := [], laidByText := true, laidKinds := [.data, .pinned], laidTests := true, laidLooks := .later }
def AskCaseUptoCardSaid : Prop := Claim7.holds Tryd.pinned (.plain (OpenSpec.upto askCaseSpec)) askCaseUptoCard

/-- THE SECOND FORM's CARD OF 'gatepostkeep.AskedMore'. -/
def askedMoreUptoCard : Claim7 := { stood := { row := askedMoreUptoRow, standIns := [], harness := (true, "4c492032a0960c410b1923f84a9da76b1b9885754d4fba185221ea3d02447db6"), looks := true }, kinds := [], alts := [], laidByText := true, laidKinds := [.data, .pinned], laidTests := true, laidLooks := .later }
def AskedMoreUptoCardSaid : Prop := Claim7.holds Tryd.pinned (.plain (OpenSpec.upto askedMoreSpec)) askedMoreUptoCard

/-- THE SECOND FORM's CARD OF 'gatepostkeep.AskedOrder'. -/
def askedOrderUptoCard : Claim7 := { stood := { row := askedOrderUptoRow, standIns := [], harness := (true, "4c492032a0960c410b1923f84a9da76b1b9885754d4fba185221ea3d02447db6"), looks := true }, kinds := [], alts := [], laidByText := true, laidKinds := [.data, .pinned], laidTests := true, laidLooks := .later }
def AskedOrderUptoCardSaid : Prop := Claim7.holds Tryd.pinned (.plain (OpenSpec.upto askedOrderSpec)) askedOrderUptoCard
end Rows
end Go.Proofs.YtegbacpenolehaaDoor
