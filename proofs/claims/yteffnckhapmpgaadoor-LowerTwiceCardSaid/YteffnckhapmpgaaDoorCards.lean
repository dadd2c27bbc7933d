/-
  DERIVED. GIVEN WITH THE SEED: THE CARDS: each row of YteffnckhapmpgaaDoorRows.lean that lists a variable, with what it lists TIED to the program's text (the seventh form; the later family's looks); each row that meets fmt, with fmt's text TOLD by the authors' own Lean function (tested against real Go, not proved from fmt's source: count such statements apart). THE CARD IS WHAT COUNTS. Prove the row's statement (the work); the ties are given (YteffnckhapmpgaaDoorTie.lean); close each card by the builder's one call (the guide's Derived/Test/ToyasCard.lean, 'card_holds'). Laid BY PROGRAM, IN A SANDBOX (cutbox-door.mjs). By AI agents, Wed Nov 11 2026. No macro, syntax, notation, axiom, sorry.
-/
import Derived.Test.YteffnckhapmpgaaDoorRows
import GoSem.ClaimSeven
namespace Go.Proofs.YteffnckhapmpgaaDoor
namespace Rows

/-- THE TIED CARD OF 'gatepostkeep.BankCounts'. -/
def bankCountsCard : Claim7 := { stood := { row := bankCountsRow, standIns := [], harness := (true, "80193d5e4296f6fd56de3d6e2b2d5aab171412abcb34286caa329cba0e5f57de"), looks := true }, kinds := [], alts := [], laidByText := true, laidKinds := [.handle], laidTests := true, laidLooks := .later }
def BankCountsCardSaid : Prop := Claim7.holds Tryd.pinned (.plain (OpenSpec.ofChange bankCountsSpec)) bankCountsCard

/-- THE TIED CARD OF 'gatepostkeep.HexBack'. -/
def hexBackCard : Claim7 := { stood := { row := hexBackRow, standIns := [], harness := (true, "80193d5e4296f6fd56de3d6e2b2d5aab171412abcb34286caa329cba0e5f57de"), looks := true }, kinds := [], alts := [], laidByText := true, laidKinds := [.data, .pinned], laidTests := true, laidLooks := .later }
def HexBackCardSaid : Prop := Claim7.holds Tryd.pinned (.plain (OpenSpec.ofChange hexBackSpec)) hexBackCard

/-- THE TIED CARD OF 'gatepostkeep.HexPieces'. -/
def hexPiecesCard : Claim7 := { stood := { row := hexPiecesRow, standIns := [], harness := (true, "80193d5e4296f6fd56de3d6e2b2d5aab171412abcb34286caa329cba0e5f57de"), looks := true }, kinds := [], alts := [], laidByText := true, laidKinds := [.data, .pinned], laidTests := true, laidLooks := .later }
def HexPiecesCardSaid : Prop := Claim7.holds Tryd.pinned (.plain (OpenSpec.ofChange hexPiecesSpec)) hexPiecesCard

/-- THE TIED CARD OF 'gatepostkeep.BaseBack'. -/
def baseBackCard : Claim7 := { stood := { row := baseBackRow, standIns := [], harness := (true, "80193d5e4296f6fd56de3d6e2b2d5aab171412abcb34286caa329cba0e5f57de"), looks := true }, kinds := [], alts := [], laidByText := true, laidKinds := [.data, .pinned], laidTests := true, laidLooks := .later }
def BaseBackCardSaid : Prop := Claim7.holds Tryd.pinned (.plain (OpenSpec.ofChange baseBackSpec)) baseBackCard

/-- THE TIED CARD OF 'gatepostkeep.BasePieces'. -/
def basePiecesCard : Claim7 := { stood := { row := basePiecesRow, standIns := [], harness := (true, "80193d5e4296f6fd56de3d6e2b2d5aab171412abcb34286caa329cba0e5f57de"), looks := true }, kinds := [], alts := [], laidByText := true, laidKinds := [.data, .pinned], laidTests := true, laidLooks := .later }
def BasePiecesCardSaid : Prop := Claim7.holds Tryd.pinned (.plain (OpenSpec.ofChange basePiecesSpec)) basePiecesCard

/-- THE TIED CARD OF 'gatepostkeep.LowerTwice'. -/
def lowerTwiceCard : Claim7 := { stood := { row := lowerTwiceRow, standIns := [], harness := (true, "80193d5e4296f6fd56de3d6e2b2d5aab171412abcb34286caa329cba0e5f57de"), looks := true }, kinds := [], alts := [], laidByText := true, laidKinds := [.data, .pinned], laidTests := true, laidLooks := .later }
def LowerTwiceCardSaid : Prop := Claim7.holds Tryd.pinned (.plain (OpenSpec.ofChange lowerTwiceSpec)) lowerTwiceCard

/-- THE TIED CARD OF 'gatepostkeep.SameOnes'. -/
def sameOnesCard : Claim7 := { stood := { row := sameOnesRow, standIns := [], harness := (true, "80193d5e4296f6fd56de3d6e2b2d5aab171412abcb34286caa329cba0e5f57de"), looks := true }, kinds := [], alts := [], laidByText := true, laidKinds := [.data, .pinned], laidTests := true, laidLooks := .later }
def SameOnesCardSaid : Prop := Claim7.holds Tryd.pinned (.plain (OpenSpec.ofChange sameOnesSpec)) sameOnesCard

/-- THE SECOND FORM's CARD OF 'gatepostkeep.BankCounts'. -/
def bankCountsUptoCard : Claim7 := { stood := { row := bankCountsUptoRow, standIns := [], harness := (true, "80193d5e4296f6fd56de3d6e2b2d5aab171412abcb34286caa329cba0e5f57de"), looks := true }, kinds := [], alts := [], laidByText := true, laidKinds := [.handle], laidTests := true, laidLooks := .later }
def BankCountsUptoCardSaid : Prop := Claim7.holds Tryd.pinned (.plain (OpenSpec.upto bankCountsSpec)) bankCountsUptoCard

/-- THE SECOND FORM's CARD OF 'gatepostkeep.HexBack'. -/
def hexBackUptoCard : Claim7 := { stood := { row := hexBackUptoRow, standIns := [], harness := (true, "80193d5e4296f6fd56de3d6e2b2d5aab171412abcb34286caa329cba0e5f57de"), looks := true }, kinds := [], alts := [], laidByText := true, laidKinds := [.data, .pinned], laidTests := true, laidLooks := .later }
def HexBackUptoCardSaid : Prop := Claim7.holds Tryd.pinned (.plain (OpenSpec.upto hexBackSpec)) hexBackUptoCard

/-- THE SECOND FORM's CARD OF 'gatepostkeep.HexPieces'. -/
def hexPiecesUptoCard : Claim7 := { stood := { row := hexPiecesUptoRow, standIns := [], harness := (true, "80193d5e4296f6fd56de3d6e2b2d5aab171412abcb34286caa329cba0e5f57de"), looks := true }, kinds := [], alts := [], laidByText := true, laidKinds := [.data, .pinned], laidTests := true, laidLooks := .later }
def HexPiecesUptoCardSaid : Prop := Claim7.holds Tryd.pinned (.plain (OpenSpec.upto hexPiecesSpec)) hexPiecesUptoCard

/-- THE SECOND FORM's CARD OF 'gatepostkeep.BaseBack'. -/
def baseBackUptoCard : Claim7 := { stood := { row := baseBackUptoRow, standIns := [], harness := (true, "80193d5e4296f6fd56de3d6e2b2d5aab171412abcb34286caa329cba0e5f57de"), looks := true }, kinds := [], alts := [], laidByText := true, laidKinds := [.data, .pinned], laidTests := true, laidLooks := .later }
def BaseBackUptoCardSaid : Prop := Claim7.holds Tryd.pinned (.plain (OpenSpec.upto baseBackSpec)) baseBackUptoCard

/-- THE SECOND FORM's CARD OF 'gatepostkeep.BasePieces'. -/
def basePiecesUptoCard : Claim7 := { stood := { row := basePiecesUptoRow, standIns := [], harness := (true, "80193d5e4296f6fd56de3d6e2b2d5aab171412abcb34286caa329cba0e5f57de"), looks := true }, kinds := [], alts := [], laidByText := true, laidKinds := [.data, .pinned], laidTests := true, laidLooks := .later }
def BasePiecesUptoCardSaid : Prop := Claim7.holds Tryd.pinned (.plain (OpenSpec.upto basePiecesSpec)) basePiecesUptoCard

/-- THE SECOND FORM's CARD OF 'gatepostkeep.LowerTwice'. -/
def lowerTwiceUptoCard : Claim7 := { stood := { row := lowerTwiceUptoRow, standIns := [], harness := (true, "80193d5e4296f6fd56de3d6e2b2d5aab171412abcb34286caa329cba0e5f57de"), looks := true }, kinds := [], alts := [], laidByText := true, laidKinds := [.data, .pinned], laidTests := true, laidLooks := .later }
def LowerTwiceUptoCardSaid : Prop := Claim7.holds Tryd.pinned (.plain (OpenSpec.upto lowerTwiceSpec)) lowerTwiceUptoCard

/-- THE SECOND FORM's CARD OF 'gatepostkeep.SameOnes'. -/
def sameOnesUptoCard : Claim7 := { stood := { row := sameOnesUptoRow, standIns := [], harness := (true, "80193d5e4296f6fd56de3d6e2b2d5aab171412abcb34286caa329cba0e5f57de"), looks := true }, kinds := [], alts := [], laidByText := true, laidKinds := [.data, .pinned], laidTests := true, laidLooks := .later }
def SameOnesUptoCardSaid : Prop := Claim7.holds Tryd.pinned (.plain (OpenSpec.upto sameOnesSpec)) sameOnesUptoCard
end Rows
end Go.Proofs.YteffnckhapmpgaaDoor
