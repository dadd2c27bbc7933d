/-
  DERIVED. GIVEN WITH THE SEED: THE CARDS: each row of YtjndhcngnghpiaaGreatDoorRows.lean that lists a variable, with what it lists TIED to the program's text (the seventh form; the later family's looks); each row that meets fmt, with fmt's text TOLD by the authors' own Lean function (tested against real Go, not proved from fmt's source: count such statements apart). THE CARD IS WHAT COUNTS. Prove the row's statement (the work); the ties are given (YtjndhcngnghpiaaGreatDoorTie.lean); close each card by the builder's one call (the guide's Derived/Test/ToyasCard.lean, 'card_holds'). Laid BY PROGRAM, IN A SANDBOX (cutbox-door.mjs). By AI agents, Wed Nov 11 2026. No macro, syntax, notation, axiom, sorry.
-/
import Derived.Test.YtjndhcngnghpiaaGreatDoorRows
import GoSem.ClaimSeven
namespace Go.Proofs.YtjndhcngnghpiaaGreatDoor
namespace Rows

/-- THE TIED CARD OF 'gatepostkeep.TabsEnds'. -/
def tabsEndsCard : Claim7 := { stood := { row := tabsEndsRow, standIns := [], harness := (true, "40101954ebd07a2c02f5c828415536dc4020442f7146e9ad85b03220558c2d64"), looks := false }, kinds := [], alts := [], laidByText := true, laidKinds := [.data, .data, .data, .data, .data, .data, .data, .data, .pinned], laidTests := true, laidLooks := .later }
def TabsEndsCardSaid : Prop := Claim7.holds Tryz.pinned (.plain (OpenSpec.ofChange tabsEndsSpec)) tabsEndsCard

/-- THE TIED CARD OF 'gatepostkeep.TabsLeave'. -/
def tabsLeaveCard : Claim7 := { stood := { row := tabsLeaveRow, standIns := [], harness := (true, "40101954ebd07a2c02f5c828415536dc4020442f7146e9ad85b03220558c2d64"), looks := false }, kinds := [], alts := [], laidByText := true, laidKinds := [.data, .data, .data, .data, .data, .data, .data, .data, .pinned], laidTests := true, laidLooks := .later }
def TabsLeaveCardSaid : Prop := Claim7.holds Tryz.pinned (.plain (OpenSpec.ofChange tabsLeaveSpec)) tabsLeaveCard

/-- THE TIED CARD OF 'gatepostkeep.TabsParts'. -/
def tabsPartsCard : Claim7 := { stood := { row := tabsPartsRow, standIns := [], harness := (true, "40101954ebd07a2c02f5c828415536dc4020442f7146e9ad85b03220558c2d64"), looks := false }, kinds := [], alts := [], laidByText := true, laidKinds := [.data, .data, .data, .data, .data, .data, .data, .data, .pinned], laidTests := true, laidLooks := .later }
def TabsPartsCardSaid : Prop := Claim7.holds Tryz.pinned (.plain (OpenSpec.ofChange tabsPartsSpec)) tabsPartsCard

/-- THE SECOND FORM's CARD OF 'gatepostkeep.TabsEnds'. -/
def tabsEndsUptoCard : Claim7 := { stood := { row := tabsEndsUptoRow, standIns := [], harness := (true, "40101954ebd07a2c02f5c828415536dc4020442f7146e9ad85b03220558c2d64"), looks := false }, kinds := [], alts := [], laidByText := true, laidKinds := [.data, .data, .data, .data, .data, .data, .data, .data, .pinned], laidTests := true, laidLooks := .later }
def TabsEndsUptoCardSaid : Prop := Claim7.holds Tryz.pinned (.plain (OpenSpec.upto tabsEndsSpec)) tabsEndsUptoCard

/-- THE SECOND FORM's CARD OF 'gatepostkeep.TabsLeave'. -/
def tabsLeaveUptoCard : Claim7 := { stood := { row := tabsLeaveUptoRow, standIns := [], harness := (true, "40101954ebd07a2c02f5c828415536dc4020442f7146e9ad85b03220558c2d64"), looks := false }, kinds := [], alts := [], laidByText := true, laidKinds := [.data, .data, .data, .data, .data, .data, .data, .data, .pinned], laidTests := true, laidLooks := .later }
def TabsLeaveUptoCardSaid : Prop := Claim7.holds Tryz.pinned (.plain (OpenSpec.upto tabsLeaveSpec)) tabsLeaveUptoCard

/-- THE SECOND FORM's CARD OF 'gatepostkeep.TabsParts'. -/
def tabsPartsUptoCard : Claim7 := { stood := { row := tabsPartsUptoRow, standIns := [], harness := (true, "40101954ebd07a2c02f5c828415536dc4020442f7146e9ad85b03220558c2d64"), looks := false }, kinds := [], alts := [], laidByText := true, laidKinds := [.data, .data, .data, .data, .data, .data, .data, .data, .pinned], laidTests := true, laidLooks := .later }
def TabsPartsUptoCardSaid : Prop := Claim7.holds Tryz.pinned (.plain (OpenSpec.upto tabsPartsSpec)) tabsPartsUptoCard
end Rows
end Go.Proofs.YtjndhcngnghpiaaGreatDoor
