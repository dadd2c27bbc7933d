/-
  DERIVED. GIVEN WITH THE SEED: THE CARDS: each row of YtpkkncoddhkfkaaGreatDoorRows.lean that lists a variable, with what it lists TIED to the program's text (the seventh form; the later family's looks); each row that meets fmt, with fmt's text TOLD by the authors' own Lean function (tested against real Go, not proved from fmt's source: count such statements apart). THE CARD IS WHAT COUNTS. Prove the row's statement (the work); the ties are given (YtpkkncoddhkfkaaGreatDoorTie.lean); close each card by the builder's one call (the guide's Derived/Test/ToyasCard.lean, 'card_holds'). Laid BY PROGRAM, IN A SANDBOX (cutbox-door.mjs). By AI agents, Wed Nov 11 2026. No macro, syntax, notation, axiom, sorry.
-/
import Derived.Test.YtpkkncoddhkfkaaGreatDoorRows
import GoSem.ClaimSeven
namespace Go.Proofs.YtpkkncoddhkfkaaGreatDoor
namespace Rows

/-- THE TIED CARD OF 'gatepostkeep.ScriptWhole'. -/
def scriptWholeCard : Claim7 := { stood := { row := scriptWholeRow, standIns := [], harness := (true, "b4a3a4445cb7de462ee3290100800c581fd67b452b557b5d7320d8c15e21ff5e"), looks := false }, kinds := [], alts := [], laidByText := true, laidKinds := [.data, .data, .data, .data, .data, .data, .data, .data, .pinned], laidTests := true, laidLooks := .later }
def ScriptWholeCardSaid : Prop := Claim7.holds Tryz.pinned (.plain (OpenSpec.ofChange scriptWholeSpec)) scriptWholeCard

/-- THE TIED CARD OF 'gatepostkeep.ScriptLonger'. -/
def scriptLongerCard : Claim7 := { stood := { row := scriptLongerRow, standIns := [], harness := (true, "b4a3a4445cb7de462ee3290100800c581fd67b452b557b5d7320d8c15e21ff5e"), looks := false }, kinds := [], alts := [], laidByText := true, laidKinds := [.data, .data, .data, .data, .data, .data, .data, .data, .pinned], laidTests := true, laidLooks := .later }
def ScriptLongerCardSaid : Prop := Claim7.holds Tryz.pinned (.plain (OpenSpec.ofChange scriptLongerSpec)) scriptLongerCard

/-- THE SECOND FORM's CARD OF 'gatepostkeep.ScriptWhole'. -/
def scriptWholeUptoCard : Claim7 := { stood := { row := scriptWholeUptoRow, standIns := [], harness := (true, "b4a3a4445cb7de462ee3290100800c581fd67b452b557b5d7320d8c15e21ff5e"), looks := false }, kinds := [], alts := [], laidByText := true, laidKinds := [.data, .data, .data, .data, .data, .data, .data, .data, .pinned], laidTests := true, laidLooks := .later }
def ScriptWholeUptoCardSaid : Prop := Claim7.holds Tryz.pinned (.plain (OpenSpec.upto scriptWholeSpec)) scriptWholeUptoCard

/-- THE SECOND FORM's CARD OF 'gatepostkeep.ScriptLonger'. -/
def scriptLongerUptoCard : Claim7 := { stood := { row := scriptLongerUptoRow, standIns := [], harness := (true, "b4a3a4445cb7de462ee3290100800c581fd67b452b557b5d7320d8c15e21ff5e"), looks := false }, kinds := [], alts := [], laidByText := true, laidKinds := [.data, .data, .data, .data, .data, .data, .data, .data, .pinned], laidTests := true, laidLooks := .later }
def ScriptLongerUptoCardSaid : Prop := Claim7.holds Tryz.pinned (.plain (OpenSpec.upto scriptLongerSpec)) scriptLongerUptoCard
end Rows
end Go.Proofs.YtpkkncoddhkfkaaGreatDoor
