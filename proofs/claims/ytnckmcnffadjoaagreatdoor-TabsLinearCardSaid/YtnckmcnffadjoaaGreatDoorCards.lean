/-
  DERIVED. GIVEN WITH THE SEED: THE CARDS: each row of YtnckmcnffadjoaaGreatDoorRows.lean that lists a variable, with what it lists TIED to the program's text (the seventh form; the later family's looks); each row that meets fmt, with fmt's text TOLD by the authors' own Lean function (tested against real Go, not proved from fmt's source: count such statements apart). THE CARD IS WHAT COUNTS. Prove the row's statement (the work); the ties are given (YtnckmcnffadjoaaGreatDoorTie.lean); close each card by the builder's one call (the guide's Derived/Test/ToyasCard.lean, 'card_holds'). Laid BY PROGRAM, IN A SANDBOX (cutbox-door.mjs). By AI agents, Wed Nov 11 2026. No macro, syntax, notation, axiom, sorry.
-/
import Derived.Test.YtnckmcnffadjoaaGreatDoorRows
import GoSem.ClaimSeven
namespace Go.Proofs.YtnckmcnffadjoaaGreatDoor
namespace Rows

/-- THE TIED CARD OF 'gatepostkeep.TabsBusy'. -/
def tabsBusyCard : Claim7 := { stood := { row := tabsBusyRow, standIns := [], harness := (true, "11ed638d0ac6f63ae97c1901e26fd079925466268a3e7f022d77821c00941847"), looks := false }, kinds := [], alts := [], laidByText := true, laidKinds := [.data, .data, .data, .data, .data, .data, .data, .data, .pinned], laidTests := true, laidLooks := .later }
def TabsBusyCardSaid : Prop := Claim7.holds Tryz.pinned (.plain (OpenSpec.ofChange tabsBusySpec)) tabsBusyCard

/-- THE TIED CARD OF 'gatepostkeep.TabsLinear'. -/
def tabsLinearCard : Claim7 := { stood := { row := tabsLinearRow, standIns := [], harness := (true, "11ed638d0ac6f63ae97c1901e26fd079925466268a3e7f022d77821c00941847"), looks := false }, kinds := [], alts := [], laidByText := true, laidKinds := [.data, .data, .data, .data, .data, .data, .data, .data, .pinned], laidTests := true, laidLooks := .later }
def TabsLinearCardSaid : Prop := Claim7.holds Tryz.pinned (.plain (OpenSpec.ofChange tabsLinearSpec)) tabsLinearCard

/-- THE TIED CARD OF 'gatepostkeep.TabsOrder'. -/
def tabsOrderCard : Claim7 := { stood := { row := tabsOrderRow, standIns := [], harness := (true, "11ed638d0ac6f63ae97c1901e26fd079925466268a3e7f022d77821c00941847"), looks := false }, kinds := [], alts := [], laidByText := true, laidKinds := [.data, .data, .data, .data, .data, .data, .data, .data, .pinned], laidTests := true, laidLooks := .later }
def TabsOrderCardSaid : Prop := Claim7.holds Tryz.pinned (.plain (OpenSpec.ofChange tabsOrderSpec)) tabsOrderCard

/-- THE TIED CARD OF 'gatepostkeep.TabsAlone'. -/
def tabsAloneCard : Claim7 := { stood := { row := tabsAloneRow, standIns := [], harness := (true, "11ed638d0ac6f63ae97c1901e26fd079925466268a3e7f022d77821c00941847"), looks := false }, kinds := [], alts := [], laidByText := true, laidKinds := [.data, .data, .data, .data, .data, .data, .data, .data, .pinned], laidTests := true, laidLooks := .later }
def TabsAloneCardSaid : Prop := Claim7.holds Tryz.pinned (.plain (OpenSpec.ofChange tabsAloneSpec)) tabsAloneCard

/-- THE SECOND FORM's CARD OF 'gatepostkeep.TabsBusy'. -/
def tabsBusyUptoCard : Claim7 := { stood := { row := tabsBusyUptoRow, standIns := [], harness := (true, "11ed638d0ac6f63ae97c1901e26fd079925466268a3e7f022d77821c00941847"), looks := false }, kinds := [], alts := [], laidByText := true, laidKinds := [.data, .data, .data, .data, .data, .data, .data, .data, .pinned], laidTests := true, laidLooks := .later }
def TabsBusyUptoCardSaid : Prop := Claim7.holds Tryz.pinned (.plain (OpenSpec.upto tabsBusySpec)) tabsBusyUptoCard

/-- THE SECOND FORM's CARD OF 'gatepostkeep.TabsLinear'. -/
def tabsLinearUptoCard : Claim7 := { stood := { row := tabsLinearUptoRow, standIns := [], harness := (true, "11ed638d0ac6f63ae97c1901e26fd079925466268a3e7f022d77821c00941847"), looks := false }, kinds := [], alts := [], laidByText := true, laidKinds := [.data, .data, .data, .data, .data, .data, .data, .data, .pinned], laidTests := true, laidLooks := .later }
def TabsLinearUptoCardSaid : Prop := Claim7.holds Tryz.pinned (.plain (OpenSpec.upto tabsLinearSpec)) tabsLinearUptoCard

/-- THE SECOND FORM's CARD OF 'gatepostkeep.TabsOrder'. -/
def tabsOrderUptoCard : Claim7 := { stood := { row := tabsOrderUptoRow, standIns := [], harness := (true, "11ed638d0ac6f63ae97c1901e26fd079925466268a3e7f022d77821c00941847"), looks := false }, kinds := [], alts := [], laidByText := true, laidKinds := [.data, .data, .data, .data, .data, .data, .data, .data, .pinned], laidTests := true, laidLooks := .later }
def TabsOrderUptoCardSaid : Prop := Claim7.holds Tryz.pinned (.plain (OpenSpec.upto tabsOrderSpec)) tabsOrderUptoCard

/-- THE SECOND FORM's CARD OF 'gatepostkeep.TabsAlone'. -/
def tabsAloneUptoCard : Claim7 := { stood := { row := tabsAloneUptoRow, standIns := [], harness := (true, "11ed638d0ac6f63ae97c1901e26fd079925466268a3e7f022d77821c00941847"), looks := false }, kinds := [], alts := [], laidByText := true, laidKinds := [.data, .data, .data, .data, .data, .data, .data, .data, .pinned], laidTests := true, laidLooks := .later }
def TabsAloneUptoCardSaid : Prop := Claim7.holds Tryz.pinned (.plain (OpenSpec.upto tabsAloneSpec)) tabsAloneUptoCard
end Rows
end Go.Proofs.YtnckmcnffadjoaaGreatDoor
