/-
  DERIVED. GIVEN WITH THE SEED: THE CARDS: each row of YtjdmjbdkdmbaiaaGreatDoorRows.lean that lists a variable, with what it lists TIED to the program's text (the seventh form; the later family's looks); each row that meets fmt, with fmt's text TOLD by the authors' own Lean function (tested against real Go, not proved from fmt's source: count such statements apart). THE CARD IS WHAT COUNTS. Prove the row's statement (the work); the ties are given (YtjdmjbdkdmbaiaaGreatDoorTie.lean); close each card by the builder's one call (the guide's Derived/Test/ToyasCard.lean, 'card_holds'). Laid BY PROGRAM, IN A SANDBOX (cutbox-door.mjs). By AI agents, Wed Nov 11 2026. No macro, syntax, notation, axiom, sorry.
-/
import Derived.Test.YtjdmjbdkdmbaiaaGreatDoorRows
import GoSem.ClaimSeven
namespace Go.Proofs.YtjdmjbdkdmbaiaaGreatDoor
namespace Rows

/-- THE TIED CARD OF 'gatepostkeep.WorldCleared'. -/
def worldClearedCard : Claim7 := { stood := { row := worldClearedRow, standIns := [], harness := (true, "5cbf58f51fdfd221837227a2d2cdf905a7861cdaa51ec813e8d4844b5cc91c37"), looks := false }, kinds := [], alts := [], laidByText := true, laidKinds := [.data, .data, .data, .data, .data, .data, .data, .data, .pinned], laidTests := true, laidLooks := .later }
def WorldClearedCardSaid : Prop := Claim7.holds Tryz.pinned (.plain (OpenSpec.ofChange worldClearedSpec)) worldClearedCard

/-- THE TIED CARD OF 'gatepostkeep.WorldSpace'. -/
def worldSpaceCard : Claim7 := { stood := { row := worldSpaceRow, standIns := [], harness := (true, "5cbf58f51fdfd221837227a2d2cdf905a7861cdaa51ec813e8d4844b5cc91c37"), looks := false }, kinds := [], alts := [], laidByText := true, laidKinds := [.data, .data, .data, .data, .data, .data, .data, .data, .pinned], laidTests := true, laidLooks := .later }
def WorldSpaceCardSaid : Prop := Claim7.holds Tryz.pinned (.plain (OpenSpec.ofChange worldSpaceSpec)) worldSpaceCard

/-- THE TIED CARD OF 'gatepostkeep.WorldOnce'. -/
def worldOnceCard : Claim7 := { stood := { row := worldOnceRow, standIns := [], harness := (true, "5cbf58f51fdfd221837227a2d2cdf905a7861cdaa51ec813e8d4844b5cc91c37"), looks := false }, kinds := [], alts := [], laidByText := true, laidKinds := [.data, .data, .data, .data, .data, .data, .data, .data, .pinned], laidTests := true, laidLooks := .later }
def WorldOnceCardSaid : Prop := Claim7.holds Tryz.pinned (.plain (OpenSpec.ofChange worldOnceSpec)) worldOnceCard

/-- THE TIED CARD OF 'gatepostkeep.WorldTime'. -/
def worldTimeCard : Claim7 := { stood := { row := worldTimeRow, standIns := [], harness := (true, "5cbf58f51fdfd221837227a2d2cdf905a7861cdaa51ec813e8d4844b5cc91c37"), looks := false }, kinds := [], alts := [], laidByText := true, laidKinds := [.data, .data, .data, .data, .data, .data, .data, .data, .pinned], laidTests := true, laidLooks := .later }
def WorldTimeCardSaid : Prop := Claim7.holds Tryz.pinned (.plain (OpenSpec.ofChange worldTimeSpec)) worldTimeCard

/-- THE TIED CARD OF 'gatepostkeep.WorldAllowed'. -/
def worldAllowedCard : Claim7 := { stood := { row := worldAllowedRow, standIns := [], harness := (true, "5cbf58f51fdfd221837227a2d2cdf905a7861cdaa51ec813e8d4844b5cc91c37"), looks := false }, kinds := [], alts := [], laidByText := true, laidKinds := [.data, .data, .data, .data, .data, .data, .data, .data, .pinned], laidTests := true, laidLooks := .later }
def WorldAllowedCardSaid : Prop := Claim7.holds Tryz.pinned (.plain (OpenSpec.ofChange worldAllowedSpec)) worldAllowedCard

/-- THE TIED CARD OF 'gatepostkeep.WorldLogged'. -/
def worldLoggedCard : Claim7 := { stood := { row := worldLoggedRow, standIns := [], harness := (true, "5cbf58f51fdfd221837227a2d2cdf905a7861cdaa51ec813e8d4844b5cc91c37"), looks := false }, kinds := [], alts := [], laidByText := true, laidKinds := [.data, .data, .data, .data, .data, .data, .data, .data, .pinned], laidTests := true, laidLooks := .later }
def WorldLoggedCardSaid : Prop := Claim7.holds Tryz.pinned (.plain (OpenSpec.ofChange worldLoggedSpec)) worldLoggedCard

/-- THE TIED CARD OF 'gatepostkeep.WorldApart'. -/
def worldApartCard : Claim7 := { stood := { row := worldApartRow, standIns := [], harness := (true, "5cbf58f51fdfd221837227a2d2cdf905a7861cdaa51ec813e8d4844b5cc91c37"), looks := false }, kinds := [], alts := [], laidByText := true, laidKinds := [.data, .data, .data, .data, .data, .data, .data, .data, .pinned], laidTests := true, laidLooks := .later }
def WorldApartCardSaid : Prop := Claim7.holds Tryz.pinned (.plain (OpenSpec.ofChange worldApartSpec)) worldApartCard

/-- THE TIED CARD OF 'gatepostkeep.WorldPeeks'. -/
def worldPeeksCard : Claim7 := { stood := { row := worldPeeksRow, standIns := [], harness := (true, "5cbf58f51fdfd221837227a2d2cdf905a7861cdaa51ec813e8d4844b5cc91c37"), looks := false }, kinds := [], alts := [], laidByText := true, laidKinds := [.data, .data, .data, .data, .data, .data, .data, .data, .pinned], laidTests := true, laidLooks := .later }
def WorldPeeksCardSaid : Prop := Claim7.holds Tryz.pinned (.plain (OpenSpec.ofChange worldPeeksSpec)) worldPeeksCard

/-- THE TIED CARD OF 'gatepostkeep.WorldSame'. -/
def worldSameCard : Claim7 := { stood := { row := worldSameRow, standIns := [], harness := (true, "5cbf58f51fdfd221837227a2d2cdf905a7861cdaa51ec813e8d4844b5cc91c37"), looks := false }, kinds := [], alts := [], laidByText := true, laidKinds := [.data, .data, .data, .data, .data, .data, .data, .data, .pinned], laidTests := true, laidLooks := .later }
def WorldSameCardSaid : Prop := Claim7.holds Tryz.pinned (.plain (OpenSpec.ofChange worldSameSpec)) worldSameCard

/-- THE TIED CARD OF 'gatepostkeep.WorldFrame'. -/
def worldFrameCard : Claim7 := { stood := { row := worldFrameRow, standIns := [], harness := (true, "5cbf58f51fdfd221837227a2d2cdf905a7861cdaa51ec813e8d4844b5cc91c37"), looks := false }, kinds := [], alts := [], laidByText := true, laidKinds := [.data, .data, .data, .data, .data, .data, .data, .data, .pinned], laidTests := true, laidLooks := .later }
def WorldFrameCardSaid : Prop := Claim7.holds Tryz.pinned (.plain (OpenSpec.ofChange worldFrameSpec)) worldFrameCard

/-- THE TIED CARD OF 'gatepostkeep.DigestBack'. -/
def digestBackCard : Claim7 := { stood := { row := digestBackRow, standIns := [], harness := (true, "5cbf58f51fdfd221837227a2d2cdf905a7861cdaa51ec813e8d4844b5cc91c37"), looks := false }, kinds := [], alts := [], laidByText := true, laidKinds := [.data, .data, .data, .data, .data, .data, .data, .data, .pinned], laidTests := true, laidLooks := .later }
def DigestBackCardSaid : Prop := Claim7.holds Tryz.pinned (.plain (OpenSpec.ofChange digestBackSpec)) digestBackCard

/-- THE SECOND FORM's CARD OF 'gatepostkeep.WorldCleared'. -/
def worldClearedUptoCard : Claim7 := { stood := { row := worldClearedUptoRow, standIns := [], harness := (true, "5cbf58f51fdfd221837227a2d2cdf905a7861cdaa51ec813e8d4844b5cc91c37"), looks := false }, kinds := [], alts := [], laidByText := true, laidKinds := [.data, .data, .data, .data, .data, .data, .data, .data, .pinned], laidTests := true, laidLooks := .later }
def WorldClearedUptoCardSaid : Prop := Claim7.holds Tryz.pinned (.plain (OpenSpec.upto worldClearedSpec)) worldClearedUptoCard

/-- THE SECOND FORM's CARD OF 'gatepostkeep.WorldSpace'. -/
def worldSpaceUptoCard : Claim7 := { stood := { row := worldSpaceUptoRow, standIns := [], harness := (true, "5cbf58f51fdfd221837227a2d2cdf905a7861cdaa51ec813e8d4844b5cc91c37"), looks := false }, kinds := [], alts := [], laidByText := true, laidKinds := [.data, .data, .data, .data, .data, .data, .data, .data, .pinned], laidTests := true, laidLooks := .later }
def WorldSpaceUptoCardSaid : Prop := Claim7.holds Tryz.pinned (.plain (OpenSpec.upto worldSpaceSpec)) worldSpaceUptoCard

/-- THE SECOND FORM's CARD OF 'gatepostkeep.WorldOnce'. -/
def worldOnceUptoCard : Claim7 := { stood := { row := worldOnceUptoRow, standIns := [], harness := (true, "5cbf58f51fdfd221837227a2d2cdf905a7861cdaa51ec813e8d4844b5cc91c37"), looks := false }, kinds := [], alts := [], laidByText := true, laidKinds := [.data, .data, .data, .data, .data, .data, .data, .data, .pinned], laidTests := true, laidLooks := .later }
def WorldOnceUptoCardSaid : Prop := Claim7.holds Tryz.pinned (.plain (OpenSpec.upto worldOnceSpec)) worldOnceUptoCard

/-- THE SECOND FORM's CARD OF 'gatepostkeep.WorldTime'. -/
def worldTimeUptoCard : Claim7 := { stood := { row := worldTimeUptoRow, standIns := [], harness := (true, "5cbf58f51fdfd221837227a2d2cdf905a7861cdaa51ec813e8d4844b5cc91c37"), looks := false }, kinds := [], alts := [], laidByText := true, laidKinds := [.data, .data, .data, .data, .data, .data, .data, .data, .pinned], laidTests := true, laidLooks := .later }
def WorldTimeUptoCardSaid : Prop := Claim7.holds Tryz.pinned (.plain (OpenSpec.upto worldTimeSpec)) worldTimeUptoCard

/-- THE SECOND FORM's CARD OF 'gatepostkeep.WorldAllowed'. -/
def worldAllowedUptoCard : Claim7 := { stood := { row := worldAllowedUptoRow, standIns := [], harness := (true, "5cbf58f51fdfd221837227a2d2cdf905a7861cdaa51ec813e8d4844b5cc91c37"), looks := false }, kinds := [], alts := [], laidByText := true, laidKinds := [.data, .data, .data, .data, .data, .data, .data, .data, .pinned], laidTests := true, laidLooks := .later }
def WorldAllowedUptoCardSaid : Prop := Claim7.holds Tryz.pinned (.plain (OpenSpec.upto worldAllowedSpec)) worldAllowedUptoCard

/-- THE SECOND FORM's CARD OF 'gatepostkeep.WorldLogged'. -/
def worldLoggedUptoCard : Claim7 := { stood := { row := worldLoggedUptoRow, standIns := [], harness := (true, "5cbf58f51fdfd221837227a2d2cdf905a7861cdaa51ec813e8d4844b5cc91c37"), looks := false }, kinds := [], alts := [], laidByText := true, laidKinds := [.data, .data, .data, .data, .data, .data, .data, .data, .pinned], laidTests := true, laidLooks := .later }
def WorldLoggedUptoCardSaid : Prop := Claim7.holds Tryz.pinned (.plain (OpenSpec.upto worldLoggedSpec)) worldLoggedUptoCard

/-- THE SECOND FORM's CARD OF 'gatepostkeep.WorldApart'. -/
def worldApartUptoCard : Claim7 := { stood := { row := worldApartUptoRow, standIns := [], harness := (true, "5cbf58f51fdfd221837227a2d2cdf905a7861cdaa51ec813e8d4844b5cc91c37"), looks := false }, kinds := [], alts := [], laidByText := true, laidKinds := [.data, .data, .data, .data, .data, .data, .data, .data, .pinned], laidTests := true, laidLooks := .later }
def WorldApartUptoCardSaid : Prop := Claim7.holds Tryz.pinned (.plain (OpenSpec.upto worldApartSpec)) worldApartUptoCard

/-- THE SECOND FORM's CARD OF 'gatepostkeep.WorldPeeks'. -/
def worldPeeksUptoCard : Claim7 := { stood := { row := worldPeeksUptoRow, standIns := [], harness := (true, "5cbf58f51fdfd221837227a2d2cdf905a7861cdaa51ec813e8d4844b5cc91c37"), looks := false }, kinds := [], alts := [], laidByText := true, laidKinds := [.data, .data, .data, .data, .data, .data, .data, .data, .pinned], laidTests := true, laidLooks := .later }
def WorldPeeksUptoCardSaid : Prop := Claim7.holds Tryz.pinned (.plain (OpenSpec.upto worldPeeksSpec)) worldPeeksUptoCard

/-- THE SECOND FORM's CARD OF 'gatepostkeep.WorldSame'. -/
def worldSameUptoCard : Claim7 := { stood := { row := worldSameUptoRow, standIns := [], harness := (true, "5cbf58f51fdfd221837227a2d2cdf905a7861cdaa51ec813e8d4844b5cc91c37"), looks := false }, kinds := [], alts := [], laidByText := true, laidKinds := [.data, .data, .data, .data, .data, .data, .data, .data, .pinned], laidTests := true, laidLooks := .later }
def WorldSameUptoCardSaid : Prop := Claim7.holds Tryz.pinned (.plain (OpenSpec.upto worldSameSpec)) worldSameUptoCard

/-- THE SECOND FORM's CARD OF 'gatepostkeep.WorldFrame'. -/
def worldFrameUptoCard : Claim7 := { stood := { row := worldFrameUptoRow, standIns := [], harness := (true, "5cbf58f51fdfd221837227a2d2cdf905a7861cdaa51ec813e8d4844b5cc91c37"), looks := false }, kinds := [], alts := [], laidByText := true, laidKinds := [.data, .data, .data, .data, .data, .data, .data, .data, .pinned], laidTests := true, laidLooks := .later }
def WorldFrameUptoCardSaid : Prop := Claim7.holds Tryz.pinned (.plain (OpenSpec.upto worldFrameSpec)) worldFrameUptoCard

/-- THE SECOND FORM's CARD OF 'gatepostkeep.DigestBack'. -/
def digestBackUptoCard : Claim7 := { stood := { row := digestBackUptoRow, standIns := [], harness := (true, "5cbf58f51fdfd221837227a2d2cdf905a7861cdaa51ec813e8d4844b5cc91c37"), looks := false }, kinds := [], alts := [], laidByText := true, laidKinds := [.data, .data, .data, .data, .data, .data, .data, .data, .pinned], laidTests := true, laidLooks := .later }
def DigestBackUptoCardSaid : Prop := Claim7.holds Tryz.pinned (.plain (OpenSpec.upto digestBackSpec)) digestBackUptoCard
end Rows
end Go.Proofs.YtjdmjbdkdmbaiaaGreatDoor
