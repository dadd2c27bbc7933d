/-
  DERIVED. GIVEN WITH THE SEED: THE CARDS: each row of YtkoobhgedoanhaaGreatDoorRows.lean that lists a variable, with what it lists TIED to the program's text (the seventh form; the later family's looks); each row that meets fmt, with fmt's text TOLD by the authors' own Lean function (tested against real Go, not proved from fmt's source: count such statements apart). THE CARD IS WHAT COUNTS. Prove the row's statement (the work); the ties are given (YtkoobhgedoanhaaGreatDoorTie.lean); close each card by the builder's one call (the guide's Derived/Test/ToyasCard.lean, 'card_holds'). Laid BY PROGRAM, IN A SANDBOX (cutbox-door.mjs). By AI agents, Wed Nov 11 2026. No macro, syntax, notation, axiom, sorry.
-/
import Derived.Test.YtkoobhgedoanhaaGreatDoorRows
import GoSem.ClaimSeven
namespace Go.Proofs.YtkoobhgedoanhaaGreatDoor
namespace Rows

/-- THE TIED CARD OF 'gatepostkeep.DigestBack'. -/
def digestBackCard : Claim7 := { stood := { row := digestBackRow, standIns := [], harness := (true, "8c41bdc6f3b24734829341a17a5db7cac567833acf776ece2c677e954662f8c8"), looks := true }, kinds := [], alts := [], laidByText := true, laidKinds := [.data, .data, .data, .data, .data, .data, .data, .data, .pinned], laidTests := true, laidLooks := .later }
def DigestBackCardSaid : Prop := Claim7.holds Tryz.pinned (.plain (OpenSpec.ofChange digestBackSpec)) digestBackCard

/-- THE TIED CARD OF 'gatepostkeep.DigestKnown'. -/
def digestKnownCard : Claim7 := { stood := { row := digestKnownRow, standIns := [], harness := (true, "8c41bdc6f3b24734829341a17a5db7cac567833acf776ece2c677e954662f8c8"), looks := true }, kinds := [], alts := [], laidByText := true, laidKinds := [.data, .data, .data, .data, .data, .data, .data, .data, .pinned], laidTests := true, laidLooks := .later }
def DigestKnownCardSaid : Prop := Claim7.holds Tryz.pinned (.plain (OpenSpec.ofChange digestKnownSpec)) digestKnownCard

/-- THE TIED CARD OF 'gatepostkeep.MayWith'. -/
def mayWithCard : Claim7 := { stood := { row := mayWithRow, standIns := [], harness := (true, "8c41bdc6f3b24734829341a17a5db7cac567833acf776ece2c677e954662f8c8"), looks := true }, kinds := [], alts := [], laidByText := true, laidKinds := [.data, .data, .data, .data, .pinned], laidTests := true, laidLooks := .later }
def MayWithCardSaid : Prop := Claim7.holds Tryz.pinned (.plain (OpenSpec.ofChange mayWithSpec)) mayWithCard

/-- THE TIED CARD OF 'gatepostkeep.AgeBounds'. -/
def ageBoundsCard : Claim7 := { stood := { row := ageBoundsRow, standIns := [], harness := (true, "8c41bdc6f3b24734829341a17a5db7cac567833acf776ece2c677e954662f8c8"), looks := true }, kinds := [], alts := [], laidByText := true, laidKinds := [.data, .data, .data, .data, .pinned], laidTests := true, laidLooks := .later }
def AgeBoundsCardSaid : Prop := Claim7.holds Tryz.pinned (.plain (OpenSpec.ofChange ageBoundsSpec)) ageBoundsCard

/-- THE TIED CARD OF 'gatepostkeep.GrantCovers'. -/
def grantCoversCard : Claim7 := { stood := { row := grantCoversRow, standIns := [], harness := (true, "8c41bdc6f3b24734829341a17a5db7cac567833acf776ece2c677e954662f8c8"), looks := true }, kinds := [], alts := [], laidByText := true, laidKinds := [.data, .data, .data, .data, .pinned], laidTests := true, laidLooks := .later }
def GrantCoversCardSaid : Prop := Claim7.holds Tryz.pinned (.plain (OpenSpec.ofChange grantCoversSpec)) grantCoversCard

/-- THE TIED CARD OF 'gatepostkeep.NeedsOwn'. -/
def needsOwnCard : Claim7 := { stood := { row := needsOwnRow, standIns := [], harness := (true, "8c41bdc6f3b24734829341a17a5db7cac567833acf776ece2c677e954662f8c8"), looks := true }, kinds := [], alts := [], laidByText := true, laidKinds := [.data, .data, .data, .data, .pinned], laidTests := true, laidLooks := .later }
def NeedsOwnCardSaid : Prop := Claim7.holds Tryz.pinned (.plain (OpenSpec.ofChange needsOwnSpec)) needsOwnCard

/-- THE TIED CARD OF 'gatepostkeep.CoversMore'. -/
def coversMoreCard : Claim7 := { stood := { row := coversMoreRow, standIns := [], harness := (true, "8c41bdc6f3b24734829341a17a5db7cac567833acf776ece2c677e954662f8c8"), looks := true }, kinds := [], alts := [], laidByText := true, laidKinds := [.data, .data, .data, .data, .pinned], laidTests := true, laidLooks := .later }
def CoversMoreCardSaid : Prop := Claim7.holds Tryz.pinned (.plain (OpenSpec.ofChange coversMoreSpec)) coversMoreCard

/-- THE TIED CARD OF 'gatepostkeep.UrlCase'. -/
def urlCaseCard : Claim7 := { stood := { row := urlCaseRow, standIns := [], harness := (true, "8c41bdc6f3b24734829341a17a5db7cac567833acf776ece2c677e954662f8c8"), looks := true }, kinds := [], alts := [], laidByText := true, laidKinds := [.data, .data, .data, .data, .sentinel, .sentinel, .pinned, .pinned], laidTests := true, laidLooks := .later }
def UrlCaseCardSaid : Prop := Claim7.holds Tryz.pinned (.plain (OpenSpec.ofChange urlCaseSpec)) urlCaseCard

/-- THE TIED CARD OF 'gatepostkeep.FieldsPieces'. -/
def fieldsPiecesCard : Claim7 := { stood := { row := fieldsPiecesRow, standIns := [], harness := (true, "8c41bdc6f3b24734829341a17a5db7cac567833acf776ece2c677e954662f8c8"), looks := true }, kinds := [], alts := [], laidByText := true, laidKinds := [.data, .data, .data, .data, .pinned], laidTests := true, laidLooks := .later }
def FieldsPiecesCardSaid : Prop := Claim7.holds Tryz.pinned (.plain (OpenSpec.ofChange fieldsPiecesSpec)) fieldsPiecesCard

/-- THE SECOND FORM's CARD OF 'gatepostkeep.DigestBack'. -/
def digestBackUptoCard : Claim7 := { stood := { row := digestBackUptoRow, standIns := [], harness := (true, "8c41bdc6f3b24734829341a17a5db7cac567833acf776ece2c677e954662f8c8"), looks := true }, kinds := [], alts := [], laidByText := true, laidKinds := [.data, .data, .data, .data, .data, .data, .data, .data, .pinned], laidTests := true, laidLooks := .later }
def DigestBackUptoCardSaid : Prop := Claim7.holds Tryz.pinned (.plain (OpenSpec.upto digestBackSpec)) digestBackUptoCard

/-- THE SECOND FORM's CARD OF 'gatepostkeep.DigestKnown'. -/
def digestKnownUptoCard : Claim7 := { stood := { row := digestKnownUptoRow, standIns := [], harness := (true, "8c41bdc6f3b24734829341a17a5db7cac567833acf776ece2c677e954662f8c8"), looks := true }, kinds := [], alts := [], laidByText := true, laidKinds := [.data, .data, .data, .data, .data, .data, .data, .data, .pinned], laidTests := true, laidLooks := .later }
def DigestKnownUptoCardSaid : Prop := Claim7.holds Tryz.pinned (.plain (OpenSpec.upto digestKnownSpec)) digestKnownUptoCard

/-- THE SECOND FORM's CARD OF 'gatepostkeep.MayWith'. -/
def mayWithUptoCard : Claim7 := { stood := { row := mayWithUptoRow, standIns := [], harness := (true, "8c41bdc6f3b24734829341a17a5db7cac567833acf776ece2c677e954662f8c8"), looks := true }, kinds := [], alts := [], laidByText := true, laidKinds := [.data, .data, .data, .data, .pinned], laidTests := true, laidLooks := .later }
def MayWithUptoCardSaid : Prop := Claim7.holds Tryz.pinned (.plain (OpenSpec.upto mayWithSpec)) mayWithUptoCard

/-- THE SECOND FORM's CARD OF 'gatepostkeep.AgeBounds'. -/
def ageBoundsUptoCard : Claim7 := { stood := { row := ageBoundsUptoRow, standIns := [], harness := (true, "8c41bdc6f3b24734829341a17a5db7cac567833acf776ece2c677e954662f8c8"), looks := true }, kinds := [], alts := [], laidByText := true, laidKinds := [.data, .data, .data, .data, .pinned], laidTests := true, laidLooks := .later }
def AgeBoundsUptoCardSaid : Prop := Claim7.holds Tryz.pinned (.plain (OpenSpec.upto ageBoundsSpec)) ageBoundsUptoCard

/-- THE SECOND FORM's CARD OF 'gatepostkeep.GrantCovers'. -/
def grantCoversUptoCard : Claim7 := { stood := { row := grantCoversUptoRow, standIns := [], harness := (true, "8c41bdc6f3b24734829341a17a5db7cac567833acf776ece2c677e954662f8c8"), looks := true }, kinds := [], alts := [], laidByText := true, laidKinds := [.data, .data, .data, .data, .pinned], laidTests := true, laidLooks := .later }
def GrantCoversUptoCardSaid : Prop := Claim7.holds Tryz.pinned (.plain (OpenSpec.upto grantCoversSpec)) grantCoversUptoCard

/-- THE SECOND FORM's CARD OF 'gatepostkeep.NeedsOwn'. -/
def needsOwnUptoCard : Claim7 := { stood := { row := needsOwnUptoRow, standIns := [], harness := (true, "8c41bdc6f3b24734829341a17a5db7cac567833acf776ece2c677e954662f8c8"), looks := true }, kinds := [], alts := [], laidByText := true, laidKinds := [.data, .data, .data, .data, .pinned], laidTests := true, laidLooks := .later }
def NeedsOwnUptoCardSaid : Prop := Claim7.holds Tryz.pinned (.plain (OpenSpec.upto needsOwnSpec)) needsOwnUptoCard

/-- THE SECOND FORM's CARD OF 'gatepostkeep.CoversMore'. -/
def coversMoreUptoCard : Claim7 := { stood := { row := coversMoreUptoRow, standIns := [], harness := (true, "8c41bdc6f3b24734829341a17a5db7cac567833acf776ece2c677e954662f8c8"), looks := true }, kinds := [], alts := [], laidByText := true, laidKinds := [.data, .data, .data, .data, .pinned], laidTests := true, laidLooks := .later }
def CoversMoreUptoCardSaid : Prop := Claim7.holds Tryz.pinned (.plain (OpenSpec.upto coversMoreSpec)) coversMoreUptoCard

/-- THE SECOND FORM's CARD OF 'gatepostkeep.UrlCase'. -/
def urlCaseUptoCard : Claim7 := { stood := { row := urlCaseUptoRow, standIns := [], harness := (true, "8c41bdc6f3b24734829341a17a5db7cac567833acf776ece2c677e954662f8c8"), looks := true }, kinds := [], alts := [], laidByText := true, laidKinds := [.data, .data, .data, .data, .sentinel, .sentinel, .pinned, .pinned], laidTests := true, laidLooks := .later }
def UrlCaseUptoCardSaid : Prop := Claim7.holds Tryz.pinned (.plain (OpenSpec.upto urlCaseSpec)) urlCaseUptoCard

/-- THE SECOND FORM's CARD OF 'gatepostkeep.FieldsPieces'. -/
def fieldsPiecesUptoCard : Claim7 := { stood := { row := fieldsPiecesUptoRow, standIns := [], harness := (true, "8c41bdc6f3b24734829341a17a5db7cac567833acf776ece2c677e954662f8c8"), looks := true }, kinds := [], alts := [], laidByText := true, laidKinds := [.data, .data, .data, .data, .pinned], laidTests := true, laidLooks := .later }
def FieldsPiecesUptoCardSaid : Prop := Claim7.holds Tryz.pinned (.plain (OpenSpec.upto fieldsPiecesSpec)) fieldsPiecesUptoCard
end Rows
end Go.Proofs.YtkoobhgedoanhaaGreatDoor
