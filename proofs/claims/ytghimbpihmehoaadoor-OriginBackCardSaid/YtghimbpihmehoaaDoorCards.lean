/-
  DERIVED. GIVEN WITH THE SEED: THE CARDS: each row of YtghimbpihmehoaaDoorRows.lean that lists a variable, with what it lists TIED to the program's text (the seventh form; the later family's looks); each row that meets fmt, with fmt's text TOLD by the authors' own Lean function (tested against real Go, not proved from fmt's source: count such statements apart). THE CARD IS WHAT COUNTS. Prove the row's statement (the work); the ties are given (YtghimbpihmehoaaDoorTie.lean); close each card by the builder's one call (the guide's Derived/Test/ToyasCard.lean, 'card_holds'). Laid BY PROGRAM, IN A SANDBOX (cutbox-door.mjs). By AI agents, Wed Nov 11 2026. No macro, syntax, notation, axiom, sorry.
-/
import Derived.Test.YtghimbpihmehoaaDoorRows
import GoSem.ClaimSeven
namespace Go.Proofs.YtghimbpihmehoaaDoor
namespace Rows

/-- THE TIED CARD OF 'gatepostkeep.SecondsOrder'. -/
def secondsOrderCard : Claim7 := { stood := { row := secondsOrderRow, standIns := [], harness := (true, "aa643ef98aa7ad48af2f7ceba53e8cb96a9d028d63a1a497060effd42da6ef0a"), looks := true }, kinds := [], alts := [], laidByText := true, laidKinds := [.data, .pinned], laidTests := true, laidLooks := .later }
def SecondsOrderCardSaid : Prop := Claim7.holds Tryd.pinned (.plain (OpenSpec.ofChange secondsOrderSpec)) secondsOrderCard

/-- THE TIED CARD OF 'gatepostkeep.SumShape'. -/
def sumShapeCard : Claim7 := { stood := { row := sumShapeRow, standIns := [], harness := (true, "aa643ef98aa7ad48af2f7ceba53e8cb96a9d028d63a1a497060effd42da6ef0a"), looks := true }, kinds := [], alts := [], laidByText := true, laidKinds := [.data, .data, .data, .data, .data, .pinned], laidTests := true, laidLooks := .later }
def SumShapeCardSaid : Prop := Claim7.holds Tryd.pinned (.plain (OpenSpec.ofChange sumShapeSpec)) sumShapeCard

/-- THE TIED CARD OF 'gatepostkeep.CountOrder'. -/
def countOrderCard : Claim7 := { stood := { row := countOrderRow, standIns := [], harness := (true, "aa643ef98aa7ad48af2f7ceba53e8cb96a9d028d63a1a497060effd42da6ef0a"), looks := true }, kinds := [], alts := [], laidByText := true, laidKinds := [.data, .data, .data, .data, .data, .data, .data], laidTests := true, laidLooks := .later }
def CountOrderCardSaid : Prop := Claim7.holds Tryd.pinned (.plain (OpenSpec.ofChange countOrderSpec)) countOrderCard

/-- THE TIED CARD OF 'gatepostkeep.ResponseBlind'. -/
def responseBlindCard : Claim7 := { stood := { row := responseBlindRow, standIns := [], harness := (true, "aa643ef98aa7ad48af2f7ceba53e8cb96a9d028d63a1a497060effd42da6ef0a"), looks := true }, kinds := [], alts := [], laidByText := true, laidKinds := [.data, .data, .data, .data, .data, .data, .data], laidTests := true, laidLooks := .later }
def ResponseBlindCardSaid : Prop := Claim7.holds Tryd.pinned (.plain (OpenSpec.ofChange responseBlindSpec)) responseBlindCard

/-- THE TIED CARD OF 'gatepostkeep.MethodTwice'. -/
def methodTwiceCard : Claim7 := { stood := { row := methodTwiceRow, standIns := [], harness := (true, "aa643ef98aa7ad48af2f7ceba53e8cb96a9d028d63a1a497060effd42da6ef0a"), looks := true }, kinds := [], alts := [], laidByText := true, laidKinds := [.data, .pinned], laidTests := true, laidLooks := .later }
def MethodTwiceCardSaid : Prop := Claim7.holds Tryd.pinned (.plain (OpenSpec.ofChange methodTwiceSpec)) methodTwiceCard

/-- THE TIED CARD OF 'gatepostkeep.BasicBack'. -/
def basicBackCard : Claim7 := { stood := { row := basicBackRow, standIns := [], harness := (true, "aa643ef98aa7ad48af2f7ceba53e8cb96a9d028d63a1a497060effd42da6ef0a"), looks := true }, kinds := [], alts := [], laidByText := true, laidKinds := [.data, .data, .data, .data, .data, .data, .data, .data, .pinned], laidTests := true, laidLooks := .later }
def BasicBackCardSaid : Prop := Claim7.holds Tryd.pinned (.plain (OpenSpec.ofChange basicBackSpec)) basicBackCard

/-- THE TIED CARD OF 'gatepostkeep.PlainCase'. -/
def plainCaseCard : Claim7 := { stood := { row := plainCaseRow, standIns := [], harness := (true, "aa643ef98aa7ad48af2f7ceba53e8cb96a9d028d63a1a497060effd42da6ef0a"), looks := true }, kinds := [], alts := [], laidByText := true, laidKinds := [.data, .pinned], laidTests := true, laidLooks := .later }
def PlainCaseCardSaid : Prop := Claim7.holds Tryd.pinned (.plain (OpenSpec.ofChange plainCaseSpec)) plainCaseCard

/-- THE TIED CARD OF 'gatepostkeep.OriginBack'. -/
def originBackCard : Claim7 := { stood := { row := originBackRow, standIns := [], harness := (true, "aa643ef98aa7ad48af2f7ceba53e8cb96a9d028d63a1a497060effd42da6ef0a"), looks := true }, kinds := [], alts := [], laidByText := true, laidKinds := [.data, .data, .data, .data, .sentinel, .sentinel, .pinned], laidTests := true, laidLooks := .later }
def OriginBackCardSaid : Prop := Claim7.holds Tryd.pinned (.plain (OpenSpec.ofChange originBackSpec)) originBackCard

/-- THE TIED CARD OF 'gatepostkeep.CleanTwice'. -/
def cleanTwiceCard : Claim7 := { stood := { row := cleanTwiceRow, standIns := [], harness := (true, "aa643ef98aa7ad48af2f7ceba53e8cb96a9d028d63a1a497060effd42da6ef0a"), looks := true }, kinds := [], alts := [], laidByText := true, laidKinds := [.data, .data, .data, .data, .sentinel, .sentinel, .pinned], laidTests := true, laidLooks := .later }
def CleanTwiceCardSaid : Prop := Claim7.holds Tryd.pinned (.plain (OpenSpec.ofChange cleanTwiceSpec)) cleanTwiceCard

/-- THE TIED CARD OF 'gatepostkeep.UrlBack'. -/
def urlBackCard : Claim7 := { stood := { row := urlBackRow, standIns := [], harness := (true, "aa643ef98aa7ad48af2f7ceba53e8cb96a9d028d63a1a497060effd42da6ef0a"), looks := true }, kinds := [], alts := [], laidByText := true, laidKinds := [.data, .data, .data, .data, .sentinel, .sentinel, .pinned], laidTests := true, laidLooks := .later }
def UrlBackCardSaid : Prop := Claim7.holds Tryd.pinned (.plain (OpenSpec.ofChange urlBackSpec)) urlBackCard

/-- THE TIED CARD OF 'gatepostkeep.UrlSends'. -/
def urlSendsCard : Claim7 := { stood := { row := urlSendsRow, standIns := [], harness := (true, "aa643ef98aa7ad48af2f7ceba53e8cb96a9d028d63a1a497060effd42da6ef0a"), looks := true }, kinds := [], alts := [], laidByText := true, laidKinds := [.data, .data, .data, .data, .sentinel, .sentinel, .pinned], laidTests := true, laidLooks := .later }
def UrlSendsCardSaid : Prop := Claim7.holds Tryd.pinned (.plain (OpenSpec.ofChange urlSendsSpec)) urlSendsCard

/-- THE TIED CARD OF 'gatepostkeep.DirWithin'. -/
def dirWithinCard : Claim7 := { stood := { row := dirWithinRow, standIns := [], harness := (true, "aa643ef98aa7ad48af2f7ceba53e8cb96a9d028d63a1a497060effd42da6ef0a"), looks := true }, kinds := [], alts := [], laidByText := true, laidKinds := [.data, .data, .data, .data, .sentinel, .sentinel, .pinned], laidTests := true, laidLooks := .later }
def DirWithinCardSaid : Prop := Claim7.holds Tryd.pinned (.plain (OpenSpec.ofChange dirWithinSpec)) dirWithinCard

/-- THE SECOND FORM's CARD OF 'gatepostkeep.SecondsOrder'. -/
def secondsOrderUptoCard : Claim7 := { stood := { row := secondsOrderUptoRow, standIns := [], harness := (true, "aa643ef98aa7ad48af2f7ceba53e8cb96a9d028d63a1a497060effd42da6ef0a"), looks := true }, kinds := [], alts := [], laidByText := true, laidKinds := [.data, .pinned], laidTests := true, laidLooks := .later }
def SecondsOrderUptoCardSaid : Prop := Claim7.holds Tryd.pinned (.plain (OpenSpec.upto secondsOrderSpec)) secondsOrderUptoCard

/-- THE SECOND FORM's CARD OF 'gatepostkeep.SumShape'. -/
def sumShapeUptoCard : Claim7 := { stood := { row := sumShapeUptoRow, standIns := [], harness := (true, "aa643ef98aa7ad48af2f7ceba53e8cb96a9d028d63a1a497060effd42da6ef0a"), looks := true }, kinds := [], alts := [], laidByText := true, laidKinds := [.data, .data, .data, .data, .data, .pinned], laidTests := true, laidLooks := .later }
def SumShapeUptoCardSaid : Prop := Claim7.holds Tryd.pinned (.plain (OpenSpec.upto sumShapeSpec)) sumShapeUptoCard

/-- THE SECOND FORM's CARD OF 'gatepostkeep.CountOrder'. -/
def countOrderUptoCard : Claim7 := { stood := { row := countOrderUptoRow, standIns := [], harness := (true, "aa643ef98aa7ad48af2f7ceba53e8cb96a9d028d63a1a497060effd42da6ef0a"), looks := true }, kinds := [], alts := [], laidByText := true, laidKinds := [.data, .data, .data, .data, .data, .data, .data], laidTests := true, laidLooks := .later }
def CountOrderUptoCardSaid : Prop := Claim7.holds Tryd.pinned (.plain (OpenSpec.upto countOrderSpec)) countOrderUptoCard

/-- THE SECOND FORM's CARD OF 'gatepostkeep.ResponseBlind'. -/
def responseBlindUptoCard : Claim7 := { stood := { row := responseBlindUptoRow, standIns := [], harness := (true, "aa643ef98aa7ad48af2f7ceba53e8cb96a9d028d63a1a497060effd42da6ef0a"), looks := true }, kinds := [], alts := [], laidByText := true, laidKinds := [.data, .data, .data, .data, .data, .data, .data], laidTests := true, laidLooks := .later }
def ResponseBlindUptoCardSaid : Prop := Claim7.holds Tryd.pinned (.plain (OpenSpec.upto responseBlindSpec)) responseBlindUptoCard

/-- THE SECOND FORM's CARD OF 'gatepostkeep.MethodTwice'. -/
def methodTwiceUptoCard : Claim7 := { stood := { row := methodTwiceUptoRow, standIns := [], harness := (true, "aa643ef98aa7ad48af2f7ceba53e8cb96a9d028d63a1a497060effd42da6ef0a"), looks := true }, kinds := [], alts := [], laidByText := true, laidKinds := [.data, .pinned], laidTests := true, laidLooks := .later }
def MethodTwiceUptoCardSaid : Prop := Claim7.holds Tryd.pinned (.plain (OpenSpec.upto methodTwiceSpec)) methodTwiceUptoCard

/-- THE SECOND FORM's CARD OF 'gatepostkeep.BasicBack'. -/
def basicBackUptoCard : Claim7 := { stood := { row := basicBackUptoRow, standIns := [], harness := (true, "aa643ef98aa7ad48af2f7ceba53e8cb96a9d028d63a1a497060effd42da6ef0a"), looks := true }, kinds := [], alts := [], laidByText := true, laidKinds := [.data, .data, .data, .data, .data, .data, .data, .data, .pinned], laidTests := true, laidLooks := .later }
def BasicBackUptoCardSaid : Prop := Claim7.holds Tryd.pinned (.plain (OpenSpec.upto basicBackSpec)) basicBackUptoCard

/-- THE SECOND FORM's CARD OF 'gatepostkeep.PlainCase'. -/
def plainCaseUptoCard : Claim7 := { stood := { row := plainCaseUptoRow, standIns := [], harness := (true, "aa643ef98aa7ad48af2f7ceba53e8cb96a9d028d63a1a497060effd42da6ef0a"), looks := true }, kinds := [], alts := [], laidByText := true, laidKinds := [.data, .pinned], laidTests := true, laidLooks := .later }
def PlainCaseUptoCardSaid : Prop := Claim7.holds Tryd.pinned (.plain (OpenSpec.upto plainCaseSpec)) plainCaseUptoCard

/-- THE SECOND FORM's CARD OF 'gatepostkeep.OriginBack'. -/
def originBackUptoCard : Claim7 := { stood := { row := originBackUptoRow, standIns := [], harness := (true, "aa643ef98aa7ad48af2f7ceba53e8cb96a9d028d63a1a497060effd42da6ef0a"), looks := true }, kinds := [], alts := [], laidByText := true, laidKinds := [.data, .data, .data, .data, .sentinel, .sentinel, .pinned], laidTests := true, laidLooks := .later }
def OriginBackUptoCardSaid : Prop := Claim7.holds Tryd.pinned (.plain (OpenSpec.upto originBackSpec)) originBackUptoCard

/-- THE SECOND FORM's CARD OF 'gatepostkeep.CleanTwice'. -/
def cleanTwiceUptoCard : Claim7 := { stood := { row := cleanTwiceUptoRow, standIns := [], harness := (true, "aa643ef98aa7ad48af2f7ceba53e8cb96a9d028d63a1a497060effd42da6ef0a"), looks := true }, kinds := [], alts := [], laidByText := true, laidKinds := [.data, .data, .data, .data, .sentinel, .sentinel, .pinned], laidTests := true, laidLooks := .later }
def CleanTwiceUptoCardSaid : Prop := Claim7.holds Tryd.pinned (.plain (OpenSpec.upto cleanTwiceSpec)) cleanTwiceUptoCard

/-- THE SECOND FORM's CARD OF 'gatepostkeep.UrlBack'. -/
def urlBackUptoCard : Claim7 := { stood := { row := urlBackUptoRow, standIns := [], harness := (true, "aa643ef98aa7ad48af2f7ceba53e8cb96a9d028d63a1a497060effd42da6ef0a"), looks := true }, kinds := [], alts := [], laidByText := true, laidKinds := [.data, .data, .data, .data, .sentinel, .sentinel, .pinned], laidTests := true, laidLooks := .later }
def UrlBackUptoCardSaid : Prop := Claim7.holds Tryd.pinned (.plain (OpenSpec.upto urlBackSpec)) urlBackUptoCard

/-- THE SECOND FORM's CARD OF 'gatepostkeep.UrlSends'. -/
def urlSendsUptoCard : Claim7 := { stood := { row := urlSendsUptoRow, standIns := [], harness := (true, "aa643ef98aa7ad48af2f7ceba53e8cb96a9d028d63a1a497060effd42da6ef0a"), looks := true }, kinds := [], alts := [], laidByText := true, laidKinds := [.data, .data, .data, .data, .sentinel, .sentinel, .pinned], laidTests := true, laidLooks := .later }
def UrlSendsUptoCardSaid : Prop := Claim7.holds Tryd.pinned (.plain (OpenSpec.upto urlSendsSpec)) urlSendsUptoCard

/-- THE SECOND FORM's CARD OF 'gatepostkeep.DirWithin'. -/
def dirWithinUptoCard : Claim7 := { stood := { row := dirWithinUptoRow, standIns := [], harness := (true, "aa643ef98aa7ad48af2f7ceba53e8cb96a9d028d63a1a497060effd42da6ef0a"), looks := true }, kinds := [], alts := [], laidByText := true, laidKinds := [.data, .data, .data, .data, .sentinel, .sentinel, .pinned], laidTests := true, laidLooks := .later }
def DirWithinUptoCardSaid : Prop := Claim7.holds Tryd.pinned (.plain (OpenSpec.upto dirWithinSpec)) dirWithinUptoCard
end Rows
end Go.Proofs.YtghimbpihmehoaaDoor
