/-
  DERIVED. GIVEN WITH THE SEED: THE CARDS: each row of YtjelbcdloocacaaDoorRows.lean that lists a variable, with what it lists TIED to the program's text (the seventh form; the later family's looks); each row that meets fmt, with fmt's text TOLD by the authors' own Lean function (tested against real Go, not proved from fmt's source: count such statements apart). THE CARD IS WHAT COUNTS. Prove the row's statement (the work); the ties are given (YtjelbcdloocacaaDoorTie.lean); close each card by the builder's one call (the guide's Derived/Test/ToyasCard.lean, 'card_holds'). Laid BY PROGRAM, IN A SANDBOX (cutbox-door.mjs). By AI agents, Wed Nov 11 2026. No macro, syntax, notation, axiom, sorry.
-/
import Derived.Test.YtjelbcdloocacaaDoorRows
import GoSem.ClaimSeven
namespace Go.Proofs.YtjelbcdloocacaaDoor
namespace Rows

/-- THE TIED CARD OF 'laws.FnExactMilliText'. -/
def fnExactMilliTextCard : Claim7 := { stood := { row := fnExactMilliTextRow, standIns := [], harness := (true, "9cd709e19cfc5edd235a8b6babac162bfb82dc42cb4d1d6e622a1bb99b1db20e"), looks := true }, kinds := [], alts := [], laidByText := true, laidKinds := [.data, .data, .data, .data, .pinned], laidTests := true, laidLooks := .later }
def FnExactMilliTextCardSaid : Prop := Claim7.holds Tryd.pinned (.plain (OpenSpec.ofChange fnExactMilliTextSpec)) fnExactMilliTextCard

/-- THE TIED CARD OF 'laws.FnExactParseMilli'. -/
def fnExactParseMilliCard : Claim7 := { stood := { row := fnExactParseMilliRow, standIns := [], harness := (true, "9cd709e19cfc5edd235a8b6babac162bfb82dc42cb4d1d6e622a1bb99b1db20e"), looks := true }, kinds := [], alts := [], laidByText := true, laidKinds := [.data, .data, .data, .data, .sentinel, .sentinel, .pinned], laidTests := true, laidLooks := .later }
def FnExactParseMilliCardSaid : Prop := Claim7.holds Tryd.pinned (.plain (OpenSpec.ofChange fnExactParseMilliSpec)) fnExactParseMilliCard

/-- THE TIED CARD OF 'laws.FnExactSampleLine'. -/
def fnExactSampleLineCard : Claim7 := { stood := { row := fnExactSampleLineRow, standIns := [], harness := (true, "9cd709e19cfc5edd235a8b6babac162bfb82dc42cb4d1d6e622a1bb99b1db20e"), looks := true }, kinds := [], alts := [], laidByText := true, laidKinds := [.data, .data, .data, .data, .pinned], laidTests := true, laidLooks := .later }
def FnExactSampleLineCardSaid : Prop := Claim7.holds Tryd.pinned (.plain (OpenSpec.ofChange fnExactSampleLineSpec)) fnExactSampleLineCard

/-- THE TIED CARD OF 'laws.FnExactPrintScrape'. -/
def fnExactPrintScrapeCard : Claim7 := { stood := { row := fnExactPrintScrapeRow, standIns := [], harness := (true, "9cd709e19cfc5edd235a8b6babac162bfb82dc42cb4d1d6e622a1bb99b1db20e"), looks := true }, kinds := [], alts := [], laidByText := true, laidKinds := [.data, .data, .data, .data, .pinned], laidTests := true, laidLooks := .later }
def FnExactPrintScrapeCardSaid : Prop := Claim7.holds Tryd.pinned (.plain (OpenSpec.ofChange fnExactPrintScrapeSpec)) fnExactPrintScrapeCard

/-- THE TIED CARD OF 'laws.FnExactParseSample'. -/
def fnExactParseSampleCard : Claim7 := { stood := { row := fnExactParseSampleRow, standIns := [], harness := (true, "9cd709e19cfc5edd235a8b6babac162bfb82dc42cb4d1d6e622a1bb99b1db20e"), looks := true }, kinds := [], alts := [], laidByText := true, laidKinds := [.data, .data, .data, .data, .sentinel, .sentinel, .pinned], laidTests := true, laidLooks := .later }
def FnExactParseSampleCardSaid : Prop := Claim7.holds Tryd.pinned (.plain (OpenSpec.ofChange fnExactParseSampleSpec)) fnExactParseSampleCard

/-- THE TIED CARD OF 'laws.FnMillis'. -/
def fnMillisCard : Claim7 := { stood := { row := fnMillisRow, standIns := [], harness := (true, "9cd709e19cfc5edd235a8b6babac162bfb82dc42cb4d1d6e622a1bb99b1db20e"), looks := true }, kinds := [], alts := [], laidByText := true, laidKinds := [.data, .data, .data, .data, .sentinel, .sentinel, .pinned], laidTests := true, laidLooks := .later }
def FnMillisCardSaid : Prop := Claim7.holds Tryd.pinned (.plain (OpenSpec.ofChange fnMillisSpec)) fnMillisCard

/-- THE SECOND FORM's CARD OF 'laws.FnExactMilliText'. -/
def fnExactMilliTextUptoCard : Claim7 := { stood := { row := fnExactMilliTextUptoRow, standIns := [], harness := (true, "9cd709e19cfc5edd235a8b6babac162bfb82dc42cb4d1d6e622a1bb99b1db20e"), looks := true }, kinds := [], alts := [], laidByText := true, laidKinds := [.data, .data, .data, .data, .pinned], laidTests := true, laidLooks := .later }
def FnExactMilliTextUptoCardSaid : Prop := Claim7.holds Tryd.pinned (.plain (OpenSpec.upto fnExactMilliTextSpec)) fnExactMilliTextUptoCard

/-- THE SECOND FORM's CARD OF 'laws.FnExactParseMilli'. -/
def fnExactParseMilliUptoCard : Claim7 := { stood := { row := fnExactParseMilliUptoRow, standIns := [], harness := (true, "9cd709e19cfc5edd235a8b6babac162bfb82dc42cb4d1d6e622a1bb99b1db20e"), looks := true }, kinds := [], alts := [], laidByText := true, laidKinds := [.data, .data, .data, .data, .sentinel, .sentinel, .pinned], laidTests := true, laidLooks := .later }
def FnExactParseMilliUptoCardSaid : Prop := Claim7.holds Tryd.pinned (.plain (OpenSpec.upto fnExactParseMilliSpec)) fnExactParseMilliUptoCard

/-- THE SECOND FORM's CARD OF 'laws.FnExactSampleLine'. -/
def fnExactSampleLineUptoCard : Claim7 := { stood := { row := fnExactSampleLineUptoRow, standIns := [], harness := (true, "9cd709e19cfc5edd235a8b6babac162bfb82dc42cb4d1d6e622a1bb99b1db20e"), looks := true }, kinds := [], alts := [], laidByText := true, laidKinds := [.data, .data, .data, .data, .pinned], laidTests := true, laidLooks := .later }
def FnExactSampleLineUptoCardSaid : Prop := Claim7.holds Tryd.pinned (.plain (OpenSpec.upto fnExactSampleLineSpec)) fnExactSampleLineUptoCard

/-- THE SECOND FORM's CARD OF 'laws.FnExactPrintScrape'. -/
def fnExactPrintScrapeUptoCard : Claim7 := { stood := { row := fnExactPrintScrapeUptoRow, standIns := [], harness := (true, "9cd709e19cfc5edd235a8b6babac162bfb82dc42cb4d1d6e622a1bb99b1db20e"), looks := true }, kinds := [], alts := [], laidByText := true, laidKinds := [.data, .data, .data, .data, .pinned], laidTests := true, laidLooks := .later }
def FnExactPrintScrapeUptoCardSaid : Prop := Claim7.holds Tryd.pinned (.plain (OpenSpec.upto fnExactPrintScrapeSpec)) fnExactPrintScrapeUptoCard

/-- THE SECOND FORM's CARD OF 'laws.FnExactParseSample'. -/
def fnExactParseSampleUptoCard : Claim7 := { stood := { row := fnExactParseSampleUptoRow, standIns := [], harness := (true, "9cd709e19cfc5edd235a8b6babac162bfb82dc42cb4d1d6e622a1bb99b1db20e"), looks := true }, kinds := [], alts := [], laidByText := true, laidKinds := [.data, .data, .data, .data, .sentinel, .sentinel, .pinned], laidTests := true, laidLooks := .later }
def FnExactParseSampleUptoCardSaid : Prop := Claim7.holds Tryd.pinned (.plain (OpenSpec.upto fnExactParseSampleSpec)) fnExactParseSampleUptoCard

/-- THE SECOND FORM's CARD OF 'laws.FnMillis'. -/
def fnMillisUptoCard : Claim7 := { stood := { row := fnMillisUptoRow, standIns := [], harness := (true, "9cd709e19cfc5edd235a8b6babac162bfb82dc42cb4d1d6e622a1bb99b1db20e"), looks := true }, kinds := [], alts := [], laidByText := true, laidKinds := [.data, .data, .data, .data, .sentinel, .sentinel, .pinned], laidTests := true, laidLooks := .later }
def FnMillisUptoCardSaid : Prop := Claim7.holds Tryd.pinned (.plain (OpenSpec.upto fnMillisSpec)) fnMillisUptoCard
end Rows
end Go.Proofs.YtjelbcdloocacaaDoor
