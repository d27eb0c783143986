/-
  DERIVED. GIVEN WITH THE SEED: THE CARDS: each row of YtjelbcdloocacaaGreatDoorRows.lean that lists a variable, with what it lists TIED to the program's text (the seventh form; the later family's looks); each row that meets fmt, with fmt's text TOLD by the authors' own Lean function (tested against real Go, not proved from fmt's source: count such statements apart). THE CARD IS WHAT COUNTS. Prove the row's statement (the work); the ties are given (YtjelbcdloocacaaGreatDoorTie.lean); close each card by the builder's one call (the guide's Derived/Test/ToyasCard.lean, 'card_holds'). Laid BY PROGRAM, IN A SANDBOX (cutbox-door.mjs). By AI agents, Wed Nov 11 2026. No macro, syntax, notation, axiom, sorry.
-/
import Derived.Test.YtjelbcdloocacaaGreatDoorRows
import GoSem.ClaimSeven
namespace Go.Proofs.YtjelbcdloocacaaGreatDoor
namespace Rows

/-- THE TIED CARD OF 'laws.FnExactParseScrape'. -/
def fnExactParseScrapeCard : Claim7 := { stood := { row := fnExactParseScrapeRow, standIns := [], harness := (true, "33c0b6eacf9b63be3bd0489c6c2f4efc697c7e1c9de47bb12b16627871a47c0b"), looks := true }, kinds := [], alts := [], laidByText := true, laidKinds := [.data, .data, .data, .data, .sentinel, .sentinel, .pinned], laidTests := true, laidLooks := .later }
def FnExactParseScrapeCardSaid : Prop := Claim7.holds Tryz.pinned (.plain (OpenSpec.ofChange fnExactParseScrapeSpec)) fnExactParseScrapeCard

/-- THE SECOND FORM's CARD OF 'laws.FnExactParseScrape'. -/
def fnExactParseScrapeUptoCard : Claim7 := { stood := { row := fnExactParseScrapeUptoRow, standIns := [], harness := (true, "33c0b6eacf9b63be3bd0489c6c2f4efc697c7e1c9de47bb12b16627871a47c0b"), looks := true }, kinds := [], alts := [], laidByText := true, laidKinds := [.data, .data, .data, .data, .sentinel, .sentinel, .pinned], laidTests := true, laidLooks := .later }
def FnExactParseScrapeUptoCardSaid : Prop := Claim7.holds Tryz.pinned (.plain (OpenSpec.upto fnExactParseScrapeSpec)) fnExactParseScrapeUptoCard
end Rows
end Go.Proofs.YtjelbcdloocacaaGreatDoor
