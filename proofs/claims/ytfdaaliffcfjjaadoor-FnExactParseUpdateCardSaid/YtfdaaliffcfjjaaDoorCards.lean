/-
  DERIVED. GIVEN WITH THE SEED: THE CARDS: each row of YtfdaaliffcfjjaaDoorRows.lean that lists a variable, with what it lists TIED to the program's text (the seventh form; the later family's looks); each row that meets fmt, with fmt's text TOLD by the authors' own Lean function (tested against real Go, not proved from fmt's source: count such statements apart). THE CARD IS WHAT COUNTS. Prove the row's statement (the work); the ties are given (YtfdaaliffcfjjaaDoorTie.lean); close each card by the builder's one call (the guide's Derived/Test/ToyasCard.lean, 'card_holds'). Laid BY PROGRAM, IN A SANDBOX (cutbox-door.mjs). By AI agents, Wed Nov 11 2026. No macro, syntax, notation, axiom, sorry.
-/
import Derived.Test.YtfdaaliffcfjjaaDoorRows
import GoSem.ClaimSeven
namespace Go.Proofs.YtfdaaliffcfjjaaDoor
namespace Rows

/-- THE TIED CARD OF 'laws.FnExactParseUpdate'. -/
def fnExactParseUpdateCard : Claim7 := { stood := { row := fnExactParseUpdateRow, standIns := [], harness := (true, "448c99b55ccdce154a5432827d0867dc899046eb4b8d9cc658825d37b395cba6"), looks := true }, kinds := [], alts := [], laidByText := true, laidKinds := [.data, .data, .data, .data, .sentinel, .sentinel, .pinned], laidTests := true, laidLooks := .later }
def FnExactParseUpdateCardSaid : Prop := Claim7.holds Tryd.pinned (.plain (OpenSpec.ofChange fnExactParseUpdateSpec)) fnExactParseUpdateCard

/-- THE SECOND FORM's CARD OF 'laws.FnExactParseUpdate'. -/
def fnExactParseUpdateUptoCard : Claim7 := { stood := { row := fnExactParseUpdateUptoRow, standIns := [], harness := (true, "448c99b55ccdce154a5432827d0867dc899046eb4b8d9cc658825d37b395cba6"), looks := true }, kinds := [], alts := [], laidByText := true, laidKinds := [.data, .data, .data, .data, .sentinel, .sentinel, .pinned], laidTests := true, laidLooks := .later }
def FnExactParseUpdateUptoCardSaid : Prop := Claim7.holds Tryd.pinned (.plain (OpenSpec.upto fnExactParseUpdateSpec)) fnExactParseUpdateUptoCard
end Rows
end Go.Proofs.YtfdaaliffcfjjaaDoor
