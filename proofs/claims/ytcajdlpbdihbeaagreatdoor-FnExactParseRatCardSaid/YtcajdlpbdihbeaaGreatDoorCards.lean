/-
  DERIVED. GIVEN WITH THE SEED: THE CARDS: each row of YtcajdlpbdihbeaaGreatDoorRows.lean that lists a variable, with what it lists TIED to the program's text (the seventh form; the later family's looks); each row that meets fmt, with fmt's text TOLD by the authors' own Lean function (tested against real Go, not proved from fmt's source: count such statements apart). THE CARD IS WHAT COUNTS. Prove the row's statement (the work); the ties are given (YtcajdlpbdihbeaaGreatDoorTie.lean); close each card by the builder's one call (the guide's Derived/Test/ToyasCard.lean, 'card_holds'). Laid BY PROGRAM, IN A SANDBOX (cutbox-door.mjs). By AI agents, Wed Nov 11 2026. No macro, syntax, notation, axiom, sorry.
-/
import Derived.Test.YtcajdlpbdihbeaaGreatDoorRows
import GoSem.ClaimSeven
namespace Go.Proofs.YtcajdlpbdihbeaaGreatDoor
namespace Rows

/-- THE TIED CARD OF 'laws.FnExactParseRat'. -/
def fnExactParseRatCard : Claim7 := { stood := { row := fnExactParseRatRow, standIns := [], harness := (true, "d707f45a7875af89e8dbacf0482eb27485e8f574fd9d318903b2b5faf73c6e5b"), looks := true }, kinds := [], alts := [], laidByText := true, laidKinds := [.data, .data, .data, .sentinel, .sentinel], laidTests := true, laidLooks := .later }
def FnExactParseRatCardSaid : Prop := Claim7.holds Tryz.pinned (.plain (OpenSpec.ofChange fnExactParseRatSpec)) fnExactParseRatCard

/-- THE SECOND FORM's CARD OF 'laws.FnExactParseRat'. -/
def fnExactParseRatUptoCard : Claim7 := { stood := { row := fnExactParseRatUptoRow, standIns := [], harness := (true, "d707f45a7875af89e8dbacf0482eb27485e8f574fd9d318903b2b5faf73c6e5b"), looks := true }, kinds := [], alts := [], laidByText := true, laidKinds := [.data, .data, .data, .sentinel, .sentinel], laidTests := true, laidLooks := .later }
def FnExactParseRatUptoCardSaid : Prop := Claim7.holds Tryz.pinned (.plain (OpenSpec.upto fnExactParseRatSpec)) fnExactParseRatUptoCard
end Rows
end Go.Proofs.YtcajdlpbdihbeaaGreatDoor
