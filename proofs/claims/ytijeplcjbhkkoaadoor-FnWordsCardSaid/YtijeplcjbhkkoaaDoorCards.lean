/-
  DERIVED. GIVEN WITH THE SEED: THE CARDS: each row of YtijeplcjbhkkoaaDoorRows.lean that lists a variable, with what it lists TIED to the program's text (the seventh form; the later family's looks); each row that meets fmt, with fmt's text TOLD by the authors' own Lean function (tested against real Go, not proved from fmt's source: count such statements apart). THE CARD IS WHAT COUNTS. Prove the row's statement (the work); the ties are given (YtijeplcjbhkkoaaDoorTie.lean); close each card by the builder's one call (the guide's Derived/Test/ToyasCard.lean, 'card_holds'). Laid BY PROGRAM, IN A SANDBOX (cutbox-door.mjs). By AI agents, Wed Nov 11 2026. No macro, syntax, notation, axiom, sorry.
-/
import Derived.Test.YtijeplcjbhkkoaaDoorRows
import GoSem.ClaimSeven
namespace Go.Proofs.YtijeplcjbhkkoaaDoor
namespace Rows

/-- THE TIED CARD OF 'laws.FnWords'. -/
def fnWordsCard : Claim7 := { stood := { row := fnWordsRow, standIns := [], harness := (true, "9635261c6b91276452c85fac923b6fdc1722768fe1a63cc7467aa0f5c545aace"), looks := true }, kinds := [], alts := [], laidByText := true, laidKinds := [.data, .data, .data, .sentinel, .sentinel], laidTests := true, laidLooks := .later }
def FnWordsCardSaid : Prop := Claim7.holds Tryd.pinned (.plain (OpenSpec.ofChange fnWordsSpec)) fnWordsCard

/-- THE TIED CARD OF 'laws.FnNats'. -/
def fnNatsCard : Claim7 := { stood := { row := fnNatsRow, standIns := [], harness := (true, "9635261c6b91276452c85fac923b6fdc1722768fe1a63cc7467aa0f5c545aace"), looks := true }, kinds := [], alts := [], laidByText := true, laidKinds := [.data, .data, .data, .sentinel, .sentinel], laidTests := true, laidLooks := .later }
def FnNatsCardSaid : Prop := Claim7.holds Tryd.pinned (.plain (OpenSpec.ofChange fnNatsSpec)) fnNatsCard

/-- THE SECOND FORM's CARD OF 'laws.FnWords'. -/
def fnWordsUptoCard : Claim7 := { stood := { row := fnWordsUptoRow, standIns := [], harness := (true, "9635261c6b91276452c85fac923b6fdc1722768fe1a63cc7467aa0f5c545aace"), looks := true }, kinds := [], alts := [], laidByText := true, laidKinds := [.data, .data, .data, .sentinel, .sentinel], laidTests := true, laidLooks := .later }
def FnWordsUptoCardSaid : Prop := Claim7.holds Tryd.pinned (.plain (OpenSpec.upto fnWordsSpec)) fnWordsUptoCard

/-- THE SECOND FORM's CARD OF 'laws.FnNats'. -/
def fnNatsUptoCard : Claim7 := { stood := { row := fnNatsUptoRow, standIns := [], harness := (true, "9635261c6b91276452c85fac923b6fdc1722768fe1a63cc7467aa0f5c545aace"), looks := true }, kinds := [], alts := [], laidByText := true, laidKinds := [.data, .data, .data, .sentinel, .sentinel], laidTests := true, laidLooks := .later }
def FnNatsUptoCardSaid : Prop := Claim7.holds Tryd.pinned (.plain (OpenSpec.upto fnNatsSpec)) fnNatsUptoCard
end Rows
end Go.Proofs.YtijeplcjbhkkoaaDoor
