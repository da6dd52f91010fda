/-
  DERIVED. GIVEN WITH THE SEED: THE CARDS: each row of YtcajdlpbdihbeaaDoorRows.lean that lists a variable, with what it lists TIED to the program's text (the seventh form; the later family's looks); each row that meets fmt, with fmt's text TOLD by the authors' own Lean function (tested against real Go, not proved from fmt's source: count such statements apart). THE CARD IS WHAT COUNTS. Prove the row's statement (the work); the ties are given (YtcajdlpbdihbeaaDoorTie.lean); close each card by the builder's one call (the guide's Derived/Test/ToyasCard.lean, 'card_holds'). Laid BY PROGRAM, IN A SANDBOX (cutbox-door.mjs). By AI agents, Wed Nov 11 2026. No macro, syntax, notation, axiom, sorry.
-/
import Derived.Test.YtcajdlpbdihbeaaDoorRows
import GoSem.ClaimSeven
namespace Go.Proofs.YtcajdlpbdihbeaaDoor
namespace Rows

/-- THE TIED CARD OF 'laws.FnExactFormatInt'. -/
def fnExactFormatIntCard : Claim7 := { stood := { row := fnExactFormatIntRow, standIns := [], harness := (true, "2978b016b207b88b1804fb102e08707596e0d0ac81c3d2f257335ffafde41d9b"), looks := true }, kinds := [], alts := [], laidByText := true, laidKinds := [.data, .data, .data], laidTests := true, laidLooks := .later }
def FnExactFormatIntCardSaid : Prop := Claim7.holds Tryd.pinned (.plain (OpenSpec.ofChange fnExactFormatIntSpec)) fnExactFormatIntCard

/-- THE TIED CARD OF 'laws.FnExactFormatNat'. -/
def fnExactFormatNatCard : Claim7 := { stood := { row := fnExactFormatNatRow, standIns := [], harness := (true, "2978b016b207b88b1804fb102e08707596e0d0ac81c3d2f257335ffafde41d9b"), looks := true }, kinds := [], alts := [], laidByText := true, laidKinds := [.data, .data, .data], laidTests := true, laidLooks := .later }
def FnExactFormatNatCardSaid : Prop := Claim7.holds Tryd.pinned (.plain (OpenSpec.ofChange fnExactFormatNatSpec)) fnExactFormatNatCard

/-- THE TIED CARD OF 'laws.FnExactFormatBigInt'. -/
def fnExactFormatBigIntCard : Claim7 := { stood := { row := fnExactFormatBigIntRow, standIns := [], harness := (true, "2978b016b207b88b1804fb102e08707596e0d0ac81c3d2f257335ffafde41d9b"), looks := true }, kinds := [], alts := [], laidByText := true, laidKinds := [.data, .data, .data], laidTests := true, laidLooks := .later }
def FnExactFormatBigIntCardSaid : Prop := Claim7.holds Tryd.pinned (.plain (OpenSpec.ofChange fnExactFormatBigIntSpec)) fnExactFormatBigIntCard

/-- THE TIED CARD OF 'laws.FnExactParseInt'. -/
def fnExactParseIntCard : Claim7 := { stood := { row := fnExactParseIntRow, standIns := [], harness := (true, "2978b016b207b88b1804fb102e08707596e0d0ac81c3d2f257335ffafde41d9b"), looks := true }, kinds := [], alts := [], laidByText := true, laidKinds := [.data, .data, .data, .sentinel, .sentinel], laidTests := true, laidLooks := .later }
def FnExactParseIntCardSaid : Prop := Claim7.holds Tryd.pinned (.plain (OpenSpec.ofChange fnExactParseIntSpec)) fnExactParseIntCard

/-- THE TIED CARD OF 'laws.FnExactParseNat'. -/
def fnExactParseNatCard : Claim7 := { stood := { row := fnExactParseNatRow, standIns := [], harness := (true, "2978b016b207b88b1804fb102e08707596e0d0ac81c3d2f257335ffafde41d9b"), looks := true }, kinds := [], alts := [], laidByText := true, laidKinds := [.data, .data, .data, .sentinel, .sentinel], laidTests := true, laidLooks := .later }
def FnExactParseNatCardSaid : Prop := Claim7.holds Tryd.pinned (.plain (OpenSpec.ofChange fnExactParseNatSpec)) fnExactParseNatCard

/-- THE TIED CARD OF 'laws.FnExactParseBigInt'. -/
def fnExactParseBigIntCard : Claim7 := { stood := { row := fnExactParseBigIntRow, standIns := [], harness := (true, "2978b016b207b88b1804fb102e08707596e0d0ac81c3d2f257335ffafde41d9b"), looks := true }, kinds := [], alts := [], laidByText := true, laidKinds := [.data, .data, .data, .sentinel, .sentinel], laidTests := true, laidLooks := .later }
def FnExactParseBigIntCardSaid : Prop := Claim7.holds Tryd.pinned (.plain (OpenSpec.ofChange fnExactParseBigIntSpec)) fnExactParseBigIntCard

/-- THE TIED CARD OF 'laws.FnWords'. -/
def fnWordsCard : Claim7 := { stood := { row := fnWordsRow, standIns := [], harness := (true, "2978b016b207b88b1804fb102e08707596e0d0ac81c3d2f257335ffafde41d9b"), looks := true }, kinds := [], alts := [], laidByText := true, laidKinds := [.data, .data, .data, .sentinel, .sentinel], laidTests := true, laidLooks := .later }
def FnWordsCardSaid : Prop := Claim7.holds Tryd.pinned (.plain (OpenSpec.ofChange fnWordsSpec)) fnWordsCard

/-- THE TIED CARD OF 'laws.FnExactFormatRat'. -/
def fnExactFormatRatCard : Claim7 := { stood := { row := fnExactFormatRatRow, standIns := [], harness := (true, "2978b016b207b88b1804fb102e08707596e0d0ac81c3d2f257335ffafde41d9b"), looks := true }, kinds := [], alts := [], laidByText := true, laidKinds := [.data, .data, .data], laidTests := true, laidLooks := .later }
def FnExactFormatRatCardSaid : Prop := Claim7.holds Tryd.pinned (.plain (OpenSpec.ofChange fnExactFormatRatSpec)) fnExactFormatRatCard

/-- THE TIED CARD OF 'laws.FnNats'. -/
def fnNatsCard : Claim7 := { stood := { row := fnNatsRow, standIns := [], harness := (true, "2978b016b207b88b1804fb102e08707596e0d0ac81c3d2f257335ffafde41d9b"), looks := true }, kinds := [], alts := [], laidByText := true, laidKinds := [.data, .data, .data, .sentinel, .sentinel], laidTests := true, laidLooks := .later }
def FnNatsCardSaid : Prop := Claim7.holds Tryd.pinned (.plain (OpenSpec.ofChange fnNatsSpec)) fnNatsCard

/-- THE SECOND FORM's CARD OF 'laws.FnExactFormatInt'. -/
def fnExactFormatIntUptoCard : Claim7 := { stood := { row := fnExactFormatIntUptoRow, standIns := [], harness := (true, "2978b016b207b88b1804fb102e08707596e0d0ac81c3d2f257335ffafde41d9b"), looks := true }, kinds := [], alts := [], laidByText := true, laidKinds := [.data, .data, .data], laidTests := true, laidLooks := .later }
def FnExactFormatIntUptoCardSaid : Prop := Claim7.holds Tryd.pinned (.plain (OpenSpec.upto fnExactFormatIntSpec)) fnExactFormatIntUptoCard

/-- THE SECOND FORM's CARD OF 'laws.FnExactFormatNat'. -/
def fnExactFormatNatUptoCard : Claim7 := { stood := { row := fnExactFormatNatUptoRow, standIns := [], harness := (true, "2978b016b207b88b1804fb102e08707596e0d0ac81c3d2f257335ffafde41d9b"), looks := true }, kinds := [], alts := [], laidByText := true, laidKinds := [.data, .data, .data], laidTests := true, laidLooks := .later }
def FnExactFormatNatUptoCardSaid : Prop := Claim7.holds Tryd.pinned (.plain (OpenSpec.upto fnExactFormatNatSpec)) fnExactFormatNatUptoCard

/-- THE SECOND FORM's CARD OF 'laws.FnExactFormatBigInt'. -/
def fnExactFormatBigIntUptoCard : Claim7 := { stood := { row := fnExactFormatBigIntUptoRow, standIns := [], harness := (true, "2978b016b207b88b1804fb102e08707596e0d0ac81c3d2f257335ffafde41d9b"), looks := true }, kinds := [], alts := [], laidByText := true, laidKinds := [.data, .data, .data], laidTests := true, laidLooks := .later }
def FnExactFormatBigIntUptoCardSaid : Prop := Claim7.holds Tryd.pinned (.plain (OpenSpec.upto fnExactFormatBigIntSpec)) fnExactFormatBigIntUptoCard

/-- THE SECOND FORM's CARD OF 'laws.FnExactParseInt'. -/
def fnExactParseIntUptoCard : Claim7 := { stood := { row := fnExactParseIntUptoRow, standIns := [], harness := (true, "2978b016b207b88b1804fb102e08707596e0d0ac81c3d2f257335ffafde41d9b"), looks := true }, kinds := [], alts := [], laidByText := true, laidKinds := [.data, .data, .data, .sentinel, .sentinel], laidTests := true, laidLooks := .later }
def FnExactParseIntUptoCardSaid : Prop := Claim7.holds Tryd.pinned (.plain (OpenSpec.upto fnExactParseIntSpec)) fnExactParseIntUptoCard

/-- THE SECOND FORM's CARD OF 'laws.FnExactParseNat'. -/
def fnExactParseNatUptoCard : Claim7 := { stood := { row := fnExactParseNatUptoRow, standIns := [], harness := (true, "2978b016b207b88b1804fb102e08707596e0d0ac81c3d2f257335ffafde41d9b"), looks := true }, kinds := [], alts := [], laidByText := true, laidKinds := [.data, .data, .data, .sentinel, .sentinel], laidTests := true, laidLooks := .later }
def FnExactParseNatUptoCardSaid : Prop := Claim7.holds Tryd.pinned (.plain (OpenSpec.upto fnExactParseNatSpec)) fnExactParseNatUptoCard

/-- THE SECOND FORM's CARD OF 'laws.FnExactParseBigInt'. -/
def fnExactParseBigIntUptoCard : Claim7 := { stood := { row := fnExactParseBigIntUptoRow, standIns := [], harness := (true, "2978b016b207b88b1804fb102e08707596e0d0ac81c3d2f257335ffafde41d9b"), looks := true }, kinds := [], alts := [], laidByText := true, laidKinds := [.data, .data, .data, .sentinel, .sentinel], laidTests := true, laidLooks := .later }
def FnExactParseBigIntUptoCardSaid : Prop := Claim7.holds Tryd.pinned (.plain (OpenSpec.upto fnExactParseBigIntSpec)) fnExactParseBigIntUptoCard

/-- THE SECOND FORM's CARD OF 'laws.FnWords'. -/
def fnWordsUptoCard : Claim7 := { stood := { row := fnWordsUptoRow, standIns := [], harness := (true, "2978b016b207b88b1804fb102e08707596e0d0ac81c3d2f257335ffafde41d9b"), looks := true }, kinds := [], alts := [], laidByText := true, laidKinds := [.data, .data, .data, .sentinel, .sentinel], laidTests := true, laidLooks := .later }
def FnWordsUptoCardSaid : Prop := Claim7.holds Tryd.pinned (.plain (OpenSpec.upto fnWordsSpec)) fnWordsUptoCard

/-- THE SECOND FORM's CARD OF 'laws.FnExactFormatRat'. -/
def fnExactFormatRatUptoCard : Claim7 := { stood := { row := fnExactFormatRatUptoRow, standIns := [], harness := (true, "2978b016b207b88b1804fb102e08707596e0d0ac81c3d2f257335ffafde41d9b"), looks := true }, kinds := [], alts := [], laidByText := true, laidKinds := [.data, .data, .data], laidTests := true, laidLooks := .later }
def FnExactFormatRatUptoCardSaid : Prop := Claim7.holds Tryd.pinned (.plain (OpenSpec.upto fnExactFormatRatSpec)) fnExactFormatRatUptoCard

/-- THE SECOND FORM's CARD OF 'laws.FnNats'. -/
def fnNatsUptoCard : Claim7 := { stood := { row := fnNatsUptoRow, standIns := [], harness := (true, "2978b016b207b88b1804fb102e08707596e0d0ac81c3d2f257335ffafde41d9b"), looks := true }, kinds := [], alts := [], laidByText := true, laidKinds := [.data, .data, .data, .sentinel, .sentinel], laidTests := true, laidLooks := .later }
def FnNatsUptoCardSaid : Prop := Claim7.holds Tryd.pinned (.plain (OpenSpec.upto fnNatsSpec)) fnNatsUptoCard
end Rows
end Go.Proofs.YtcajdlpbdihbeaaDoor
