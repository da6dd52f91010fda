/-
  No cell of these rows narrows 'for every input' (looked for: loops, veiled, ifaces, maps, wideKeys, modest, calm, conditions, laid).
  DERIVED. THE GIVEN ROWS OF THIS SEAT. 8 by the template 'for every input the law returns true; each argument reads behind the call as it read before'; 0 by the template 'total and deterministic' (their statements: YtcmhpdhcpkhejaaTotals.lean).
  GIVEN WITH THE SEED: the statements are not yours to turn. If you find one false, say at which input.
  Laid BY PROGRAM, IN A SANDBOX (cutbox-rows.mjs): the forced cells as the released guide's own fill.sh prints them over the translation 3030c933adb8aab4… (all of the seat's roots in one cut). By AI agents, Wed Nov 11 2026. No macro, syntax, notation, axiom, sorry.
-/
import Derived.Test.YtcmhpdhcpkhejaaChecked
import GoSem.Claim
import GoSem.ClaimJoined
import GoSem.ClaimMapViews
import Derived.JoinedTies
import Derived.KernelRfl
namespace Go.Proofs.Ytcmhpdhcpkhejaa
/- THE CELL 'sum', in the pinned program and in every row, IS THE sha256 OF THE DUMP (.gsa) THAT YtcmhpdhcpkhejaaProg.lean LOADS. Nothing in Lean hashes anything: it is a label: what it is worth is what the hold of that sum in a sandbox is worth. -/
noncomputable def Try.pinned : Pinned := { name := "ytcmhpdhcpkhejaa", sum := "3030c933adb8aab48bed70c8b9f8b9f7b7ccf272baf1c8b4ac2badd5f8d74226", checked := Try.checked }
namespace Rows
def none {H : Type} : Left H := { results := [], args := [] }

/-- 'laws.FnExactEqualVectors': WHATEVER THE INPUT: true; the input reads as it did. -/
def fnExactEqualVectorsSpec : ChangeSpec := { name := "fnExactEqualVectors", fn := fun _ => fun
  | [d1, d2] => { results := [.lit (.bool true)], args := [d1, d2] }
  | _ => none }
def fnExactEqualVectorsRow : OpenClaim := { program := "ytcmhpdhcpkhejaa", sum := "3030c933adb8aab48bed70c8b9f8b9f7b7ccf272baf1c8b4ac2badd5f8d74226", func := "loop.example/g00822/laws.FnExactEqualVectors", spec := "fnExactEqualVectors", apart := false }
def FnExactEqualVectorsSaid : Prop := fnExactEqualVectorsRow.holds Try.pinned (OpenSpec.ofChange fnExactEqualVectorsSpec)

/-- ITS FALSE NEIGHBOUR: 'it returns false'. Refute it at one input. -/
def fnExactEqualVectorsWrong : ChangeSpec := { name := "fnExactEqualVectors", fn := fun _ => fun
  | [d1, d2] => { results := [.lit (.bool false)], args := [d1, d2] }
  | _ => none }
def FnExactEqualVectorsWrongFalsely : Prop := fnExactEqualVectorsRow.holds Try.pinned (OpenSpec.ofChange fnExactEqualVectorsWrong)

/-- 'laws.FnExactZeroVector': WHATEVER THE INPUT: true; the input reads as it did. -/
def fnExactZeroVectorSpec : ChangeSpec := { name := "fnExactZeroVector", fn := fun _ => fun
  | [d] => { results := [.lit (.bool true)], args := [d] }
  | _ => none }
def fnExactZeroVectorRow : OpenClaim := { program := "ytcmhpdhcpkhejaa", sum := "3030c933adb8aab48bed70c8b9f8b9f7b7ccf272baf1c8b4ac2badd5f8d74226", func := "loop.example/g00822/laws.FnExactZeroVector", spec := "fnExactZeroVector", apart := false }
def FnExactZeroVectorSaid : Prop := fnExactZeroVectorRow.holds Try.pinned (OpenSpec.ofChange fnExactZeroVectorSpec)

/-- ITS FALSE NEIGHBOUR: 'it returns false'. Refute it at one input. -/
def fnExactZeroVectorWrong : ChangeSpec := { name := "fnExactZeroVector", fn := fun _ => fun
  | [d] => { results := [.lit (.bool false)], args := [d] }
  | _ => none }
def FnExactZeroVectorWrongFalsely : Prop := fnExactZeroVectorRow.holds Try.pinned (OpenSpec.ofChange fnExactZeroVectorWrong)

/-- 'laws.FnExactUnitVector': WHATEVER THE INPUT: true; the input reads as it did. -/
def fnExactUnitVectorSpec : ChangeSpec := { name := "fnExactUnitVector", fn := fun _ => fun
  | [d1, d2] => { results := [.lit (.bool true)], args := [d1, d2] }
  | _ => none }
def fnExactUnitVectorRow : OpenClaim := { program := "ytcmhpdhcpkhejaa", sum := "3030c933adb8aab48bed70c8b9f8b9f7b7ccf272baf1c8b4ac2badd5f8d74226", func := "loop.example/g00822/laws.FnExactUnitVector", spec := "fnExactUnitVector", apart := false }
def FnExactUnitVectorSaid : Prop := fnExactUnitVectorRow.holds Try.pinned (OpenSpec.ofChange fnExactUnitVectorSpec)

/-- ITS FALSE NEIGHBOUR: 'it returns false'. Refute it at one input. -/
def fnExactUnitVectorWrong : ChangeSpec := { name := "fnExactUnitVector", fn := fun _ => fun
  | [d1, d2] => { results := [.lit (.bool false)], args := [d1, d2] }
  | _ => none }
def FnExactUnitVectorWrongFalsely : Prop := fnExactUnitVectorRow.holds Try.pinned (OpenSpec.ofChange fnExactUnitVectorWrong)

/-- 'laws.FnExactIsVector': WHATEVER THE INPUT: true; the input reads as it did. -/
def fnExactIsVectorSpec : ChangeSpec := { name := "fnExactIsVector", fn := fun _ => fun
  | [d] => { results := [.lit (.bool true)], args := [d] }
  | _ => none }
def fnExactIsVectorRow : OpenClaim := { program := "ytcmhpdhcpkhejaa", sum := "3030c933adb8aab48bed70c8b9f8b9f7b7ccf272baf1c8b4ac2badd5f8d74226", func := "loop.example/g00822/laws.FnExactIsVector", spec := "fnExactIsVector", apart := false }
def FnExactIsVectorSaid : Prop := fnExactIsVectorRow.holds Try.pinned (OpenSpec.ofChange fnExactIsVectorSpec)

/-- ITS FALSE NEIGHBOUR: 'it returns false'. Refute it at one input. -/
def fnExactIsVectorWrong : ChangeSpec := { name := "fnExactIsVector", fn := fun _ => fun
  | [d] => { results := [.lit (.bool false)], args := [d] }
  | _ => none }
def FnExactIsVectorWrongFalsely : Prop := fnExactIsVectorRow.holds Try.pinned (OpenSpec.ofChange fnExactIsVectorWrong)

/-- 'laws.FnExactScaleVector': WHATEVER THE INPUT: true; the input reads as it did. -/
def fnExactScaleVectorSpec : ChangeSpec := { name := "fnExactScaleVector", fn := fun _ => fun
  | [d1, d2] => { results := [.lit (.bool true)], args := [d1, d2] }
  | _ => none }
def fnExactScaleVectorRow : OpenClaim := { program := "ytcmhpdhcpkhejaa", sum := "3030c933adb8aab48bed70c8b9f8b9f7b7ccf272baf1c8b4ac2badd5f8d74226", func := "loop.example/g00822/laws.FnExactScaleVector", spec := "fnExactScaleVector", unfollowed := true, recurses := true, apart := false }
def FnExactScaleVectorSaid : Prop := fnExactScaleVectorRow.holds Try.pinned (OpenSpec.ofChange fnExactScaleVectorSpec)

/-- ITS FALSE NEIGHBOUR: 'it returns false'. Refute it at one input. -/
def fnExactScaleVectorWrong : ChangeSpec := { name := "fnExactScaleVector", fn := fun _ => fun
  | [d1, d2] => { results := [.lit (.bool false)], args := [d1, d2] }
  | _ => none }
def FnExactScaleVectorWrongFalsely : Prop := fnExactScaleVectorRow.holds Try.pinned (OpenSpec.ofChange fnExactScaleVectorWrong)

/-- 'laws.FnExactAddVectors': WHATEVER THE INPUT: true; the input reads as it did. -/
def fnExactAddVectorsSpec : ChangeSpec := { name := "fnExactAddVectors", fn := fun _ => fun
  | [d1, d2] => { results := [.lit (.bool true)], args := [d1, d2] }
  | _ => none }
def fnExactAddVectorsRow : OpenClaim := { program := "ytcmhpdhcpkhejaa", sum := "3030c933adb8aab48bed70c8b9f8b9f7b7ccf272baf1c8b4ac2badd5f8d74226", func := "loop.example/g00822/laws.FnExactAddVectors", spec := "fnExactAddVectors", unfollowed := true, recurses := true, apart := false }
def FnExactAddVectorsSaid : Prop := fnExactAddVectorsRow.holds Try.pinned (OpenSpec.ofChange fnExactAddVectorsSpec)

/-- ITS FALSE NEIGHBOUR: 'it returns false'. Refute it at one input. -/
def fnExactAddVectorsWrong : ChangeSpec := { name := "fnExactAddVectors", fn := fun _ => fun
  | [d1, d2] => { results := [.lit (.bool false)], args := [d1, d2] }
  | _ => none }
def FnExactAddVectorsWrongFalsely : Prop := fnExactAddVectorsRow.holds Try.pinned (OpenSpec.ofChange fnExactAddVectorsWrong)

/-- 'laws.FnExactSubtractVectors': WHATEVER THE INPUT: true; the input reads as it did. -/
def fnExactSubtractVectorsSpec : ChangeSpec := { name := "fnExactSubtractVectors", fn := fun _ => fun
  | [d1, d2] => { results := [.lit (.bool true)], args := [d1, d2] }
  | _ => none }
def fnExactSubtractVectorsRow : OpenClaim := { program := "ytcmhpdhcpkhejaa", sum := "3030c933adb8aab48bed70c8b9f8b9f7b7ccf272baf1c8b4ac2badd5f8d74226", func := "loop.example/g00822/laws.FnExactSubtractVectors", spec := "fnExactSubtractVectors", unfollowed := true, recurses := true, apart := false }
def FnExactSubtractVectorsSaid : Prop := fnExactSubtractVectorsRow.holds Try.pinned (OpenSpec.ofChange fnExactSubtractVectorsSpec)

/-- ITS FALSE NEIGHBOUR: 'it returns false'. Refute it at one input. -/
def fnExactSubtractVectorsWrong : ChangeSpec := { name := "fnExactSubtractVectors", fn := fun _ => fun
  | [d1, d2] => { results := [.lit (.bool false)], args := [d1, d2] }
  | _ => none }
def FnExactSubtractVectorsWrongFalsely : Prop := fnExactSubtractVectorsRow.holds Try.pinned (OpenSpec.ofChange fnExactSubtractVectorsWrong)

/-- 'laws.FnExactInnerProduct': WHATEVER THE INPUT: true; the input reads as it did. -/
def fnExactInnerProductSpec : ChangeSpec := { name := "fnExactInnerProduct", fn := fun _ => fun
  | [d1, d2] => { results := [.lit (.bool true)], args := [d1, d2] }
  | _ => none }
def fnExactInnerProductRow : OpenClaim := { program := "ytcmhpdhcpkhejaa", sum := "3030c933adb8aab48bed70c8b9f8b9f7b7ccf272baf1c8b4ac2badd5f8d74226", func := "loop.example/g00822/laws.FnExactInnerProduct", spec := "fnExactInnerProduct", apart := false }
def FnExactInnerProductSaid : Prop := fnExactInnerProductRow.holds Try.pinned (OpenSpec.ofChange fnExactInnerProductSpec)

/-- ITS FALSE NEIGHBOUR: 'it returns false'. Refute it at one input. -/
def fnExactInnerProductWrong : ChangeSpec := { name := "fnExactInnerProduct", fn := fun _ => fun
  | [d1, d2] => { results := [.lit (.bool false)], args := [d1, d2] }
  | _ => none }
def FnExactInnerProductWrongFalsely : Prop := fnExactInnerProductRow.holds Try.pinned (OpenSpec.ofChange fnExactInnerProductWrong)

/- THE SECOND FORM. 'bulk': how many values and letters a reading holds, each counted each time it is reached (what is shared counts as often as it is met; a slice's spare places count too). A statement '..UptoSaid' is the law's where the arguments, and the package variables that the reading takes, are together of bulk at most 1048576: NARROWER than '..Said'. Prove '..Said' where nothing that the law and all that it calls make is longer than what came in: it says more and counts as full. Else prove '..UptoSaid'. A law counts once. -/
mutual
def uptoBulk {H : Type} : DataW H → Nat
  | .lit (.string bytes) => bytes.length + 1
  | .lit _ => 1
  | .nil => 1
  | .ptr d => uptoBulk d + 1
  | .slice elems spare => uptoBulkAll elems + uptoBulkAll spare + 1
  | .agg parts => uptoBulkAll parts + 1
  | .iface _ d => uptoBulk d + 1
  | .map entries => uptoBulkEntries entries + 1
  | .held _ => 1
def uptoBulkAll {H : Type} : List (DataW H) → Nat
  | [] => 0
  | d :: r => uptoBulk d + uptoBulkAll r
def uptoBulkEntries {H : Type} : List (Lit × DataW H) → Nat
  | [] => 0
  | x :: r => uptoBulkEntry x + uptoBulkEntries r
def uptoBulkEntry {H : Type} : Lit × DataW H → Nat
  | (.string bytes, d) => bytes.length + uptoBulk d + 1
  | (_, d) => uptoBulk d + 1
 end
def uptoSmall : (H : Type) → List (DataW H) → Bool := fun _ ds => decide (uptoBulkAll ds ≤ 1048576)
def OpenSpec.upto (s : _root_.Go.ChangeSpec) : _root_.Go.OpenSpec := { _root_.Go.OpenSpec.ofChange s with cond := some uptoSmall }

/-- 'laws.FnExactEqualVectors', WHERE WHAT IT READS IS OF BULK AT MOST 1048576: true; the input reads as it did. -/
def fnExactEqualVectorsUptoRow : OpenClaim := { program := "ytcmhpdhcpkhejaa", sum := "3030c933adb8aab48bed70c8b9f8b9f7b7ccf272baf1c8b4ac2badd5f8d74226", func := "loop.example/g00822/laws.FnExactEqualVectors", spec := "fnExactEqualVectors", apart := false, narrowed := true }
def FnExactEqualVectorsUptoSaid : Prop := fnExactEqualVectorsUptoRow.holds Try.pinned (OpenSpec.upto fnExactEqualVectorsSpec)

/-- 'laws.FnExactZeroVector', WHERE WHAT IT READS IS OF BULK AT MOST 1048576: true; the input reads as it did. -/
def fnExactZeroVectorUptoRow : OpenClaim := { program := "ytcmhpdhcpkhejaa", sum := "3030c933adb8aab48bed70c8b9f8b9f7b7ccf272baf1c8b4ac2badd5f8d74226", func := "loop.example/g00822/laws.FnExactZeroVector", spec := "fnExactZeroVector", apart := false, narrowed := true }
def FnExactZeroVectorUptoSaid : Prop := fnExactZeroVectorUptoRow.holds Try.pinned (OpenSpec.upto fnExactZeroVectorSpec)

/-- 'laws.FnExactUnitVector', WHERE WHAT IT READS IS OF BULK AT MOST 1048576: true; the input reads as it did. -/
def fnExactUnitVectorUptoRow : OpenClaim := { program := "ytcmhpdhcpkhejaa", sum := "3030c933adb8aab48bed70c8b9f8b9f7b7ccf272baf1c8b4ac2badd5f8d74226", func := "loop.example/g00822/laws.FnExactUnitVector", spec := "fnExactUnitVector", apart := false, narrowed := true }
def FnExactUnitVectorUptoSaid : Prop := fnExactUnitVectorUptoRow.holds Try.pinned (OpenSpec.upto fnExactUnitVectorSpec)

/-- 'laws.FnExactIsVector', WHERE WHAT IT READS IS OF BULK AT MOST 1048576: true; the input reads as it did. -/
def fnExactIsVectorUptoRow : OpenClaim := { program := "ytcmhpdhcpkhejaa", sum := "3030c933adb8aab48bed70c8b9f8b9f7b7ccf272baf1c8b4ac2badd5f8d74226", func := "loop.example/g00822/laws.FnExactIsVector", spec := "fnExactIsVector", apart := false, narrowed := true }
def FnExactIsVectorUptoSaid : Prop := fnExactIsVectorUptoRow.holds Try.pinned (OpenSpec.upto fnExactIsVectorSpec)

/-- 'laws.FnExactScaleVector', WHERE WHAT IT READS IS OF BULK AT MOST 1048576: true; the input reads as it did. -/
def fnExactScaleVectorUptoRow : OpenClaim := { program := "ytcmhpdhcpkhejaa", sum := "3030c933adb8aab48bed70c8b9f8b9f7b7ccf272baf1c8b4ac2badd5f8d74226", func := "loop.example/g00822/laws.FnExactScaleVector", spec := "fnExactScaleVector", unfollowed := true, recurses := true, apart := false, narrowed := true }
def FnExactScaleVectorUptoSaid : Prop := fnExactScaleVectorUptoRow.holds Try.pinned (OpenSpec.upto fnExactScaleVectorSpec)

/-- 'laws.FnExactAddVectors', WHERE WHAT IT READS IS OF BULK AT MOST 1048576: true; the input reads as it did. -/
def fnExactAddVectorsUptoRow : OpenClaim := { program := "ytcmhpdhcpkhejaa", sum := "3030c933adb8aab48bed70c8b9f8b9f7b7ccf272baf1c8b4ac2badd5f8d74226", func := "loop.example/g00822/laws.FnExactAddVectors", spec := "fnExactAddVectors", unfollowed := true, recurses := true, apart := false, narrowed := true }
def FnExactAddVectorsUptoSaid : Prop := fnExactAddVectorsUptoRow.holds Try.pinned (OpenSpec.upto fnExactAddVectorsSpec)

/-- 'laws.FnExactSubtractVectors', WHERE WHAT IT READS IS OF BULK AT MOST 1048576: true; the input reads as it did. -/
def fnExactSubtractVectorsUptoRow : OpenClaim := { program := "ytcmhpdhcpkhejaa", sum := "3030c933adb8aab48bed70c8b9f8b9f7b7ccf272baf1c8b4ac2badd5f8d74226", func := "loop.example/g00822/laws.FnExactSubtractVectors", spec := "fnExactSubtractVectors", unfollowed := true, recurses := true, apart := false, narrowed := true }
def FnExactSubtractVectorsUptoSaid : Prop := fnExactSubtractVectorsUptoRow.holds Try.pinned (OpenSpec.upto fnExactSubtractVectorsSpec)

/-- 'laws.FnExactInnerProduct', WHERE WHAT IT READS IS OF BULK AT MOST 1048576: true; the input reads as it did. -/
def fnExactInnerProductUptoRow : OpenClaim := { program := "ytcmhpdhcpkhejaa", sum := "3030c933adb8aab48bed70c8b9f8b9f7b7ccf272baf1c8b4ac2badd5f8d74226", func := "loop.example/g00822/laws.FnExactInnerProduct", spec := "fnExactInnerProduct", apart := false, narrowed := true }
def FnExactInnerProductUptoSaid : Prop := fnExactInnerProductUptoRow.holds Try.pinned (OpenSpec.upto fnExactInnerProductSpec)

end Rows
end Go.Proofs.Ytcmhpdhcpkhejaa
