/- The reference's functions on natural numbers: l02Add. -/
import Derived.Test.YtcajdlpbdihbeaaDoorSpecC
namespace Go.Proofs.YtcajdlpbdihbeaaDoor
open Go.RowKit Lm

/-- A new slice of limbs in range, perhaps with zero limbs at its end, that stands for n. -/
def RetO (w : World) (n m : Nat) (e : Ending) (w' : World) : Prop := ∃ v o, e = .returned v ∧ Own w' w.heap.size v o ∧ InR o ∧ nv o = n ∧ o.length ≤ m ∧ Below w.heap.size w w'
theorem retO {w w' : World} {v : Value} {o : List Int} {n m : Nat} (h : Own w' w.heap.size v o) (hi : InR o) (hn : nv o = n) (hl : o.length ≤ m) (hb : Below w.heap.size w w') : RetO w n m (.returned v) w' := ⟨v, o, rfl, h, hi, hn, hl, hb⟩

end Go.Proofs.YtcajdlpbdihbeaaDoor
