/- NatToInt: the reference's and the program's. -/
import Derived.Test.YtijeplcjbhkkoaaDoorNatOk
import Derived.Test.YtijeplcjbhkkoaaDoorSpecM
namespace Go.Proofs.YtijeplcjbhkkoaaDoor
open Go.RowKit Lm

/-- An int and a bool. -/
def RetIB (w : World) (n : Int) (b : Bool) (e : Ending) (w' : World) : Prop := e = .returned (.tuple #[.int .i64 n, .bool b]) ∧ Below w.heap.size w w'
theorem retIB {w w' : World} {n m : Int} {b c : Bool} (h : m = n) (k : c = b) (hb : Below w.heap.size w w') : RetIB w n b (.returned (.tuple #[.int .i64 m, .bool c])) w' := ⟨by rw [h, k], hb⟩

theorem maxLimbs : [(854775807 : Int), 223372036, 9] = limbs 9223372036854775807 := by
  refine Norm.limbs ⟨InR.cons (by omega) (by omega) (InR.cons (by omega) (by omega) (InR.cons (by omega) (by omega) InR.nil)), .inr ?_⟩ ?_
  · decide
  · decide
theorem Own.lit3 (w : World) (x y z : Int) : Own (w.alloc (.cells #[.int .i64 x, .int .i64 y, .int .i64 z] 3)) w.heap.size (.slice (some ⟨w.heap.size, 0, none⟩) 3 3) [x, y, z] :=
  World.ownsRow_lit w #[.int .i64 x, .int .i64 y, .int .i64 z] 3 (Nat.le_refl _) (by unfold maxLen; omega) rfl

end Go.Proofs.YtijeplcjbhkkoaaDoor
