/- The reference's drawn arguments: MakeNum, MakeNat. -/
import Derived.Test.YtijeplcjbhkkoaaDoorCur
import Derived.Test.YtijeplcjbhkkoaaDoorSpecM
namespace Go.Proofs.YtijeplcjbhkkoaaDoor
open Go.RowKit Lm

/-- An int within bounds. -/
def RetW (w : World) (lo hi : Int) (e : Ending) (w' : World) : Prop := ∃ x : Int, e = .returned (.int .i64 x) ∧ lo ≤ x ∧ x ≤ hi ∧ Below w.heap.size w w'
set_option maxHeartbeats 1000000 in
theorem makeNum_c (w : World) (v : Value) (x : List UInt8) (n : Int) (hr : RdY w w.heap.size v x) (hn : n ≤ 1000000) : Calls Tryd.prog 5 #[v, .int .i64 n] w (RetW w 0 65535) := by
  have HR := Lib.hid hr
  clear hr
  go_enter Tryd.func5, Tryd.ntmps5
  go_wp2_with fail
  refine (l30New_c _ v x n HR.out hn).mono ?_
  rintro e w1 ⟨g, rfl, hg0, hg1, hc, hb⟩
  have HC := Lib.hid hc
  have B1 := hb
  clear hc hb
  go_wp2_with fail
  refine (l01Byte_c _ g HC.out).mono ?_
  rintro e w2 ⟨y, rfl, y0, y1, hc, hg⟩
  have HC2 := Lib.hid hc
  have B2 := B1.grown hg B1.size (fun k hk => by injection hk with hk; omega)
  clear hc hg HC B1
  go_wp2_with fail
  refine (l01Byte_c _ g HC2.out).mono ?_
  rintro e w3 ⟨z, rfl, z0, z1, hc, hg⟩
  have B3 := B2.grown hg B2.size (fun k hk => by injection hk with hk; omega)
  clear hc hg HC2 B2
  go_wp2
  go_ret
  exact ⟨_, rfl, by omega, by omega, B3⟩

end Go.Proofs.YtijeplcjbhkkoaaDoor
