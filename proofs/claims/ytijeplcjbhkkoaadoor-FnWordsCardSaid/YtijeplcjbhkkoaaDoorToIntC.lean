/- NatToInt, the program's and the reference's: one contract each. -/
import Derived.Test.YtijeplcjbhkkoaaDoorNatTop
import Derived.Test.YtijeplcjbhkkoaaDoorToInt
namespace Go.Proofs.YtijeplcjbhkkoaaDoor
open Go.RowKit Lm

open Classical in
noncomputable def toIntN (xs : List Int) : Int := if OkP xs ∧ nv xs ≤ 9223372036854775807 then nv xs else 0
open Classical in
noncomputable def toIntB (xs : List Int) : Bool := decide (OkP xs ∧ nv xs ≤ 9223372036854775807)
open Classical in
theorem toInt_no {xs : List Int} (h : ¬ (OkP xs ∧ nv xs ≤ 9223372036854775807)) : toIntN xs = 0 ∧ toIntB xs = false := ⟨if_neg h, decide_eq_false h⟩
open Classical in
theorem toInt_yes {xs : List Int} (h : OkP xs ∧ nv xs ≤ 9223372036854775807) : toIntN xs = nv xs ∧ toIntB xs = true := ⟨if_pos h, decide_eq_true h⟩

end Go.Proofs.YtijeplcjbhkkoaaDoor
