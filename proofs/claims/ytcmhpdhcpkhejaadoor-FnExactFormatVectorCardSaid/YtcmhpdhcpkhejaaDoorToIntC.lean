/- NatToInt, the program's and the reference's: one contract each. -/
import Derived.Test.YtcmhpdhcpkhejaaDoorNatTop
import Derived.Test.YtcmhpdhcpkhejaaDoorToInt
namespace Go.Proofs.YtcmhpdhcpkhejaaDoor
open Go.RowKit Lm

open Classical in
noncomputable def toIntN (xs : List Int) : Int := if OkP xs ∧ nv xs ≤ 9223372036854775807 then nv xs else 0
open Classical in
noncomputable def toIntB (xs : List Int) : Bool := decide (OkP xs ∧ nv xs ≤ 9223372036854775807)
open Classical in
theorem toInt_no {xs : List Int} (h : ¬ (OkP xs ∧ nv xs ≤ 9223372036854775807)) : toIntN xs = 0 ∧ toIntB xs = false := ⟨if_neg h, decide_eq_false h⟩
open Classical in
theorem toInt_yes {xs : List Int} (h : OkP xs ∧ nv xs ≤ 9223372036854775807) : toIntN xs = nv xs ∧ toIntB xs = true := ⟨if_pos h, decide_eq_true h⟩

theorem specNatToInt_c (w : World) (b1 : Nat) (v1 : Value) (xs : List Int) (h1 : Own w b1 v1 xs) : Calls Tryd.prog 47 #[v1] w (RetIB w (toIntN xs) (toIntB xs)) := by
  by_cases hx : OkP xs
  · by_cases hc : nv xs ≤ 9223372036854775807
    · obtain ⟨e1, e2⟩ := toInt_yes ⟨hx, hc⟩
      rw [e1, e2]
      obtain ⟨a, rfl, hl1⟩ := ok_limbs hx
      rw [nv_limbs] at hc ⊢
      exact specNatToInt_ok w b1 v1 a h1 (by omega)
    · obtain ⟨e1, e2⟩ := toInt_no (fun h => hc h.2)
      rw [e1, e2]
      obtain ⟨a, rfl, hl1⟩ := ok_limbs hx
      rw [nv_limbs] at hc
      exact specNatToInt_big w b1 v1 a h1 hl1 (by omega)
  · obtain ⟨e1, e2⟩ := toInt_no (fun h => hx h.1)
    rw [e1, e2]
    exact specNatToInt_bad w b1 v1 xs h1 hx
end Go.Proofs.YtcmhpdhcpkhejaaDoor
