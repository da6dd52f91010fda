/- The reference's fractions: RatAdd, RatSub, RatNeg, RatMin, RatMax. -/
import Derived.Test.YtcmhpdhcpkhejaaRatU
namespace Go.Proofs.Ytcmhpdhcpkhejaa
open Go.RowKit Lm

theorem l04Add_c (w : World) (b1 e1 : Nat) (v1 u1 : Value) (x : Int) (d : Nat) (h1 : Own w b1 v1 (limbs x.natAbs)) (k1 : Own w e1 u1 (limbs d)) (b2 e2 : Nat) (v2 u2 : Value) (y : Int) (f : Nat) (h2 : Own w b2 v2 (limbs y.natAbs)) (k2 : Own w e2 u2 (limbs f)) (hq : IsQ0 x d) (hk : IsQ0 y f) (z : Int) (e : Nat) (hz : z = (qadd x d y f).1) (he : e = (qadd x d y f).2) :
    Calls Try.prog 58 #[.agg #[.bool (ng x), v1, u1], .agg #[.bool (ng y), v2, u2]] w (RetQ w z e) := by
  obtain ⟨l1, l2⟩ := hq.len
  obtain ⟨l3, l4⟩ := hk.len
  by_cases hd : d = 1
  · by_cases hf : f = 1
    · subst hd; subst hf
      have e0 : qadd x 1 y 1 = qlow (x + y) 1 := by
        unfold qadd
        rw [show x * ((1 : Nat) : Int) + y * ((1 : Nat) : Int) = x + y by omega, Nat.mul_one]
      rw [e0] at hz he
      exact l04Add_w w b1 e1 v1 u1 x h1 k1 b2 e2 v2 u2 y h2 k2 l1 l3 z e hz he
    · exact l04Add_2 w b1 e1 v1 u1 x d h1 k1 b2 e2 v2 u2 y f h2 k2 hd hf l1 l2 l3 l4 z e hz he
  · exact l04Add_1 w b1 e1 v1 u1 x d h1 k1 b2 e2 v2 u2 y f h2 k2 hd l1 l2 l3 l4 z e hz he

end Go.Proofs.Ytcmhpdhcpkhejaa
