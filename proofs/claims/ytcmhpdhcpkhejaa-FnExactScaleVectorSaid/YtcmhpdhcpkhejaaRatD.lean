/- The program's fractions: the exported functions. -/
import Derived.Test.YtcmhpdhcpkhejaaRatC
namespace Go.Proofs.Ytcmhpdhcpkhejaa
open Go.RowKit Lm

theorem mul_inv (w : World) (b1 e1 : Nat) (v1 u1 : Value) (x : Int) (d : Nat) (h1 : Own w b1 v1 (limbs x.natAbs)) (k1 : Own w e1 u1 (limbs d)) (b2 e2 : Nat) (v2 u2 : Value) (y : Int) (f : Nat) (h2 : Own w b2 v2 (limbs f)) (k2 : Own w e2 u2 (limbs y.natAbs)) (hq : Hid (IsQ x d)) (hi : Hid (IsQ (sgnd y f) y.natAbs)) (hs : Hid (ng (sgnd y f) = ng y)) (z : Int) (e : Nat) (hz : Hid (z = (qdiv x d y f).1)) (he : Hid (e = (qdiv x d y f).2)) :
    Calls Try.prog 85 #[.agg #[.bool (ng x), v1, u1], .agg #[.bool (ng y), v2, u2]] w (RetQ w z e) := by
  rw [← hs.out]
  exact mul_c w b1 e1 v1 u1 x d h1 k1 b2 e2 v2 u2 (sgnd y f) y.natAbs (by rw [sgnd_abs]; exact h2) k2 (.inl hq.out) (.inl hi.out) z e hz.out he.out

noncomputable def qneg (z : Int) (d : Nat) : Int × Nat := (-z, d)
theorem qneg_len (z : Int) (d : Nat) (h : IsQ z d) : (limbs (qneg z d).1.natAbs).length ≤ 1000 ∧ (limbs (qneg z d).2).length ≤ 1000 := isQ_len (isQ_neg h)
end Go.Proofs.Ytcmhpdhcpkhejaa
