/- What the laws' walks share: marks and checks of marks, by name. -/
import Derived.Test.YtcmhpdhcpkhejaaDoorLawI
namespace Go.Proofs.YtcmhpdhcpkhejaaDoor
open Go.RowKit Lm

theorem Apart.ne {v u : Value} (h : Apart v u) : v.ownBlock = none ∨ v.ownBlock ≠ u.ownBlock := by
  rcases hv : v.ownBlock with _ | k
  · exact .inl rfl
  · exact .inr fun e => h k hv e.symm
theorem Own.marked {w w' : World} {base : Nat} {u v : Value} {xs : List Int} (h : Own w base u xs) (hg : w.grownBy w' v.ownBlock) (ha : Apart u v) : Own w' base u xs := h.grown hg ha.ne

/-- The row of v is marked from k on, up to m. -/
def RetMk (w : World) (base : Nat) (v : Value) (k : Int) (n : Nat) (e : Ending) (w' : World) : Prop := ∃ m : Int, k + n = m ∧ e = .returned (.int .i64 m) ∧ Own w' base v (iota k n) ∧ w.grownBy w' v.ownBlock
end Go.Proofs.YtcmhpdhcpkhejaaDoor
