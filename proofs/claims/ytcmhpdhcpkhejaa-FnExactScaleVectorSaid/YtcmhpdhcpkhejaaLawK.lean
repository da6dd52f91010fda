/- What the laws' walks share: marks and checks of marks, by name. -/
import Derived.Test.YtcmhpdhcpkhejaaLawI
namespace Go.Proofs.Ytcmhpdhcpkhejaa
open Go.RowKit Lm

theorem Apart.ne {v u : Value} (h : Apart v u) : v.ownBlock = none ∨ v.ownBlock ≠ u.ownBlock := by
  rcases hv : v.ownBlock with _ | k
  · exact .inl rfl
  · exact .inr fun e => h k hv e.symm
theorem Own.marked {w w' : World} {base : Nat} {u v : Value} {xs : List Int} (h : Own w base u xs) (hg : w.grownBy w' v.ownBlock) (ha : Apart u v) : Own w' base u xs := h.grown hg ha.ne

/-- The row of v is marked from k on, up to m. -/
def RetMk (w : World) (base : Nat) (v : Value) (k : Int) (n : Nat) (e : Ending) (w' : World) : Prop := ∃ m : Int, k + n = m ∧ e = .returned (.int .i64 m) ∧ Own w' base v (iota k n) ∧ w.grownBy w' v.ownBlock
theorem markI_c (w : World) (b1 : Nat) (v1 : Value) (xs : List Int) (k : Int) (h1 : Own w b1 v1 xs) (hl : xs.length ≤ 17592186044415) (hk0 : 0 ≤ k) (hk1 : k ≤ 17592186044415) :
    Calls Try.prog 42 #[v1, .int .i64 k] w (RetMk w b1 v1 k xs.length) :=
  (markIntS_c w b1 v1 xs k h1 hl hk0 hk1).mono fun _ _ ⟨he, ho, hg⟩ => ⟨_, rfl, he, ho, hg⟩
theorem heldI_c (w : World) (b1 : Nat) (v1 : Value) (n : Nat) (k m : Int) (h1 : Own w b1 v1 (iota k n)) (hl : n ≤ 17592186044415) (hk0 : 0 ≤ k) (hk1 : k ≤ 17592186044415) (hm : k + n = m) :
    Calls Try.prog 43 #[v1, .int .i64 k] w (RetI w m) := by
  subst hm
  exact heldIntS_c w b1 v1 n k h1 hl hk0 hk1

end Go.Proofs.Ytcmhpdhcpkhejaa
