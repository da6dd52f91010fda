/- What the laws' walks on vectors share. -/
import Derived.Test.YtcmhpdhcpkhejaaVecW
namespace Go.Proofs.Ytcmhpdhcpkhejaa
open Go.RowKit Lm

theorem sumK_shift (R : Nat → Rc) (k : Int) (n : Nat) : sumK R k n = sumK R 0 n + k := by
  induction n with
  | zero => simp [sumK]
  | succ n ih => simp only [sumK]; omega
theorem sumK_le (R : Nat → Rc) (n : Nat) (b : Nat) (h : ∀ i, i < n → (R i).xs.length + (R i).ys.length ≤ b) : sumK R 0 n ≤ (n * (b + 1) : Nat) := by
  induction n with
  | zero => simp [sumK]
  | succ n ih =>
    have h1 := ih fun i hi => h i (by omega)
    have h2 := h n (by omega)
    have h3 : (n + 1) * (b + 1) = n * (b + 1) + (b + 1) := by rw [Nat.add_mul, Nat.one_mul]
    simp only [sumK]
    omega
def RetMW (w : World) (lo hi : Nat) (v : Value) (n : Nat) (R : Nat → Rc) (k N : Int) (e : Ending) (w' : World) : Prop :=
  ∃ m : Int, e = .returned (.int .i64 m) ∧ 0 ≤ m ∧ m ≤ k + N ∧ sumK R k n = m ∧ Vec w' lo hi v n (mkR R k) ∧ Within lo hi w w'
theorem markV_c (w : World) (lo hi : Nat) (v1 : Value) (n : Nat) (R : Nat → Rc) (k N : Int) (h1 : Vec w lo hi v1 n R) (hk0 : 0 ≤ k) (hN : sumK R 0 n ≤ N) (hb : k + N ≤ 17592186044415) :
    Calls Try.prog 18 #[v1, .int .i64 k] w (RetMW w lo hi v1 n R k N) := by
  have e := sumK_shift R k n
  have h2 := sumK_ge R n
  refine (markRatS_c w lo hi v1 n R k h1 hk0 (by omega)).mono ?_
  rintro e w' ⟨m, hm, rfl, hv, hw⟩
  exact ⟨m, rfl, by omega, by omega, hm, hv, hw⟩

end Go.Proofs.Ytcmhpdhcpkhejaa
