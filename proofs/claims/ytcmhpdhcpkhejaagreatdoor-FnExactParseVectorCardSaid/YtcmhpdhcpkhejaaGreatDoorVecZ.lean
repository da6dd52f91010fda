/- Merged texts. -/
import Derived.Test.YtcmhpdhcpkhejaaGreatDoorVecG
import Derived.Test.YtcmhpdhcpkhejaaGreatDoorFrame
import Derived.Deep.Slices

/- A slice of the laws' fractions that came in, opened. -/
namespace Go.Proofs.YtcmhpdhcpkhejaaGreatDoor
open Go.ChangeShapes Go.WideShapes Go.ChangeAt Go.RowKit Lm Go.Deep

end Go.Proofs.YtcmhpdhcpkhejaaGreatDoor

/- What the laws' walks on vectors share. -/
namespace Go.Proofs.YtcmhpdhcpkhejaaGreatDoor
open Go.RowKit Lm

theorem sumK_shift (R : Nat → Rc) (k : Int) (n : Nat) : sumK R k n = sumK R 0 n + k := by
  induction n with
  | zero => simp [sumK]
  | succ n ih => simp only [sumK]; omega
theorem sumK_le (R : Nat → Rc) (n : Nat) (b : Nat) (h : ∀ i, i < n → (R i).xs.length + (R i).ys.length ≤ b) : sumK R 0 n ≤ (n * (b + 1) : Nat) := by
  induction n with
  | zero => simp [sumK]
  | succ n ih =>
    have h1 := ih fun i hi => h i (by omega)
    have h2 := h n (by omega)
    have h3 : (n + 1) * (b + 1) = n * (b + 1) + (b + 1) := by rw [Nat.add_mul, Nat.one_mul]
    simp only [sumK]
    omega
def RetMW (w : World) (lo hi : Nat) (v : Value) (n : Nat) (R : Nat → Rc) (k N : Int) (e : Ending) (w' : World) : Prop :=
  ∃ m : Int, e = .returned (.int .i64 m) ∧ 0 ≤ m ∧ m ≤ k + N ∧ sumK R k n = m ∧ Vec w' lo hi v n (mkR R k) ∧ Within lo hi w w'
theorem markV_c (w : World) (lo hi : Nat) (v1 : Value) (n : Nat) (R : Nat → Rc) (k N : Int) (h1 : Vec w lo hi v1 n R) (hk0 : 0 ≤ k) (hN : sumK R 0 n ≤ N) (hb : k + N ≤ 17592186044415) :
    Calls Tryz.prog 20 #[v1, .int .i64 k] w (RetMW w lo hi v1 n R k N) := by
  have e := sumK_shift R k n
  have h2 := sumK_ge R n
  refine (markRatS_c w lo hi v1 n R k h1 hk0 (by omega)).mono ?_
  rintro e w' ⟨m, hm, rfl, hv, hw⟩
  exact ⟨m, rfl, by omega, by omega, hm, hv, hw⟩

/-! Single fractions, with the range of their blocks. -/
def RatF (w : World) (lo hi : Nat) (s : Bool) (u d : Value) (xs ys : List Int) : Prop := hi ≤ w.heap.size ∧ EntF w lo hi ⟨s, u, d⟩ ⟨s, xs, ys⟩ ∧ Apart u d
theorem RatF.num {w : World} {lo hi : Nat} {s : Bool} {u d : Value} {xs ys : List Int} (h : RatF w lo hi s u d xs ys) : Own w lo u xs := h.2.1.num
theorem RatF.den {w : World} {lo hi : Nat} {s : Bool} {u d : Value} {xs ys : List Int} (h : RatF w lo hi s u d xs ys) : Own w lo d ys := h.2.1.den
theorem RatF.bel {w w' : World} {lo hi : Nat} {s : Bool} {u d : Value} {xs ys : List Int} (h : RatF w lo hi s u d xs ys) (hb : Below w.heap.size w w') : RatF w' lo hi s u d xs ys :=
  ⟨Nat.le_trans h.1 hb.size, h.2.1.same fun k _ hk => hb.block k (Nat.lt_of_lt_of_le hk h.1), h.2.2⟩
theorem RatF.within {w w' : World} {lo hi l2 h2 : Nat} {s : Bool} {u d : Value} {xs ys : List Int} (h : RatF w lo hi s u d xs ys) (hw : Within l2 h2 w w') (hd : hi ≤ l2 ∨ h2 ≤ lo) : RatF w' lo hi s u d xs ys :=
  ⟨Nat.le_trans h.1 hw.size, h.2.1.same fun k hk hl => hw.block k (Nat.lt_of_lt_of_le hl h.1) (by omega), h.2.2⟩
theorem RatF.of {w w' : World} {s : Bool} {u d : Value} {xs ys : List Int} (h1 : Own w' w.heap.size u xs) (h2 : Own w' w.heap.size d ys) (ha : Apart u d) : RatF w' w.heap.size w'.heap.size s u d xs ys :=
  ⟨Nat.le_refl _, ⟨rfl, h1, h2, fun k hk => (h1.lt k hk).2, fun k hk => (h2.lt k hk).2⟩, ha⟩
theorem RatF.form {w : World} {lo hi : Nat} {s : Bool} {u d : Value} {xs ys : List Int} (h : RatF w lo hi s u d xs ys) : ∃ a c b e, u = .slice a xs.length c ∧ d = .slice b ys.length e := by
  obtain ⟨a, c, h1, -⟩ := h.num.form
  obtain ⟨b, e, h2, -⟩ := h.den.form
  exact ⟨a, c, b, e, h1, h2⟩
def RetMQ (w : World) (lo hi : Nat) (s : Bool) (u d : Value) (n m : Nat) (k N : Int) (e : Ending) (w' : World) : Prop :=
  ∃ r : Int, e = .returned (.int .i64 r) ∧ 0 ≤ r ∧ r ≤ k + N ∧ k + n + m = r ∧ RatF w' lo hi s u d (iota k n) (iota (k + n) m) ∧ Within lo hi w w'
def RetSzR (w : World) (n m : Nat) (l : Int) (e : Ending) (w' : World) : Prop := ∃ r : Int, e = .returned (.int .i64 r) ∧ r ≤ l ∧ (0 ≤ r → r + n + m = l) ∧ Below w.heap.size w w'
end Go.Proofs.YtcmhpdhcpkhejaaGreatDoor
