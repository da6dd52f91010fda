/- What the functions on fractions answer, in plain numbers. -/
import Derived.Test.YtcmhpdhcpkhejaaDoorRatA
namespace Go.Proofs.YtcmhpdhcpkhejaaDoor
open Go.RowKit Lm

noncomputable def qlow (z : Int) (d : Nat) : Int × Nat := (lowZ z d, lowD z d)
noncomputable def qadd (z : Int) (d : Nat) (y : Int) (f : Nat) : Int × Nat := qlow (z * f + y * d) (d * f)
noncomputable def qsub (z : Int) (d : Nat) (y : Int) (f : Nat) : Int × Nat := qadd z d (-y) f
noncomputable def qmul (z : Int) (d : Nat) (y : Int) (f : Nat) : Int × Nat := qlow (z * y) (d * f)
/-- With y's sign. -/
def sgnd (y : Int) (f : Nat) : Int := if y < 0 then -(f : Int) else f
noncomputable def qdiv (z : Int) (d : Nat) (y : Int) (f : Nat) : Int × Nat := qlow (z * sgnd y f) (d * y.natAbs)
open Classical in
/-- An operation on two fractions that are valid; else 0 / 0. -/
noncomputable def q2 (op : Int → Nat → Int → Nat → Int × Nat) (s : Bool) (xs ys : List Int) (t : Bool) (zs ws : List Int) : Int × Nat :=
  if OkR s xs ys ∧ OkR t zs ws then op (zv s xs) (nv ys).toNat (zv t zs) (nv ws).toNat else (0, 0)
open Classical in
noncomputable def q1 (op : Int → Nat → Int × Nat) (s : Bool) (xs ys : List Int) : Int × Nat := if OkR s xs ys then op (zv s xs) (nv ys).toNat else (0, 0)
open Classical in
noncomputable def qi2 (op : Int → Nat → Int → Nat → Int) (s : Bool) (xs ys : List Int) (t : Bool) (zs ws : List Int) : Int :=
  if OkR s xs ys ∧ OkR t zs ws then op (zv s xs) (nv ys).toNat (zv t zs) (nv ws).toNat else 0
def qcmp (z : Int) (d : Nat) (y : Int) (f : Nat) : Int := cmp3 (z * f) (y * d)
def qmin (z : Int) (d : Nat) (y : Int) (f : Nat) : Int × Nat := if qcmp z d y f ≤ 0 then (z, d) else (y, f)
def qmax (z : Int) (d : Nat) (y : Int) (f : Nat) : Int × Nat := if 0 ≤ qcmp z d y f then (z, d) else (y, f)
open Classical in
noncomputable def okRB (s : Bool) (xs ys : List Int) : Bool := decide (OkR s xs ys)
open Classical in
noncomputable def rsgn (s : Bool) (xs ys : List Int) : Int := if OkR s xs ys then (if zv s xs < 0 then -1 else if 0 < zv s xs then 1 else 0) else 0
open Classical in
/-- RatMake. -/
noncomputable def rmake (s : Bool) (xs : List Int) (t : Bool) (ys : List Int) : Int × Nat := if OkG s xs ∧ OkG t ys then qlow (if zv t ys < 0 then -(zv s xs) else zv s xs) (zv t ys).natAbs else (0, 0)
def reqB (s : Bool) (xs ys : List Int) (t : Bool) (zs ws : List Int) : Bool := s == t && decide (xs = zs) && decide (ys = ws)

theorem qlow_len (z : Int) (d : Nat) : (limbs (qlow z d).1.natAbs).length ≤ 1000 ∧ (limbs (qlow z d).2).length ≤ 1000 := by
  have := (low_isQ0 z d).len
  exact ⟨Nat.le_trans this.1 (by omega), Nat.le_trans this.2 (by omega)⟩
theorem qnil_len : (limbs ((0, 0) : Int × Nat).1.natAbs).length ≤ 1000 ∧ (limbs ((0, 0) : Int × Nat).2).length ≤ 1000 := ⟨limbs_len0, limbs_len0⟩
theorem q2_len {op : Int → Nat → Int → Nat → Int × Nat} (h : ∀ z d y f, IsQ z d → IsQ y f → (limbs (op z d y f).1.natAbs).length ≤ 1000 ∧ (limbs (op z d y f).2).length ≤ 1000) (s : Bool) (xs ys : List Int) (t : Bool) (zs ws : List Int) :
    (limbs (q2 op s xs ys t zs ws).1.natAbs).length ≤ 1000 ∧ (limbs (q2 op s xs ys t zs ws).2).length ≤ 1000 := by
  unfold q2; split
  · next hh =>
    obtain ⟨z, d, rfl, rfl, rfl, h1, e1, e2⟩ := okR_q hh.1
    obtain ⟨y, f, rfl, rfl, rfl, h2, e3, e4⟩ := okR_q hh.2
    rw [e1, e2, e3, e4]; exact h z d y f h1 h2
  · exact qnil_len
theorem isQ_len {z : Int} {d : Nat} (h : IsQ z d) : (limbs (z, d).1.natAbs).length ≤ 1000 ∧ (limbs (z, d).2).length ≤ 1000 :=
  ⟨Nat.le_trans h.2.2.1 (by omega), Nat.le_trans h.2.2.2 (by omega)⟩
theorem qmin_len (z : Int) (d : Nat) (y : Int) (f : Nat) (h : IsQ z d) (k : IsQ y f) : (limbs (qmin z d y f).1.natAbs).length ≤ 1000 ∧ (limbs (qmin z d y f).2).length ≤ 1000 := by
  unfold qmin; split
  · exact isQ_len h
  · exact isQ_len k
theorem qmax_len (z : Int) (d : Nat) (y : Int) (f : Nat) (h : IsQ z d) (k : IsQ y f) : (limbs (qmax z d y f).1.natAbs).length ≤ 1000 ∧ (limbs (qmax z d y f).2).length ≤ 1000 := by
  unfold qmax; split
  · exact isQ_len h
  · exact isQ_len k
theorem q1_len {op : Int → Nat → Int × Nat} (h : ∀ z d, IsQ z d → (limbs (op z d).1.natAbs).length ≤ 1000 ∧ (limbs (op z d).2).length ≤ 1000) (s : Bool) (xs ys : List Int) :
    (limbs (q1 op s xs ys).1.natAbs).length ≤ 1000 ∧ (limbs (q1 op s xs ys).2).length ≤ 1000 := by
  unfold q1; split
  · next hh =>
    obtain ⟨z, d, rfl, rfl, rfl, h1, e1, e2⟩ := okR_q hh
    rw [e1, e2]; exact h z d h1
  · exact qnil_len
theorem rmake_len (s : Bool) (xs : List Int) (t : Bool) (ys : List Int) : (limbs (rmake s xs t ys).1.natAbs).length ≤ 1000 ∧ (limbs (rmake s xs t ys).2).length ≤ 1000 := by
  unfold rmake; split
  · exact qlow_len _ _
  · exact qnil_len

theorem isQ_neg {z : Int} {d : Nat} (h : IsQ z d) : IsQ (-z) d := by
  unfold IsQ; rw [Int.natAbs_neg]; exact h
theorem isQ0_neg {z : Int} {d : Nat} (h : IsQ0 z d) : IsQ0 (-z) d := by
  rcases h with h | ⟨rfl, rfl⟩
  · exact .inl (isQ_neg h)
  · exact .inr ⟨rfl, rfl⟩
theorem sgnd_abs (y : Int) (f : Nat) : (sgnd y f).natAbs = f := by unfold sgnd; split <;> simp
theorem sgnd_ng {y : Int} {f : Nat} (hf : 0 < f) : ng (sgnd y f) = ng y := by
  unfold sgnd; split
  · next h => rw [ng_neg (by omega), ng_neg h]
  · next h => rw [ng_nonneg (by omega), ng_nonneg (by omega)]
/-- The fraction turned over. -/
theorem isQ_inv {y : Int} {f : Nat} (h : IsQ y f) (h0 : y ≠ 0) : IsQ (sgnd y f) y.natAbs := by
  obtain ⟨h1, h2, h3, h4⟩ := h
  refine ⟨by omega, by rw [sgnd_abs, Nat.gcd_comm]; exact h2, by rw [sgnd_abs]; exact h4, h3⟩
theorem qadd_same (z y : Int) (d : Nat) : qadd z d y d = qlow (z + y) d ∨ d = 0 := by
  rcases Nat.eq_zero_or_pos d with h | h
  · exact .inr h
  · left
    unfold qadd qlow
    rw [← Int.add_mul, (low_scale (z + y) d h).1, (low_scale (z + y) d h).2]
theorem low_den0 (z : Int) : lowZ z 0 = 0 ∧ lowD z 0 = 0 := low_no (fun h => by have := h.1; omega)

end Go.Proofs.YtcmhpdhcpkhejaaDoor
