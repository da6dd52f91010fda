/- What the functions on vectors answer, in plain words. -/
import Derived.Test.YtcmhpdhcpkhejaaVecN
import Derived.Test.YtcmhpdhcpkhejaaRatE
import Derived.Test.YtcmhpdhcpkhejaaRatW
namespace Go.Proofs.Ytcmhpdhcpkhejaa
open Go.RowKit Lm

def OkRc (r : Rc) : Prop := OkR r.s r.xs r.ys
/-- A valid vector. -/
def OkV (n : Nat) (R : Nat → Rc) : Prop := n ≤ 24 ∧ ∀ i, i < n → OkRc (R i)
open Classical in
noncomputable def okVB (n : Nat) (R : Nat → Rc) : Bool := decide (OkV n R)
theorem okVB_t {n : Nat} {R : Nat → Rc} (h : OkV n R) : okVB n R = true := by simp only [okVB, decide_eq_true_eq]; exact h
theorem okVB_f {n : Nat} {R : Nat → Rc} (h : ¬ OkV n R) : okVB n R = false := by simp only [okVB, decide_eq_false_iff_not]; exact h
def reqR (r q : Rc) : Bool := reqB r.s r.xs r.ys q.s q.xs q.ys
theorem reqR_iff {r q : Rc} : reqR r q = true ↔ r = q := by
  obtain ⟨s, xs, ys⟩ := r
  obtain ⟨t, zs, ws⟩ := q
  simp only [reqR, reqB, Bool.and_eq_true, beq_iff_eq, decide_eq_true_eq, Rc.mk.injEq, and_assoc]
/-- All elements are equal. -/
def eqVB (n : Nat) (A : Nat → Rc) (m : Nat) (B : Nat → Rc) : Bool := decide (n = m) && (List.range n).all fun i => reqR (A i) (B i)
theorem eqVB_len {n m : Nat} {A B : Nat → Rc} (h : n ≠ m) : eqVB n A m B = false := by unfold eqVB; rw [decide_eq_false h]; rfl
theorem eqVB_t {n : Nat} {A B : Nat → Rc} (h : ∀ i, i < n → reqR (A i) (B i) = true) : eqVB n A n B = true := by
  unfold eqVB
  rw [decide_eq_true rfl, Bool.true_and, List.all_eq_true]
  intro i hi
  exact h i (List.mem_range.1 hi)
theorem eqVB_f {n i : Nat} {A B : Nat → Rc} (hi : i < n) (h : reqR (A i) (B i) = false) : eqVB n A n B = false := by
  rw [Bool.eq_false_iff]
  intro e
  unfold eqVB at e
  rw [Bool.and_eq_true, List.all_eq_true] at e
  have := e.2 i (List.mem_range.2 hi)
  rw [h] at this
  exact absurd this (by simp)

/-- A fraction's reading. -/
def qv (z : Int) (d : Nat) : Rc := ⟨ng z, limbs z.natAbs, limbs d⟩
def numR (r : Rc) : Int := zv r.s r.xs
def denR (r : Rc) : Nat := (nv r.ys).toNat
theorem okRc_q {r : Rc} (h : OkRc r) : r = qv (numR r) (denR r) ∧ IsQ (numR r) (denR r) := by
  obtain ⟨s, xs, ys⟩ := r
  obtain ⟨z, d, h1, h2, h3, h4, h5, h6⟩ := okR_q (show OkR s xs ys from h)
  have e1 : numR ⟨s, xs, ys⟩ = z := h5
  have e2 : denR ⟨s, xs, ys⟩ = d := h6
  rw [e1, e2]
  exact ⟨by rw [h1, h2, h3]; rfl, h4⟩
theorem okRc_of {z : Int} {d : Nat} (h : IsQ z d) : OkRc (qv z d) := okR_of h

/-- None of the first n fractions is too large. -/
def fineB (D : Nat → Nat) (n : Nat) : Bool := (List.range n).all fun i => decide (0 < D i)
theorem fineB_t {D : Nat → Nat} {n : Nat} (h : ∀ i, i < n → 0 < D i) : fineB D n = true := by
  unfold fineB; rw [List.all_eq_true]; intro i hi; exact decide_eq_true (h i (List.mem_range.1 hi))
theorem fineB_f {D : Nat → Nat} {n i : Nat} (hi : i < n) (h : D i = 0) : fineB D n = false := by
  rw [Bool.eq_false_iff]; intro e
  unfold fineB at e
  rw [List.all_eq_true] at e
  have := of_decide_eq_true (e i (List.mem_range.2 hi))
  omega

end Go.Proofs.Ytcmhpdhcpkhejaa
