/- Merged texts. -/
import Derived.Test.YtijeplcjbhkkoaaGreatDoorVecG
import Derived.Test.YtijeplcjbhkkoaaGreatDoorRatG

/- What the functions on vectors answer, in plain words. -/
namespace Go.Proofs.YtijeplcjbhkkoaaGreatDoor
open Go.RowKit Lm

def OkRc (r : Rc) : Prop := OkR r.s r.xs r.ys
/-- A valid vector. -/
def OkV (n : Nat) (R : Nat → Rc) : Prop := n ≤ 24 ∧ ∀ i, i < n → OkRc (R i)
open Classical in
noncomputable def okVB (n : Nat) (R : Nat → Rc) : Bool := decide (OkV n R)
theorem okVB_t {n : Nat} {R : Nat → Rc} (h : OkV n R) : okVB n R = true := by simp only [okVB, decide_eq_true_eq]; exact h
theorem okVB_f {n : Nat} {R : Nat → Rc} (h : ¬ OkV n R) : okVB n R = false := by simp only [okVB, decide_eq_false_iff_not]; exact h
def reqR (r q : Rc) : Bool := reqB r.s r.xs r.ys q.s q.xs q.ys
theorem reqR_iff {r q : Rc} : reqR r q = true ↔ r = q := by
  obtain ⟨s, xs, ys⟩ := r
  obtain ⟨t, zs, ws⟩ := q
  simp only [reqR, reqB, Bool.and_eq_true, beq_iff_eq, decide_eq_true_eq, Rc.mk.injEq, and_assoc]
/-- All elements are equal. -/
def eqVB (n : Nat) (A : Nat → Rc) (m : Nat) (B : Nat → Rc) : Bool := decide (n = m) && (List.range n).all fun i => reqR (A i) (B i)
theorem eqVB_len {n m : Nat} {A B : Nat → Rc} (h : n ≠ m) : eqVB n A m B = false := by unfold eqVB; rw [decide_eq_false h]; rfl
theorem eqVB_t {n : Nat} {A B : Nat → Rc} (h : ∀ i, i < n → reqR (A i) (B i) = true) : eqVB n A n B = true := by
  unfold eqVB
  rw [decide_eq_true rfl, Bool.true_and, List.all_eq_true]
  intro i hi
  exact h i (List.mem_range.1 hi)
theorem eqVB_f {n i : Nat} {A B : Nat → Rc} (hi : i < n) (h : reqR (A i) (B i) = false) : eqVB n A n B = false := by
  rw [Bool.eq_false_iff]
  intro e
  unfold eqVB at e
  rw [Bool.and_eq_true, List.all_eq_true] at e
  have := e.2 i (List.mem_range.2 hi)
  rw [h] at this
  exact absurd this (by simp)

/-- A fraction's reading. -/
def qv (z : Int) (d : Nat) : Rc := ⟨ng z, limbs z.natAbs, limbs d⟩
def numR (r : Rc) : Int := zv r.s r.xs
def denR (r : Rc) : Nat := (nv r.ys).toNat
theorem okRc_q {r : Rc} (h : OkRc r) : r = qv (numR r) (denR r) ∧ IsQ (numR r) (denR r) := by
  obtain ⟨s, xs, ys⟩ := r
  obtain ⟨z, d, h1, h2, h3, h4, h5, h6⟩ := okR_q (show OkR s xs ys from h)
  have e1 : numR ⟨s, xs, ys⟩ = z := h5
  have e2 : denR ⟨s, xs, ys⟩ = d := h6
  rw [e1, e2]
  exact ⟨by rw [h1, h2, h3]; rfl, h4⟩
theorem okRc_of {z : Int} {d : Nat} (h : IsQ z d) : OkRc (qv z d) := okR_of h

/-- None of the first n fractions is too large. -/
def fineB (D : Nat → Nat) (n : Nat) : Bool := (List.range n).all fun i => decide (0 < D i)
theorem fineB_t {D : Nat → Nat} {n : Nat} (h : ∀ i, i < n → 0 < D i) : fineB D n = true := by
  unfold fineB; rw [List.all_eq_true]; intro i hi; exact decide_eq_true (h i (List.mem_range.1 hi))
theorem fineB_f {D : Nat → Nat} {n i : Nat} (hi : i < n) (h : D i = 0) : fineB D n = false := by
  rw [Bool.eq_false_iff]; intro e
  unfold fineB at e
  rw [List.all_eq_true] at e
  have := of_decide_eq_true (e i (List.mem_range.2 hi))
  omega

end Go.Proofs.YtijeplcjbhkkoaaGreatDoor

/- IsVector, of the program and of the reference. -/
namespace Go.Proofs.YtijeplcjbhkkoaaGreatDoor
open Go.RowKit Lm

theorem cell_al {w : World} {p : Addr} {v : Value} {o : Obj} (h : w.cell? p = some v) : (w.alloc o).cell? p = some v := keep_cell (alloc_bel w o) h
theorem below_al {B : Nat} {a w : World} (h : Below B a w) (hB : B ≤ w.heap.size) (o : Obj) : Below B a (w.alloc o) := h.alloc hB o
theorem below_al_call {a w w' : World} {o : Obj} (h : Below a.heap.size a w) (hb : Below (w.alloc o).heap.size (w.alloc o) w') : Below a.heap.size a w' := (h.alloc h.size o).trans (hb.mono (Nat.le_trans h.size (heap_le_alloc _ _)))

set_option maxHeartbeats 1000000 in
theorem IsVector_c (w : World) {lo hi : Nat} {v1 : Value} (n : Nat) (R : Nat → Rc) (h1 : Vec w lo hi v1 n R) :
    Calls Tryz.prog 23 #[v1] w (RetB w (okVB n R)) := by
  obtain ⟨E, h1⟩ := h1
  obtain ⟨ao, cap, rfl, f1, -, -⟩ := h1.form
  have H1 := Lib.hid h1
  clear h1
  by_cases hn : n ≤ 24
  case neg =>
    have d0 : decide ((24 : Int) < n) = true := decide_eq_true (by omega)
    go_enter Tryz.func23, Tryz.ntmps23
    go_wp2
    go_ret
    exact retB (okVB_f fun h => hn h.1).symm (Below.refl _ _)
  case pos =>
    have d0 : decide ((24 : Int) < n) = false := decide_eq_false (by omega)
    go_enter Tryz.func23, Tryz.ntmps23
    go_wp2
    go_loopw [10] (fun k' wr => ∃ (i : Nat), i ≤ n ∧ k' = .int .i64 i ∧ Hid (∀ j, j < i → OkRc (R j)) ∧ Below w.heap.size w wr) (fun k _ => n - (intOf k).toNat)
    case atStart => exact ⟨0, by omega, rfl, fun j hj => absurd hj (by omega), Below.refl _ _⟩
    case round =>
      obtain ⟨i, hi, rfl, HK, hb⟩ := hrel
      by_cases hlt : i < n
      · obtain ⟨g, rfl, -, -, -⟩ := H1.out.addr hlt
        have HA := Lib.hid (H1.out.bel hb)
        obtain ⟨au, cu, ad, cd, k1, k2, k3, o1, o2⟩ := HA.out.elem hlt
        have t1 : (i : Int) < n := by omega
        have HE := Lib.hid (And.intro o1 o2)
        clear HA o1 o2
        by_cases hok : OkRc (R i)
        · have HOK := Lib.hid hok
          clear hok
          go_wp2_with fail
          refine (ratOk_t _ lo lo (R i).s _ _ (R i).xs (R i).ys (HE.out.1.alloc _) (HE.out.2.alloc _) HOK.out).mono ?_
          rintro e w1 ⟨rfl, hb1⟩
          have B1 := below_al_call hb hb1
          clear hb1 hb k1 k2 k3 HE
          go_wp2
          go_roundw
          case rel => exact ⟨i + 1, by omega, by go_num, fun j hj => by
            by_cases hji : j = i
            · subst hji; exact HOK.out
            · exact HK.out j (by omega), B1⟩
          case measure => (simp [intOf]) <;> omega
        · have HOK := Lib.hid hok
          clear hok
          go_wp2_with fail
          refine (ratOk_f _ lo lo (R i).s _ _ (R i).xs (R i).ys (HE.out.1.alloc _) (HE.out.2.alloc _) HOK.out).mono ?_
          rintro e w1 ⟨rfl, hb1⟩
          have B1 := below_al_call hb hb1
          clear hb1 hb k1 k2 k3 HE
          go_wp2
          go_ret
          exact retB (okVB_f fun h => HOK.out (h.2 i hlt)).symm B1
      · obtain rfl : i = n := by omega
        go_wp2
        go_ret
        exact retB (okVB_t ⟨hn, HK.out⟩).symm hb

theorem IsVector_t (w : World) {lo hi : Nat} {v1 : Value} (n : Nat) (R : Nat → Rc) (h1 : Vec w lo hi v1 n R) (h : OkV n R) : Calls Tryz.prog 23 #[v1] w (RetB w true) := by
  have := IsVector_c w n R h1
  rw [okVB_t h] at this; exact this
theorem IsVector_f (w : World) {lo hi : Nat} {v1 : Value} (n : Nat) (R : Nat → Rc) (h1 : Vec w lo hi v1 n R) (h : ¬ OkV n R) : Calls Tryz.prog 23 #[v1] w (RetB w false) := by
  have := IsVector_c w n R h1
  rw [okVB_f h] at this; exact this
end Go.Proofs.YtijeplcjbhkkoaaGreatDoor
