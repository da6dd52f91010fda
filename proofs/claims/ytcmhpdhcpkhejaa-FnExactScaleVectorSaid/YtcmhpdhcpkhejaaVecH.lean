/- Merged texts. -/
import Derived.Test.YtcmhpdhcpkhejaaVecG
import Derived.Test.YtcmhpdhcpkhejaaRatE
import Derived.Test.YtcmhpdhcpkhejaaRatW

/- What the functions on vectors answer, in plain words. -/
namespace Go.Proofs.Ytcmhpdhcpkhejaa
open Go.RowKit Lm

def OkRc (r : Rc) : Prop := OkR r.s r.xs r.ys
/-- A valid vector. -/
def OkV (n : Nat) (R : Nat → Rc) : Prop := n ≤ 24 ∧ ∀ i, i < n → OkRc (R i)
open Classical in
noncomputable def okVB (n : Nat) (R : Nat → Rc) : Bool := decide (OkV n R)
theorem okVB_t {n : Nat} {R : Nat → Rc} (h : OkV n R) : okVB n R = true := by simp only [okVB, decide_eq_true_eq]; exact h
theorem okVB_f {n : Nat} {R : Nat → Rc} (h : ¬ OkV n R) : okVB n R = false := by simp only [okVB, decide_eq_false_iff_not]; exact h
def reqR (r q : Rc) : Bool := reqB r.s r.xs r.ys q.s q.xs q.ys
theorem reqR_iff {r q : Rc} : reqR r q = true ↔ r = q := by
  obtain ⟨s, xs, ys⟩ := r
  obtain ⟨t, zs, ws⟩ := q
  simp only [reqR, reqB, Bool.and_eq_true, beq_iff_eq, decide_eq_true_eq, Rc.mk.injEq, and_assoc]
/-- All elements are equal. -/
def eqVB (n : Nat) (A : Nat → Rc) (m : Nat) (B : Nat → Rc) : Bool := decide (n = m) && (List.range n).all fun i => reqR (A i) (B i)
theorem eqVB_len {n m : Nat} {A B : Nat → Rc} (h : n ≠ m) : eqVB n A m B = false := by unfold eqVB; rw [decide_eq_false h]; rfl
theorem eqVB_t {n : Nat} {A B : Nat → Rc} (h : ∀ i, i < n → reqR (A i) (B i) = true) : eqVB n A n B = true := by
  unfold eqVB
  rw [decide_eq_true rfl, Bool.true_and, List.all_eq_true]
  intro i hi
  exact h i (List.mem_range.1 hi)
theorem eqVB_f {n i : Nat} {A B : Nat → Rc} (hi : i < n) (h : reqR (A i) (B i) = false) : eqVB n A n B = false := by
  rw [Bool.eq_false_iff]
  intro e
  unfold eqVB at e
  rw [Bool.and_eq_true, List.all_eq_true] at e
  have := e.2 i (List.mem_range.2 hi)
  rw [h] at this
  exact absurd this (by simp)

/-- A fraction's reading. -/
def qv (z : Int) (d : Nat) : Rc := ⟨ng z, limbs z.natAbs, limbs d⟩
def numR (r : Rc) : Int := zv r.s r.xs
def denR (r : Rc) : Nat := (nv r.ys).toNat
theorem okRc_q {r : Rc} (h : OkRc r) : r = qv (numR r) (denR r) ∧ IsQ (numR r) (denR r) := by
  obtain ⟨s, xs, ys⟩ := r
  obtain ⟨z, d, h1, h2, h3, h4, h5, h6⟩ := okR_q (show OkR s xs ys from h)
  have e1 : numR ⟨s, xs, ys⟩ = z := h5
  have e2 : denR ⟨s, xs, ys⟩ = d := h6
  rw [e1, e2]
  exact ⟨by rw [h1, h2, h3]; rfl, h4⟩
theorem okRc_of {z : Int} {d : Nat} (h : IsQ z d) : OkRc (qv z d) := okR_of h

/-- None of the first n fractions is too large. -/
def fineB (D : Nat → Nat) (n : Nat) : Bool := (List.range n).all fun i => decide (0 < D i)
theorem fineB_t {D : Nat → Nat} {n : Nat} (h : ∀ i, i < n → 0 < D i) : fineB D n = true := by
  unfold fineB; rw [List.all_eq_true]; intro i hi; exact decide_eq_true (h i (List.mem_range.1 hi))
theorem fineB_f {D : Nat → Nat} {n i : Nat} (hi : i < n) (h : D i = 0) : fineB D n = false := by
  rw [Bool.eq_false_iff]; intro e
  unfold fineB at e
  rw [List.all_eq_true] at e
  have := of_decide_eq_true (e i (List.mem_range.2 hi))
  omega

end Go.Proofs.Ytcmhpdhcpkhejaa

/- Functions that read vectors: IsVector, complete, l05Fine, EqualVectors, of the program and of the reference. -/
namespace Go.Proofs.Ytcmhpdhcpkhejaa
open Go.RowKit Lm

theorem cell_al {w : World} {p : Addr} {v : Value} {o : Obj} (h : w.cell? p = some v) : (w.alloc o).cell? p = some v := keep_cell (alloc_bel w o) h
theorem below_al {B : Nat} {a w : World} (h : Below B a w) (hB : B ≤ w.heap.size) (o : Obj) : Below B a (w.alloc o) := h.alloc hB o
theorem below_al_call {a w w' : World} {o : Obj} (h : Below a.heap.size a w) (hb : Below (w.alloc o).heap.size (w.alloc o) w') : Below a.heap.size a w' := (h.alloc h.size o).trans (hb.mono (Nat.le_trans h.size (heap_le_alloc _ _)))

set_option maxHeartbeats 1000000 in
theorem IsVector_c (w : World) {lo hi : Nat} {v1 : Value} (n : Nat) (R : Nat → Rc) (h1 : Vec w lo hi v1 n R) :
    Calls Try.prog 23 #[v1] w (RetB w (okVB n R)) := by
  obtain ⟨E, h1⟩ := h1
  obtain ⟨ao, cap, rfl, f1, -, -⟩ := h1.form
  have H1 := Lib.hid h1
  clear h1
  by_cases hn : n ≤ 24
  case neg =>
    have d0 : decide ((24 : Int) < n) = true := decide_eq_true (by omega)
    go_enter Try.func23, Try.ntmps23
    go_wp2
    go_ret
    exact retB (okVB_f fun h => hn h.1).symm (Below.refl _ _)
  case pos =>
    have d0 : decide ((24 : Int) < n) = false := decide_eq_false (by omega)
    go_enter Try.func23, Try.ntmps23
    go_wp2
    go_loopw [10] (fun k' wr => ∃ (i : Nat), i ≤ n ∧ k' = .int .i64 i ∧ Hid (∀ j, j < i → OkRc (R j)) ∧ Below w.heap.size w wr) (fun k _ => n - (intOf k).toNat)
    case atStart => exact ⟨0, by omega, rfl, fun j hj => absurd hj (by omega), Below.refl _ _⟩
    case round =>
      obtain ⟨i, hi, rfl, HK, hb⟩ := hrel
      by_cases hlt : i < n
      · obtain ⟨g, rfl, -, -, -⟩ := H1.out.addr hlt
        have HA := Lib.hid (H1.out.bel hb)
        obtain ⟨au, cu, ad, cd, k1, k2, k3, o1, o2⟩ := HA.out.elem hlt
        have t1 : (i : Int) < n := by omega
        have HE := Lib.hid (And.intro o1 o2)
        clear HA o1 o2
        by_cases hok : OkRc (R i)
        · have HOK := Lib.hid hok
          clear hok
          go_wp2_with fail
          refine (ratOk_t _ lo lo (R i).s _ _ (R i).xs (R i).ys (HE.out.1.alloc _) (HE.out.2.alloc _) HOK.out).mono ?_
          rintro e w1 ⟨rfl, hb1⟩
          have B1 := below_al_call hb hb1
          clear hb1 hb k1 k2 k3 HE
          go_wp2
          go_roundw
          case rel => exact ⟨i + 1, by omega, by go_num, fun j hj => by
            by_cases hji : j = i
            · subst hji; exact HOK.out
            · exact HK.out j (by omega), B1⟩
          case measure => (simp [intOf]) <;> omega
        · have HOK := Lib.hid hok
          clear hok
          go_wp2_with fail
          refine (ratOk_f _ lo lo (R i).s _ _ (R i).xs (R i).ys (HE.out.1.alloc _) (HE.out.2.alloc _) HOK.out).mono ?_
          rintro e w1 ⟨rfl, hb1⟩
          have B1 := below_al_call hb hb1
          clear hb1 hb k1 k2 k3 HE
          go_wp2
          go_ret
          exact retB (okVB_f fun h => HOK.out (h.2 i hlt)).symm B1
      · obtain rfl : i = n := by omega
        go_wp2
        go_ret
        exact retB (okVB_t ⟨hn, HK.out⟩).symm hb

set_option maxHeartbeats 1000000 in
theorem sIsVector_c (w : World) {lo hi : Nat} {v1 : Value} (n : Nat) (R : Nat → Rc) (h1 : Vec w lo hi v1 n R) :
    Calls Try.prog 22 #[v1] w (RetB w (okVB n R)) := by
  obtain ⟨E, h1⟩ := h1
  obtain ⟨ao, cap, rfl, f1, -, -⟩ := h1.form
  have H1 := Lib.hid h1
  clear h1
  by_cases hn : n ≤ 24
  case neg =>
    have d0 : decide ((24 : Int) < n) = true := decide_eq_true (by omega)
    go_enter Try.func22, Try.ntmps22
    go_wp2
    go_ret
    exact retB (okVB_f fun h => hn h.1).symm (Below.refl _ _)
  case pos =>
    have d0 : decide ((24 : Int) < n) = false := decide_eq_false (by omega)
    go_enter Try.func22, Try.ntmps22
    go_wp2
    go_loopw [10] (fun k' wr => ∃ (i : Nat), i ≤ n ∧ k' = .int .i64 i ∧ Hid (∀ j, j < i → OkRc (R j)) ∧ Below w.heap.size w wr) (fun k _ => n - (intOf k).toNat)
    case atStart => exact ⟨0, by omega, rfl, fun j hj => absurd hj (by omega), Below.refl _ _⟩
    case round =>
      obtain ⟨i, hi, rfl, HK, hb⟩ := hrel
      by_cases hlt : i < n
      · obtain ⟨g, rfl, -, -, -⟩ := H1.out.addr hlt
        have HA := Lib.hid (H1.out.bel hb)
        obtain ⟨au, cu, ad, cd, k1, k2, k3, o1, o2⟩ := HA.out.elem hlt
        have t1 : (i : Int) < n := by omega
        have HE := Lib.hid (And.intro o1 o2)
        clear HA o1 o2
        by_cases hok : OkRc (R i)
        · have HOK := Lib.hid hok
          clear hok
          go_wp2_with fail
          refine (sRatOk_t _ lo lo (R i).s _ _ (R i).xs (R i).ys (HE.out.1.alloc _) (HE.out.2.alloc _) HOK.out).mono ?_
          rintro e w1 ⟨rfl, hb1⟩
          have B1 := below_al_call hb hb1
          clear hb1 hb k1 k2 k3 HE
          go_wp2
          go_roundw
          case rel => exact ⟨i + 1, by omega, by go_num, fun j hj => by
            by_cases hji : j = i
            · subst hji; exact HOK.out
            · exact HK.out j (by omega), B1⟩
          case measure => (simp [intOf]) <;> omega
        · have HOK := Lib.hid hok
          clear hok
          go_wp2_with fail
          refine (sRatOk_f _ lo lo (R i).s _ _ (R i).xs (R i).ys (HE.out.1.alloc _) (HE.out.2.alloc _) HOK.out).mono ?_
          rintro e w1 ⟨rfl, hb1⟩
          have B1 := below_al_call hb hb1
          clear hb1 hb k1 k2 k3 HE
          go_wp2
          go_ret
          exact retB (okVB_f fun h => HOK.out (h.2 i hlt)).symm B1
      · obtain rfl : i = n := by omega
        go_wp2
        go_ret
        exact retB (okVB_t ⟨hn, HK.out⟩).symm hb

theorem l05Bad_t (w : World) (e1 : Nat) (s : Bool) (v1 u1 : Value) (d : Nat) (k1 : Own w e1 u1 (limbs d)) (hd : d = 0) : Calls Try.prog 64 #[.agg #[.bool s, v1, u1]] w (RetB w true) := by
  subst hd
  rw [limbs_zero] at k1
  obtain ⟨a1, c1, rfl, -, -, -, -, -⟩ := k1.form
  go_enter Try.func64, Try.ntmps64
  go_wp2
  go_ret
  exact retB rfl (alloc_bel _ _)
theorem l05Bad_f (w : World) (e1 : Nat) (s : Bool) (v1 u1 : Value) (d : Nat) (k1 : Own w e1 u1 (limbs d)) (hd : 0 < d) : Calls Try.prog 64 #[.agg #[.bool s, v1, u1]] w (RetB w false) := by
  obtain ⟨a1, c1, rfl, -, -, -, -, -⟩ := k1.form
  have hl : (((limbs d).length : Int) == 0) = false := beq_false_of_ne (by
    intro e
    have e2 : limbs d = [] := List.length_eq_zero_iff.1 (by omega)
    rw [limbs_nil] at e2
    omega)
  go_enter Try.func64, Try.ntmps64
  go_wp2
  go_ret
  exact retB rfl (alloc_bel _ _)

set_option maxHeartbeats 1000000 in
theorem complete_c (w : World) {lo hi : Nat} {v1 : Value} (n : Nat) (Z : Nat → Int) (D : Nat → Nat) (h1 : Vec w lo hi v1 n (fun i => qv (Z i) (D i))) :
    Calls Try.prog 88 #[v1] w (RetB w (fineB D n)) := by
  obtain ⟨E, h1⟩ := h1
  obtain ⟨ao, cap, rfl, f1, -, -⟩ := h1.form
  have H1 := Lib.hid h1
  clear h1
  go_enter Try.func88, Try.ntmps88
  go_wp2
  go_loopw [7] (fun k' wr => ∃ (i : Nat), i ≤ n ∧ k' = .int .i64 i ∧ Hid (∀ j, j < i → 0 < D j) ∧ Below w.heap.size w wr) (fun k _ => n - (intOf k).toNat)
  case atStart => exact ⟨0, by omega, rfl, fun j hj => absurd hj (by omega), Below.refl _ _⟩
  case round =>
    obtain ⟨i, hi, rfl, HK, hb⟩ := hrel
    by_cases hlt : i < n
    · obtain ⟨g, rfl, -, -, -⟩ := H1.out.addr hlt
      have HA := Lib.hid (H1.out.bel hb)
      obtain ⟨au, cu, ad, cd, k1, k2, k3, o1, o2⟩ := HA.out.elem hlt
      have t1 : (i : Int) < n := by omega
      have HE := Lib.hid (And.intro o1 o2)
      clear HA o1 o2
      by_cases hok : 0 < D i
      · have HOK := Lib.hid hok
        clear hok
        go_wp2_with fail
        refine (void_f _ lo _ _ _ (D i) (HE.out.2.alloc _) HOK.out).mono ?_
        rintro e w1 ⟨rfl, hb1⟩
        have B1 := below_al_call hb hb1
        clear hb1 hb k1 k2 k3 HE
        go_wp2
        go_roundw
        case rel => exact ⟨i + 1, by omega, by go_num, fun j hj => by
          by_cases hji : j = i
          · subst hji; exact HOK.out
          · exact HK.out j (by omega), B1⟩
        case measure => (simp [intOf]) <;> omega
      · have HOK := Lib.hid (show D i = 0 by omega)
        clear hok
        go_wp2_with fail
        refine (void_t _ lo _ _ _ (D i) (HE.out.2.alloc _) HOK.out).mono ?_
        rintro e w1 ⟨rfl, hb1⟩
        have B1 := below_al_call hb hb1
        clear hb1 hb k1 k2 k3 HE
        go_wp2
        go_ret
        exact retB (fineB_f hlt HOK.out).symm B1
    · obtain rfl : i = n := by omega
      go_wp2
      go_ret
      exact retB (fineB_t HK.out).symm hb

set_option maxHeartbeats 1000000 in
theorem l05Fine_c (w : World) {lo hi : Nat} {v1 : Value} (n : Nat) (Z : Nat → Int) (D : Nat → Nat) (h1 : Vec w lo hi v1 n (fun i => qv (Z i) (D i))) :
    Calls Try.prog 83 #[v1] w (RetB w (fineB D n)) := by
  obtain ⟨E, h1⟩ := h1
  obtain ⟨ao, cap, rfl, f1, -, -⟩ := h1.form
  have H1 := Lib.hid h1
  clear h1
  go_enter Try.func83, Try.ntmps83
  go_wp2
  go_loopw [7] (fun k' wr => ∃ (i : Nat), i ≤ n ∧ k' = .int .i64 i ∧ Hid (∀ j, j < i → 0 < D j) ∧ Below w.heap.size w wr) (fun k _ => n - (intOf k).toNat)
  case atStart => exact ⟨0, by omega, rfl, fun j hj => absurd hj (by omega), Below.refl _ _⟩
  case round =>
    obtain ⟨i, hi, rfl, HK, hb⟩ := hrel
    by_cases hlt : i < n
    · obtain ⟨g, rfl, -, -, -⟩ := H1.out.addr hlt
      have HA := Lib.hid (H1.out.bel hb)
      obtain ⟨au, cu, ad, cd, k1, k2, k3, o1, o2⟩ := HA.out.elem hlt
      have t1 : (i : Int) < n := by omega
      have HE := Lib.hid (And.intro o1 o2)
      clear HA o1 o2
      by_cases hok : 0 < D i
      · have HOK := Lib.hid hok
        clear hok
        go_wp2_with fail
        refine (l05Bad_f _ lo _ _ _ (D i) (HE.out.2.alloc _) HOK.out).mono ?_
        rintro e w1 ⟨rfl, hb1⟩
        have B1 := below_al_call hb hb1
        clear hb1 hb k1 k2 k3 HE
        go_wp2
        go_roundw
        case rel => exact ⟨i + 1, by omega, by go_num, fun j hj => by
          by_cases hji : j = i
          · subst hji; exact HOK.out
          · exact HK.out j (by omega), B1⟩
        case measure => (simp [intOf]) <;> omega
      · have HOK := Lib.hid (show D i = 0 by omega)
        clear hok
        go_wp2_with fail
        refine (l05Bad_t _ lo _ _ _ (D i) (HE.out.2.alloc _) HOK.out).mono ?_
        rintro e w1 ⟨rfl, hb1⟩
        have B1 := below_al_call hb hb1
        clear hb1 hb k1 k2 k3 HE
        go_wp2
        go_ret
        exact retB (fineB_f hlt HOK.out).symm B1
    · obtain rfl : i = n := by omega
      go_wp2
      go_ret
      exact retB (fineB_t HK.out).symm hb

theorem reqR_call {p : Program} {f : Nat} {args : Array Value} {w : World} {r q : Rc} {c : Bool} (hc : c = reqR r q) (h : Calls p f args w (RetB w (reqB r.s r.xs r.ys q.s q.xs q.ys))) : Calls p f args w (RetB w c) := by
  subst hc; exact h

set_option maxHeartbeats 1000000 in
theorem EqualVectors_c (w : World) {lo hi lo2 hi2 : Nat} {v1 v2 : Value} (n : Nat) (A : Nat → Rc) (m : Nat) (B : Nat → Rc) (h1 : Vec w lo hi v1 n A) (h2 : Vec w lo2 hi2 v2 m B) :
    Calls Try.prog 14 #[v1, v2] w (RetB w (eqVB n A m B)) := by
  obtain ⟨E, h1⟩ := h1
  obtain ⟨F, h2⟩ := h2
  obtain ⟨ao, cap, rfl, f1, -, -⟩ := h1.form
  obtain ⟨ao2, cap2, rfl, f2, -, -⟩ := h2.form
  have H1 := Lib.hid h1
  have H2 := Lib.hid h2
  clear h1 h2
  by_cases hnm : n = m
  case neg =>
    have d0 : ((n : Int) == m) = false := beq_false_of_ne (by omega)
    go_enter Try.func14, Try.ntmps14
    go_wp2
    go_ret
    exact retB (eqVB_len hnm).symm (Below.refl _ _)
  case pos =>
    subst hnm
    go_enter Try.func14, Try.ntmps14
    go_wp2
    go_loopw [13] (fun k' wr => ∃ (i : Nat), i ≤ n ∧ k' = .int .i64 i ∧ Hid (∀ j, j < i → reqR (A j) (B j) = true) ∧ Below w.heap.size w wr) (fun k _ => n - (intOf k).toNat)
    case atStart => exact ⟨0, by omega, rfl, fun j hj => absurd hj (by omega), Below.refl _ _⟩
    case round =>
      obtain ⟨i, hi, rfl, HK, hb⟩ := hrel
      by_cases hlt : i < n
      · obtain ⟨g, rfl, -, -, -⟩ := H1.out.addr hlt
        obtain ⟨g2, rfl, -, -, -⟩ := H2.out.addr hlt
        have t1 : (i : Int) < n := by omega
        have HA0 := Lib.hid (H1.out.bel hb)
        obtain ⟨au, cu, ad, cd, k1, k2, k3, o1, o2⟩ := HA0.out.elem hlt
        have HOA := Lib.hid (And.intro o1 o2)
        clear HA0 o1 o2
        have BD := below_drew hb
        clear hb
        have HB := Lib.hid (H2.out.bel BD)
        obtain ⟨m1, m2, m3⟩ := HB.out.cells hlt
        have HE := Lib.hid (HB.out.ent i hlt)
        have HOB := Lib.hid (And.intro (HOA.out.1.below (below_drawn _ 1) (Nat.le_refl _)) (HOA.out.2.below (below_drawn _ 1) (Nat.le_refl _)))
        replace k1 := cell_drew k1
        replace k2 := cell_drew k2
        replace k3 := cell_drew k3
        clear HB HOA
        obtain ⟨c, hc⟩ : ∃ c, c = reqR (A i) (B i) := ⟨_, rfl⟩
        have HC := Lib.hid hc
        clear hc
        go_wp2_with fail
        go_region_held3 (fun w' => w'.cell? ⟨g, i * 3, none⟩ = some (.bool (A i).s) ∧ w'.cell? ⟨g, i * 3 + 1, none⟩ = some (Value.slice au (A i).xs.length cu) ∧ w'.cell? ⟨g, i * 3 + 2, none⟩ = some (Value.slice ad (A i).ys.length cd) ∧ w'.cell? ⟨g2, i * 3, none⟩ = some (.bool (B i).s) ∧ w'.cell? ⟨g2, i * 3 + 1, none⟩ = some (F i).u ∧ w'.cell? ⟨g2, i * 3 + 2, none⟩ = some (F i).d) (first | exact ⟨k1, k2, k3, m1, m2, m3⟩ | go_keep)
          (first | (go_at_call 38; refine (reqR_call HC.out (RatEqual_c _ lo lo (A i).s _ _ (A i).xs (A i).ys HOB.out.1 HOB.out.2 lo2 lo2 (B i).s (F i).u (F i).d (B i).xs (B i).ys HE.out.num HE.out.den)).mono ?_; rintro e w1 ⟨rfl, hb1⟩; replace k1 := keep_cell hb1 k1; replace k2 := keep_cell hb1 k2; replace k3 := keep_cell hb1 k3; replace m1 := keep_cell hb1 m1; replace m2 := keep_cell hb1 m2; replace m3 := keep_cell hb1 m3; have B1 := BD.trans (hb1.mono BD.size); clear hb1))
        cases c with
        | true =>
          go_wp2
          go_roundw
          case rel => exact ⟨i + 1, by omega, by go_num, fun j hj => by
            by_cases hji : j = i
            · subst hji; exact HC.out.symm
            · exact HK.out j (by omega), B1⟩
          case measure => (simp [intOf]) <;> omega
        | false =>
          go_wp2
          go_ret
          exact retB (eqVB_f hlt HC.out.symm).symm B1
      · obtain rfl : i = n := by omega
        go_wp2
        go_ret
        exact retB (eqVB_t HK.out).symm hb

set_option maxHeartbeats 1000000 in
theorem sEqualVectors_c (w : World) {lo hi lo2 hi2 : Nat} {v1 v2 : Value} (n : Nat) (A : Nat → Rc) (m : Nat) (B : Nat → Rc) (h1 : Vec w lo hi v1 n A) (h2 : Vec w lo2 hi2 v2 m B) :
    Calls Try.prog 12 #[v1, v2] w (RetB w (eqVB n A m B)) := by
  obtain ⟨E, h1⟩ := h1
  obtain ⟨F, h2⟩ := h2
  obtain ⟨ao, cap, rfl, f1, -, -⟩ := h1.form
  obtain ⟨ao2, cap2, rfl, f2, -, -⟩ := h2.form
  have H1 := Lib.hid h1
  have H2 := Lib.hid h2
  clear h1 h2
  by_cases hnm : n = m
  case neg =>
    have d0 : ((n : Int) == m) = false := beq_false_of_ne (by omega)
    go_enter Try.func12, Try.ntmps12
    go_wp2
    go_ret
    exact retB (eqVB_len hnm).symm (Below.refl _ _)
  case pos =>
    subst hnm
    go_enter Try.func12, Try.ntmps12
    go_wp2
    go_loopw [14] (fun k' wr => ∃ (i : Nat), i ≤ n ∧ k' = .int .i64 i ∧ Hid (∀ j, j < i → reqR (A j) (B j) = true) ∧ Below w.heap.size w wr) (fun k _ => n - (intOf k).toNat)
    case atStart => exact ⟨0, by omega, rfl, fun j hj => absurd hj (by omega), Below.refl _ _⟩
    case round =>
      obtain ⟨i, hi, rfl, HK, hb⟩ := hrel
      by_cases hlt : i < n
      · obtain ⟨g, rfl, -, -, -⟩ := H1.out.addr hlt
        obtain ⟨g2, rfl, -, -, -⟩ := H2.out.addr hlt
        have t1 : (i : Int) < n := by omega
        have HA0 := Lib.hid (H1.out.bel hb)
        obtain ⟨au, cu, ad, cd, k1, k2, k3, o1, o2⟩ := HA0.out.elem hlt
        have HOA := Lib.hid (And.intro o1 o2)
        clear HA0 o1 o2
        go_wp2_with fail
        have BX := below_al hb hb.size (.cells #[.bool (A i).s, Value.slice au (A i).xs.length cu, Value.slice ad (A i).ys.length cd] 45)
        obtain ⟨c1, c2, c3⟩ : (wr.alloc (.cells #[.bool (A i).s, Value.slice au (A i).xs.length cu, Value.slice ad (A i).ys.length cd] 45)).cell? ⟨wr.heap.size, 0, none⟩ = some (.bool (A i).s) ∧ (wr.alloc (.cells #[.bool (A i).s, Value.slice au (A i).xs.length cu, Value.slice ad (A i).ys.length cd] 45)).cell? ⟨wr.heap.size, 1, none⟩ = some (Value.slice au (A i).xs.length cu) ∧ (wr.alloc (.cells #[.bool (A i).s, Value.slice au (A i).xs.length cu, Value.slice ad (A i).ys.length cd] 45)).cell? ⟨wr.heap.size, 2, none⟩ = some (Value.slice ad (A i).ys.length cd) := by simp [go_sem]
        clear k1 k2 k3
        have BOA0 := alloc_bel wr (.cells #[.bool (A i).s, Value.slice au (A i).xs.length cu, Value.slice ad (A i).ys.length cd] 45)
        generalize wr.alloc (.cells #[.bool (A i).s, Value.slice au (A i).xs.length cu, Value.slice ad (A i).ys.length cd] 45) = wx at *
        have BD := below_drew BX
        have BOA := below_drew BOA0
        clear BX hb BOA0
        have HB := Lib.hid (H2.out.bel BD)
        obtain ⟨m1, m2, m3⟩ := HB.out.cells hlt
        have HE := Lib.hid (HB.out.ent i hlt)
        have HOB := Lib.hid (And.intro (HOA.out.1.below BOA (Nat.le_refl _)) (HOA.out.2.below BOA (Nat.le_refl _)))
        replace c1 := cell_drew c1
        replace c2 := cell_drew c2
        replace c3 := cell_drew c3
        clear HB HOA
        obtain ⟨c, hc⟩ : ∃ c, c = reqR (A i) (B i) := ⟨_, rfl⟩
        have HC := Lib.hid hc
        clear hc
        skip
        go_region_held3 (fun w' => w'.cell? ⟨wr.heap.size, 0, none⟩ = some (.bool (A i).s) ∧ w'.cell? ⟨wr.heap.size, 1, none⟩ = some (Value.slice au (A i).xs.length cu) ∧ w'.cell? ⟨wr.heap.size, 2, none⟩ = some (Value.slice ad (A i).ys.length cd) ∧ w'.cell? ⟨g2, i * 3, none⟩ = some (.bool (B i).s) ∧ w'.cell? ⟨g2, i * 3 + 1, none⟩ = some (F i).u ∧ w'.cell? ⟨g2, i * 3 + 2, none⟩ = some (F i).d) (first | exact ⟨c1, c2, c3, m1, m2, m3⟩ | go_keep)
          (first | (go_at_call 37; refine (reqR_call HC.out (sRatEqual_c _ lo lo (A i).s _ _ (A i).xs (A i).ys HOB.out.1 HOB.out.2 lo2 lo2 (B i).s (F i).u (F i).d (B i).xs (B i).ys HE.out.num HE.out.den)).mono ?_; rintro e w1 ⟨rfl, hb1⟩; replace c1 := keep_cell hb1 c1; replace c2 := keep_cell hb1 c2; replace c3 := keep_cell hb1 c3; replace m1 := keep_cell hb1 m1; replace m2 := keep_cell hb1 m2; replace m3 := keep_cell hb1 m3; have B1 := BD.trans (hb1.mono BD.size); clear hb1))
        cases c with
        | true =>
          go_wp2
          go_roundw
          case rel => exact ⟨i + 1, by omega, by go_num, fun j hj => by
            by_cases hji : j = i
            · subst hji; exact HC.out.symm
            · exact HK.out j (by omega), B1⟩
          case measure => (simp [intOf]) <;> omega
        | false =>
          go_wp2
          go_ret
          exact retB (eqVB_f hlt HC.out.symm).symm B1
      · obtain rfl : i = n := by omega
        go_wp2
        go_ret
        exact retB (eqVB_t HK.out).symm hb

end Go.Proofs.Ytcmhpdhcpkhejaa

/- ZeroVector and UnitVector, of the program and of the reference. -/
namespace Go.Proofs.Ytcmhpdhcpkhejaa
open Go.RowKit Lm

set_option maxHeartbeats 1000000 in
theorem whole_c (w : World) (n : Int) (n0 : -9223372036854775808 ≤ n) (n1 : n ≤ 9223372036854775807) :
    Calls Try.prog 41 #[.int .i64 n] w (RetQ w n 1) := by
  have BW : Below w.heap.size w (w.alloc (.cells #[.bool false, .slice none 0 0, .slice none 0 0] 45)) := ((Below.refl w.heap.size w).alloc (Nat.le_refl _) _)
  obtain ⟨c0_0, c0_1, c0_2, q0, q1, q2⟩ : World.cell? (w.alloc (.cells #[.bool false, .slice none 0 0, .slice none 0 0] 45)) ⟨w.heap.size, 0, none⟩ = some (.bool false) ∧ World.cell? (w.alloc (.cells #[.bool false, .slice none 0 0, .slice none 0 0] 45)) ⟨w.heap.size, 1, none⟩ = some (.slice none 0 0) ∧ World.cell? (w.alloc (.cells #[.bool false, .slice none 0 0, .slice none 0 0] 45)) ⟨w.heap.size, 2, none⟩ = some (.slice none 0 0) ∧ World.frozen? (w.alloc (.cells #[.bool false, .slice none 0 0, .slice none 0 0] 45)) ⟨w.heap.size, 0, none⟩ = false ∧ World.frozen? (w.alloc (.cells #[.bool false, .slice none 0 0, .slice none 0 0] 45)) ⟨w.heap.size, 1, none⟩ = false ∧ World.frozen? (w.alloc (.cells #[.bool false, .slice none 0 0, .slice none 0 0] 45)) ⟨w.heap.size, 2, none⟩ = false := by simp [go_sem]
  have hg0 : w.heap.size < ((w.alloc (.cells #[.bool false, .slice none 0 0, .slice none 0 0] 45))).heap.size := World.block_lt_of_cell? _ _ c0_0
  go_enter Try.func41, Try.ntmps41
  go_wp2_with fail
  generalize (w.alloc (.cells #[.bool false, .slice none 0 0, .slice none 0 0] 45)) = w0 at *
  have B0 := Below.refl w0.heap.size w0
  refine (RatFromInt_n _ n n0 n1 n 1 rfl rfl).mono ?_
  rintro e w1 ⟨vr, vs, rfl, ho1, ho2, HAP, hb⟩
  replace q0 := keep_frozen (w1 := w1) hb c0_0 q0
  replace c0_0 := keep_cell (w1 := w1) hb c0_0
  replace q1 := keep_frozen (w1 := w1) hb c0_1 q1
  replace c0_1 := keep_cell (w1 := w1) hb c0_1
  replace q2 := keep_frozen (w1 := w1) hb c0_2 q2
  replace c0_2 := keep_cell (w1 := w1) hb c0_2
  have Hr := Lib.hid (ho1.mono B0.size)
  clear ho1
  have Hs := Lib.hid (ho2.mono B0.size)
  clear ho2
  replace B0 := B0.trans (hb.mono B0.size)
  clear hb
  obtain ⟨ar, cr, rfl, -, -, -, -, -⟩ := Hr.out.form
  obtain ⟨aw, cw, rfl, -, -, -, -, -⟩ := Hs.out.form
  go_wp2
  exact bodyPost_ret (v := .agg #[.bool (ng n), .slice ar (limbs n.natAbs).length cr, .slice aw (limbs 1).length cw]) (by simp [results, Try.results41, go_sem, c0_0, c0_1, c0_2]) rfl (retR_end BW (by omega) hg0 B0 Hr.out Hs.out HAP)

theorem sRatFromInt_z (w : World) (n : Int) (hn : n = 0) : Calls Try.prog 44 #[.int .i64 0] w (RetQ w n 1) := by
  subst hn; exact sRatFromInt_n w 0 (by omega) (by omega)

set_option maxHeartbeats 1000000 in
theorem l05Zero_k (w : World) (n : Int) (hn : n = 0) :
    Calls Try.prog 70 #[] w (RetQ w n 1) := by
  have BW : Below w.heap.size w (w.alloc (.cells #[.bool false, .slice none 0 0, .slice none 0 0] 45)) := ((Below.refl w.heap.size w).alloc (Nat.le_refl _) _)
  obtain ⟨c0_0, c0_1, c0_2, q0, q1, q2⟩ : World.cell? (w.alloc (.cells #[.bool false, .slice none 0 0, .slice none 0 0] 45)) ⟨w.heap.size, 0, none⟩ = some (.bool false) ∧ World.cell? (w.alloc (.cells #[.bool false, .slice none 0 0, .slice none 0 0] 45)) ⟨w.heap.size, 1, none⟩ = some (.slice none 0 0) ∧ World.cell? (w.alloc (.cells #[.bool false, .slice none 0 0, .slice none 0 0] 45)) ⟨w.heap.size, 2, none⟩ = some (.slice none 0 0) ∧ World.frozen? (w.alloc (.cells #[.bool false, .slice none 0 0, .slice none 0 0] 45)) ⟨w.heap.size, 0, none⟩ = false ∧ World.frozen? (w.alloc (.cells #[.bool false, .slice none 0 0, .slice none 0 0] 45)) ⟨w.heap.size, 1, none⟩ = false ∧ World.frozen? (w.alloc (.cells #[.bool false, .slice none 0 0, .slice none 0 0] 45)) ⟨w.heap.size, 2, none⟩ = false := by simp [go_sem]
  have hg0 : w.heap.size < ((w.alloc (.cells #[.bool false, .slice none 0 0, .slice none 0 0] 45))).heap.size := World.block_lt_of_cell? _ _ c0_0
  have HN := Lib.hid hn
  clear hn
  go_enter Try.func70, Try.ntmps70
  go_wp2_with fail
  generalize (w.alloc (.cells #[.bool false, .slice none 0 0, .slice none 0 0] 45)) = w0 at *
  have B0 := Below.refl w0.heap.size w0
  refine (sRatFromInt_z _ n HN.out).mono ?_
  rintro e w1 ⟨vr, vs, rfl, ho1, ho2, HAP, hb⟩
  replace q0 := keep_frozen (w1 := w1) hb c0_0 q0
  replace c0_0 := keep_cell (w1 := w1) hb c0_0
  replace q1 := keep_frozen (w1 := w1) hb c0_1 q1
  replace c0_1 := keep_cell (w1 := w1) hb c0_1
  replace q2 := keep_frozen (w1 := w1) hb c0_2 q2
  replace c0_2 := keep_cell (w1 := w1) hb c0_2
  have Hr := Lib.hid (ho1.mono B0.size)
  clear ho1
  have Hs := Lib.hid (ho2.mono B0.size)
  clear ho2
  replace B0 := B0.trans (hb.mono B0.size)
  clear hb
  obtain ⟨ar, cr, rfl, -, -, -, -, -⟩ := Hr.out.form
  obtain ⟨aw, cw, rfl, -, -, -, -, -⟩ := Hs.out.form
  go_wp2
  exact bodyPost_ret (v := .agg #[.bool (ng n), .slice ar (limbs n.natAbs).length cr, .slice aw (limbs 1).length cw]) (by simp [results, Try.results70, go_sem, c0_0, c0_1, c0_2]) rfl (retR_end BW (by omega) hg0 B0 Hr.out Hs.out HAP)

theorem l05Zero_c (w : World) : Calls Try.prog 70 #[] w (RetQ w 0 1) := l05Zero_k w 0 rfl
theorem whole_z (w : World) (z : Int) (e : Nat) (h : z = 0 ∧ e = 1) : Calls Try.prog 41 #[.int .i64 0] w (RetQ w z e) := by
  obtain ⟨rfl, rfl⟩ := h; exact whole_c w 0 (by omega) (by omega)
theorem l05Zero_z (w : World) (z : Int) (e : Nat) (h : z = 0 ∧ e = 1) : Calls Try.prog 70 #[] w (RetQ w z e) := by
  obtain ⟨rfl, rfl⟩ := h; exact l05Zero_c w
theorem whole_o (w : World) (z : Int) (e : Nat) (h : z = 1 ∧ e = 1) : Calls Try.prog 41 #[.int .i64 1] w (RetQ w z e) := by
  obtain ⟨rfl, rfl⟩ := h; exact whole_c w 1 (by omega) (by omega)
theorem sFrom_o (w : World) (z : Int) (e : Nat) (h : z = 1 ∧ e = 1) : Calls Try.prog 44 #[.int .i64 1] w (RetQ w z e) := by
  obtain ⟨rfl, rfl⟩ := h; exact sRatFromInt_n w 1 (by omega) (by omega)
theorem var01 : ∃ (z : Int) (e : Nat), z = 0 ∧ e = 1 := ⟨_, _, rfl, rfl⟩
theorem var11 : ∃ (z : Int) (e : Nat), z = 1 ∧ e = 1 := ⟨_, _, rfl, rfl⟩
theorem qv_eq {z y : Int} {e f : Nat} (h : z = y ∧ e = f) : qv z e = qv y f := by obtain ⟨rfl, rfl⟩ := h; rfl
/-- What ZeroVector and UnitVector give. -/
def zvN (n : Int) : Nat := if 0 ≤ n ∧ n ≤ 24 then n.toNat else 0
def uvN (n k : Int) : Nat := if 0 ≤ n ∧ n ≤ 24 ∧ 0 ≤ k ∧ k < n then n.toNat else 0
def uvR (k : Int) (j : Nat) : Rc := if (j : Int) = k then qv 1 1 else qv 0 1
theorem zvN_yes {n : Int} (h : 0 ≤ n ∧ n ≤ 24) : zvN n = n.toNat := if_pos h
theorem zvN_no {n : Int} (h : ¬ (0 ≤ n ∧ n ≤ 24)) : zvN n = 0 := if_neg h
theorem uvN_yes {n k : Int} (h : 0 ≤ n ∧ n ≤ 24 ∧ 0 ≤ k ∧ k < n) : uvN n k = n.toNat := if_pos h
theorem uvN_no {n k : Int} (h : ¬ (0 ≤ n ∧ n ≤ 24 ∧ 0 ≤ k ∧ k < n)) : uvN n k = 0 := if_neg h

set_option maxHeartbeats 1000000 in
theorem ZeroVector_c (w : World) (n : Int) :
    Calls Try.prog 17 #[.int .i64 n] w (RetVec w (zvN n) (fun _ => qv 0 1)) := by
  by_cases hn : 0 ≤ n ∧ n ≤ 24
  case neg =>
    have HZ := Lib.hid (zvN_no hn)
    by_cases h0 : n < 0
    · go_enter Try.func17, Try.ntmps17
      go_wp2
      go_ret
      exact retVec (Vec.nil _ _ (Nat.le_refl _)) (Nat.le_refl _) HZ.out.symm (fun _ _ => rfl) (Below.refl _ _)
    · have h1 : decide ((24 : Int) < n) = true := decide_eq_true (by omega)
      go_enter Try.func17, Try.ntmps17
      go_wp2
      go_ret
      exact retVec (Vec.nil _ _ (Nat.le_refl _)) (Nat.le_refl _) HZ.out.symm (fun _ _ => rfl) (Below.refl _ _)
  case pos =>
    have HZ := Lib.hid (zvN_yes hn)
    obtain ⟨m, rfl⟩ : ∃ m : Nat, n = m := ⟨n.toNat, by omega⟩
    rw [Int.toNat_natCast] at HZ
    have d1 : decide ((24 : Int) < m) = false := decide_eq_false (by omega)
    have hm : m ≤ 24 := by omega
    clear hn
    obtain ⟨z0, d0, hq⟩ := var01
    have HQ := Lib.hid hq
    clear hq
    go_enter Try.func17, Try.ntmps17
    go_wp2
    go_loopw [3, 11] (fun v k wr => ∃ (i : Nat) (E : Nat → Ent), i ≤ m ∧ k = .int .i64 i ∧ Hid (VecF wr w.heap.size wr.heap.size v i E (fun _ => qv z0 d0)) ∧ Below w.heap.size w wr) (fun _ k _ => m - (intOf k).toNat)
    case atStart => exact ⟨0, fun _ => ⟨false, .slice none 0 0, .slice none 0 0⟩, by omega, rfl, VecF.nil _ _ _ (Nat.le_refl _), Below.refl _ _⟩
    case round =>
      obtain ⟨i, E, hi, rfl, HF, hb⟩ := hrel
      by_cases hlt : i < m
      · have t1 : (i : Int) < m := by omega
        go_wp2_with fail
        refine (whole_z _ z0 d0 HQ.out).mono ?_
        rintro e w1 ⟨u, d, rfl, ho1, ho2, ha, hb1⟩
        obtain ⟨ua, uc, rfl, -, -, -, -, -⟩ := ho1.form
        obtain ⟨da, dc, rfl, -, -, -, -, -⟩ := ho2.form
        have HN := Lib.hid (And.intro (And.intro ho1 ho2) (And.intro ha hb1))
        have hs1 := hb1.size
        clear ho1 ho2 ha hb1
        go_wp2_with (at_builtin; refine app_new (w := wr) rfl _ _ rfl rfl rfl HF.out hb.size HN.out.2.2 rfl HN.out.1.1 HN.out.1.2 HN.out.2.1 (by omega) ?_)
        intro v' w2 hv hbl _
        have HV := Lib.hid hv
        have B2 := hb.trans hbl
        clear hv hbl HF HN
        obtain ⟨F, hF⟩ := HV.out
        have HVF := Lib.hid hF
        clear hF HV
        go_wp2
        go_roundw
        case rel => exact ⟨i + 1, F, by omega, by go_num, HVF.out, B2⟩
        case measure => (simp [intOf]) <;> omega
      · obtain rfl : i = m := by omega
        go_wp2
        go_ret
        exact retVec ⟨_, HF.out⟩ (Nat.le_refl _) HZ.out.symm (fun _ _ => qv_eq HQ.out) hb

set_option maxHeartbeats 1000000 in
theorem l05Zeros_c (w : World) (m : Nat) (hm : m ≤ 24) :
    Calls Try.prog 40 #[.int .i64 m] w (RetVec w m (fun _ => qv 0 1)) := by
  obtain ⟨z0, d0, hq⟩ := var01
  have HQ := Lib.hid hq
  clear hq
  have h0 := VecF.lit0 w (lo := w.heap.size) (fun _ => ⟨false, .slice none 0 0, .slice none 0 0⟩) (fun _ => qv z0 d0) (Nat.le_refl _)
  have H0 := Lib.hid (h0.wider (Nat.le_refl _) (Nat.le_refl _) h0.top)
  clear h0
  go_enter Try.func40, Try.ntmps40
  go_wp2
  go_loopw [3] (fun v wr => ∃ (i : Nat) (E : Nat → Ent) (ao : Option Addr) (cap : Nat), i ≤ m ∧ v = .slice ao i cap ∧ Hid (VecF wr w.heap.size wr.heap.size (.slice ao i cap) i E (fun _ => qv z0 d0)) ∧ Below w.heap.size w wr) (fun v _ => m - lenOf v)
  case atStart => exact ⟨0, _, _, _, by omega, rfl, H0.out.wider (Nat.le_refl _) (by simp) (Nat.le_refl _), alloc_bel _ _⟩
  case round =>
    obtain ⟨i, E, ao, cap, hi, rfl, HF, hb⟩ := hrel
    by_cases hlt : i < m
    · have t1 : (i : Int) < m := by omega
      go_wp2_with fail
      refine (l05Zero_z _ z0 d0 HQ.out).mono ?_
      rintro e w1 ⟨u, d, rfl, ho1, ho2, ha, hb1⟩
      obtain ⟨ua, uc, rfl, -, -, -, -, -⟩ := ho1.form
      obtain ⟨da, dc, rfl, -, -, -, -, -⟩ := ho2.form
      have HN := Lib.hid (And.intro (And.intro ho1 ho2) (And.intro ha hb1))
      have hs1 := hb1.size
      clear ho1 ho2 ha hb1
      go_wp2_with (at_builtin; refine app_new (w := wr) rfl _ _ rfl rfl rfl HF.out hb.size HN.out.2.2 rfl HN.out.1.1 HN.out.1.2 HN.out.2.1 (by omega) ?_)
      intro v' w2 hv hbl _
      have HV := Lib.hid hv
      have B2 := hb.trans hbl
      clear hv hbl HF HN
      obtain ⟨F, hF⟩ := HV.out
      obtain ⟨ao2, cap2, rfl, -, -, -⟩ := hF.form
      have HVF := Lib.hid hF
      clear hF HV
      go_wp2
      go_roundw
      case rel => exact ⟨i + 1, F, ao2, cap2, by omega, rfl, HVF.out, B2⟩
      case measure => (simp [lenOf]) <;> omega
    · obtain rfl : i = m := by omega
      go_wp2
      go_ret
      exact retVec ⟨_, HF.out⟩ (Nat.le_refl _) rfl (fun _ _ => qv_eq HQ.out) hb

theorem l01In_t (w : World) (n lo hi : Int) (h : decide (lo ≤ n ∧ n ≤ hi) = true) : Calls Try.prog 39 #[.int .i64 n, .int .i64 lo, .int .i64 hi] w (RetB w true) := by
  have := l01In_c w n lo hi
  rw [h] at this; exact this
theorem l01In_f (w : World) (n lo hi : Int) (h : decide (lo ≤ n ∧ n ≤ hi) = false) : Calls Try.prog 39 #[.int .i64 n, .int .i64 lo, .int .i64 hi] w (RetB w false) := by
  have := l01In_c w n lo hi
  rw [h] at this; exact this

set_option maxHeartbeats 1000000 in
theorem sZeroVector_c (w : World) (n : Int) :
    Calls Try.prog 16 #[.int .i64 n] w (RetVec w (zvN n) (fun _ => qv 0 1)) := by
  by_cases hn : 0 ≤ n ∧ n ≤ 24
  case neg =>
    have HZ := Lib.hid (zvN_no hn)
    have HD := Lib.hid (decide_eq_false hn)
    clear hn
    go_enter Try.func16, Try.ntmps16
    go_wp2_with fail
    refine (l01In_f _ n 0 24 HD.out).mono ?_
    rintro e w1 ⟨rfl, hb⟩
    go_wp2
    go_ret
    exact retVec (Vec.nil _ _ (Nat.le_refl _)) (Nat.le_refl _) HZ.out.symm (fun _ _ => rfl) hb
  case pos =>
    have HZ := Lib.hid (zvN_yes hn)
    have HD := Lib.hid (decide_eq_true hn)
    obtain ⟨m, rfl⟩ : ∃ m : Nat, n = m := ⟨n.toNat, by omega⟩
    rw [Int.toNat_natCast] at HZ
    have hm : m ≤ 24 := by omega
    clear hn
    go_enter Try.func16, Try.ntmps16
    go_wp2_with fail
    refine (l01In_t _ m 0 24 HD.out).mono ?_
    rintro e w1 ⟨rfl, hb⟩
    go_wp2_with fail
    refine (l05Zeros_c _ m hm).mono ?_
    rintro e w2 ⟨v, rfl, hv, hb2⟩
    have HV := Lib.hid hv
    have hs := hb.size
    have B2 := hb.trans (hb2.mono hb.size)
    clear hv hb hb2
    go_wp2
    go_ret
    exact retVec HV.out hs HZ.out.symm (fun _ _ => rfl) B2

theorem ZeroVector_n (w : World) (n : Int) (m : Nat) (h : zvN n = m) : Calls Try.prog 17 #[.int .i64 n] w (RetVec w m (fun _ => qv 0 1)) := by
  subst h; exact ZeroVector_c w n

set_option maxHeartbeats 1000000 in
theorem UnitVector_c (w : World) (n k : Int) :
    Calls Try.prog 21 #[.int .i64 n, .int .i64 k] w (RetVec w (uvN n k) (uvR k)) := by
  by_cases hn : 0 ≤ n ∧ n ≤ 24 ∧ 0 ≤ k ∧ k < n
  case neg =>
    have HZ := Lib.hid (uvN_no hn)
    by_cases h : n < 0
    · have h0 : decide (n < 0) = true := decide_eq_true h
      clear h hn
      go_enter Try.func21, Try.ntmps21
      go_wp2
      go_ret
      exact retVec (Vec.nil _ _ (Nat.le_refl _)) (Nat.le_refl _) HZ.out.symm (fun _ _ => rfl) (Below.refl _ _)
    have hn0 := h
    clear h
    by_cases h : 24 < n
    · have h0 : decide (n < 0) = false := decide_eq_false (by omega)
      have h1 : decide ((24 : Int) < n) = true := decide_eq_true h
      clear h hn
      go_enter Try.func21, Try.ntmps21
      go_wp2
      go_ret
      exact retVec (Vec.nil _ _ (Nat.le_refl _)) (Nat.le_refl _) HZ.out.symm (fun _ _ => rfl) (Below.refl _ _)
    have h24n := h
    clear h
    by_cases h : k < 0
    · have h0 : decide (n < 0) = false := decide_eq_false (by omega)
      have h1 : decide ((24 : Int) < n) = false := decide_eq_false (by omega)
      have h2 : decide (k < 0) = true := decide_eq_true h
      clear h hn
      go_enter Try.func21, Try.ntmps21
      go_wp2
      go_ret
      exact retVec (Vec.nil _ _ (Nat.le_refl _)) (Nat.le_refl _) HZ.out.symm (fun _ _ => rfl) (Below.refl _ _)
    have hk0 := h
    clear h
    have h0 : decide (n < 0) = false := decide_eq_false (by omega)
    have h1 : decide ((24 : Int) < n) = false := decide_eq_false (by omega)
    have h2 : decide (k < 0) = false := decide_eq_false (by omega)
    have h3 : decide (n ≤ k) = true := decide_eq_true (by omega)
    go_enter Try.func21, Try.ntmps21
    go_wp2
    go_ret
    exact retVec (Vec.nil _ _ (Nat.le_refl _)) (Nat.le_refl _) HZ.out.symm (fun _ _ => rfl) (Below.refl _ _)
  case pos =>
    have HZ := Lib.hid (uvN_yes hn)
    obtain ⟨m, rfl⟩ : ∃ m : Nat, n = m := ⟨n.toNat, by omega⟩
    obtain ⟨j, rfl⟩ : ∃ j : Nat, k = j := ⟨k.toNat, by omega⟩
    rw [Int.toNat_natCast] at HZ
    have hm : m ≤ 24 := by omega
    have hj : j < m := by omega
    have t1 : (j : Int) < m := by omega
    have h1 : decide ((24 : Int) < m) = false := decide_eq_false (by omega)
    have h3 : decide (m ≤ j) = false := decide_eq_false (by omega)
    have HN := Lib.hid (zvN_yes (n := m) (by omega))
    rw [Int.toNat_natCast] at HN
    clear hn
    go_enter Try.func21, Try.ntmps21
    go_wp2_with fail
    refine (ZeroVector_n _ m m HN.out).mono ?_
    rintro e w2 ⟨v, rfl, hv, B2⟩
    obtain ⟨E, hv⟩ := hv
    obtain ⟨ao, cap, rfl, -, -, -⟩ := hv.form
    obtain ⟨g, rfl, -, -, -⟩ := hv.addr hj
    have HV := Lib.hid hv
    clear hv
    go_wp2_with fail
    obtain ⟨z0, d0, hq⟩ := var11
    have HQ := Lib.hid hq
    clear hq
    refine (whole_o _ z0 d0 HQ.out).mono ?_
    rintro e w3 ⟨u, d, rfl, ho1, ho2, ha, hb3⟩
    have HG := Lib.hid (HV.out.bel hb3)
    obtain ⟨k1, k2, k3⟩ := HG.out.cells hj
    have z1 := HG.out.frozen hj (j * 3)
    have z2 := HG.out.frozen hj (j * 3 + 1)
    have z3 := HG.out.frozen hj (j * 3 + 2)
    have hs := B2.size
    have hlg := (HG.out.addr hj)
    obtain ⟨g1, hg1, hlg, -, -⟩ := hlg
    cases hg1
    have B3 := B2.trans (hb3.mono B2.size)
    have hst := HG.out.store3 (e := ⟨ng z0, u, d⟩) (r := qv z0 d0) hj ⟨rfl, ho1.mono hs, ho2.mono hs, fun k hk => (ho1.lt k hk).2, fun k hk => (ho2.lt k hk).2⟩ ha (fun k hk => (ho1.lt k hk).1) (fun k hk => (ho2.lt k hk).1)
    have HST := Lib.hid hst
    clear hst
    obtain ⟨ua, uc, rfl, -, -, -, -, -⟩ := ho1.form
    obtain ⟨da, dc, rfl, -, -, -, -, -⟩ := ho2.form
    have HO1 := Lib.hid (And.intro ho1 ho2)
    clear ho1 ho2 hb3 ha HV HG
    go_wp2
    go_ret
    exact retVec ⟨_, HST.out.1.wider (Nat.le_refl _) (by simp [World.setCell]) (Nat.le_refl _)⟩ (Nat.le_refl _) HZ.out.symm (fun i hi => by
      unfold uvR
      by_cases hij : i = j
      · rw [if_pos hij, if_pos (by omega)]; exact qv_eq HQ.out
      · rw [if_neg hij, if_neg (by omega)]) (((B3.setCell hlg _).setCell hlg _).setCell hlg _)

set_option maxHeartbeats 1000000 in
theorem sUnitVector_c (w : World) (n k : Int) :
    Calls Try.prog 20 #[.int .i64 n, .int .i64 k] w (RetVec w (uvN n k) (uvR k)) := by
  by_cases hn : 0 ≤ n ∧ n ≤ 24 ∧ 0 ≤ k ∧ k < n
  case neg =>
    have HZ := Lib.hid (uvN_no hn)
    by_cases h : 0 ≤ n ∧ n ≤ 24
    · have h2 : ¬ (0 ≤ k ∧ k ≤ n - 1) := by omega
      have HD := Lib.hid (decide_eq_true h)
      have HD2 := Lib.hid (decide_eq_false h2)
      have b1 : 0 ≤ n ∧ n ≤ 24 := h
      obtain ⟨b1, b2⟩ := b1
      clear h h2 hn
      go_enter Try.func20, Try.ntmps20
      go_wp2_with fail
      refine (l01In_t _ n 0 24 HD.out).mono ?_
      rintro e w1 ⟨rfl, hb⟩
      go_wp2_with fail
      refine (l01In_f _ k 0 (n - 1) HD2.out).mono ?_
      rintro e w2 ⟨rfl, hb2⟩
      have B2 := hb.trans (hb2.mono hb.size)
      clear hb hb2
      go_wp2
      go_ret
      exact retVec (Vec.nil _ _ (Nat.le_refl _)) (Nat.le_refl _) HZ.out.symm (fun _ _ => rfl) B2
    · have HD := Lib.hid (decide_eq_false h)
      clear h hn
      go_enter Try.func20, Try.ntmps20
      go_wp2_with fail
      refine (l01In_f _ n 0 24 HD.out).mono ?_
      rintro e w1 ⟨rfl, hb⟩
      go_wp2
      go_ret
      exact retVec (Vec.nil _ _ (Nat.le_refl _)) (Nat.le_refl _) HZ.out.symm (fun _ _ => rfl) hb
  case pos =>
    have HZ := Lib.hid (uvN_yes hn)
    obtain ⟨m, rfl⟩ : ∃ m : Nat, n = m := ⟨n.toNat, by omega⟩
    obtain ⟨j, rfl⟩ : ∃ j : Nat, k = j := ⟨k.toNat, by omega⟩
    rw [Int.toNat_natCast] at HZ
    have hm : m ≤ 24 := by omega
    have hj : j < m := by omega
    have t1 : (j : Int) < m := by omega
    have HD := Lib.hid (decide_eq_true (show (0 : Int) ≤ m ∧ (m : Int) ≤ 24 by omega))
    have HD2 := Lib.hid (decide_eq_true (show (0 : Int) ≤ j ∧ (j : Int) ≤ (m : Int) - 1 by omega))
    clear hn
    go_enter Try.func20, Try.ntmps20
    go_wp2_with fail
    refine (l01In_t _ m 0 24 HD.out).mono ?_
    rintro e w0 ⟨rfl, hb⟩
    go_wp2_with fail
    refine (l01In_t _ j 0 (m - 1) HD2.out).mono ?_
    rintro e w1 ⟨rfl, hb1⟩
    have B1 := hb.trans (hb1.mono hb.size)
    clear hb hb1
    go_wp2_with fail
    refine (l05Zeros_c _ m hm).mono ?_
    rintro e w2 ⟨v, rfl, hv, hb2⟩
    have B2 := B1.trans (hb2.mono B1.size)
    replace hv := hv.wider B1.size (Nat.le_refl _) (Nat.le_refl _)
    clear hb2 B1
    obtain ⟨E, hv⟩ := hv
    obtain ⟨ao, cap, rfl, -, -, -⟩ := hv.form
    obtain ⟨g, rfl, -, -, -⟩ := hv.addr hj
    have HV := Lib.hid hv
    clear hv
    go_wp2_with fail
    obtain ⟨z0, d0, hq⟩ := var11
    have HQ := Lib.hid hq
    clear hq
    refine (sFrom_o _ z0 d0 HQ.out).mono ?_
    rintro e w3 ⟨u, d, rfl, ho1, ho2, ha, hb3⟩
    have HG := Lib.hid (HV.out.bel hb3)
    obtain ⟨k1, k2, k3⟩ := HG.out.cells hj
    have z1 := HG.out.frozen hj (j * 3)
    have z2 := HG.out.frozen hj (j * 3 + 1)
    have z3 := HG.out.frozen hj (j * 3 + 2)
    have hs := B2.size
    have hlg := (HG.out.addr hj)
    obtain ⟨g1, hg1, hlg, -, -⟩ := hlg
    cases hg1
    have B3 := B2.trans (hb3.mono B2.size)
    have hst := HG.out.store3 (e := ⟨ng z0, u, d⟩) (r := qv z0 d0) hj ⟨rfl, ho1.mono hs, ho2.mono hs, fun k hk => (ho1.lt k hk).2, fun k hk => (ho2.lt k hk).2⟩ ha (fun k hk => (ho1.lt k hk).1) (fun k hk => (ho2.lt k hk).1)
    have HST := Lib.hid hst
    clear hst
    obtain ⟨ua, uc, rfl, -, -, -, -, -⟩ := ho1.form
    obtain ⟨da, dc, rfl, -, -, -, -, -⟩ := ho2.form
    have HO1 := Lib.hid (And.intro ho1 ho2)
    clear ho1 ho2 hb3 ha HV HG
    go_wp2
    go_ret
    exact retVec ⟨_, HST.out.1.wider (Nat.le_refl _) (by simp [World.setCell]) (Nat.le_refl _)⟩ (Nat.le_refl _) HZ.out.symm (fun i hi => by
      unfold uvR
      by_cases hij : i = j
      · rw [if_pos hij, if_pos (by omega)]; exact qv_eq HQ.out
      · rw [if_neg hij, if_neg (by omega)]) (((B3.setCell hlg _).setCell hlg _).setCell hlg _)

end Go.Proofs.Ytcmhpdhcpkhejaa
