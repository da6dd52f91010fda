/- The program's fractions. -/
import Derived.Test.YtcmhpdhcpkhejaaDoorRatV
namespace Go.Proofs.YtcmhpdhcpkhejaaDoor
open Go.RowKit Lm

set_option maxHeartbeats 1000000 in
theorem isOne_t (w : World) (b1 : Nat) (v1 : Value) (h1 : Own w b1 v1 (limbs 1)) : Calls Tryd.prog 27 #[v1] w (RetB w true) := by
  rw [limbs_one] at h1
  obtain ⟨a1, c1, rfl, -, f2, f3, -, -⟩ := h1.form
  obtain ⟨g, rfl, -, -⟩ := h1.addr (i := 0) (by simp)
  have r1 := h1.cell 0 (by simp)
  rw [show lat [1] 0 = 1 from rfl] at r1
  clear h1
  go_enter Tryd.func27, Tryd.ntmps27
  go_wp2
  go_ret
  exact retB rfl (Below.refl _ _)
set_option maxHeartbeats 1000000 in
theorem isOne_f (w : World) (b1 : Nat) (v1 : Value) (n : Nat) (h1 : Own w b1 v1 (limbs n)) (hn : n ≠ 1) : Calls Tryd.prog 27 #[v1] w (RetB w false) := by
  obtain ⟨a1, c1, rfl, -, f2, f3, -, -⟩ := h1.form
  by_cases hl : (limbs n).length = 1
  · obtain ⟨g, rfl, -, -⟩ := h1.addr (i := 0) (by omega)
    have r1 := h1.cell 0 (by omega)
    have hn2 : n < 1000000000 := by
      have := (limbs_len_le (n := n) (k := 1)).1 (by omega)
      simp only [pw] at this; omega
    have hn0 : 0 < n := limbs_len_pos.1 (by omega)
    rw [show lat (limbs n) 0 = (n : Int) by rw [limbs_small hn0 hn2]; rfl, hl] at *
    have d1 : ((n : Int) == 1) = false := beq_eq_false_iff_ne.2 (by omega)
    clear h1 hl
    go_enter Tryd.func27, Tryd.ntmps27
    go_wp2
    go_ret
    exact retB rfl (Below.refl _ _)
  · have d1 : ((limbs n).length == 1) = false := beq_eq_false_iff_ne.2 hl
    have d2 : (((limbs n).length : Int) == 1) = false := beq_eq_false_iff_ne.2 (by omega)
    clear h1 hl
    go_enter Tryd.func27, Tryd.ntmps27
    go_wp2
    go_ret
    exact retB rfl (Below.refl _ _)

theorem gcd_i (w : World) (b1 b2 : Nat) (v1 v2 : Value) (a b : Nat) (h1 : Own w b1 v1 (limbs a)) (h2 : Own w b2 v2 (limbs b)) (hs1 : (limbs a).length ≤ 900) (hs2 : (limbs b).length ≤ 900) (ha : 0 < a) (g : Nat) (hg : Hid (g = Nat.gcd a b)) :
    Calls Tryd.prog 40 #[v1, v2] w (RetS w (limbs g)) := by
  rw [hg.out]; exact natGcd_c w b1 b2 v1 v2 a b h1 h2 (by omega) (by omega) ha

set_option maxHeartbeats 1000000 in
theorem ratOk_f1 (w : World) (b1 e1 : Nat) (s : Bool) (v1 u1 : Value) (xs ys : List Int) (h1 : Own w b1 v1 xs) (k1 : Own w e1 u1 ys) (hx : ¬ OkG s xs) :
    Calls Tryd.prog 26 #[.agg #[.bool s, v1, u1]] w (RetB w false) := by
  obtain ⟨a1, c1, rfl, -, -, -, -, -⟩ := h1.form
  obtain ⟨p1, q1, rfl, -, -, -, -, -⟩ := k1.form
  have BW : Below w.heap.size w (w.alloc (.cells #[.bool s, (.slice a1 xs.length c1), (.slice p1 ys.length q1)] 39)) := ((Below.refl w.heap.size w).alloc (Nat.le_refl _) _)
  obtain ⟨c0_0, c0_1, c0_2⟩ : World.cell? (w.alloc (.cells #[.bool s, (.slice a1 xs.length c1), (.slice p1 ys.length q1)] 39)) ⟨w.heap.size, 0, none⟩ = some (.bool s) ∧ World.cell? (w.alloc (.cells #[.bool s, (.slice a1 xs.length c1), (.slice p1 ys.length q1)] 39)) ⟨w.heap.size, 1, none⟩ = some ((.slice a1 xs.length c1)) ∧ World.cell? (w.alloc (.cells #[.bool s, (.slice a1 xs.length c1), (.slice p1 ys.length q1)] 39)) ⟨w.heap.size, 2, none⟩ = some ((.slice p1 ys.length q1)) := by simp [go_sem]
  have Ha := Lib.hid (h1.below BW (Nat.le_refl _))
  have Hb := Lib.hid (k1.below BW (Nat.le_refl _))
  clear h1 k1
  have HX := Lib.hid hx
  clear hx
  go_enter Tryd.func26, Tryd.ntmps26
  go_wp2_with fail
  generalize (w.alloc (.cells #[.bool s, (.slice a1 xs.length c1), (.slice p1 ys.length q1)] 39)) = w0 at *
  have B0 := Below.refl w0.heap.size w0
  refine (bigIntOk_f _ _ _ _ _ Ha.out HX.out).mono ?_
  rintro e w1 ⟨rfl, hb⟩
  replace c0_0 := keep_cell hb c0_0
  replace c0_1 := keep_cell hb c0_1
  replace c0_2 := keep_cell hb c0_2
  replace Ha := Lib.hid (Ha.out.below hb (Nat.le_refl _))
  replace Hb := Lib.hid (Hb.out.below hb (Nat.le_refl _))
  replace B0 := B0.trans (hb.mono B0.size)
  clear hb
  go_wp2
  go_ret
  exact retB rfl (BW.trans (B0.mono BW.size))

set_option maxHeartbeats 1000000 in
theorem ratOk_f2 (w : World) (b1 e1 : Nat) (s : Bool) (v1 u1 : Value) (xs ys : List Int) (h1 : Own w b1 v1 xs) (k1 : Own w e1 u1 ys) (hx : OkG s xs) (hy : ¬ OkP ys) :
    Calls Tryd.prog 26 #[.agg #[.bool s, v1, u1]] w (RetB w false) := by
  obtain ⟨a1, c1, rfl, -, -, -, -, -⟩ := h1.form
  obtain ⟨p1, q1, rfl, -, -, -, -, -⟩ := k1.form
  have BW : Below w.heap.size w (w.alloc (.cells #[.bool s, (.slice a1 xs.length c1), (.slice p1 ys.length q1)] 39)) := ((Below.refl w.heap.size w).alloc (Nat.le_refl _) _)
  obtain ⟨c0_0, c0_1, c0_2⟩ : World.cell? (w.alloc (.cells #[.bool s, (.slice a1 xs.length c1), (.slice p1 ys.length q1)] 39)) ⟨w.heap.size, 0, none⟩ = some (.bool s) ∧ World.cell? (w.alloc (.cells #[.bool s, (.slice a1 xs.length c1), (.slice p1 ys.length q1)] 39)) ⟨w.heap.size, 1, none⟩ = some ((.slice a1 xs.length c1)) ∧ World.cell? (w.alloc (.cells #[.bool s, (.slice a1 xs.length c1), (.slice p1 ys.length q1)] 39)) ⟨w.heap.size, 2, none⟩ = some ((.slice p1 ys.length q1)) := by simp [go_sem]
  have Ha := Lib.hid (h1.below BW (Nat.le_refl _))
  have Hb := Lib.hid (k1.below BW (Nat.le_refl _))
  clear h1 k1
  have HX := Lib.hid hx
  have HY := Lib.hid hy
  clear hx hy
  go_enter Tryd.func26, Tryd.ntmps26
  go_wp2_with fail
  generalize (w.alloc (.cells #[.bool s, (.slice a1 xs.length c1), (.slice p1 ys.length q1)] 39)) = w0 at *
  have B0 := Below.refl w0.heap.size w0
  refine (bigIntOk_t _ _ _ _ _ Ha.out HX.out).mono ?_
  rintro e w1 ⟨rfl, hb⟩
  replace c0_0 := keep_cell hb c0_0
  replace c0_1 := keep_cell hb c0_1
  replace c0_2 := keep_cell hb c0_2
  replace Ha := Lib.hid (Ha.out.below hb (Nat.le_refl _))
  replace Hb := Lib.hid (Hb.out.below hb (Nat.le_refl _))
  replace B0 := B0.trans (hb.mono B0.size)
  clear hb
  go_wp2_with fail
  refine (natOk_f _ _ _ _ Hb.out HY.out).mono ?_
  rintro e w2 ⟨rfl, hb⟩
  replace c0_0 := keep_cell hb c0_0
  replace c0_1 := keep_cell hb c0_1
  replace c0_2 := keep_cell hb c0_2
  replace Ha := Lib.hid (Ha.out.below hb (Nat.le_refl _))
  replace Hb := Lib.hid (Hb.out.below hb (Nat.le_refl _))
  replace B0 := B0.trans (hb.mono B0.size)
  clear hb
  go_wp2
  go_ret
  exact retB rfl (BW.trans (B0.mono BW.size))

set_option maxHeartbeats 1000000 in
theorem ratOk_f3 (w : World) (b1 e1 : Nat) (s : Bool) (v1 u1 : Value) (xs : List Int) (h1 : Own w b1 v1 xs) (k1 : Own w e1 u1 []) (hx : OkG s xs) (hy : OkP []) :
    Calls Tryd.prog 26 #[.agg #[.bool s, v1, u1]] w (RetB w false) := by
  obtain ⟨a1, c1, rfl, -, -, -, -, -⟩ := h1.form
  obtain ⟨p1, q1, rfl, -, -, -, -, -⟩ := k1.form
  have BW : Below w.heap.size w (w.alloc (.cells #[.bool s, (.slice a1 xs.length c1), (.slice p1 ([] : List Int).length q1)] 39)) := ((Below.refl w.heap.size w).alloc (Nat.le_refl _) _)
  obtain ⟨c0_0, c0_1, c0_2⟩ : World.cell? (w.alloc (.cells #[.bool s, (.slice a1 xs.length c1), (.slice p1 ([] : List Int).length q1)] 39)) ⟨w.heap.size, 0, none⟩ = some (.bool s) ∧ World.cell? (w.alloc (.cells #[.bool s, (.slice a1 xs.length c1), (.slice p1 ([] : List Int).length q1)] 39)) ⟨w.heap.size, 1, none⟩ = some ((.slice a1 xs.length c1)) ∧ World.cell? (w.alloc (.cells #[.bool s, (.slice a1 xs.length c1), (.slice p1 ([] : List Int).length q1)] 39)) ⟨w.heap.size, 2, none⟩ = some ((.slice p1 ([] : List Int).length q1)) := by simp [go_sem]
  have Ha := Lib.hid (h1.below BW (Nat.le_refl _))
  have Hb := Lib.hid (k1.below BW (Nat.le_refl _))
  clear h1 k1
  have HX := Lib.hid hx
  have HY := Lib.hid hy
  have dz0 : (([] : List Int).length == 0) = true := rfl
  have dy0 : ((([] : List Int).length : Int) == 0) = true := rfl
  clear hx hy
  go_enter Tryd.func26, Tryd.ntmps26
  go_wp2_with fail
  generalize (w.alloc (.cells #[.bool s, (.slice a1 xs.length c1), (.slice p1 ([] : List Int).length q1)] 39)) = w0 at *
  have B0 := Below.refl w0.heap.size w0
  refine (bigIntOk_t _ _ _ _ _ Ha.out HX.out).mono ?_
  rintro e w1 ⟨rfl, hb⟩
  replace c0_0 := keep_cell hb c0_0
  replace c0_1 := keep_cell hb c0_1
  replace c0_2 := keep_cell hb c0_2
  replace Ha := Lib.hid (Ha.out.below hb (Nat.le_refl _))
  replace Hb := Lib.hid (Hb.out.below hb (Nat.le_refl _))
  replace B0 := B0.trans (hb.mono B0.size)
  clear hb
  go_wp2_with fail
  refine (natOk_t _ _ _ _ Hb.out HY.out).mono ?_
  rintro e w2 ⟨rfl, hb⟩
  replace c0_0 := keep_cell hb c0_0
  replace c0_1 := keep_cell hb c0_1
  replace c0_2 := keep_cell hb c0_2
  replace Ha := Lib.hid (Ha.out.below hb (Nat.le_refl _))
  replace Hb := Lib.hid (Hb.out.below hb (Nat.le_refl _))
  replace B0 := B0.trans (hb.mono B0.size)
  clear hb
  go_wp2
  go_ret
  exact retB rfl (BW.trans (B0.mono BW.size))

set_option maxHeartbeats 1000000 in
theorem ratOk_f4 (w : World) (b1 e1 : Nat) (s : Bool) (v1 u1 : Value) (xs ys : List Int) (h1 : Own w b1 v1 xs) (k1 : Own w e1 u1 ys) (hx : OkG s xs) (hy : OkP ys) (hz : ¬ ys.length = 0) (hl : 24 < xs.length) :
    Calls Tryd.prog 26 #[.agg #[.bool s, v1, u1]] w (RetB w false) := by
  obtain ⟨a1, c1, rfl, -, -, -, -, -⟩ := h1.form
  obtain ⟨p1, q1, rfl, -, -, -, -, -⟩ := k1.form
  have BW : Below w.heap.size w (w.alloc (.cells #[.bool s, (.slice a1 xs.length c1), (.slice p1 ys.length q1)] 39)) := ((Below.refl w.heap.size w).alloc (Nat.le_refl _) _)
  obtain ⟨c0_0, c0_1, c0_2⟩ : World.cell? (w.alloc (.cells #[.bool s, (.slice a1 xs.length c1), (.slice p1 ys.length q1)] 39)) ⟨w.heap.size, 0, none⟩ = some (.bool s) ∧ World.cell? (w.alloc (.cells #[.bool s, (.slice a1 xs.length c1), (.slice p1 ys.length q1)] 39)) ⟨w.heap.size, 1, none⟩ = some ((.slice a1 xs.length c1)) ∧ World.cell? (w.alloc (.cells #[.bool s, (.slice a1 xs.length c1), (.slice p1 ys.length q1)] 39)) ⟨w.heap.size, 2, none⟩ = some ((.slice p1 ys.length q1)) := by simp [go_sem]
  have Ha := Lib.hid (h1.below BW (Nat.le_refl _))
  have Hb := Lib.hid (k1.below BW (Nat.le_refl _))
  clear h1 k1
  have HX := Lib.hid hx
  have HY := Lib.hid hy
  have dz0 : (ys.length == 0) = false := beq_eq_false_iff_ne.2 hz
  have dy0 : ((ys.length : Int) == 0) = false := beq_eq_false_iff_ne.2 (by omega)
  have gx : decide (24 < xs.length) = true := decide_eq_true (by omega)
  have gix : decide ((24 : Int) < xs.length) = true := decide_eq_true (by omega)
  clear hx hy
  go_enter Tryd.func26, Tryd.ntmps26
  go_wp2_with fail
  generalize (w.alloc (.cells #[.bool s, (.slice a1 xs.length c1), (.slice p1 ys.length q1)] 39)) = w0 at *
  have B0 := Below.refl w0.heap.size w0
  refine (bigIntOk_t _ _ _ _ _ Ha.out HX.out).mono ?_
  rintro e w1 ⟨rfl, hb⟩
  replace c0_0 := keep_cell hb c0_0
  replace c0_1 := keep_cell hb c0_1
  replace c0_2 := keep_cell hb c0_2
  replace Ha := Lib.hid (Ha.out.below hb (Nat.le_refl _))
  replace Hb := Lib.hid (Hb.out.below hb (Nat.le_refl _))
  replace B0 := B0.trans (hb.mono B0.size)
  clear hb
  go_wp2_with fail
  refine (natOk_t _ _ _ _ Hb.out HY.out).mono ?_
  rintro e w2 ⟨rfl, hb⟩
  replace c0_0 := keep_cell hb c0_0
  replace c0_1 := keep_cell hb c0_1
  replace c0_2 := keep_cell hb c0_2
  replace Ha := Lib.hid (Ha.out.below hb (Nat.le_refl _))
  replace Hb := Lib.hid (Hb.out.below hb (Nat.le_refl _))
  replace B0 := B0.trans (hb.mono B0.size)
  clear hb
  go_wp2
  go_ret
  exact retB rfl (BW.trans (B0.mono BW.size))

set_option maxHeartbeats 1000000 in
theorem ratOk_f5 (w : World) (b1 e1 : Nat) (s : Bool) (v1 u1 : Value) (xs ys : List Int) (h1 : Own w b1 v1 xs) (k1 : Own w e1 u1 ys) (hx : OkG s xs) (hy : OkP ys) (hz : ¬ ys.length = 0) (hl : xs.length ≤ 24) (hm : 24 < ys.length) :
    Calls Tryd.prog 26 #[.agg #[.bool s, v1, u1]] w (RetB w false) := by
  obtain ⟨a1, c1, rfl, -, -, -, -, -⟩ := h1.form
  obtain ⟨p1, q1, rfl, -, -, -, -, -⟩ := k1.form
  have BW : Below w.heap.size w (w.alloc (.cells #[.bool s, (.slice a1 xs.length c1), (.slice p1 ys.length q1)] 39)) := ((Below.refl w.heap.size w).alloc (Nat.le_refl _) _)
  obtain ⟨c0_0, c0_1, c0_2⟩ : World.cell? (w.alloc (.cells #[.bool s, (.slice a1 xs.length c1), (.slice p1 ys.length q1)] 39)) ⟨w.heap.size, 0, none⟩ = some (.bool s) ∧ World.cell? (w.alloc (.cells #[.bool s, (.slice a1 xs.length c1), (.slice p1 ys.length q1)] 39)) ⟨w.heap.size, 1, none⟩ = some ((.slice a1 xs.length c1)) ∧ World.cell? (w.alloc (.cells #[.bool s, (.slice a1 xs.length c1), (.slice p1 ys.length q1)] 39)) ⟨w.heap.size, 2, none⟩ = some ((.slice p1 ys.length q1)) := by simp [go_sem]
  have Ha := Lib.hid (h1.below BW (Nat.le_refl _))
  have Hb := Lib.hid (k1.below BW (Nat.le_refl _))
  clear h1 k1
  have HX := Lib.hid hx
  have HY := Lib.hid hy
  have dz0 : (ys.length == 0) = false := beq_eq_false_iff_ne.2 hz
  have dy0 : ((ys.length : Int) == 0) = false := beq_eq_false_iff_ne.2 (by omega)
  have gx : decide (24 < xs.length) = false := decide_eq_false (by omega)
  have gix : decide ((24 : Int) < xs.length) = false := decide_eq_false (by omega)
  have gy : decide (24 < ys.length) = true := decide_eq_true (by omega)
  have giy : decide ((24 : Int) < ys.length) = true := decide_eq_true (by omega)
  clear hx hy
  go_enter Tryd.func26, Tryd.ntmps26
  go_wp2_with fail
  generalize (w.alloc (.cells #[.bool s, (.slice a1 xs.length c1), (.slice p1 ys.length q1)] 39)) = w0 at *
  have B0 := Below.refl w0.heap.size w0
  refine (bigIntOk_t _ _ _ _ _ Ha.out HX.out).mono ?_
  rintro e w1 ⟨rfl, hb⟩
  replace c0_0 := keep_cell hb c0_0
  replace c0_1 := keep_cell hb c0_1
  replace c0_2 := keep_cell hb c0_2
  replace Ha := Lib.hid (Ha.out.below hb (Nat.le_refl _))
  replace Hb := Lib.hid (Hb.out.below hb (Nat.le_refl _))
  replace B0 := B0.trans (hb.mono B0.size)
  clear hb
  go_wp2_with fail
  refine (natOk_t _ _ _ _ Hb.out HY.out).mono ?_
  rintro e w2 ⟨rfl, hb⟩
  replace c0_0 := keep_cell hb c0_0
  replace c0_1 := keep_cell hb c0_1
  replace c0_2 := keep_cell hb c0_2
  replace Ha := Lib.hid (Ha.out.below hb (Nat.le_refl _))
  replace Hb := Lib.hid (Hb.out.below hb (Nat.le_refl _))
  replace B0 := B0.trans (hb.mono B0.size)
  clear hb
  go_wp2
  go_ret
  exact retB rfl (BW.trans (B0.mono BW.size))

set_option maxHeartbeats 1000000 in
theorem ratOk_yes (w : World) (b1 e1 : Nat) (v1 u1 : Value) (x : Int) (d : Nat) (h1 : Own w b1 v1 (limbs x.natAbs)) (k1 : Own w e1 u1 (limbs d)) (hd : 0 < d) (hlx : (limbs x.natAbs).length ≤ 24) (hld : (limbs d).length ≤ 24) (g : Nat) (hg : g = Nat.gcd d x.natAbs) (hg1 : g = 1) :
    Calls Tryd.prog 26 #[.agg #[.bool (ng x), v1, u1]] w (RetB w true) := by
  obtain ⟨a1, c1, rfl, -, -, -, -, -⟩ := h1.form
  obtain ⟨p1, q1, rfl, -, -, -, -, -⟩ := k1.form
  subst hg1
  have BW : Below w.heap.size w (w.alloc (.cells #[.bool (ng x), (.slice a1 (limbs x.natAbs).length c1), (.slice p1 (limbs d).length q1)] 39)) := ((Below.refl w.heap.size w).alloc (Nat.le_refl _) _)
  obtain ⟨c0_0, c0_1, c0_2⟩ : World.cell? (w.alloc (.cells #[.bool (ng x), (.slice a1 (limbs x.natAbs).length c1), (.slice p1 (limbs d).length q1)] 39)) ⟨w.heap.size, 0, none⟩ = some (.bool (ng x)) ∧ World.cell? (w.alloc (.cells #[.bool (ng x), (.slice a1 (limbs x.natAbs).length c1), (.slice p1 (limbs d).length q1)] 39)) ⟨w.heap.size, 1, none⟩ = some ((.slice a1 (limbs x.natAbs).length c1)) ∧ World.cell? (w.alloc (.cells #[.bool (ng x), (.slice a1 (limbs x.natAbs).length c1), (.slice p1 (limbs d).length q1)] 39)) ⟨w.heap.size, 2, none⟩ = some ((.slice p1 (limbs d).length q1)) := by simp [go_sem]
  have Ha := Lib.hid (h1.below BW (Nat.le_refl _))
  have Hb := Lib.hid (k1.below BW (Nat.le_refl _))
  clear h1 k1
  have HG := Lib.hid hg
  have dz0 : ((limbs d).length == 0) = false := beq_eq_false_iff_ne.2 (by have := limbs_len_pos.2 hd; omega)
  have dy0 : (((limbs d).length : Int) == 0) = false := beq_eq_false_iff_ne.2 (by have := limbs_len_pos.2 hd; omega)
  have gx : decide (24 < (limbs x.natAbs).length) = false := decide_eq_false (by omega)
  have gix : decide ((24 : Int) < (limbs x.natAbs).length) = false := decide_eq_false (by omega)
  have gy : decide (24 < (limbs d).length) = false := decide_eq_false (by omega)
  have giy : decide ((24 : Int) < (limbs d).length) = false := decide_eq_false (by omega)
  have HD := Lib.hid hd
  have m1 : (limbs x.natAbs).length ≤ 60 := by omega
  have m2 : (limbs d).length ≤ 60 := by omega
  have n1 : (limbs x.natAbs).length ≤ 900 := by omega
  have n2 : (limbs d).length ≤ 900 := by omega
  clear hg hd
  go_enter Tryd.func26, Tryd.ntmps26
  go_wp2_with fail
  generalize (w.alloc (.cells #[.bool (ng x), (.slice a1 (limbs x.natAbs).length c1), (.slice p1 (limbs d).length q1)] 39)) = w0 at *
  have B0 := Below.refl w0.heap.size w0
  refine (bigIntOk_z _ _ _ x Ha.out m1).mono ?_
  rintro e w1 ⟨rfl, hb⟩
  replace c0_0 := keep_cell hb c0_0
  replace c0_1 := keep_cell hb c0_1
  replace c0_2 := keep_cell hb c0_2
  replace Ha := Lib.hid (Ha.out.below hb (Nat.le_refl _))
  replace Hb := Lib.hid (Hb.out.below hb (Nat.le_refl _))
  replace B0 := B0.trans (hb.mono B0.size)
  clear hb
  go_wp2_with fail
  refine (natOk_t _ _ _ _ Hb.out (limbs_ok m2)).mono ?_
  rintro e w2 ⟨rfl, hb⟩
  replace c0_0 := keep_cell hb c0_0
  replace c0_1 := keep_cell hb c0_1
  replace c0_2 := keep_cell hb c0_2
  replace Ha := Lib.hid (Ha.out.below hb (Nat.le_refl _))
  replace Hb := Lib.hid (Hb.out.below hb (Nat.le_refl _))
  replace B0 := B0.trans (hb.mono B0.size)
  clear hb
  go_wp2_with fail
  refine (gcd_i _ _ _ _ _ d x.natAbs Hb.out Ha.out n2 n1 HD.out 1 HG).mono ?_
  rintro e w3 ⟨vg, rfl, ho1, hb⟩
  replace c0_0 := keep_cell hb c0_0
  replace c0_1 := keep_cell hb c0_1
  replace c0_2 := keep_cell hb c0_2
  replace Ha := Lib.hid (Ha.out.below hb (Nat.le_refl _))
  replace Hb := Lib.hid (Hb.out.below hb (Nat.le_refl _))
  have Hg := Lib.hid (ho1.mono B0.size)
  clear ho1
  replace B0 := B0.trans (hb.mono B0.size)
  clear hb
  go_wp2_with fail
  refine (isOne_t _ _ _ Hg.out).mono ?_
  rintro e w4 ⟨rfl, hb⟩
  replace c0_0 := keep_cell hb c0_0
  replace c0_1 := keep_cell hb c0_1
  replace c0_2 := keep_cell hb c0_2
  replace Ha := Lib.hid (Ha.out.below hb (Nat.le_refl _))
  replace Hb := Lib.hid (Hb.out.below hb (Nat.le_refl _))
  replace Hg := Lib.hid (Hg.out.below hb (Nat.le_refl _))
  replace B0 := B0.trans (hb.mono B0.size)
  clear hb
  go_wp2
  go_ret
  exact retB rfl (BW.trans (B0.mono BW.size))

set_option maxHeartbeats 1000000 in
theorem ratOk_no (w : World) (b1 e1 : Nat) (v1 u1 : Value) (x : Int) (d : Nat) (h1 : Own w b1 v1 (limbs x.natAbs)) (k1 : Own w e1 u1 (limbs d)) (hd : 0 < d) (hlx : (limbs x.natAbs).length ≤ 24) (hld : (limbs d).length ≤ 24) (g : Nat) (hg : g = Nat.gcd d x.natAbs) (hg1 : g ≠ 1) :
    Calls Tryd.prog 26 #[.agg #[.bool (ng x), v1, u1]] w (RetB w false) := by
  obtain ⟨a1, c1, rfl, -, -, -, -, -⟩ := h1.form
  obtain ⟨p1, q1, rfl, -, -, -, -, -⟩ := k1.form
  have BW : Below w.heap.size w (w.alloc (.cells #[.bool (ng x), (.slice a1 (limbs x.natAbs).length c1), (.slice p1 (limbs d).length q1)] 39)) := ((Below.refl w.heap.size w).alloc (Nat.le_refl _) _)
  obtain ⟨c0_0, c0_1, c0_2⟩ : World.cell? (w.alloc (.cells #[.bool (ng x), (.slice a1 (limbs x.natAbs).length c1), (.slice p1 (limbs d).length q1)] 39)) ⟨w.heap.size, 0, none⟩ = some (.bool (ng x)) ∧ World.cell? (w.alloc (.cells #[.bool (ng x), (.slice a1 (limbs x.natAbs).length c1), (.slice p1 (limbs d).length q1)] 39)) ⟨w.heap.size, 1, none⟩ = some ((.slice a1 (limbs x.natAbs).length c1)) ∧ World.cell? (w.alloc (.cells #[.bool (ng x), (.slice a1 (limbs x.natAbs).length c1), (.slice p1 (limbs d).length q1)] 39)) ⟨w.heap.size, 2, none⟩ = some ((.slice p1 (limbs d).length q1)) := by simp [go_sem]
  have Ha := Lib.hid (h1.below BW (Nat.le_refl _))
  have Hb := Lib.hid (k1.below BW (Nat.le_refl _))
  clear h1 k1
  have HG := Lib.hid hg
  have dz0 : ((limbs d).length == 0) = false := beq_eq_false_iff_ne.2 (by have := limbs_len_pos.2 hd; omega)
  have dy0 : (((limbs d).length : Int) == 0) = false := beq_eq_false_iff_ne.2 (by have := limbs_len_pos.2 hd; omega)
  have gx : decide (24 < (limbs x.natAbs).length) = false := decide_eq_false (by omega)
  have gix : decide ((24 : Int) < (limbs x.natAbs).length) = false := decide_eq_false (by omega)
  have gy : decide (24 < (limbs d).length) = false := decide_eq_false (by omega)
  have giy : decide ((24 : Int) < (limbs d).length) = false := decide_eq_false (by omega)
  have HD := Lib.hid hd
  have m1 : (limbs x.natAbs).length ≤ 60 := by omega
  have m2 : (limbs d).length ≤ 60 := by omega
  have n1 : (limbs x.natAbs).length ≤ 900 := by omega
  have n2 : (limbs d).length ≤ 900 := by omega
  clear hg hd
  go_enter Tryd.func26, Tryd.ntmps26
  go_wp2_with fail
  generalize (w.alloc (.cells #[.bool (ng x), (.slice a1 (limbs x.natAbs).length c1), (.slice p1 (limbs d).length q1)] 39)) = w0 at *
  have B0 := Below.refl w0.heap.size w0
  refine (bigIntOk_z _ _ _ x Ha.out m1).mono ?_
  rintro e w1 ⟨rfl, hb⟩
  replace c0_0 := keep_cell hb c0_0
  replace c0_1 := keep_cell hb c0_1
  replace c0_2 := keep_cell hb c0_2
  replace Ha := Lib.hid (Ha.out.below hb (Nat.le_refl _))
  replace Hb := Lib.hid (Hb.out.below hb (Nat.le_refl _))
  replace B0 := B0.trans (hb.mono B0.size)
  clear hb
  go_wp2_with fail
  refine (natOk_t _ _ _ _ Hb.out (limbs_ok m2)).mono ?_
  rintro e w2 ⟨rfl, hb⟩
  replace c0_0 := keep_cell hb c0_0
  replace c0_1 := keep_cell hb c0_1
  replace c0_2 := keep_cell hb c0_2
  replace Ha := Lib.hid (Ha.out.below hb (Nat.le_refl _))
  replace Hb := Lib.hid (Hb.out.below hb (Nat.le_refl _))
  replace B0 := B0.trans (hb.mono B0.size)
  clear hb
  go_wp2_with fail
  refine (gcd_i _ _ _ _ _ d x.natAbs Hb.out Ha.out n2 n1 HD.out g HG).mono ?_
  rintro e w3 ⟨vg, rfl, ho1, hb⟩
  replace c0_0 := keep_cell hb c0_0
  replace c0_1 := keep_cell hb c0_1
  replace c0_2 := keep_cell hb c0_2
  replace Ha := Lib.hid (Ha.out.below hb (Nat.le_refl _))
  replace Hb := Lib.hid (Hb.out.below hb (Nat.le_refl _))
  have Hg := Lib.hid (ho1.mono B0.size)
  clear ho1
  replace B0 := B0.trans (hb.mono B0.size)
  clear hb
  go_wp2_with fail
  refine (isOne_f _ _ _ g Hg.out hg1).mono ?_
  rintro e w4 ⟨rfl, hb⟩
  replace c0_0 := keep_cell hb c0_0
  replace c0_1 := keep_cell hb c0_1
  replace c0_2 := keep_cell hb c0_2
  replace Ha := Lib.hid (Ha.out.below hb (Nat.le_refl _))
  replace Hb := Lib.hid (Hb.out.below hb (Nat.le_refl _))
  replace Hg := Lib.hid (Hg.out.below hb (Nat.le_refl _))
  replace B0 := B0.trans (hb.mono B0.size)
  clear hb
  go_wp2
  go_ret
  exact retB rfl (BW.trans (B0.mono BW.size))

theorem ratOk_t (w : World) (b1 e1 : Nat) (s : Bool) (v1 u1 : Value) (xs ys : List Int) (h1 : Own w b1 v1 xs) (k1 : Own w e1 u1 ys) (h : OkR s xs ys) : Calls Tryd.prog 26 #[.agg #[.bool s, v1, u1]] w (RetB w true) := by
  obtain ⟨x, d, rfl, rfl, rfl, h, -, -⟩ := okR_q h
  exact ratOk_yes w b1 e1 v1 u1 x d h1 k1 h.1 h.2.2.1 h.2.2.2 _ rfl (by rw [Nat.gcd_comm]; exact h.2.1)
theorem ratOk_f (w : World) (b1 e1 : Nat) (s : Bool) (v1 u1 : Value) (xs ys : List Int) (h1 : Own w b1 v1 xs) (k1 : Own w e1 u1 ys) (h : ¬ OkR s xs ys) : Calls Tryd.prog 26 #[.agg #[.bool s, v1, u1]] w (RetB w false) := by
  by_cases hx : OkG s xs
  · by_cases hy : OkP ys
    · by_cases hz : ys.length = 0
      · obtain rfl := List.length_eq_zero_iff.1 hz
        exact ratOk_f3 w b1 e1 s v1 u1 xs h1 k1 hx hy
      · by_cases hl : xs.length ≤ 24
        · by_cases hm : ys.length ≤ 24
          · obtain ⟨x, rfl, rfl, hl1, -⟩ := okG_z hx
            obtain ⟨d, rfl, hl2⟩ := ok_limbs hy
            have hd : 0 < d := limbs_len_pos.1 (by omega)
            refine ratOk_no w b1 e1 v1 u1 x d h1 k1 hd (hl) (hm) _ rfl (fun e => h ⟨hx, hy, fun e2 => hz (by rw [e2]; rfl), hl, hm, ?_⟩)
            rw [nv_toNat, nv_toNat]
            rw [Nat.gcd_comm]; exact e
          · exact ratOk_f5 w b1 e1 s v1 u1 xs ys h1 k1 hx hy hz hl (by omega)
        · exact ratOk_f4 w b1 e1 s v1 u1 xs ys h1 k1 hx hy hz (by omega)
    · exact ratOk_f2 w b1 e1 s v1 u1 xs ys h1 k1 hx hy
  · exact ratOk_f1 w b1 e1 s v1 u1 xs ys h1 k1 hx
theorem ratOk_q (w : World) (b1 e1 : Nat) (v1 u1 : Value) (x : Int) (d : Nat) (h1 : Own w b1 v1 (limbs x.natAbs)) (k1 : Own w e1 u1 (limbs d)) (h : IsQ x d) : Calls Tryd.prog 26 #[.agg #[.bool (ng x), v1, u1]] w (RetB w true) := ratOk_t w b1 e1 _ v1 u1 _ _ h1 k1 (okR_of h)
theorem ratOk_c (w : World) (b1 e1 : Nat) (s : Bool) (v1 u1 : Value) (xs ys : List Int) (h1 : Own w b1 v1 xs) (k1 : Own w e1 u1 ys) : Calls Tryd.prog 26 #[.agg #[.bool s, v1, u1]] w (RetB w (okRB s xs ys)) := by
  by_cases h : OkR s xs ys
  · rw [show okRB s xs ys = true by simp [okRB, h]]; exact ratOk_t w b1 e1 s v1 u1 xs ys h1 k1 h
  · rw [show okRB s xs ys = false by simp [okRB, h]]; exact ratOk_f w b1 e1 s v1 u1 xs ys h1 k1 h

theorem own_one_at (w : World) (g : Nat) (hg : w.heap.size = g) : Own (w.alloc (.cells #[.int .i64 1] 3)) w.heap.size (.slice (some ⟨g, 0, none⟩) 1 1) (limbs 1) := by
  subst hg; exact own_one w
theorem natDiv_n (w : World) (b1 b2 : Nat) (v1 v2 : Value) (a b n : Nat) (h1 : Own w b1 v1 (limbs a)) (h2 : Own w b2 v2 (limbs b)) (hs1 : (limbs a).length ≤ 900) (hb : 0 < b) (hn : Hid (n = a / b)) :
    Calls Tryd.prog 50 #[v1, v2] w (RetSS w (limbs n) (limbs (a % b))) := by
  rw [hn.out]; exact natDiv_c w b1 b2 v1 v2 a b h1 h2 (by omega) hb

end Go.Proofs.YtcmhpdhcpkhejaaDoor
