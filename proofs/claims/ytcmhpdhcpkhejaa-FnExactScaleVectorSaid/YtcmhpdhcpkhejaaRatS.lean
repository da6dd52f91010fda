/- The reference's fractions: equality, RatOk, lowest terms. -/
import Derived.Test.YtcmhpdhcpkhejaaRatV
namespace Go.Proofs.Ytcmhpdhcpkhejaa
open Go.RowKit Lm

set_option maxHeartbeats 1000000 in
theorem l04List_c (w : World) (b1 b2 : Nat) (v1 v2 : Value) (xs ys : List Int) (c : Bool) (hc : Hid (c = decide (xs = ys))) (h1 : Own w b1 v1 xs) (h2 : Own w b2 v2 ys) :
    Calls Try.prog 68 #[v1, v2] w (RetB w c) := by
  obtain ⟨a1, c1, rfl, -, f2, f3, -, -⟩ := h1.form
  obtain ⟨a2, c2, rfl, -, g2, g3, -, -⟩ := h2.form
  unfold maxLen at f3 g3
  have H1 := Lib.hid h1; have H2 := Lib.hid h2
  clear h1 h2
  by_cases hl : xs.length = ys.length
  · have t0 : ((xs.length : Int) == (ys.length : Int)) = true := by rw [hl]; exact beq_self_eq_true _
    have t0' : (xs.length == ys.length) = true := by rw [hl]; exact beq_self_eq_true _
    have HL := Lib.hid hl
    have hle : xs.length ≤ ys.length := by omega
    clear hl
    go_enter Try.func68, Try.ntmps68
    go_wp2_with fail
    go_loopw [13] (fun k wr => ∃ (i : Nat), i ≤ xs.length ∧ k = .int .i64 i ∧ Hid (xs.take i = ys.take i) ∧ Below w.heap.size w wr) (fun k _ => xs.length - (intOf k).toNat)
    case atStart => exact ⟨0, by omega, rfl, rfl, Below.refl _ _⟩
    case round =>
      obtain ⟨i, hi, rfl, HT, hb⟩ := hrel
      by_cases hlt : i < xs.length
      · have hlt2 : i < ys.length := by omega
        obtain ⟨g, rfl, -, -⟩ := H1.out.addr hlt
        obtain ⟨g', rfl, -, -⟩ := H2.out.addr hlt2
        have r1 := (H1.out.below hb (Nat.le_refl _)).cell i hlt
        have r2 := (H2.out.below hb (Nat.le_refl _)).cell i hlt2
        have t1 : (i : Int) < xs.length := by omega
        have t2 : (i : Int) < ys.length := by omega
        by_cases he : lat xs i = lat ys i
        · have d1 : (lat xs i == lat ys i) = true := by rw [he]; exact beq_self_eq_true _
          have d2 : (lat xs i != lat ys i) = false := by rw [he]; exact bne_self_eq_false _
          have HE := Lib.hid he
          clear he
          go_wp2_with fail
          go_quiet (fail)
          go_wp2_with fail
          go_roundw
          case rel => exact ⟨i + 1, by omega, by go_num, by unfold Hid; rw [take_succ xs i hlt, take_succ ys i hlt2, HT.out, HE.out], ⟨hb.os, hb.tape, hb.output, hb.size, hb.block⟩⟩
          case measure => (simp [intOf]) <;> omega
        · have d1 : (lat xs i == lat ys i) = false := beq_eq_false_iff_ne.2 he
          have d2 : (lat xs i != lat ys i) = true := by rw [bne, d1]; rfl
          have HC : Hid (c = false) := by unfold Hid; rw [hc.out]; exact decide_eq_false (fun e => he (by rw [e]))
          clear he
          go_wp2_with fail
          go_quiet (fail)
          go_wp2
          go_ret
          exact retB HC.out.symm (below_dr hb _)
      · obtain rfl : i = xs.length := by omega
        have HC : Hid (c = true) := by
          have := HT.out
          rw [List.take_length, HL.out, List.take_length] at this
          unfold Hid; rw [hc.out]; exact decide_eq_true this
        go_wp2
        go_ret
        exact retB HC.out.symm hb
  · have t0 : ((xs.length : Int) == (ys.length : Int)) = false := beq_eq_false_iff_ne.2 (by omega)
    have t0' : (xs.length == ys.length) = false := beq_eq_false_iff_ne.2 hl
    have HC : Hid (c = false) := by unfold Hid; rw [hc.out]; exact decide_eq_false (fun e => hl (by rw [e]))
    clear hl
    go_enter Try.func68, Try.ntmps68
    go_wp2
    go_ret
    exact retB HC.out.symm (Below.refl _ _)

set_option maxHeartbeats 1000000 in
theorem l04One_t (w : World) (b1 : Nat) (v1 : Value) (h1 : Own w b1 v1 (limbs 1)) : Calls Try.prog 75 #[v1] w (RetB w true) := by
  rw [limbs_one] at h1
  obtain ⟨a1, c1, rfl, -, f2, f3, -, -⟩ := h1.form
  obtain ⟨g, rfl, -, -⟩ := h1.addr (i := 0) (by simp)
  have r1 := h1.cell 0 (by simp)
  rw [show lat [1] 0 = 1 from rfl] at r1
  clear h1
  go_enter Try.func75, Try.ntmps75
  go_wp2
  go_ret
  exact retB rfl (Below.refl _ _)
set_option maxHeartbeats 1000000 in
theorem l04One_f (w : World) (b1 : Nat) (v1 : Value) (n : Nat) (h1 : Own w b1 v1 (limbs n)) (hn : n ≠ 1) : Calls Try.prog 75 #[v1] w (RetB w false) := by
  obtain ⟨a1, c1, rfl, -, f2, f3, -, -⟩ := h1.form
  by_cases hl : (limbs n).length = 1
  · obtain ⟨g, rfl, -, -⟩ := h1.addr (i := 0) (by omega)
    have r1 := h1.cell 0 (by omega)
    have hn2 : n < 1000000000 := by
      have := (limbs_len_le (n := n) (k := 1)).1 (by omega)
      simp only [pw] at this; omega
    have hn0 : 0 < n := limbs_len_pos.1 (by omega)
    rw [show lat (limbs n) 0 = (n : Int) by rw [limbs_small hn0 hn2]; rfl, hl] at *
    have d1 : ((n : Int) == 1) = false := beq_eq_false_iff_ne.2 (by omega)
    clear h1 hl
    go_enter Try.func75, Try.ntmps75
    go_wp2
    go_ret
    exact retB rfl (Below.refl _ _)
  · have d1 : ((limbs n).length == 1) = false := beq_eq_false_iff_ne.2 hl
    have d2 : (((limbs n).length : Int) == 1) = false := beq_eq_false_iff_ne.2 (by omega)
    clear h1 hl
    go_enter Try.func75, Try.ntmps75
    go_wp2
    go_ret
    exact retB rfl (Below.refl _ _)

theorem gcd_s (w : World) (b1 b2 : Nat) (v1 v2 : Value) (a b : Nat) (h1 : Own w b1 v1 (limbs a)) (h2 : Own w b2 v2 (limbs b)) (hs1 : (limbs a).length ≤ 900) (hs2 : (limbs b).length ≤ 900) (g : Nat) (hg : Hid (g = Nat.gcd a b)) :
    Calls Try.prog 76 #[v1, v2] w (RetS w (limbs g)) := by
  rw [hg.out]; exact l02Gcd_c w b1 b2 v1 v2 a b h1 h2 hs1 hs2

set_option maxHeartbeats 1000000 in
theorem sRatOk_f1 (w : World) (b1 e1 : Nat) (s : Bool) (v1 u1 : Value) (xs ys : List Int) (h1 : Own w b1 v1 xs) (k1 : Own w e1 u1 ys) (hx : ¬ OkG s xs) :
    Calls Try.prog 45 #[.agg #[.bool s, v1, u1]] w (RetB w false) := by
  obtain ⟨a1, c1, rfl, -, -, -, -, -⟩ := h1.form
  obtain ⟨p1, q1, rfl, -, -, -, -, -⟩ := k1.form
  have BW : Below w.heap.size w (w.alloc (.cells #[.bool s, (.slice a1 xs.length c1), (.slice p1 ys.length q1)] 45)) := ((Below.refl w.heap.size w).alloc (Nat.le_refl _) _)
  obtain ⟨c0_0, c0_1, c0_2⟩ : World.cell? (w.alloc (.cells #[.bool s, (.slice a1 xs.length c1), (.slice p1 ys.length q1)] 45)) ⟨w.heap.size, 0, none⟩ = some (.bool s) ∧ World.cell? (w.alloc (.cells #[.bool s, (.slice a1 xs.length c1), (.slice p1 ys.length q1)] 45)) ⟨w.heap.size, 1, none⟩ = some ((.slice a1 xs.length c1)) ∧ World.cell? (w.alloc (.cells #[.bool s, (.slice a1 xs.length c1), (.slice p1 ys.length q1)] 45)) ⟨w.heap.size, 2, none⟩ = some ((.slice p1 ys.length q1)) := by simp [go_sem]
  have Ha := Lib.hid (h1.below BW (Nat.le_refl _))
  have Hb := Lib.hid (k1.below BW (Nat.le_refl _))
  clear h1 k1
  have HX := Lib.hid hx
  clear hx
  go_enter Try.func45, Try.ntmps45
  go_wp2_with fail
  generalize (w.alloc (.cells #[.bool s, (.slice a1 xs.length c1), (.slice p1 ys.length q1)] 45)) = w0 at *
  have B0 := Below.refl w0.heap.size w0
  refine (sBigIntOk_f _ _ _ _ _ Ha.out HX.out).mono ?_
  rintro e w1 ⟨rfl, hb⟩
  replace c0_0 := keep_cell hb c0_0
  replace c0_1 := keep_cell hb c0_1
  replace c0_2 := keep_cell hb c0_2
  replace Ha := Lib.hid (Ha.out.below hb (Nat.le_refl _))
  replace Hb := Lib.hid (Hb.out.below hb (Nat.le_refl _))
  replace B0 := B0.trans (hb.mono B0.size)
  clear hb
  go_wp2
  go_ret
  exact retB rfl (BW.trans (B0.mono BW.size))

set_option maxHeartbeats 1000000 in
theorem sRatOk_f2 (w : World) (b1 e1 : Nat) (s : Bool) (v1 u1 : Value) (xs ys : List Int) (h1 : Own w b1 v1 xs) (k1 : Own w e1 u1 ys) (hx : OkG s xs) (hy : ¬ OkP ys) :
    Calls Try.prog 45 #[.agg #[.bool s, v1, u1]] w (RetB w false) := by
  obtain ⟨a1, c1, rfl, -, -, -, -, -⟩ := h1.form
  obtain ⟨p1, q1, rfl, -, -, -, -, -⟩ := k1.form
  have BW : Below w.heap.size w (w.alloc (.cells #[.bool s, (.slice a1 xs.length c1), (.slice p1 ys.length q1)] 45)) := ((Below.refl w.heap.size w).alloc (Nat.le_refl _) _)
  obtain ⟨c0_0, c0_1, c0_2⟩ : World.cell? (w.alloc (.cells #[.bool s, (.slice a1 xs.length c1), (.slice p1 ys.length q1)] 45)) ⟨w.heap.size, 0, none⟩ = some (.bool s) ∧ World.cell? (w.alloc (.cells #[.bool s, (.slice a1 xs.length c1), (.slice p1 ys.length q1)] 45)) ⟨w.heap.size, 1, none⟩ = some ((.slice a1 xs.length c1)) ∧ World.cell? (w.alloc (.cells #[.bool s, (.slice a1 xs.length c1), (.slice p1 ys.length q1)] 45)) ⟨w.heap.size, 2, none⟩ = some ((.slice p1 ys.length q1)) := by simp [go_sem]
  have Ha := Lib.hid (h1.below BW (Nat.le_refl _))
  have Hb := Lib.hid (k1.below BW (Nat.le_refl _))
  clear h1 k1
  have HX := Lib.hid hx
  have HY := Lib.hid hy
  clear hx hy
  go_enter Try.func45, Try.ntmps45
  go_wp2_with fail
  generalize (w.alloc (.cells #[.bool s, (.slice a1 xs.length c1), (.slice p1 ys.length q1)] 45)) = w0 at *
  have B0 := Below.refl w0.heap.size w0
  refine (sBigIntOk_t _ _ _ _ _ Ha.out HX.out).mono ?_
  rintro e w1 ⟨rfl, hb⟩
  replace c0_0 := keep_cell hb c0_0
  replace c0_1 := keep_cell hb c0_1
  replace c0_2 := keep_cell hb c0_2
  replace Ha := Lib.hid (Ha.out.below hb (Nat.le_refl _))
  replace Hb := Lib.hid (Hb.out.below hb (Nat.le_refl _))
  replace B0 := B0.trans (hb.mono B0.size)
  clear hb
  go_wp2_with fail
  refine (specNatOk_f _ _ _ _ Hb.out HY.out).mono ?_
  rintro e w2 ⟨rfl, hb⟩
  replace c0_0 := keep_cell hb c0_0
  replace c0_1 := keep_cell hb c0_1
  replace c0_2 := keep_cell hb c0_2
  replace Ha := Lib.hid (Ha.out.below hb (Nat.le_refl _))
  replace Hb := Lib.hid (Hb.out.below hb (Nat.le_refl _))
  replace B0 := B0.trans (hb.mono B0.size)
  clear hb
  go_wp2
  go_ret
  exact retB rfl (BW.trans (B0.mono BW.size))

set_option maxHeartbeats 1000000 in
theorem sRatOk_f3 (w : World) (b1 e1 : Nat) (s : Bool) (v1 u1 : Value) (xs : List Int) (h1 : Own w b1 v1 xs) (k1 : Own w e1 u1 []) (hx : OkG s xs) (hy : OkP []) :
    Calls Try.prog 45 #[.agg #[.bool s, v1, u1]] w (RetB w false) := by
  obtain ⟨a1, c1, rfl, -, -, -, -, -⟩ := h1.form
  obtain ⟨p1, q1, rfl, -, -, -, -, -⟩ := k1.form
  have BW : Below w.heap.size w (w.alloc (.cells #[.bool s, (.slice a1 xs.length c1), (.slice p1 ([] : List Int).length q1)] 45)) := ((Below.refl w.heap.size w).alloc (Nat.le_refl _) _)
  obtain ⟨c0_0, c0_1, c0_2⟩ : World.cell? (w.alloc (.cells #[.bool s, (.slice a1 xs.length c1), (.slice p1 ([] : List Int).length q1)] 45)) ⟨w.heap.size, 0, none⟩ = some (.bool s) ∧ World.cell? (w.alloc (.cells #[.bool s, (.slice a1 xs.length c1), (.slice p1 ([] : List Int).length q1)] 45)) ⟨w.heap.size, 1, none⟩ = some ((.slice a1 xs.length c1)) ∧ World.cell? (w.alloc (.cells #[.bool s, (.slice a1 xs.length c1), (.slice p1 ([] : List Int).length q1)] 45)) ⟨w.heap.size, 2, none⟩ = some ((.slice p1 ([] : List Int).length q1)) := by simp [go_sem]
  have Ha := Lib.hid (h1.below BW (Nat.le_refl _))
  have Hb := Lib.hid (k1.below BW (Nat.le_refl _))
  clear h1 k1
  have HX := Lib.hid hx
  have HY := Lib.hid hy
  have dz0 : (([] : List Int).length == 0) = true := rfl
  have dy0 : ((([] : List Int).length : Int) == 0) = true := rfl
  clear hx hy
  go_enter Try.func45, Try.ntmps45
  go_wp2_with fail
  generalize (w.alloc (.cells #[.bool s, (.slice a1 xs.length c1), (.slice p1 ([] : List Int).length q1)] 45)) = w0 at *
  have B0 := Below.refl w0.heap.size w0
  refine (sBigIntOk_t _ _ _ _ _ Ha.out HX.out).mono ?_
  rintro e w1 ⟨rfl, hb⟩
  replace c0_0 := keep_cell hb c0_0
  replace c0_1 := keep_cell hb c0_1
  replace c0_2 := keep_cell hb c0_2
  replace Ha := Lib.hid (Ha.out.below hb (Nat.le_refl _))
  replace Hb := Lib.hid (Hb.out.below hb (Nat.le_refl _))
  replace B0 := B0.trans (hb.mono B0.size)
  clear hb
  go_wp2_with fail
  refine (specNatOk_t _ _ _ _ Hb.out HY.out).mono ?_
  rintro e w2 ⟨rfl, hb⟩
  replace c0_0 := keep_cell hb c0_0
  replace c0_1 := keep_cell hb c0_1
  replace c0_2 := keep_cell hb c0_2
  replace Ha := Lib.hid (Ha.out.below hb (Nat.le_refl _))
  replace Hb := Lib.hid (Hb.out.below hb (Nat.le_refl _))
  replace B0 := B0.trans (hb.mono B0.size)
  clear hb
  go_wp2
  go_ret
  exact retB rfl (BW.trans (B0.mono BW.size))

set_option maxHeartbeats 1000000 in
theorem sRatOk_f4 (w : World) (b1 e1 : Nat) (s : Bool) (v1 u1 : Value) (xs ys : List Int) (h1 : Own w b1 v1 xs) (k1 : Own w e1 u1 ys) (hx : OkG s xs) (hy : OkP ys) (hz : ¬ ys.length = 0) (hl : 24 < ys.length) :
    Calls Try.prog 45 #[.agg #[.bool s, v1, u1]] w (RetB w false) := by
  obtain ⟨a1, c1, rfl, -, -, -, -, -⟩ := h1.form
  obtain ⟨p1, q1, rfl, -, -, -, -, -⟩ := k1.form
  have BW : Below w.heap.size w (w.alloc (.cells #[.bool s, (.slice a1 xs.length c1), (.slice p1 ys.length q1)] 45)) := ((Below.refl w.heap.size w).alloc (Nat.le_refl _) _)
  obtain ⟨c0_0, c0_1, c0_2⟩ : World.cell? (w.alloc (.cells #[.bool s, (.slice a1 xs.length c1), (.slice p1 ys.length q1)] 45)) ⟨w.heap.size, 0, none⟩ = some (.bool s) ∧ World.cell? (w.alloc (.cells #[.bool s, (.slice a1 xs.length c1), (.slice p1 ys.length q1)] 45)) ⟨w.heap.size, 1, none⟩ = some ((.slice a1 xs.length c1)) ∧ World.cell? (w.alloc (.cells #[.bool s, (.slice a1 xs.length c1), (.slice p1 ys.length q1)] 45)) ⟨w.heap.size, 2, none⟩ = some ((.slice p1 ys.length q1)) := by simp [go_sem]
  have Ha := Lib.hid (h1.below BW (Nat.le_refl _))
  have Hb := Lib.hid (k1.below BW (Nat.le_refl _))
  clear h1 k1
  have HX := Lib.hid hx
  have HY := Lib.hid hy
  have dz0 : (ys.length == 0) = false := beq_eq_false_iff_ne.2 hz
  have dy0 : ((ys.length : Int) == 0) = false := beq_eq_false_iff_ne.2 (by omega)
  have gy : decide (24 < ys.length) = true := decide_eq_true (by omega)
  have giy : decide ((24 : Int) < ys.length) = true := decide_eq_true (by omega)
  clear hx hy
  go_enter Try.func45, Try.ntmps45
  go_wp2_with fail
  generalize (w.alloc (.cells #[.bool s, (.slice a1 xs.length c1), (.slice p1 ys.length q1)] 45)) = w0 at *
  have B0 := Below.refl w0.heap.size w0
  refine (sBigIntOk_t _ _ _ _ _ Ha.out HX.out).mono ?_
  rintro e w1 ⟨rfl, hb⟩
  replace c0_0 := keep_cell hb c0_0
  replace c0_1 := keep_cell hb c0_1
  replace c0_2 := keep_cell hb c0_2
  replace Ha := Lib.hid (Ha.out.below hb (Nat.le_refl _))
  replace Hb := Lib.hid (Hb.out.below hb (Nat.le_refl _))
  replace B0 := B0.trans (hb.mono B0.size)
  clear hb
  go_wp2_with fail
  refine (specNatOk_t _ _ _ _ Hb.out HY.out).mono ?_
  rintro e w2 ⟨rfl, hb⟩
  replace c0_0 := keep_cell hb c0_0
  replace c0_1 := keep_cell hb c0_1
  replace c0_2 := keep_cell hb c0_2
  replace Ha := Lib.hid (Ha.out.below hb (Nat.le_refl _))
  replace Hb := Lib.hid (Hb.out.below hb (Nat.le_refl _))
  replace B0 := B0.trans (hb.mono B0.size)
  clear hb
  go_wp2
  go_ret
  exact retB rfl (BW.trans (B0.mono BW.size))

set_option maxHeartbeats 1000000 in
theorem sRatOk_f5 (w : World) (b1 e1 : Nat) (s : Bool) (v1 u1 : Value) (xs ys : List Int) (h1 : Own w b1 v1 xs) (k1 : Own w e1 u1 ys) (hx : OkG s xs) (hy : OkP ys) (hz : ¬ ys.length = 0) (hl : ys.length ≤ 24) (hm : 24 < xs.length) :
    Calls Try.prog 45 #[.agg #[.bool s, v1, u1]] w (RetB w false) := by
  obtain ⟨a1, c1, rfl, -, -, -, -, -⟩ := h1.form
  obtain ⟨p1, q1, rfl, -, -, -, -, -⟩ := k1.form
  have BW : Below w.heap.size w (w.alloc (.cells #[.bool s, (.slice a1 xs.length c1), (.slice p1 ys.length q1)] 45)) := ((Below.refl w.heap.size w).alloc (Nat.le_refl _) _)
  obtain ⟨c0_0, c0_1, c0_2⟩ : World.cell? (w.alloc (.cells #[.bool s, (.slice a1 xs.length c1), (.slice p1 ys.length q1)] 45)) ⟨w.heap.size, 0, none⟩ = some (.bool s) ∧ World.cell? (w.alloc (.cells #[.bool s, (.slice a1 xs.length c1), (.slice p1 ys.length q1)] 45)) ⟨w.heap.size, 1, none⟩ = some ((.slice a1 xs.length c1)) ∧ World.cell? (w.alloc (.cells #[.bool s, (.slice a1 xs.length c1), (.slice p1 ys.length q1)] 45)) ⟨w.heap.size, 2, none⟩ = some ((.slice p1 ys.length q1)) := by simp [go_sem]
  have Ha := Lib.hid (h1.below BW (Nat.le_refl _))
  have Hb := Lib.hid (k1.below BW (Nat.le_refl _))
  clear h1 k1
  have HX := Lib.hid hx
  have HY := Lib.hid hy
  have dz0 : (ys.length == 0) = false := beq_eq_false_iff_ne.2 hz
  have dy0 : ((ys.length : Int) == 0) = false := beq_eq_false_iff_ne.2 (by omega)
  have gy : decide (24 < ys.length) = false := decide_eq_false (by omega)
  have giy : decide ((24 : Int) < ys.length) = false := decide_eq_false (by omega)
  have gx : decide (24 < xs.length) = true := decide_eq_true (by omega)
  have gix : decide ((24 : Int) < xs.length) = true := decide_eq_true (by omega)
  clear hx hy
  go_enter Try.func45, Try.ntmps45
  go_wp2_with fail
  generalize (w.alloc (.cells #[.bool s, (.slice a1 xs.length c1), (.slice p1 ys.length q1)] 45)) = w0 at *
  have B0 := Below.refl w0.heap.size w0
  refine (sBigIntOk_t _ _ _ _ _ Ha.out HX.out).mono ?_
  rintro e w1 ⟨rfl, hb⟩
  replace c0_0 := keep_cell hb c0_0
  replace c0_1 := keep_cell hb c0_1
  replace c0_2 := keep_cell hb c0_2
  replace Ha := Lib.hid (Ha.out.below hb (Nat.le_refl _))
  replace Hb := Lib.hid (Hb.out.below hb (Nat.le_refl _))
  replace B0 := B0.trans (hb.mono B0.size)
  clear hb
  go_wp2_with fail
  refine (specNatOk_t _ _ _ _ Hb.out HY.out).mono ?_
  rintro e w2 ⟨rfl, hb⟩
  replace c0_0 := keep_cell hb c0_0
  replace c0_1 := keep_cell hb c0_1
  replace c0_2 := keep_cell hb c0_2
  replace Ha := Lib.hid (Ha.out.below hb (Nat.le_refl _))
  replace Hb := Lib.hid (Hb.out.below hb (Nat.le_refl _))
  replace B0 := B0.trans (hb.mono B0.size)
  clear hb
  go_wp2
  go_ret
  exact retB rfl (BW.trans (B0.mono BW.size))

set_option maxHeartbeats 1000000 in
theorem sRatOk_yes (w : World) (b1 e1 : Nat) (v1 u1 : Value) (x : Int) (d : Nat) (h1 : Own w b1 v1 (limbs x.natAbs)) (k1 : Own w e1 u1 (limbs d)) (hd : 0 < d) (hlx : (limbs x.natAbs).length ≤ 24) (hld : (limbs d).length ≤ 24) (g : Nat) (hg : g = Nat.gcd x.natAbs d) (hg1 : g = 1) :
    Calls Try.prog 45 #[.agg #[.bool (ng x), v1, u1]] w (RetB w true) := by
  obtain ⟨a1, c1, rfl, -, -, -, -, -⟩ := h1.form
  obtain ⟨p1, q1, rfl, -, -, -, -, -⟩ := k1.form
  subst hg1
  have BW : Below w.heap.size w (w.alloc (.cells #[.bool (ng x), (.slice a1 (limbs x.natAbs).length c1), (.slice p1 (limbs d).length q1)] 45)) := ((Below.refl w.heap.size w).alloc (Nat.le_refl _) _)
  obtain ⟨c0_0, c0_1, c0_2⟩ : World.cell? (w.alloc (.cells #[.bool (ng x), (.slice a1 (limbs x.natAbs).length c1), (.slice p1 (limbs d).length q1)] 45)) ⟨w.heap.size, 0, none⟩ = some (.bool (ng x)) ∧ World.cell? (w.alloc (.cells #[.bool (ng x), (.slice a1 (limbs x.natAbs).length c1), (.slice p1 (limbs d).length q1)] 45)) ⟨w.heap.size, 1, none⟩ = some ((.slice a1 (limbs x.natAbs).length c1)) ∧ World.cell? (w.alloc (.cells #[.bool (ng x), (.slice a1 (limbs x.natAbs).length c1), (.slice p1 (limbs d).length q1)] 45)) ⟨w.heap.size, 2, none⟩ = some ((.slice p1 (limbs d).length q1)) := by simp [go_sem]
  have Ha := Lib.hid (h1.below BW (Nat.le_refl _))
  have Hb := Lib.hid (k1.below BW (Nat.le_refl _))
  clear h1 k1
  have HG := Lib.hid hg
  have dz0 : ((limbs d).length == 0) = false := beq_eq_false_iff_ne.2 (by have := limbs_len_pos.2 hd; omega)
  have dy0 : (((limbs d).length : Int) == 0) = false := beq_eq_false_iff_ne.2 (by have := limbs_len_pos.2 hd; omega)
  have gx : decide (24 < (limbs x.natAbs).length) = false := decide_eq_false (by omega)
  have gix : decide ((24 : Int) < (limbs x.natAbs).length) = false := decide_eq_false (by omega)
  have gy : decide (24 < (limbs d).length) = false := decide_eq_false (by omega)
  have giy : decide ((24 : Int) < (limbs d).length) = false := decide_eq_false (by omega)
  have HD := Lib.hid hd
  have m1 : (limbs x.natAbs).length ≤ 60 := by omega
  have m2 : (limbs d).length ≤ 60 := by omega
  have n1 : (limbs x.natAbs).length ≤ 900 := by omega
  have n2 : (limbs d).length ≤ 900 := by omega
  clear hg hd
  go_enter Try.func45, Try.ntmps45
  go_wp2_with fail
  generalize (w.alloc (.cells #[.bool (ng x), (.slice a1 (limbs x.natAbs).length c1), (.slice p1 (limbs d).length q1)] 45)) = w0 at *
  have B0 := Below.refl w0.heap.size w0
  refine (sBigIntOk_z _ _ _ x Ha.out m1).mono ?_
  rintro e w1 ⟨rfl, hb⟩
  replace c0_0 := keep_cell hb c0_0
  replace c0_1 := keep_cell hb c0_1
  replace c0_2 := keep_cell hb c0_2
  replace Ha := Lib.hid (Ha.out.below hb (Nat.le_refl _))
  replace Hb := Lib.hid (Hb.out.below hb (Nat.le_refl _))
  replace B0 := B0.trans (hb.mono B0.size)
  clear hb
  go_wp2_with fail
  refine (specNatOk_t _ _ _ _ Hb.out (limbs_ok m2)).mono ?_
  rintro e w2 ⟨rfl, hb⟩
  replace c0_0 := keep_cell hb c0_0
  replace c0_1 := keep_cell hb c0_1
  replace c0_2 := keep_cell hb c0_2
  replace Ha := Lib.hid (Ha.out.below hb (Nat.le_refl _))
  replace Hb := Lib.hid (Hb.out.below hb (Nat.le_refl _))
  replace B0 := B0.trans (hb.mono B0.size)
  clear hb
  go_wp2_with fail
  refine (gcd_s _ _ _ _ _ x.natAbs d Ha.out Hb.out n1 n2 1 HG).mono ?_
  rintro e w3 ⟨vg, rfl, ho1, hb⟩
  replace c0_0 := keep_cell hb c0_0
  replace c0_1 := keep_cell hb c0_1
  replace c0_2 := keep_cell hb c0_2
  replace Ha := Lib.hid (Ha.out.below hb (Nat.le_refl _))
  replace Hb := Lib.hid (Hb.out.below hb (Nat.le_refl _))
  have Hg := Lib.hid (ho1.mono B0.size)
  clear ho1
  replace B0 := B0.trans (hb.mono B0.size)
  clear hb
  go_wp2_with fail
  refine (l04One_t _ _ _ Hg.out).mono ?_
  rintro e w4 ⟨rfl, hb⟩
  replace c0_0 := keep_cell hb c0_0
  replace c0_1 := keep_cell hb c0_1
  replace c0_2 := keep_cell hb c0_2
  replace Ha := Lib.hid (Ha.out.below hb (Nat.le_refl _))
  replace Hb := Lib.hid (Hb.out.below hb (Nat.le_refl _))
  replace Hg := Lib.hid (Hg.out.below hb (Nat.le_refl _))
  replace B0 := B0.trans (hb.mono B0.size)
  clear hb
  go_wp2
  go_ret
  exact retB rfl (BW.trans (B0.mono BW.size))

set_option maxHeartbeats 1000000 in
theorem sRatOk_no (w : World) (b1 e1 : Nat) (v1 u1 : Value) (x : Int) (d : Nat) (h1 : Own w b1 v1 (limbs x.natAbs)) (k1 : Own w e1 u1 (limbs d)) (hd : 0 < d) (hlx : (limbs x.natAbs).length ≤ 24) (hld : (limbs d).length ≤ 24) (g : Nat) (hg : g = Nat.gcd x.natAbs d) (hg1 : g ≠ 1) :
    Calls Try.prog 45 #[.agg #[.bool (ng x), v1, u1]] w (RetB w false) := by
  obtain ⟨a1, c1, rfl, -, -, -, -, -⟩ := h1.form
  obtain ⟨p1, q1, rfl, -, -, -, -, -⟩ := k1.form
  have BW : Below w.heap.size w (w.alloc (.cells #[.bool (ng x), (.slice a1 (limbs x.natAbs).length c1), (.slice p1 (limbs d).length q1)] 45)) := ((Below.refl w.heap.size w).alloc (Nat.le_refl _) _)
  obtain ⟨c0_0, c0_1, c0_2⟩ : World.cell? (w.alloc (.cells #[.bool (ng x), (.slice a1 (limbs x.natAbs).length c1), (.slice p1 (limbs d).length q1)] 45)) ⟨w.heap.size, 0, none⟩ = some (.bool (ng x)) ∧ World.cell? (w.alloc (.cells #[.bool (ng x), (.slice a1 (limbs x.natAbs).length c1), (.slice p1 (limbs d).length q1)] 45)) ⟨w.heap.size, 1, none⟩ = some ((.slice a1 (limbs x.natAbs).length c1)) ∧ World.cell? (w.alloc (.cells #[.bool (ng x), (.slice a1 (limbs x.natAbs).length c1), (.slice p1 (limbs d).length q1)] 45)) ⟨w.heap.size, 2, none⟩ = some ((.slice p1 (limbs d).length q1)) := by simp [go_sem]
  have Ha := Lib.hid (h1.below BW (Nat.le_refl _))
  have Hb := Lib.hid (k1.below BW (Nat.le_refl _))
  clear h1 k1
  have HG := Lib.hid hg
  have dz0 : ((limbs d).length == 0) = false := beq_eq_false_iff_ne.2 (by have := limbs_len_pos.2 hd; omega)
  have dy0 : (((limbs d).length : Int) == 0) = false := beq_eq_false_iff_ne.2 (by have := limbs_len_pos.2 hd; omega)
  have gx : decide (24 < (limbs x.natAbs).length) = false := decide_eq_false (by omega)
  have gix : decide ((24 : Int) < (limbs x.natAbs).length) = false := decide_eq_false (by omega)
  have gy : decide (24 < (limbs d).length) = false := decide_eq_false (by omega)
  have giy : decide ((24 : Int) < (limbs d).length) = false := decide_eq_false (by omega)
  have HD := Lib.hid hd
  have m1 : (limbs x.natAbs).length ≤ 60 := by omega
  have m2 : (limbs d).length ≤ 60 := by omega
  have n1 : (limbs x.natAbs).length ≤ 900 := by omega
  have n2 : (limbs d).length ≤ 900 := by omega
  clear hg hd
  go_enter Try.func45, Try.ntmps45
  go_wp2_with fail
  generalize (w.alloc (.cells #[.bool (ng x), (.slice a1 (limbs x.natAbs).length c1), (.slice p1 (limbs d).length q1)] 45)) = w0 at *
  have B0 := Below.refl w0.heap.size w0
  refine (sBigIntOk_z _ _ _ x Ha.out m1).mono ?_
  rintro e w1 ⟨rfl, hb⟩
  replace c0_0 := keep_cell hb c0_0
  replace c0_1 := keep_cell hb c0_1
  replace c0_2 := keep_cell hb c0_2
  replace Ha := Lib.hid (Ha.out.below hb (Nat.le_refl _))
  replace Hb := Lib.hid (Hb.out.below hb (Nat.le_refl _))
  replace B0 := B0.trans (hb.mono B0.size)
  clear hb
  go_wp2_with fail
  refine (specNatOk_t _ _ _ _ Hb.out (limbs_ok m2)).mono ?_
  rintro e w2 ⟨rfl, hb⟩
  replace c0_0 := keep_cell hb c0_0
  replace c0_1 := keep_cell hb c0_1
  replace c0_2 := keep_cell hb c0_2
  replace Ha := Lib.hid (Ha.out.below hb (Nat.le_refl _))
  replace Hb := Lib.hid (Hb.out.below hb (Nat.le_refl _))
  replace B0 := B0.trans (hb.mono B0.size)
  clear hb
  go_wp2_with fail
  refine (gcd_s _ _ _ _ _ x.natAbs d Ha.out Hb.out n1 n2 g HG).mono ?_
  rintro e w3 ⟨vg, rfl, ho1, hb⟩
  replace c0_0 := keep_cell hb c0_0
  replace c0_1 := keep_cell hb c0_1
  replace c0_2 := keep_cell hb c0_2
  replace Ha := Lib.hid (Ha.out.below hb (Nat.le_refl _))
  replace Hb := Lib.hid (Hb.out.below hb (Nat.le_refl _))
  have Hg := Lib.hid (ho1.mono B0.size)
  clear ho1
  replace B0 := B0.trans (hb.mono B0.size)
  clear hb
  go_wp2_with fail
  refine (l04One_f _ _ _ g Hg.out hg1).mono ?_
  rintro e w4 ⟨rfl, hb⟩
  replace c0_0 := keep_cell hb c0_0
  replace c0_1 := keep_cell hb c0_1
  replace c0_2 := keep_cell hb c0_2
  replace Ha := Lib.hid (Ha.out.below hb (Nat.le_refl _))
  replace Hb := Lib.hid (Hb.out.below hb (Nat.le_refl _))
  replace Hg := Lib.hid (Hg.out.below hb (Nat.le_refl _))
  replace B0 := B0.trans (hb.mono B0.size)
  clear hb
  go_wp2
  go_ret
  exact retB rfl (BW.trans (B0.mono BW.size))

theorem sRatOk_t (w : World) (b1 e1 : Nat) (s : Bool) (v1 u1 : Value) (xs ys : List Int) (h1 : Own w b1 v1 xs) (k1 : Own w e1 u1 ys) (h : OkR s xs ys) : Calls Try.prog 45 #[.agg #[.bool s, v1, u1]] w (RetB w true) := by
  obtain ⟨x, d, rfl, rfl, rfl, h, -, -⟩ := okR_q h
  exact sRatOk_yes w b1 e1 v1 u1 x d h1 k1 h.1 h.2.2.1 h.2.2.2 _ rfl (h.2.1)
theorem sRatOk_f (w : World) (b1 e1 : Nat) (s : Bool) (v1 u1 : Value) (xs ys : List Int) (h1 : Own w b1 v1 xs) (k1 : Own w e1 u1 ys) (h : ¬ OkR s xs ys) : Calls Try.prog 45 #[.agg #[.bool s, v1, u1]] w (RetB w false) := by
  by_cases hx : OkG s xs
  · by_cases hy : OkP ys
    · by_cases hz : ys.length = 0
      · obtain rfl := List.length_eq_zero_iff.1 hz
        exact sRatOk_f3 w b1 e1 s v1 u1 xs h1 k1 hx hy
      · by_cases hl : ys.length ≤ 24
        · by_cases hm : xs.length ≤ 24
          · obtain ⟨x, rfl, rfl, hl1, -⟩ := okG_z hx
            obtain ⟨d, rfl, hl2⟩ := ok_limbs hy
            have hd : 0 < d := limbs_len_pos.1 (by omega)
            refine sRatOk_no w b1 e1 v1 u1 x d h1 k1 hd (hm) (hl) _ rfl (fun e => h ⟨hx, hy, fun e2 => hz (by rw [e2]; rfl), hm, hl, ?_⟩)
            rw [nv_toNat, nv_toNat]
            exact e
          · exact sRatOk_f5 w b1 e1 s v1 u1 xs ys h1 k1 hx hy hz hl (by omega)
        · exact sRatOk_f4 w b1 e1 s v1 u1 xs ys h1 k1 hx hy hz (by omega)
    · exact sRatOk_f2 w b1 e1 s v1 u1 xs ys h1 k1 hx hy
  · exact sRatOk_f1 w b1 e1 s v1 u1 xs ys h1 k1 hx
theorem sRatOk_q (w : World) (b1 e1 : Nat) (v1 u1 : Value) (x : Int) (d : Nat) (h1 : Own w b1 v1 (limbs x.natAbs)) (k1 : Own w e1 u1 (limbs d)) (h : IsQ x d) : Calls Try.prog 45 #[.agg #[.bool (ng x), v1, u1]] w (RetB w true) := sRatOk_t w b1 e1 _ v1 u1 _ _ h1 k1 (okR_of h)
theorem sRatOk_c (w : World) (b1 e1 : Nat) (s : Bool) (v1 u1 : Value) (xs ys : List Int) (h1 : Own w b1 v1 xs) (k1 : Own w e1 u1 ys) : Calls Try.prog 45 #[.agg #[.bool s, v1, u1]] w (RetB w (okRB s xs ys)) := by
  by_cases h : OkR s xs ys
  · rw [show okRB s xs ys = true by simp [okRB, h]]; exact sRatOk_t w b1 e1 s v1 u1 xs ys h1 k1 h
  · rw [show okRB s xs ys = false by simp [okRB, h]]; exact sRatOk_f w b1 e1 s v1 u1 xs ys h1 k1 h

theorem l02Div_n (w : World) (b1 b2 : Nat) (v1 v2 : Value) (a b n : Nat) (h1 : Own w b1 v1 (limbs a)) (h2 : Own w b2 v2 (limbs b)) (hs1 : (limbs a).length ≤ 900) (hs2 : (limbs b).length ≤ 900) (hb : 0 < b) (hn : Hid (n = a / b)) :
    Calls Try.prog 102 #[v1, v2] w (RetSS w (limbs n) (limbs (a % b))) := by
  rw [hn.out]; exact l02Div_c w b1 b2 v1 v2 a b h1 h2 (by omega) hs2 hb
theorem l02Trim_n (w : World) (b1 : Nat) (v1 : Value) (n : Nat) (h1 : Own w b1 v1 (limbs n)) : Calls Try.prog 104 #[v1] w (RetV w b1 v1 (limbs n)) :=
  l02Trim_c w b1 v1 (limbs n) n h1 (limbs_inR n) (nv_limbs n)

theorem apart_lit {w w' : World} {b : Nat} {v u : Value} {xs ys : List Int} (h : Own w b v xs) (k : Own w' w.heap.size u ys) : Apart v u := apart_new h (.inr rfl) k

set_option maxHeartbeats 1000000 in
theorem l04Low_0 (w : World) (b1 b2 : Nat) (s : Bool) (v1 v2 : Value) (x : Int) (h1 : Own w b1 v1 (limbs x.natAbs)) (h2 : Own w b2 v2 (limbs 0)) (_hl1 : (limbs x.natAbs).length ≤ 900) (_hl2 : (limbs 0).length ≤ 900) :
    Calls Try.prog 81 #[.bool s, v1, v2] w (RetQ w 0 0) := by
  have BW : Below w.heap.size w (w.alloc (.cells #[.bool false, .slice none 0 0, .slice none 0 0] 45)) := ((Below.refl w.heap.size w).alloc (Nat.le_refl _) _)
  obtain ⟨c0_0, c0_1, c0_2, q0, q1, q2⟩ : World.cell? (w.alloc (.cells #[.bool false, .slice none 0 0, .slice none 0 0] 45)) ⟨w.heap.size, 0, none⟩ = some (.bool false) ∧ World.cell? (w.alloc (.cells #[.bool false, .slice none 0 0, .slice none 0 0] 45)) ⟨w.heap.size, 1, none⟩ = some (.slice none 0 0) ∧ World.cell? (w.alloc (.cells #[.bool false, .slice none 0 0, .slice none 0 0] 45)) ⟨w.heap.size, 2, none⟩ = some (.slice none 0 0) ∧ World.frozen? (w.alloc (.cells #[.bool false, .slice none 0 0, .slice none 0 0] 45)) ⟨w.heap.size, 0, none⟩ = false ∧ World.frozen? (w.alloc (.cells #[.bool false, .slice none 0 0, .slice none 0 0] 45)) ⟨w.heap.size, 1, none⟩ = false ∧ World.frozen? (w.alloc (.cells #[.bool false, .slice none 0 0, .slice none 0 0] 45)) ⟨w.heap.size, 2, none⟩ = false := by simp [go_sem]
  have hg0 : w.heap.size < ((w.alloc (.cells #[.bool false, .slice none 0 0, .slice none 0 0] 45))).heap.size := World.block_lt_of_cell? _ _ c0_0
  have Ha := Lib.hid (h1.below BW (Nat.le_refl _))
  have Hb := Lib.hid (h2.below BW (Nat.le_refl _))
  clear h1 h2
  have d1 : ((limbs 0).length == 0) = true := rfl
  have d2 : (((limbs 0).length : Int) == 0) = true := rfl
  go_enter Try.func81, Try.ntmps81
  go_wp2_with fail
  generalize (w.alloc (.cells #[.bool false, .slice none 0 0, .slice none 0 0] 45)) = w0 at *
  have B0 := Below.refl w0.heap.size w0
  refine (l02Trim_n _ _ _ _ Ha.out).mono ?_
  rintro e w1 ⟨vx, rfl, ho1, hp, hb⟩
  replace q0 := keep_frozen (w1 := w1) hb c0_0 q0
  replace c0_0 := keep_cell (w1 := w1) hb c0_0
  replace q1 := keep_frozen (w1 := w1) hb c0_1 q1
  replace c0_1 := keep_cell (w1 := w1) hb c0_1
  replace q2 := keep_frozen (w1 := w1) hb c0_2 q2
  replace c0_2 := keep_cell (w1 := w1) hb c0_2
  replace Ha := Lib.hid (Ha.out.below hb (Nat.le_refl _))
  replace Hb := Lib.hid (Hb.out.below hb (Nat.le_refl _))
  have Hx := Lib.hid ho1
  clear ho1
  clear hp
  obtain ⟨ax, cx, rfl, -, -, -, -, -⟩ := Hx.out.form
  replace B0 := B0.trans (hb.mono B0.size)
  clear hb
  go_wp2_with fail
  refine (l02Trim_n _ _ _ _ Hb.out).mono ?_
  rintro e w2 ⟨vy, rfl, ho1, hp, hb⟩
  replace q0 := keep_frozen (w1 := w2) hb c0_0 q0
  replace c0_0 := keep_cell (w1 := w2) hb c0_0
  replace q1 := keep_frozen (w1 := w2) hb c0_1 q1
  replace c0_1 := keep_cell (w1 := w2) hb c0_1
  replace q2 := keep_frozen (w1 := w2) hb c0_2 q2
  replace c0_2 := keep_cell (w1 := w2) hb c0_2
  replace Ha := Lib.hid (Ha.out.below hb (Nat.le_refl _))
  replace Hb := Lib.hid (Hb.out.below hb (Nat.le_refl _))
  replace Hx := Lib.hid (Hx.out.below hb (Nat.le_refl _))
  have Hy := Lib.hid ho1
  clear ho1
  clear hp
  obtain ⟨ay, cy, rfl, -, -, -, -, -⟩ := Hy.out.form
  replace B0 := B0.trans (hb.mono B0.size)
  clear hb
  go_wp2
  exact bodyPost_ret (v := .agg #[.bool false, .slice none 0 0, .slice none 0 0]) (by simp [results, Try.results81, go_sem, c0_0, c0_1, c0_2]) rfl (retQ_nil (set3_below (BW.trans (B0.mono BW.size)) (by omega)))

set_option maxHeartbeats 1000000 in
theorem l04Low_oy (w : World) (b1 b2 : Nat) (s : Bool) (v1 v2 : Value) (x : Int) (h1 : Own w b1 v1 (limbs x.natAbs)) (h2 : Own w b2 v2 (limbs 1)) (hl1 : (limbs x.natAbs).length ≤ 900) (hl2 : (limbs 1).length ≤ 900) (hf1 : (limbs x.natAbs).length ≤ 24) (z : Int) (hz : z = x) (hs : x ≠ 0 → s = ng x) :
    Calls Try.prog 81 #[.bool s, v1, v2] w (RetQ w z 1) := by
  have BW : Below w.heap.size w (w.alloc (.cells #[.bool false, .slice none 0 0, .slice none 0 0] 45)) := ((Below.refl w.heap.size w).alloc (Nat.le_refl _) _)
  obtain ⟨c0_0, c0_1, c0_2, q0, q1, q2⟩ : World.cell? (w.alloc (.cells #[.bool false, .slice none 0 0, .slice none 0 0] 45)) ⟨w.heap.size, 0, none⟩ = some (.bool false) ∧ World.cell? (w.alloc (.cells #[.bool false, .slice none 0 0, .slice none 0 0] 45)) ⟨w.heap.size, 1, none⟩ = some (.slice none 0 0) ∧ World.cell? (w.alloc (.cells #[.bool false, .slice none 0 0, .slice none 0 0] 45)) ⟨w.heap.size, 2, none⟩ = some (.slice none 0 0) ∧ World.frozen? (w.alloc (.cells #[.bool false, .slice none 0 0, .slice none 0 0] 45)) ⟨w.heap.size, 0, none⟩ = false ∧ World.frozen? (w.alloc (.cells #[.bool false, .slice none 0 0, .slice none 0 0] 45)) ⟨w.heap.size, 1, none⟩ = false ∧ World.frozen? (w.alloc (.cells #[.bool false, .slice none 0 0, .slice none 0 0] 45)) ⟨w.heap.size, 2, none⟩ = false := by simp [go_sem]
  have hg0 : w.heap.size < ((w.alloc (.cells #[.bool false, .slice none 0 0, .slice none 0 0] 45))).heap.size := World.block_lt_of_cell? _ _ c0_0
  have Ha := Lib.hid (h1.below BW (Nat.le_refl _))
  have Hb := Lib.hid (h2.below BW (Nat.le_refl _))
  clear h1 h2
  have dz0 : ((limbs 1).length == 0) = false := by rw [limbs_one]; rfl
  have dy0 : (((limbs 1).length : Int) == 0) = false := by rw [limbs_one]; rfl
  have gx : decide (24 < (limbs x.natAbs).length) = false := decide_eq_false (by omega)
  have gix : decide ((24 : Int) < (limbs x.natAbs).length) = false := decide_eq_false (by omega)
  have gy : decide (24 < (limbs 1).length) = false := decide_eq_false (by rw [limbs_one]; simp)
  have giy : decide ((24 : Int) < (limbs 1).length) = false := decide_eq_false (by rw [limbs_one]; simp)
  have HMK : Hid (z.natAbs = if (limbs x.natAbs).length ≤ 60 then x.natAbs else 0) := fit_len (by rw [hz]) (by omega)
  have HSG : Hid (z ≠ 0 → s = ng z) := by rw [hz]; exact hs
  clear hz hs
  go_enter Try.func81, Try.ntmps81
  go_wp2_with fail
  generalize (w.alloc (.cells #[.bool false, .slice none 0 0, .slice none 0 0] 45)) = w0 at *
  have B0 := Below.refl w0.heap.size w0
  refine (l02Trim_n _ _ _ _ Ha.out).mono ?_
  rintro e w1 ⟨vx, rfl, ho1, hp, hb⟩
  replace q0 := keep_frozen (w1 := w1) hb c0_0 q0
  replace c0_0 := keep_cell (w1 := w1) hb c0_0
  replace q1 := keep_frozen (w1 := w1) hb c0_1 q1
  replace c0_1 := keep_cell (w1 := w1) hb c0_1
  replace q2 := keep_frozen (w1 := w1) hb c0_2 q2
  replace c0_2 := keep_cell (w1 := w1) hb c0_2
  replace Ha := Lib.hid (Ha.out.below hb (Nat.le_refl _))
  replace Hb := Lib.hid (Hb.out.below hb (Nat.le_refl _))
  have Hx := Lib.hid ho1
  clear ho1
  clear hp
  obtain ⟨ax, cx, rfl, -, -, -, -, -⟩ := Hx.out.form
  replace B0 := B0.trans (hb.mono B0.size)
  clear hb
  go_wp2_with fail
  refine (l02Trim_n _ _ _ _ Hb.out).mono ?_
  rintro e w2 ⟨vy, rfl, ho1, hp, hb⟩
  replace q0 := keep_frozen (w1 := w2) hb c0_0 q0
  replace c0_0 := keep_cell (w1 := w2) hb c0_0
  replace q1 := keep_frozen (w1 := w2) hb c0_1 q1
  replace c0_1 := keep_cell (w1 := w2) hb c0_1
  replace q2 := keep_frozen (w1 := w2) hb c0_2 q2
  replace c0_2 := keep_cell (w1 := w2) hb c0_2
  replace Ha := Lib.hid (Ha.out.below hb (Nat.le_refl _))
  replace Hb := Lib.hid (Hb.out.below hb (Nat.le_refl _))
  replace Hx := Lib.hid (Hx.out.below hb (Nat.le_refl _))
  have Hy := Lib.hid ho1
  clear ho1
  clear hp
  obtain ⟨ay, cy, rfl, -, -, -, -, -⟩ := Hy.out.form
  replace B0 := B0.trans (hb.mono B0.size)
  clear hb
  go_wp2_with fail
  refine (l04One_t _ _ _ Hy.out).mono ?_
  rintro e w3 ⟨rfl, hb⟩
  replace q0 := keep_frozen (w1 := w3) hb c0_0 q0
  replace c0_0 := keep_cell (w1 := w3) hb c0_0
  replace q1 := keep_frozen (w1 := w3) hb c0_1 q1
  replace c0_1 := keep_cell (w1 := w3) hb c0_1
  replace q2 := keep_frozen (w1 := w3) hb c0_2 q2
  replace c0_2 := keep_cell (w1 := w3) hb c0_2
  replace Ha := Lib.hid (Ha.out.below hb (Nat.le_refl _))
  replace Hb := Lib.hid (Hb.out.below hb (Nat.le_refl _))
  replace Hx := Lib.hid (Hx.out.below hb (Nat.le_refl _))
  replace Hy := Lib.hid (Hy.out.below hb (Nat.le_refl _))
  replace B0 := B0.trans (hb.mono B0.size)
  clear hb
  go_wp2_with fail
  refine (l03Make_n _ _ _ _ _ z Hx.out HMK HSG).mono ?_
  rintro e w4 ⟨vr, rfl, ho1, hb⟩
  replace q0 := keep_frozen (w1 := w4) hb c0_0 q0
  replace c0_0 := keep_cell (w1 := w4) hb c0_0
  replace q1 := keep_frozen (w1 := w4) hb c0_1 q1
  replace c0_1 := keep_cell (w1 := w4) hb c0_1
  replace q2 := keep_frozen (w1 := w4) hb c0_2 q2
  replace c0_2 := keep_cell (w1 := w4) hb c0_2
  replace Ha := Lib.hid (Ha.out.below hb (Nat.le_refl _))
  replace Hb := Lib.hid (Hb.out.below hb (Nat.le_refl _))
  replace Hx := Lib.hid (Hx.out.below hb (Nat.le_refl _))
  replace Hy := Lib.hid (Hy.out.below hb (Nat.le_refl _))
  have Hr := Lib.hid (ho1.mono B0.size)
  clear ho1
  obtain ⟨ar, cr, rfl, -, -, -, -, -⟩ := Hr.out.form
  replace B0 := B0.trans (hb.mono B0.size)
  clear hb
  have HL := Lib.hid (Own.lit0 w4)
  go_wp2_with (at_builtin; refine app_own rfl _ _ rfl _ _ w4.heap.size _ [] (limbs 1) rfl rfl HL.out (Hy.out.alloc _) (by simp; omega) (by simp) ?_)
  intro vs w5 hx hg hat
  try rw [List.nil_append] at hx
  have hb := HL.out.grownBelow ((Below.refl _ _).alloc (Nat.le_refl _) _) hg (Nat.le_refl _) (by simp)
  have HAP := apart_lit Hr.out (hx.mono (Nat.le_refl _))
  clear HL hg hat
  replace q0 := keep_frozen (w1 := w5) hb c0_0 q0
  replace c0_0 := keep_cell (w1 := w5) hb c0_0
  replace q1 := keep_frozen (w1 := w5) hb c0_1 q1
  replace c0_1 := keep_cell (w1 := w5) hb c0_1
  replace q2 := keep_frozen (w1 := w5) hb c0_2 q2
  replace c0_2 := keep_cell (w1 := w5) hb c0_2
  replace Ha := Lib.hid (Ha.out.below hb (Nat.le_refl _))
  replace Hb := Lib.hid (Hb.out.below hb (Nat.le_refl _))
  replace Hx := Lib.hid (Hx.out.below hb (Nat.le_refl _))
  replace Hy := Lib.hid (Hy.out.below hb (Nat.le_refl _))
  replace Hr := Lib.hid (Hr.out.below hb (Nat.le_refl _))
  have Hs := Lib.hid (hx.mono B0.size)
  clear hx
  replace B0 := B0.trans (hb.mono B0.size)
  clear hb
  obtain ⟨aS, cS, rfl, -, -, -, -, -⟩ := Hs.out.form
  go_wp2
  exact bodyPost_ret (v := .agg #[.bool (ng z), .slice ar (limbs z.natAbs).length cr, .slice aS (limbs 1).length cS]) (by simp [results, Try.results81, go_sem, c0_0, c0_1, c0_2]) rfl (retR_end BW (by omega) hg0 B0 Hr.out Hs.out HAP)

set_option maxHeartbeats 1000000 in
theorem l04Low_o1 (w : World) (b1 b2 : Nat) (s : Bool) (v1 v2 : Value) (x : Int) (h1 : Own w b1 v1 (limbs x.natAbs)) (h2 : Own w b2 v2 (limbs 1)) (hl1 : (limbs x.natAbs).length ≤ 900) (_hl2 : (limbs 1).length ≤ 900) (hf1 : 24 < (limbs x.natAbs).length) :
    Calls Try.prog 81 #[.bool s, v1, v2] w (RetQ w 0 0) := by
  have BW : Below w.heap.size w (w.alloc (.cells #[.bool false, .slice none 0 0, .slice none 0 0] 45)) := ((Below.refl w.heap.size w).alloc (Nat.le_refl _) _)
  obtain ⟨c0_0, c0_1, c0_2, q0, q1, q2⟩ : World.cell? (w.alloc (.cells #[.bool false, .slice none 0 0, .slice none 0 0] 45)) ⟨w.heap.size, 0, none⟩ = some (.bool false) ∧ World.cell? (w.alloc (.cells #[.bool false, .slice none 0 0, .slice none 0 0] 45)) ⟨w.heap.size, 1, none⟩ = some (.slice none 0 0) ∧ World.cell? (w.alloc (.cells #[.bool false, .slice none 0 0, .slice none 0 0] 45)) ⟨w.heap.size, 2, none⟩ = some (.slice none 0 0) ∧ World.frozen? (w.alloc (.cells #[.bool false, .slice none 0 0, .slice none 0 0] 45)) ⟨w.heap.size, 0, none⟩ = false ∧ World.frozen? (w.alloc (.cells #[.bool false, .slice none 0 0, .slice none 0 0] 45)) ⟨w.heap.size, 1, none⟩ = false ∧ World.frozen? (w.alloc (.cells #[.bool false, .slice none 0 0, .slice none 0 0] 45)) ⟨w.heap.size, 2, none⟩ = false := by simp [go_sem]
  have hg0 : w.heap.size < ((w.alloc (.cells #[.bool false, .slice none 0 0, .slice none 0 0] 45))).heap.size := World.block_lt_of_cell? _ _ c0_0
  have Ha := Lib.hid (h1.below BW (Nat.le_refl _))
  have Hb := Lib.hid (h2.below BW (Nat.le_refl _))
  clear h1 h2
  have dz0 : ((limbs 1).length == 0) = false := by rw [limbs_one]; rfl
  have dy0 : (((limbs 1).length : Int) == 0) = false := by rw [limbs_one]; rfl
  have gx : decide (24 < (limbs x.natAbs).length) = true := decide_eq_true (by omega)
  have gix : decide ((24 : Int) < (limbs x.natAbs).length) = true := decide_eq_true (by omega)
  go_enter Try.func81, Try.ntmps81
  go_wp2_with fail
  generalize (w.alloc (.cells #[.bool false, .slice none 0 0, .slice none 0 0] 45)) = w0 at *
  have B0 := Below.refl w0.heap.size w0
  refine (l02Trim_n _ _ _ _ Ha.out).mono ?_
  rintro e w1 ⟨vx, rfl, ho1, hp, hb⟩
  replace q0 := keep_frozen (w1 := w1) hb c0_0 q0
  replace c0_0 := keep_cell (w1 := w1) hb c0_0
  replace q1 := keep_frozen (w1 := w1) hb c0_1 q1
  replace c0_1 := keep_cell (w1 := w1) hb c0_1
  replace q2 := keep_frozen (w1 := w1) hb c0_2 q2
  replace c0_2 := keep_cell (w1 := w1) hb c0_2
  replace Ha := Lib.hid (Ha.out.below hb (Nat.le_refl _))
  replace Hb := Lib.hid (Hb.out.below hb (Nat.le_refl _))
  have Hx := Lib.hid ho1
  clear ho1
  clear hp
  obtain ⟨ax, cx, rfl, -, -, -, -, -⟩ := Hx.out.form
  replace B0 := B0.trans (hb.mono B0.size)
  clear hb
  go_wp2_with fail
  refine (l02Trim_n _ _ _ _ Hb.out).mono ?_
  rintro e w2 ⟨vy, rfl, ho1, hp, hb⟩
  replace q0 := keep_frozen (w1 := w2) hb c0_0 q0
  replace c0_0 := keep_cell (w1 := w2) hb c0_0
  replace q1 := keep_frozen (w1 := w2) hb c0_1 q1
  replace c0_1 := keep_cell (w1 := w2) hb c0_1
  replace q2 := keep_frozen (w1 := w2) hb c0_2 q2
  replace c0_2 := keep_cell (w1 := w2) hb c0_2
  replace Ha := Lib.hid (Ha.out.below hb (Nat.le_refl _))
  replace Hb := Lib.hid (Hb.out.below hb (Nat.le_refl _))
  replace Hx := Lib.hid (Hx.out.below hb (Nat.le_refl _))
  have Hy := Lib.hid ho1
  clear ho1
  clear hp
  obtain ⟨ay, cy, rfl, -, -, -, -, -⟩ := Hy.out.form
  replace B0 := B0.trans (hb.mono B0.size)
  clear hb
  go_wp2_with fail
  refine (l04One_t _ _ _ Hy.out).mono ?_
  rintro e w3 ⟨rfl, hb⟩
  replace q0 := keep_frozen (w1 := w3) hb c0_0 q0
  replace c0_0 := keep_cell (w1 := w3) hb c0_0
  replace q1 := keep_frozen (w1 := w3) hb c0_1 q1
  replace c0_1 := keep_cell (w1 := w3) hb c0_1
  replace q2 := keep_frozen (w1 := w3) hb c0_2 q2
  replace c0_2 := keep_cell (w1 := w3) hb c0_2
  replace Ha := Lib.hid (Ha.out.below hb (Nat.le_refl _))
  replace Hb := Lib.hid (Hb.out.below hb (Nat.le_refl _))
  replace Hx := Lib.hid (Hx.out.below hb (Nat.le_refl _))
  replace Hy := Lib.hid (Hy.out.below hb (Nat.le_refl _))
  replace B0 := B0.trans (hb.mono B0.size)
  clear hb
  go_wp2
  exact bodyPost_ret (v := .agg #[.bool false, .slice none 0 0, .slice none 0 0]) (by simp [results, Try.results81, go_sem, c0_0, c0_1, c0_2]) rfl (retQ_nil (set3_below (BW.trans (B0.mono BW.size)) (by omega)))

set_option maxHeartbeats 1000000 in
theorem l04Low_1y (w : World) (b1 b2 : Nat) (s : Bool) (v1 v2 : Value) (x : Int) (d : Nat) (h1 : Own w b1 v1 (limbs x.natAbs)) (h2 : Own w b2 v2 (limbs d)) (hl1 : (limbs x.natAbs).length ≤ 900) (hl2 : (limbs d).length ≤ 900) (hd : 0 < d) (hd1 : d ≠ 1) (hg : 1 = Nat.gcd x.natAbs d) (hf1 : (limbs x.natAbs).length ≤ 24) (hf2 : (limbs d).length ≤ 24) (z : Int) (hz : z = x) (hs : x ≠ 0 → s = ng x) :
    Calls Try.prog 81 #[.bool s, v1, v2] w (RetQ w z d) := by
  have BW : Below w.heap.size w (w.alloc (.cells #[.bool false, .slice none 0 0, .slice none 0 0] 45)) := ((Below.refl w.heap.size w).alloc (Nat.le_refl _) _)
  obtain ⟨c0_0, c0_1, c0_2, q0, q1, q2⟩ : World.cell? (w.alloc (.cells #[.bool false, .slice none 0 0, .slice none 0 0] 45)) ⟨w.heap.size, 0, none⟩ = some (.bool false) ∧ World.cell? (w.alloc (.cells #[.bool false, .slice none 0 0, .slice none 0 0] 45)) ⟨w.heap.size, 1, none⟩ = some (.slice none 0 0) ∧ World.cell? (w.alloc (.cells #[.bool false, .slice none 0 0, .slice none 0 0] 45)) ⟨w.heap.size, 2, none⟩ = some (.slice none 0 0) ∧ World.frozen? (w.alloc (.cells #[.bool false, .slice none 0 0, .slice none 0 0] 45)) ⟨w.heap.size, 0, none⟩ = false ∧ World.frozen? (w.alloc (.cells #[.bool false, .slice none 0 0, .slice none 0 0] 45)) ⟨w.heap.size, 1, none⟩ = false ∧ World.frozen? (w.alloc (.cells #[.bool false, .slice none 0 0, .slice none 0 0] 45)) ⟨w.heap.size, 2, none⟩ = false := by simp [go_sem]
  have hg0 : w.heap.size < ((w.alloc (.cells #[.bool false, .slice none 0 0, .slice none 0 0] 45))).heap.size := World.block_lt_of_cell? _ _ c0_0
  have Ha := Lib.hid (h1.below BW (Nat.le_refl _))
  have Hb := Lib.hid (h2.below BW (Nat.le_refl _))
  clear h1 h2
  have dz0 : ((limbs d).length == 0) = false := beq_eq_false_iff_ne.2 (by have := limbs_len_pos.2 hd; omega)
  have dy0 : (((limbs d).length : Int) == 0) = false := beq_eq_false_iff_ne.2 (by have := limbs_len_pos.2 hd; omega)
  have HD := Lib.hid hd
  have HG := Lib.hid hg
  have gx : decide (24 < (limbs x.natAbs).length) = false := decide_eq_false (by omega)
  have gix : decide ((24 : Int) < (limbs x.natAbs).length) = false := decide_eq_false (by omega)
  have gy : decide (24 < (limbs d).length) = false := decide_eq_false (by omega)
  have giy : decide ((24 : Int) < (limbs d).length) = false := decide_eq_false (by omega)
  have HMK : Hid (z.natAbs = if (limbs x.natAbs).length ≤ 60 then x.natAbs else 0) := fit_len (by rw [hz]) (by omega)
  have HSG : Hid (z ≠ 0 → s = ng z) := by rw [hz]; exact hs
  clear hd hg hz hs
  go_enter Try.func81, Try.ntmps81
  go_wp2_with fail
  generalize (w.alloc (.cells #[.bool false, .slice none 0 0, .slice none 0 0] 45)) = w0 at *
  have B0 := Below.refl w0.heap.size w0
  refine (l02Trim_n _ _ _ _ Ha.out).mono ?_
  rintro e w1 ⟨vx, rfl, ho1, hp, hb⟩
  replace q0 := keep_frozen (w1 := w1) hb c0_0 q0
  replace c0_0 := keep_cell (w1 := w1) hb c0_0
  replace q1 := keep_frozen (w1 := w1) hb c0_1 q1
  replace c0_1 := keep_cell (w1 := w1) hb c0_1
  replace q2 := keep_frozen (w1 := w1) hb c0_2 q2
  replace c0_2 := keep_cell (w1 := w1) hb c0_2
  replace Ha := Lib.hid (Ha.out.below hb (Nat.le_refl _))
  replace Hb := Lib.hid (Hb.out.below hb (Nat.le_refl _))
  have Hx := Lib.hid ho1
  clear ho1
  clear hp
  obtain ⟨ax, cx, rfl, -, -, -, -, -⟩ := Hx.out.form
  replace B0 := B0.trans (hb.mono B0.size)
  clear hb
  go_wp2_with fail
  refine (l02Trim_n _ _ _ _ Hb.out).mono ?_
  rintro e w2 ⟨vy, rfl, ho1, hp, hb⟩
  replace q0 := keep_frozen (w1 := w2) hb c0_0 q0
  replace c0_0 := keep_cell (w1 := w2) hb c0_0
  replace q1 := keep_frozen (w1 := w2) hb c0_1 q1
  replace c0_1 := keep_cell (w1 := w2) hb c0_1
  replace q2 := keep_frozen (w1 := w2) hb c0_2 q2
  replace c0_2 := keep_cell (w1 := w2) hb c0_2
  replace Ha := Lib.hid (Ha.out.below hb (Nat.le_refl _))
  replace Hb := Lib.hid (Hb.out.below hb (Nat.le_refl _))
  replace Hx := Lib.hid (Hx.out.below hb (Nat.le_refl _))
  have Hy := Lib.hid ho1
  clear ho1
  clear hp
  obtain ⟨ay, cy, rfl, -, -, -, -, -⟩ := Hy.out.form
  replace B0 := B0.trans (hb.mono B0.size)
  clear hb
  go_wp2_with fail
  refine (l04One_f _ _ _ d Hy.out hd1).mono ?_
  rintro e w3 ⟨rfl, hb⟩
  replace q0 := keep_frozen (w1 := w3) hb c0_0 q0
  replace c0_0 := keep_cell (w1 := w3) hb c0_0
  replace q1 := keep_frozen (w1 := w3) hb c0_1 q1
  replace c0_1 := keep_cell (w1 := w3) hb c0_1
  replace q2 := keep_frozen (w1 := w3) hb c0_2 q2
  replace c0_2 := keep_cell (w1 := w3) hb c0_2
  replace Ha := Lib.hid (Ha.out.below hb (Nat.le_refl _))
  replace Hb := Lib.hid (Hb.out.below hb (Nat.le_refl _))
  replace Hx := Lib.hid (Hx.out.below hb (Nat.le_refl _))
  replace Hy := Lib.hid (Hy.out.below hb (Nat.le_refl _))
  replace B0 := B0.trans (hb.mono B0.size)
  clear hb
  go_wp2_with fail
  refine (gcd_s _ _ _ _ _ x.natAbs d Hx.out Hy.out hl1 hl2 1 HG).mono ?_
  rintro e w4 ⟨vg, rfl, ho1, hb⟩
  replace q0 := keep_frozen (w1 := w4) hb c0_0 q0
  replace c0_0 := keep_cell (w1 := w4) hb c0_0
  replace q1 := keep_frozen (w1 := w4) hb c0_1 q1
  replace c0_1 := keep_cell (w1 := w4) hb c0_1
  replace q2 := keep_frozen (w1 := w4) hb c0_2 q2
  replace c0_2 := keep_cell (w1 := w4) hb c0_2
  replace Ha := Lib.hid (Ha.out.below hb (Nat.le_refl _))
  replace Hb := Lib.hid (Hb.out.below hb (Nat.le_refl _))
  replace Hx := Lib.hid (Hx.out.below hb (Nat.le_refl _))
  replace Hy := Lib.hid (Hy.out.below hb (Nat.le_refl _))
  have Hg := Lib.hid (ho1.mono B0.size)
  clear ho1
  replace B0 := B0.trans (hb.mono B0.size)
  clear hb
  go_wp2_with fail
  refine (l04One_t _ _ _ Hg.out).mono ?_
  rintro e w5 ⟨rfl, hb⟩
  replace q0 := keep_frozen (w1 := w5) hb c0_0 q0
  replace c0_0 := keep_cell (w1 := w5) hb c0_0
  replace q1 := keep_frozen (w1 := w5) hb c0_1 q1
  replace c0_1 := keep_cell (w1 := w5) hb c0_1
  replace q2 := keep_frozen (w1 := w5) hb c0_2 q2
  replace c0_2 := keep_cell (w1 := w5) hb c0_2
  replace Ha := Lib.hid (Ha.out.below hb (Nat.le_refl _))
  replace Hb := Lib.hid (Hb.out.below hb (Nat.le_refl _))
  replace Hx := Lib.hid (Hx.out.below hb (Nat.le_refl _))
  replace Hy := Lib.hid (Hy.out.below hb (Nat.le_refl _))
  replace Hg := Lib.hid (Hg.out.below hb (Nat.le_refl _))
  replace B0 := B0.trans (hb.mono B0.size)
  clear hb
  go_wp2_with fail
  refine (l03Make_n _ _ _ _ _ z Hx.out HMK HSG).mono ?_
  rintro e w6 ⟨vr, rfl, ho1, hb⟩
  replace q0 := keep_frozen (w1 := w6) hb c0_0 q0
  replace c0_0 := keep_cell (w1 := w6) hb c0_0
  replace q1 := keep_frozen (w1 := w6) hb c0_1 q1
  replace c0_1 := keep_cell (w1 := w6) hb c0_1
  replace q2 := keep_frozen (w1 := w6) hb c0_2 q2
  replace c0_2 := keep_cell (w1 := w6) hb c0_2
  replace Ha := Lib.hid (Ha.out.below hb (Nat.le_refl _))
  replace Hb := Lib.hid (Hb.out.below hb (Nat.le_refl _))
  replace Hx := Lib.hid (Hx.out.below hb (Nat.le_refl _))
  replace Hy := Lib.hid (Hy.out.below hb (Nat.le_refl _))
  replace Hg := Lib.hid (Hg.out.below hb (Nat.le_refl _))
  have Hr := Lib.hid (ho1.mono B0.size)
  clear ho1
  obtain ⟨ar, cr, rfl, -, -, -, -, -⟩ := Hr.out.form
  replace B0 := B0.trans (hb.mono B0.size)
  clear hb
  have HL := Lib.hid (Own.lit0 w6)
  go_wp2_with (at_builtin; refine app_own rfl _ _ rfl _ _ w6.heap.size _ [] (limbs d) rfl rfl HL.out (Hy.out.alloc _) (by simp; omega) (by simp) ?_)
  intro vs w7 hx hg hat
  try rw [List.nil_append] at hx
  have hb := HL.out.grownBelow ((Below.refl _ _).alloc (Nat.le_refl _) _) hg (Nat.le_refl _) (by simp)
  have HAP := apart_lit Hr.out (hx.mono (Nat.le_refl _))
  clear HL hg hat
  replace q0 := keep_frozen (w1 := w7) hb c0_0 q0
  replace c0_0 := keep_cell (w1 := w7) hb c0_0
  replace q1 := keep_frozen (w1 := w7) hb c0_1 q1
  replace c0_1 := keep_cell (w1 := w7) hb c0_1
  replace q2 := keep_frozen (w1 := w7) hb c0_2 q2
  replace c0_2 := keep_cell (w1 := w7) hb c0_2
  replace Ha := Lib.hid (Ha.out.below hb (Nat.le_refl _))
  replace Hb := Lib.hid (Hb.out.below hb (Nat.le_refl _))
  replace Hx := Lib.hid (Hx.out.below hb (Nat.le_refl _))
  replace Hy := Lib.hid (Hy.out.below hb (Nat.le_refl _))
  replace Hg := Lib.hid (Hg.out.below hb (Nat.le_refl _))
  replace Hr := Lib.hid (Hr.out.below hb (Nat.le_refl _))
  have Hs := Lib.hid (hx.mono B0.size)
  clear hx
  replace B0 := B0.trans (hb.mono B0.size)
  clear hb
  obtain ⟨aS, cS, rfl, -, -, -, -, -⟩ := Hs.out.form
  go_wp2
  exact bodyPost_ret (v := .agg #[.bool (ng z), .slice ar (limbs z.natAbs).length cr, .slice aS (limbs d).length cS]) (by simp [results, Try.results81, go_sem, c0_0, c0_1, c0_2]) rfl (retR_end BW (by omega) hg0 B0 Hr.out Hs.out HAP)

set_option maxHeartbeats 1000000 in
theorem l04Low_11 (w : World) (b1 b2 : Nat) (s : Bool) (v1 v2 : Value) (x : Int) (d : Nat) (h1 : Own w b1 v1 (limbs x.natAbs)) (h2 : Own w b2 v2 (limbs d)) (hl1 : (limbs x.natAbs).length ≤ 900) (hl2 : (limbs d).length ≤ 900) (hd : 0 < d) (hd1 : d ≠ 1) (hg : 1 = Nat.gcd x.natAbs d) (hf1 : 24 < (limbs x.natAbs).length) :
    Calls Try.prog 81 #[.bool s, v1, v2] w (RetQ w 0 0) := by
  have BW : Below w.heap.size w (w.alloc (.cells #[.bool false, .slice none 0 0, .slice none 0 0] 45)) := ((Below.refl w.heap.size w).alloc (Nat.le_refl _) _)
  obtain ⟨c0_0, c0_1, c0_2, q0, q1, q2⟩ : World.cell? (w.alloc (.cells #[.bool false, .slice none 0 0, .slice none 0 0] 45)) ⟨w.heap.size, 0, none⟩ = some (.bool false) ∧ World.cell? (w.alloc (.cells #[.bool false, .slice none 0 0, .slice none 0 0] 45)) ⟨w.heap.size, 1, none⟩ = some (.slice none 0 0) ∧ World.cell? (w.alloc (.cells #[.bool false, .slice none 0 0, .slice none 0 0] 45)) ⟨w.heap.size, 2, none⟩ = some (.slice none 0 0) ∧ World.frozen? (w.alloc (.cells #[.bool false, .slice none 0 0, .slice none 0 0] 45)) ⟨w.heap.size, 0, none⟩ = false ∧ World.frozen? (w.alloc (.cells #[.bool false, .slice none 0 0, .slice none 0 0] 45)) ⟨w.heap.size, 1, none⟩ = false ∧ World.frozen? (w.alloc (.cells #[.bool false, .slice none 0 0, .slice none 0 0] 45)) ⟨w.heap.size, 2, none⟩ = false := by simp [go_sem]
  have hg0 : w.heap.size < ((w.alloc (.cells #[.bool false, .slice none 0 0, .slice none 0 0] 45))).heap.size := World.block_lt_of_cell? _ _ c0_0
  have Ha := Lib.hid (h1.below BW (Nat.le_refl _))
  have Hb := Lib.hid (h2.below BW (Nat.le_refl _))
  clear h1 h2
  have dz0 : ((limbs d).length == 0) = false := beq_eq_false_iff_ne.2 (by have := limbs_len_pos.2 hd; omega)
  have dy0 : (((limbs d).length : Int) == 0) = false := beq_eq_false_iff_ne.2 (by have := limbs_len_pos.2 hd; omega)
  have HD := Lib.hid hd
  have HG := Lib.hid hg
  have gx : decide (24 < (limbs x.natAbs).length) = true := decide_eq_true (by omega)
  have gix : decide ((24 : Int) < (limbs x.natAbs).length) = true := decide_eq_true (by omega)
  clear hd hg
  go_enter Try.func81, Try.ntmps81
  go_wp2_with fail
  generalize (w.alloc (.cells #[.bool false, .slice none 0 0, .slice none 0 0] 45)) = w0 at *
  have B0 := Below.refl w0.heap.size w0
  refine (l02Trim_n _ _ _ _ Ha.out).mono ?_
  rintro e w1 ⟨vx, rfl, ho1, hp, hb⟩
  replace q0 := keep_frozen (w1 := w1) hb c0_0 q0
  replace c0_0 := keep_cell (w1 := w1) hb c0_0
  replace q1 := keep_frozen (w1 := w1) hb c0_1 q1
  replace c0_1 := keep_cell (w1 := w1) hb c0_1
  replace q2 := keep_frozen (w1 := w1) hb c0_2 q2
  replace c0_2 := keep_cell (w1 := w1) hb c0_2
  replace Ha := Lib.hid (Ha.out.below hb (Nat.le_refl _))
  replace Hb := Lib.hid (Hb.out.below hb (Nat.le_refl _))
  have Hx := Lib.hid ho1
  clear ho1
  clear hp
  obtain ⟨ax, cx, rfl, -, -, -, -, -⟩ := Hx.out.form
  replace B0 := B0.trans (hb.mono B0.size)
  clear hb
  go_wp2_with fail
  refine (l02Trim_n _ _ _ _ Hb.out).mono ?_
  rintro e w2 ⟨vy, rfl, ho1, hp, hb⟩
  replace q0 := keep_frozen (w1 := w2) hb c0_0 q0
  replace c0_0 := keep_cell (w1 := w2) hb c0_0
  replace q1 := keep_frozen (w1 := w2) hb c0_1 q1
  replace c0_1 := keep_cell (w1 := w2) hb c0_1
  replace q2 := keep_frozen (w1 := w2) hb c0_2 q2
  replace c0_2 := keep_cell (w1 := w2) hb c0_2
  replace Ha := Lib.hid (Ha.out.below hb (Nat.le_refl _))
  replace Hb := Lib.hid (Hb.out.below hb (Nat.le_refl _))
  replace Hx := Lib.hid (Hx.out.below hb (Nat.le_refl _))
  have Hy := Lib.hid ho1
  clear ho1
  clear hp
  obtain ⟨ay, cy, rfl, -, -, -, -, -⟩ := Hy.out.form
  replace B0 := B0.trans (hb.mono B0.size)
  clear hb
  go_wp2_with fail
  refine (l04One_f _ _ _ d Hy.out hd1).mono ?_
  rintro e w3 ⟨rfl, hb⟩
  replace q0 := keep_frozen (w1 := w3) hb c0_0 q0
  replace c0_0 := keep_cell (w1 := w3) hb c0_0
  replace q1 := keep_frozen (w1 := w3) hb c0_1 q1
  replace c0_1 := keep_cell (w1 := w3) hb c0_1
  replace q2 := keep_frozen (w1 := w3) hb c0_2 q2
  replace c0_2 := keep_cell (w1 := w3) hb c0_2
  replace Ha := Lib.hid (Ha.out.below hb (Nat.le_refl _))
  replace Hb := Lib.hid (Hb.out.below hb (Nat.le_refl _))
  replace Hx := Lib.hid (Hx.out.below hb (Nat.le_refl _))
  replace Hy := Lib.hid (Hy.out.below hb (Nat.le_refl _))
  replace B0 := B0.trans (hb.mono B0.size)
  clear hb
  go_wp2_with fail
  refine (gcd_s _ _ _ _ _ x.natAbs d Hx.out Hy.out hl1 hl2 1 HG).mono ?_
  rintro e w4 ⟨vg, rfl, ho1, hb⟩
  replace q0 := keep_frozen (w1 := w4) hb c0_0 q0
  replace c0_0 := keep_cell (w1 := w4) hb c0_0
  replace q1 := keep_frozen (w1 := w4) hb c0_1 q1
  replace c0_1 := keep_cell (w1 := w4) hb c0_1
  replace q2 := keep_frozen (w1 := w4) hb c0_2 q2
  replace c0_2 := keep_cell (w1 := w4) hb c0_2
  replace Ha := Lib.hid (Ha.out.below hb (Nat.le_refl _))
  replace Hb := Lib.hid (Hb.out.below hb (Nat.le_refl _))
  replace Hx := Lib.hid (Hx.out.below hb (Nat.le_refl _))
  replace Hy := Lib.hid (Hy.out.below hb (Nat.le_refl _))
  have Hg := Lib.hid (ho1.mono B0.size)
  clear ho1
  replace B0 := B0.trans (hb.mono B0.size)
  clear hb
  go_wp2_with fail
  refine (l04One_t _ _ _ Hg.out).mono ?_
  rintro e w5 ⟨rfl, hb⟩
  replace q0 := keep_frozen (w1 := w5) hb c0_0 q0
  replace c0_0 := keep_cell (w1 := w5) hb c0_0
  replace q1 := keep_frozen (w1 := w5) hb c0_1 q1
  replace c0_1 := keep_cell (w1 := w5) hb c0_1
  replace q2 := keep_frozen (w1 := w5) hb c0_2 q2
  replace c0_2 := keep_cell (w1 := w5) hb c0_2
  replace Ha := Lib.hid (Ha.out.below hb (Nat.le_refl _))
  replace Hb := Lib.hid (Hb.out.below hb (Nat.le_refl _))
  replace Hx := Lib.hid (Hx.out.below hb (Nat.le_refl _))
  replace Hy := Lib.hid (Hy.out.below hb (Nat.le_refl _))
  replace Hg := Lib.hid (Hg.out.below hb (Nat.le_refl _))
  replace B0 := B0.trans (hb.mono B0.size)
  clear hb
  go_wp2
  exact bodyPost_ret (v := .agg #[.bool false, .slice none 0 0, .slice none 0 0]) (by simp [results, Try.results81, go_sem, c0_0, c0_1, c0_2]) rfl (retQ_nil (set3_below (BW.trans (B0.mono BW.size)) (by omega)))

set_option maxHeartbeats 1000000 in
theorem l04Low_12 (w : World) (b1 b2 : Nat) (s : Bool) (v1 v2 : Value) (x : Int) (d : Nat) (h1 : Own w b1 v1 (limbs x.natAbs)) (h2 : Own w b2 v2 (limbs d)) (hl1 : (limbs x.natAbs).length ≤ 900) (hl2 : (limbs d).length ≤ 900) (hd : 0 < d) (hd1 : d ≠ 1) (hg : 1 = Nat.gcd x.natAbs d) (hf1 : (limbs x.natAbs).length ≤ 24) (hf2 : 24 < (limbs d).length) :
    Calls Try.prog 81 #[.bool s, v1, v2] w (RetQ w 0 0) := by
  have BW : Below w.heap.size w (w.alloc (.cells #[.bool false, .slice none 0 0, .slice none 0 0] 45)) := ((Below.refl w.heap.size w).alloc (Nat.le_refl _) _)
  obtain ⟨c0_0, c0_1, c0_2, q0, q1, q2⟩ : World.cell? (w.alloc (.cells #[.bool false, .slice none 0 0, .slice none 0 0] 45)) ⟨w.heap.size, 0, none⟩ = some (.bool false) ∧ World.cell? (w.alloc (.cells #[.bool false, .slice none 0 0, .slice none 0 0] 45)) ⟨w.heap.size, 1, none⟩ = some (.slice none 0 0) ∧ World.cell? (w.alloc (.cells #[.bool false, .slice none 0 0, .slice none 0 0] 45)) ⟨w.heap.size, 2, none⟩ = some (.slice none 0 0) ∧ World.frozen? (w.alloc (.cells #[.bool false, .slice none 0 0, .slice none 0 0] 45)) ⟨w.heap.size, 0, none⟩ = false ∧ World.frozen? (w.alloc (.cells #[.bool false, .slice none 0 0, .slice none 0 0] 45)) ⟨w.heap.size, 1, none⟩ = false ∧ World.frozen? (w.alloc (.cells #[.bool false, .slice none 0 0, .slice none 0 0] 45)) ⟨w.heap.size, 2, none⟩ = false := by simp [go_sem]
  have hg0 : w.heap.size < ((w.alloc (.cells #[.bool false, .slice none 0 0, .slice none 0 0] 45))).heap.size := World.block_lt_of_cell? _ _ c0_0
  have Ha := Lib.hid (h1.below BW (Nat.le_refl _))
  have Hb := Lib.hid (h2.below BW (Nat.le_refl _))
  clear h1 h2
  have dz0 : ((limbs d).length == 0) = false := beq_eq_false_iff_ne.2 (by have := limbs_len_pos.2 hd; omega)
  have dy0 : (((limbs d).length : Int) == 0) = false := beq_eq_false_iff_ne.2 (by have := limbs_len_pos.2 hd; omega)
  have HD := Lib.hid hd
  have HG := Lib.hid hg
  have gx : decide (24 < (limbs x.natAbs).length) = false := decide_eq_false (by omega)
  have gix : decide ((24 : Int) < (limbs x.natAbs).length) = false := decide_eq_false (by omega)
  have gy : decide (24 < (limbs d).length) = true := decide_eq_true (by omega)
  have giy : decide ((24 : Int) < (limbs d).length) = true := decide_eq_true (by omega)
  clear hd hg
  go_enter Try.func81, Try.ntmps81
  go_wp2_with fail
  generalize (w.alloc (.cells #[.bool false, .slice none 0 0, .slice none 0 0] 45)) = w0 at *
  have B0 := Below.refl w0.heap.size w0
  refine (l02Trim_n _ _ _ _ Ha.out).mono ?_
  rintro e w1 ⟨vx, rfl, ho1, hp, hb⟩
  replace q0 := keep_frozen (w1 := w1) hb c0_0 q0
  replace c0_0 := keep_cell (w1 := w1) hb c0_0
  replace q1 := keep_frozen (w1 := w1) hb c0_1 q1
  replace c0_1 := keep_cell (w1 := w1) hb c0_1
  replace q2 := keep_frozen (w1 := w1) hb c0_2 q2
  replace c0_2 := keep_cell (w1 := w1) hb c0_2
  replace Ha := Lib.hid (Ha.out.below hb (Nat.le_refl _))
  replace Hb := Lib.hid (Hb.out.below hb (Nat.le_refl _))
  have Hx := Lib.hid ho1
  clear ho1
  clear hp
  obtain ⟨ax, cx, rfl, -, -, -, -, -⟩ := Hx.out.form
  replace B0 := B0.trans (hb.mono B0.size)
  clear hb
  go_wp2_with fail
  refine (l02Trim_n _ _ _ _ Hb.out).mono ?_
  rintro e w2 ⟨vy, rfl, ho1, hp, hb⟩
  replace q0 := keep_frozen (w1 := w2) hb c0_0 q0
  replace c0_0 := keep_cell (w1 := w2) hb c0_0
  replace q1 := keep_frozen (w1 := w2) hb c0_1 q1
  replace c0_1 := keep_cell (w1 := w2) hb c0_1
  replace q2 := keep_frozen (w1 := w2) hb c0_2 q2
  replace c0_2 := keep_cell (w1 := w2) hb c0_2
  replace Ha := Lib.hid (Ha.out.below hb (Nat.le_refl _))
  replace Hb := Lib.hid (Hb.out.below hb (Nat.le_refl _))
  replace Hx := Lib.hid (Hx.out.below hb (Nat.le_refl _))
  have Hy := Lib.hid ho1
  clear ho1
  clear hp
  obtain ⟨ay, cy, rfl, -, -, -, -, -⟩ := Hy.out.form
  replace B0 := B0.trans (hb.mono B0.size)
  clear hb
  go_wp2_with fail
  refine (l04One_f _ _ _ d Hy.out hd1).mono ?_
  rintro e w3 ⟨rfl, hb⟩
  replace q0 := keep_frozen (w1 := w3) hb c0_0 q0
  replace c0_0 := keep_cell (w1 := w3) hb c0_0
  replace q1 := keep_frozen (w1 := w3) hb c0_1 q1
  replace c0_1 := keep_cell (w1 := w3) hb c0_1
  replace q2 := keep_frozen (w1 := w3) hb c0_2 q2
  replace c0_2 := keep_cell (w1 := w3) hb c0_2
  replace Ha := Lib.hid (Ha.out.below hb (Nat.le_refl _))
  replace Hb := Lib.hid (Hb.out.below hb (Nat.le_refl _))
  replace Hx := Lib.hid (Hx.out.below hb (Nat.le_refl _))
  replace Hy := Lib.hid (Hy.out.below hb (Nat.le_refl _))
  replace B0 := B0.trans (hb.mono B0.size)
  clear hb
  go_wp2_with fail
  refine (gcd_s _ _ _ _ _ x.natAbs d Hx.out Hy.out hl1 hl2 1 HG).mono ?_
  rintro e w4 ⟨vg, rfl, ho1, hb⟩
  replace q0 := keep_frozen (w1 := w4) hb c0_0 q0
  replace c0_0 := keep_cell (w1 := w4) hb c0_0
  replace q1 := keep_frozen (w1 := w4) hb c0_1 q1
  replace c0_1 := keep_cell (w1 := w4) hb c0_1
  replace q2 := keep_frozen (w1 := w4) hb c0_2 q2
  replace c0_2 := keep_cell (w1 := w4) hb c0_2
  replace Ha := Lib.hid (Ha.out.below hb (Nat.le_refl _))
  replace Hb := Lib.hid (Hb.out.below hb (Nat.le_refl _))
  replace Hx := Lib.hid (Hx.out.below hb (Nat.le_refl _))
  replace Hy := Lib.hid (Hy.out.below hb (Nat.le_refl _))
  have Hg := Lib.hid (ho1.mono B0.size)
  clear ho1
  replace B0 := B0.trans (hb.mono B0.size)
  clear hb
  go_wp2_with fail
  refine (l04One_t _ _ _ Hg.out).mono ?_
  rintro e w5 ⟨rfl, hb⟩
  replace q0 := keep_frozen (w1 := w5) hb c0_0 q0
  replace c0_0 := keep_cell (w1 := w5) hb c0_0
  replace q1 := keep_frozen (w1 := w5) hb c0_1 q1
  replace c0_1 := keep_cell (w1 := w5) hb c0_1
  replace q2 := keep_frozen (w1 := w5) hb c0_2 q2
  replace c0_2 := keep_cell (w1 := w5) hb c0_2
  replace Ha := Lib.hid (Ha.out.below hb (Nat.le_refl _))
  replace Hb := Lib.hid (Hb.out.below hb (Nat.le_refl _))
  replace Hx := Lib.hid (Hx.out.below hb (Nat.le_refl _))
  replace Hy := Lib.hid (Hy.out.below hb (Nat.le_refl _))
  replace Hg := Lib.hid (Hg.out.below hb (Nat.le_refl _))
  replace B0 := B0.trans (hb.mono B0.size)
  clear hb
  go_wp2
  exact bodyPost_ret (v := .agg #[.bool false, .slice none 0 0, .slice none 0 0]) (by simp [results, Try.results81, go_sem, c0_0, c0_1, c0_2]) rfl (retQ_nil (set3_below (BW.trans (B0.mono BW.size)) (by omega)))

set_option maxHeartbeats 1000000 in
theorem l04Low_gy (w : World) (b1 b2 : Nat) (s : Bool) (v1 v2 : Value) (x : Int) (d : Nat) (h1 : Own w b1 v1 (limbs x.natAbs)) (h2 : Own w b2 v2 (limbs d)) (hl1 : (limbs x.natAbs).length ≤ 900) (hl2 : (limbs d).length ≤ 900) (hd : 0 < d) (hd1 : d ≠ 1) (g m : Nat) (z : Int) (hg : g = Nat.gcd x.natAbs d) (hg1 : g ≠ 1) (hn : z.natAbs = x.natAbs / g) (hm : m = d / g) (hf1 : (limbs z.natAbs).length ≤ 24) (hf2 : (limbs m).length ≤ 24) (hs : z ≠ 0 → s = ng z) :
    Calls Try.prog 81 #[.bool s, v1, v2] w (RetQ w z m) := by
  have BW : Below w.heap.size w (w.alloc (.cells #[.bool false, .slice none 0 0, .slice none 0 0] 45)) := ((Below.refl w.heap.size w).alloc (Nat.le_refl _) _)
  obtain ⟨c0_0, c0_1, c0_2, q0, q1, q2⟩ : World.cell? (w.alloc (.cells #[.bool false, .slice none 0 0, .slice none 0 0] 45)) ⟨w.heap.size, 0, none⟩ = some (.bool false) ∧ World.cell? (w.alloc (.cells #[.bool false, .slice none 0 0, .slice none 0 0] 45)) ⟨w.heap.size, 1, none⟩ = some (.slice none 0 0) ∧ World.cell? (w.alloc (.cells #[.bool false, .slice none 0 0, .slice none 0 0] 45)) ⟨w.heap.size, 2, none⟩ = some (.slice none 0 0) ∧ World.frozen? (w.alloc (.cells #[.bool false, .slice none 0 0, .slice none 0 0] 45)) ⟨w.heap.size, 0, none⟩ = false ∧ World.frozen? (w.alloc (.cells #[.bool false, .slice none 0 0, .slice none 0 0] 45)) ⟨w.heap.size, 1, none⟩ = false ∧ World.frozen? (w.alloc (.cells #[.bool false, .slice none 0 0, .slice none 0 0] 45)) ⟨w.heap.size, 2, none⟩ = false := by simp [go_sem]
  have hg0 : w.heap.size < ((w.alloc (.cells #[.bool false, .slice none 0 0, .slice none 0 0] 45))).heap.size := World.block_lt_of_cell? _ _ c0_0
  have Ha := Lib.hid (h1.below BW (Nat.le_refl _))
  have Hb := Lib.hid (h2.below BW (Nat.le_refl _))
  clear h1 h2
  have dz0 : ((limbs d).length == 0) = false := beq_eq_false_iff_ne.2 (by have := limbs_len_pos.2 hd; omega)
  have dy0 : (((limbs d).length : Int) == 0) = false := beq_eq_false_iff_ne.2 (by have := limbs_len_pos.2 hd; omega)
  have HD := Lib.hid hd
  have HG := Lib.hid hg
  have gx : decide (24 < (limbs z.natAbs).length) = false := decide_eq_false (by omega)
  have gix : decide ((24 : Int) < (limbs z.natAbs).length) = false := decide_eq_false (by omega)
  have gy : decide (24 < (limbs m).length) = false := decide_eq_false (by omega)
  have giy : decide ((24 : Int) < (limbs m).length) = false := decide_eq_false (by omega)
  have HN : Hid (z.natAbs = x.natAbs / g) := hn
  have HM : Hid (m = d / g) := hm
  have hgp : 0 < g := by rw [hg]; exact Nat.gcd_pos_of_pos_right _ hd
  have hgl : (limbs g).length ≤ 900 := by rw [hg]; exact Nat.le_trans (limbs_len_mono (Nat.gcd_le_right _ hd)) hl2
  have HMK : Hid (z.natAbs = if (limbs z.natAbs).length ≤ 60 then z.natAbs else 0) := fit_len rfl (by omega)
  have HSG : Hid (z ≠ 0 → s = ng z) := hs
  clear hd hg hn hm hs
  go_enter Try.func81, Try.ntmps81
  go_wp2_with fail
  generalize (w.alloc (.cells #[.bool false, .slice none 0 0, .slice none 0 0] 45)) = w0 at *
  have B0 := Below.refl w0.heap.size w0
  refine (l02Trim_n _ _ _ _ Ha.out).mono ?_
  rintro e w1 ⟨vx, rfl, ho1, hp, hb⟩
  replace q0 := keep_frozen (w1 := w1) hb c0_0 q0
  replace c0_0 := keep_cell (w1 := w1) hb c0_0
  replace q1 := keep_frozen (w1 := w1) hb c0_1 q1
  replace c0_1 := keep_cell (w1 := w1) hb c0_1
  replace q2 := keep_frozen (w1 := w1) hb c0_2 q2
  replace c0_2 := keep_cell (w1 := w1) hb c0_2
  replace Ha := Lib.hid (Ha.out.below hb (Nat.le_refl _))
  replace Hb := Lib.hid (Hb.out.below hb (Nat.le_refl _))
  have Hx := Lib.hid ho1
  clear ho1
  clear hp
  obtain ⟨ax, cx, rfl, -, -, -, -, -⟩ := Hx.out.form
  replace B0 := B0.trans (hb.mono B0.size)
  clear hb
  go_wp2_with fail
  refine (l02Trim_n _ _ _ _ Hb.out).mono ?_
  rintro e w2 ⟨vy, rfl, ho1, hp, hb⟩
  replace q0 := keep_frozen (w1 := w2) hb c0_0 q0
  replace c0_0 := keep_cell (w1 := w2) hb c0_0
  replace q1 := keep_frozen (w1 := w2) hb c0_1 q1
  replace c0_1 := keep_cell (w1 := w2) hb c0_1
  replace q2 := keep_frozen (w1 := w2) hb c0_2 q2
  replace c0_2 := keep_cell (w1 := w2) hb c0_2
  replace Ha := Lib.hid (Ha.out.below hb (Nat.le_refl _))
  replace Hb := Lib.hid (Hb.out.below hb (Nat.le_refl _))
  replace Hx := Lib.hid (Hx.out.below hb (Nat.le_refl _))
  have Hy := Lib.hid ho1
  clear ho1
  clear hp
  obtain ⟨ay, cy, rfl, -, -, -, -, -⟩ := Hy.out.form
  replace B0 := B0.trans (hb.mono B0.size)
  clear hb
  go_wp2_with fail
  refine (l04One_f _ _ _ d Hy.out hd1).mono ?_
  rintro e w3 ⟨rfl, hb⟩
  replace q0 := keep_frozen (w1 := w3) hb c0_0 q0
  replace c0_0 := keep_cell (w1 := w3) hb c0_0
  replace q1 := keep_frozen (w1 := w3) hb c0_1 q1
  replace c0_1 := keep_cell (w1 := w3) hb c0_1
  replace q2 := keep_frozen (w1 := w3) hb c0_2 q2
  replace c0_2 := keep_cell (w1 := w3) hb c0_2
  replace Ha := Lib.hid (Ha.out.below hb (Nat.le_refl _))
  replace Hb := Lib.hid (Hb.out.below hb (Nat.le_refl _))
  replace Hx := Lib.hid (Hx.out.below hb (Nat.le_refl _))
  replace Hy := Lib.hid (Hy.out.below hb (Nat.le_refl _))
  replace B0 := B0.trans (hb.mono B0.size)
  clear hb
  go_wp2_with fail
  refine (gcd_s _ _ _ _ _ x.natAbs d Hx.out Hy.out hl1 hl2 g HG).mono ?_
  rintro e w4 ⟨vg, rfl, ho1, hb⟩
  replace q0 := keep_frozen (w1 := w4) hb c0_0 q0
  replace c0_0 := keep_cell (w1 := w4) hb c0_0
  replace q1 := keep_frozen (w1 := w4) hb c0_1 q1
  replace c0_1 := keep_cell (w1 := w4) hb c0_1
  replace q2 := keep_frozen (w1 := w4) hb c0_2 q2
  replace c0_2 := keep_cell (w1 := w4) hb c0_2
  replace Ha := Lib.hid (Ha.out.below hb (Nat.le_refl _))
  replace Hb := Lib.hid (Hb.out.below hb (Nat.le_refl _))
  replace Hx := Lib.hid (Hx.out.below hb (Nat.le_refl _))
  replace Hy := Lib.hid (Hy.out.below hb (Nat.le_refl _))
  have Hg := Lib.hid (ho1.mono B0.size)
  clear ho1
  replace B0 := B0.trans (hb.mono B0.size)
  clear hb
  go_wp2_with fail
  refine (l04One_f _ _ _ g Hg.out hg1).mono ?_
  rintro e w5 ⟨rfl, hb⟩
  replace q0 := keep_frozen (w1 := w5) hb c0_0 q0
  replace c0_0 := keep_cell (w1 := w5) hb c0_0
  replace q1 := keep_frozen (w1 := w5) hb c0_1 q1
  replace c0_1 := keep_cell (w1 := w5) hb c0_1
  replace q2 := keep_frozen (w1 := w5) hb c0_2 q2
  replace c0_2 := keep_cell (w1 := w5) hb c0_2
  replace Ha := Lib.hid (Ha.out.below hb (Nat.le_refl _))
  replace Hb := Lib.hid (Hb.out.below hb (Nat.le_refl _))
  replace Hx := Lib.hid (Hx.out.below hb (Nat.le_refl _))
  replace Hy := Lib.hid (Hy.out.below hb (Nat.le_refl _))
  replace Hg := Lib.hid (Hg.out.below hb (Nat.le_refl _))
  replace B0 := B0.trans (hb.mono B0.size)
  clear hb
  go_wp2_with fail
  refine (l02Div_n _ _ _ _ _ x.natAbs g z.natAbs Hx.out Hg.out hl1 hgl hgp HN).mono ?_
  rintro e w6 ⟨vn, ve, rfl, ho1, ho2, ha, hb⟩
  replace q0 := keep_frozen (w1 := w6) hb c0_0 q0
  replace c0_0 := keep_cell (w1 := w6) hb c0_0
  replace q1 := keep_frozen (w1 := w6) hb c0_1 q1
  replace c0_1 := keep_cell (w1 := w6) hb c0_1
  replace q2 := keep_frozen (w1 := w6) hb c0_2 q2
  replace c0_2 := keep_cell (w1 := w6) hb c0_2
  replace Ha := Lib.hid (Ha.out.below hb (Nat.le_refl _))
  replace Hb := Lib.hid (Hb.out.below hb (Nat.le_refl _))
  replace Hx := Lib.hid (Hx.out.below hb (Nat.le_refl _))
  replace Hy := Lib.hid (Hy.out.below hb (Nat.le_refl _))
  replace Hg := Lib.hid (Hg.out.below hb (Nat.le_refl _))
  have Hn := Lib.hid (ho1.mono B0.size)
  clear ho1
  have He := Lib.hid (ho2.mono B0.size)
  clear ho2
  clear ha
  obtain ⟨an, cn, rfl, -, -, -, -, -⟩ := Hn.out.form
  replace B0 := B0.trans (hb.mono B0.size)
  clear hb
  go_wp2_with fail
  refine (l02Div_n _ _ _ _ _ d g m Hy.out Hg.out hl2 hgl hgp HM).mono ?_
  rintro e w7 ⟨vm, vk, rfl, ho1, ho2, ha, hb⟩
  replace q0 := keep_frozen (w1 := w7) hb c0_0 q0
  replace c0_0 := keep_cell (w1 := w7) hb c0_0
  replace q1 := keep_frozen (w1 := w7) hb c0_1 q1
  replace c0_1 := keep_cell (w1 := w7) hb c0_1
  replace q2 := keep_frozen (w1 := w7) hb c0_2 q2
  replace c0_2 := keep_cell (w1 := w7) hb c0_2
  replace Ha := Lib.hid (Ha.out.below hb (Nat.le_refl _))
  replace Hb := Lib.hid (Hb.out.below hb (Nat.le_refl _))
  replace Hx := Lib.hid (Hx.out.below hb (Nat.le_refl _))
  replace Hy := Lib.hid (Hy.out.below hb (Nat.le_refl _))
  replace Hg := Lib.hid (Hg.out.below hb (Nat.le_refl _))
  replace Hn := Lib.hid (Hn.out.below hb (Nat.le_refl _))
  replace He := Lib.hid (He.out.below hb (Nat.le_refl _))
  have Hm := Lib.hid (ho1.mono B0.size)
  clear ho1
  have Hk := Lib.hid (ho2.mono B0.size)
  clear ho2
  clear ha
  obtain ⟨am, cm, rfl, -, -, -, -, -⟩ := Hm.out.form
  replace B0 := B0.trans (hb.mono B0.size)
  clear hb
  go_wp2_with fail
  refine (l03Make_n _ _ _ _ _ z Hn.out HMK HSG).mono ?_
  rintro e w8 ⟨vr, rfl, ho1, hb⟩
  replace q0 := keep_frozen (w1 := w8) hb c0_0 q0
  replace c0_0 := keep_cell (w1 := w8) hb c0_0
  replace q1 := keep_frozen (w1 := w8) hb c0_1 q1
  replace c0_1 := keep_cell (w1 := w8) hb c0_1
  replace q2 := keep_frozen (w1 := w8) hb c0_2 q2
  replace c0_2 := keep_cell (w1 := w8) hb c0_2
  replace Ha := Lib.hid (Ha.out.below hb (Nat.le_refl _))
  replace Hb := Lib.hid (Hb.out.below hb (Nat.le_refl _))
  replace Hx := Lib.hid (Hx.out.below hb (Nat.le_refl _))
  replace Hy := Lib.hid (Hy.out.below hb (Nat.le_refl _))
  replace Hg := Lib.hid (Hg.out.below hb (Nat.le_refl _))
  replace Hn := Lib.hid (Hn.out.below hb (Nat.le_refl _))
  replace He := Lib.hid (He.out.below hb (Nat.le_refl _))
  replace Hm := Lib.hid (Hm.out.below hb (Nat.le_refl _))
  replace Hk := Lib.hid (Hk.out.below hb (Nat.le_refl _))
  have Hr := Lib.hid (ho1.mono B0.size)
  clear ho1
  obtain ⟨ar, cr, rfl, -, -, -, -, -⟩ := Hr.out.form
  replace B0 := B0.trans (hb.mono B0.size)
  clear hb
  have HL := Lib.hid (Own.lit0 w8)
  go_wp2_with (at_builtin; refine app_own rfl _ _ rfl _ _ w8.heap.size _ [] (limbs m) rfl rfl HL.out (Hm.out.alloc _) (by simp; omega) (by simp) ?_)
  intro vs w9 hx hg hat
  try rw [List.nil_append] at hx
  have hb := HL.out.grownBelow ((Below.refl _ _).alloc (Nat.le_refl _) _) hg (Nat.le_refl _) (by simp)
  have HAP := apart_lit Hr.out (hx.mono (Nat.le_refl _))
  clear HL hg hat
  replace q0 := keep_frozen (w1 := w9) hb c0_0 q0
  replace c0_0 := keep_cell (w1 := w9) hb c0_0
  replace q1 := keep_frozen (w1 := w9) hb c0_1 q1
  replace c0_1 := keep_cell (w1 := w9) hb c0_1
  replace q2 := keep_frozen (w1 := w9) hb c0_2 q2
  replace c0_2 := keep_cell (w1 := w9) hb c0_2
  replace Ha := Lib.hid (Ha.out.below hb (Nat.le_refl _))
  replace Hb := Lib.hid (Hb.out.below hb (Nat.le_refl _))
  replace Hx := Lib.hid (Hx.out.below hb (Nat.le_refl _))
  replace Hy := Lib.hid (Hy.out.below hb (Nat.le_refl _))
  replace Hg := Lib.hid (Hg.out.below hb (Nat.le_refl _))
  replace Hn := Lib.hid (Hn.out.below hb (Nat.le_refl _))
  replace He := Lib.hid (He.out.below hb (Nat.le_refl _))
  replace Hm := Lib.hid (Hm.out.below hb (Nat.le_refl _))
  replace Hk := Lib.hid (Hk.out.below hb (Nat.le_refl _))
  replace Hr := Lib.hid (Hr.out.below hb (Nat.le_refl _))
  have Hs := Lib.hid (hx.mono B0.size)
  clear hx
  replace B0 := B0.trans (hb.mono B0.size)
  clear hb
  obtain ⟨aS, cS, rfl, -, -, -, -, -⟩ := Hs.out.form
  go_wp2
  exact bodyPost_ret (v := .agg #[.bool (ng z), .slice ar (limbs z.natAbs).length cr, .slice aS (limbs m).length cS]) (by simp [results, Try.results81, go_sem, c0_0, c0_1, c0_2]) rfl (retR_end BW (by omega) hg0 B0 Hr.out Hs.out HAP)

set_option maxHeartbeats 1000000 in
theorem l04Low_g1 (w : World) (b1 b2 : Nat) (s : Bool) (v1 v2 : Value) (x : Int) (d : Nat) (h1 : Own w b1 v1 (limbs x.natAbs)) (h2 : Own w b2 v2 (limbs d)) (hl1 : (limbs x.natAbs).length ≤ 900) (hl2 : (limbs d).length ≤ 900) (hd : 0 < d) (hd1 : d ≠ 1) (g m : Nat) (z : Int) (hg : g = Nat.gcd x.natAbs d) (hg1 : g ≠ 1) (hn : z.natAbs = x.natAbs / g) (hm : m = d / g) (hf1 : 24 < (limbs z.natAbs).length) :
    Calls Try.prog 81 #[.bool s, v1, v2] w (RetQ w 0 0) := by
  have BW : Below w.heap.size w (w.alloc (.cells #[.bool false, .slice none 0 0, .slice none 0 0] 45)) := ((Below.refl w.heap.size w).alloc (Nat.le_refl _) _)
  obtain ⟨c0_0, c0_1, c0_2, q0, q1, q2⟩ : World.cell? (w.alloc (.cells #[.bool false, .slice none 0 0, .slice none 0 0] 45)) ⟨w.heap.size, 0, none⟩ = some (.bool false) ∧ World.cell? (w.alloc (.cells #[.bool false, .slice none 0 0, .slice none 0 0] 45)) ⟨w.heap.size, 1, none⟩ = some (.slice none 0 0) ∧ World.cell? (w.alloc (.cells #[.bool false, .slice none 0 0, .slice none 0 0] 45)) ⟨w.heap.size, 2, none⟩ = some (.slice none 0 0) ∧ World.frozen? (w.alloc (.cells #[.bool false, .slice none 0 0, .slice none 0 0] 45)) ⟨w.heap.size, 0, none⟩ = false ∧ World.frozen? (w.alloc (.cells #[.bool false, .slice none 0 0, .slice none 0 0] 45)) ⟨w.heap.size, 1, none⟩ = false ∧ World.frozen? (w.alloc (.cells #[.bool false, .slice none 0 0, .slice none 0 0] 45)) ⟨w.heap.size, 2, none⟩ = false := by simp [go_sem]
  have hg0 : w.heap.size < ((w.alloc (.cells #[.bool false, .slice none 0 0, .slice none 0 0] 45))).heap.size := World.block_lt_of_cell? _ _ c0_0
  have Ha := Lib.hid (h1.below BW (Nat.le_refl _))
  have Hb := Lib.hid (h2.below BW (Nat.le_refl _))
  clear h1 h2
  have dz0 : ((limbs d).length == 0) = false := beq_eq_false_iff_ne.2 (by have := limbs_len_pos.2 hd; omega)
  have dy0 : (((limbs d).length : Int) == 0) = false := beq_eq_false_iff_ne.2 (by have := limbs_len_pos.2 hd; omega)
  have HD := Lib.hid hd
  have HG := Lib.hid hg
  have gx : decide (24 < (limbs z.natAbs).length) = true := decide_eq_true (by omega)
  have gix : decide ((24 : Int) < (limbs z.natAbs).length) = true := decide_eq_true (by omega)
  have HN : Hid (z.natAbs = x.natAbs / g) := hn
  have HM : Hid (m = d / g) := hm
  have hgp : 0 < g := by rw [hg]; exact Nat.gcd_pos_of_pos_right _ hd
  have hgl : (limbs g).length ≤ 900 := by rw [hg]; exact Nat.le_trans (limbs_len_mono (Nat.gcd_le_right _ hd)) hl2
  clear hd hg hn hm
  go_enter Try.func81, Try.ntmps81
  go_wp2_with fail
  generalize (w.alloc (.cells #[.bool false, .slice none 0 0, .slice none 0 0] 45)) = w0 at *
  have B0 := Below.refl w0.heap.size w0
  refine (l02Trim_n _ _ _ _ Ha.out).mono ?_
  rintro e w1 ⟨vx, rfl, ho1, hp, hb⟩
  replace q0 := keep_frozen (w1 := w1) hb c0_0 q0
  replace c0_0 := keep_cell (w1 := w1) hb c0_0
  replace q1 := keep_frozen (w1 := w1) hb c0_1 q1
  replace c0_1 := keep_cell (w1 := w1) hb c0_1
  replace q2 := keep_frozen (w1 := w1) hb c0_2 q2
  replace c0_2 := keep_cell (w1 := w1) hb c0_2
  replace Ha := Lib.hid (Ha.out.below hb (Nat.le_refl _))
  replace Hb := Lib.hid (Hb.out.below hb (Nat.le_refl _))
  have Hx := Lib.hid ho1
  clear ho1
  clear hp
  obtain ⟨ax, cx, rfl, -, -, -, -, -⟩ := Hx.out.form
  replace B0 := B0.trans (hb.mono B0.size)
  clear hb
  go_wp2_with fail
  refine (l02Trim_n _ _ _ _ Hb.out).mono ?_
  rintro e w2 ⟨vy, rfl, ho1, hp, hb⟩
  replace q0 := keep_frozen (w1 := w2) hb c0_0 q0
  replace c0_0 := keep_cell (w1 := w2) hb c0_0
  replace q1 := keep_frozen (w1 := w2) hb c0_1 q1
  replace c0_1 := keep_cell (w1 := w2) hb c0_1
  replace q2 := keep_frozen (w1 := w2) hb c0_2 q2
  replace c0_2 := keep_cell (w1 := w2) hb c0_2
  replace Ha := Lib.hid (Ha.out.below hb (Nat.le_refl _))
  replace Hb := Lib.hid (Hb.out.below hb (Nat.le_refl _))
  replace Hx := Lib.hid (Hx.out.below hb (Nat.le_refl _))
  have Hy := Lib.hid ho1
  clear ho1
  clear hp
  obtain ⟨ay, cy, rfl, -, -, -, -, -⟩ := Hy.out.form
  replace B0 := B0.trans (hb.mono B0.size)
  clear hb
  go_wp2_with fail
  refine (l04One_f _ _ _ d Hy.out hd1).mono ?_
  rintro e w3 ⟨rfl, hb⟩
  replace q0 := keep_frozen (w1 := w3) hb c0_0 q0
  replace c0_0 := keep_cell (w1 := w3) hb c0_0
  replace q1 := keep_frozen (w1 := w3) hb c0_1 q1
  replace c0_1 := keep_cell (w1 := w3) hb c0_1
  replace q2 := keep_frozen (w1 := w3) hb c0_2 q2
  replace c0_2 := keep_cell (w1 := w3) hb c0_2
  replace Ha := Lib.hid (Ha.out.below hb (Nat.le_refl _))
  replace Hb := Lib.hid (Hb.out.below hb (Nat.le_refl _))
  replace Hx := Lib.hid (Hx.out.below hb (Nat.le_refl _))
  replace Hy := Lib.hid (Hy.out.below hb (Nat.le_refl _))
  replace B0 := B0.trans (hb.mono B0.size)
  clear hb
  go_wp2_with fail
  refine (gcd_s _ _ _ _ _ x.natAbs d Hx.out Hy.out hl1 hl2 g HG).mono ?_
  rintro e w4 ⟨vg, rfl, ho1, hb⟩
  replace q0 := keep_frozen (w1 := w4) hb c0_0 q0
  replace c0_0 := keep_cell (w1 := w4) hb c0_0
  replace q1 := keep_frozen (w1 := w4) hb c0_1 q1
  replace c0_1 := keep_cell (w1 := w4) hb c0_1
  replace q2 := keep_frozen (w1 := w4) hb c0_2 q2
  replace c0_2 := keep_cell (w1 := w4) hb c0_2
  replace Ha := Lib.hid (Ha.out.below hb (Nat.le_refl _))
  replace Hb := Lib.hid (Hb.out.below hb (Nat.le_refl _))
  replace Hx := Lib.hid (Hx.out.below hb (Nat.le_refl _))
  replace Hy := Lib.hid (Hy.out.below hb (Nat.le_refl _))
  have Hg := Lib.hid (ho1.mono B0.size)
  clear ho1
  replace B0 := B0.trans (hb.mono B0.size)
  clear hb
  go_wp2_with fail
  refine (l04One_f _ _ _ g Hg.out hg1).mono ?_
  rintro e w5 ⟨rfl, hb⟩
  replace q0 := keep_frozen (w1 := w5) hb c0_0 q0
  replace c0_0 := keep_cell (w1 := w5) hb c0_0
  replace q1 := keep_frozen (w1 := w5) hb c0_1 q1
  replace c0_1 := keep_cell (w1 := w5) hb c0_1
  replace q2 := keep_frozen (w1 := w5) hb c0_2 q2
  replace c0_2 := keep_cell (w1 := w5) hb c0_2
  replace Ha := Lib.hid (Ha.out.below hb (Nat.le_refl _))
  replace Hb := Lib.hid (Hb.out.below hb (Nat.le_refl _))
  replace Hx := Lib.hid (Hx.out.below hb (Nat.le_refl _))
  replace Hy := Lib.hid (Hy.out.below hb (Nat.le_refl _))
  replace Hg := Lib.hid (Hg.out.below hb (Nat.le_refl _))
  replace B0 := B0.trans (hb.mono B0.size)
  clear hb
  go_wp2_with fail
  refine (l02Div_n _ _ _ _ _ x.natAbs g z.natAbs Hx.out Hg.out hl1 hgl hgp HN).mono ?_
  rintro e w6 ⟨vn, ve, rfl, ho1, ho2, ha, hb⟩
  replace q0 := keep_frozen (w1 := w6) hb c0_0 q0
  replace c0_0 := keep_cell (w1 := w6) hb c0_0
  replace q1 := keep_frozen (w1 := w6) hb c0_1 q1
  replace c0_1 := keep_cell (w1 := w6) hb c0_1
  replace q2 := keep_frozen (w1 := w6) hb c0_2 q2
  replace c0_2 := keep_cell (w1 := w6) hb c0_2
  replace Ha := Lib.hid (Ha.out.below hb (Nat.le_refl _))
  replace Hb := Lib.hid (Hb.out.below hb (Nat.le_refl _))
  replace Hx := Lib.hid (Hx.out.below hb (Nat.le_refl _))
  replace Hy := Lib.hid (Hy.out.below hb (Nat.le_refl _))
  replace Hg := Lib.hid (Hg.out.below hb (Nat.le_refl _))
  have Hn := Lib.hid (ho1.mono B0.size)
  clear ho1
  have He := Lib.hid (ho2.mono B0.size)
  clear ho2
  clear ha
  obtain ⟨an, cn, rfl, -, -, -, -, -⟩ := Hn.out.form
  replace B0 := B0.trans (hb.mono B0.size)
  clear hb
  go_wp2_with fail
  refine (l02Div_n _ _ _ _ _ d g m Hy.out Hg.out hl2 hgl hgp HM).mono ?_
  rintro e w7 ⟨vm, vk, rfl, ho1, ho2, ha, hb⟩
  replace q0 := keep_frozen (w1 := w7) hb c0_0 q0
  replace c0_0 := keep_cell (w1 := w7) hb c0_0
  replace q1 := keep_frozen (w1 := w7) hb c0_1 q1
  replace c0_1 := keep_cell (w1 := w7) hb c0_1
  replace q2 := keep_frozen (w1 := w7) hb c0_2 q2
  replace c0_2 := keep_cell (w1 := w7) hb c0_2
  replace Ha := Lib.hid (Ha.out.below hb (Nat.le_refl _))
  replace Hb := Lib.hid (Hb.out.below hb (Nat.le_refl _))
  replace Hx := Lib.hid (Hx.out.below hb (Nat.le_refl _))
  replace Hy := Lib.hid (Hy.out.below hb (Nat.le_refl _))
  replace Hg := Lib.hid (Hg.out.below hb (Nat.le_refl _))
  replace Hn := Lib.hid (Hn.out.below hb (Nat.le_refl _))
  replace He := Lib.hid (He.out.below hb (Nat.le_refl _))
  have Hm := Lib.hid (ho1.mono B0.size)
  clear ho1
  have Hk := Lib.hid (ho2.mono B0.size)
  clear ho2
  clear ha
  obtain ⟨am, cm, rfl, -, -, -, -, -⟩ := Hm.out.form
  replace B0 := B0.trans (hb.mono B0.size)
  clear hb
  go_wp2
  exact bodyPost_ret (v := .agg #[.bool false, .slice none 0 0, .slice none 0 0]) (by simp [results, Try.results81, go_sem, c0_0, c0_1, c0_2]) rfl (retQ_nil (set3_below (BW.trans (B0.mono BW.size)) (by omega)))

set_option maxHeartbeats 1000000 in
theorem l04Low_g2 (w : World) (b1 b2 : Nat) (s : Bool) (v1 v2 : Value) (x : Int) (d : Nat) (h1 : Own w b1 v1 (limbs x.natAbs)) (h2 : Own w b2 v2 (limbs d)) (hl1 : (limbs x.natAbs).length ≤ 900) (hl2 : (limbs d).length ≤ 900) (hd : 0 < d) (hd1 : d ≠ 1) (g m : Nat) (z : Int) (hg : g = Nat.gcd x.natAbs d) (hg1 : g ≠ 1) (hn : z.natAbs = x.natAbs / g) (hm : m = d / g) (hf1 : (limbs z.natAbs).length ≤ 24) (hf2 : 24 < (limbs m).length) :
    Calls Try.prog 81 #[.bool s, v1, v2] w (RetQ w 0 0) := by
  have BW : Below w.heap.size w (w.alloc (.cells #[.bool false, .slice none 0 0, .slice none 0 0] 45)) := ((Below.refl w.heap.size w).alloc (Nat.le_refl _) _)
  obtain ⟨c0_0, c0_1, c0_2, q0, q1, q2⟩ : World.cell? (w.alloc (.cells #[.bool false, .slice none 0 0, .slice none 0 0] 45)) ⟨w.heap.size, 0, none⟩ = some (.bool false) ∧ World.cell? (w.alloc (.cells #[.bool false, .slice none 0 0, .slice none 0 0] 45)) ⟨w.heap.size, 1, none⟩ = some (.slice none 0 0) ∧ World.cell? (w.alloc (.cells #[.bool false, .slice none 0 0, .slice none 0 0] 45)) ⟨w.heap.size, 2, none⟩ = some (.slice none 0 0) ∧ World.frozen? (w.alloc (.cells #[.bool false, .slice none 0 0, .slice none 0 0] 45)) ⟨w.heap.size, 0, none⟩ = false ∧ World.frozen? (w.alloc (.cells #[.bool false, .slice none 0 0, .slice none 0 0] 45)) ⟨w.heap.size, 1, none⟩ = false ∧ World.frozen? (w.alloc (.cells #[.bool false, .slice none 0 0, .slice none 0 0] 45)) ⟨w.heap.size, 2, none⟩ = false := by simp [go_sem]
  have hg0 : w.heap.size < ((w.alloc (.cells #[.bool false, .slice none 0 0, .slice none 0 0] 45))).heap.size := World.block_lt_of_cell? _ _ c0_0
  have Ha := Lib.hid (h1.below BW (Nat.le_refl _))
  have Hb := Lib.hid (h2.below BW (Nat.le_refl _))
  clear h1 h2
  have dz0 : ((limbs d).length == 0) = false := beq_eq_false_iff_ne.2 (by have := limbs_len_pos.2 hd; omega)
  have dy0 : (((limbs d).length : Int) == 0) = false := beq_eq_false_iff_ne.2 (by have := limbs_len_pos.2 hd; omega)
  have HD := Lib.hid hd
  have HG := Lib.hid hg
  have gx : decide (24 < (limbs z.natAbs).length) = false := decide_eq_false (by omega)
  have gix : decide ((24 : Int) < (limbs z.natAbs).length) = false := decide_eq_false (by omega)
  have gy : decide (24 < (limbs m).length) = true := decide_eq_true (by omega)
  have giy : decide ((24 : Int) < (limbs m).length) = true := decide_eq_true (by omega)
  have HN : Hid (z.natAbs = x.natAbs / g) := hn
  have HM : Hid (m = d / g) := hm
  have hgp : 0 < g := by rw [hg]; exact Nat.gcd_pos_of_pos_right _ hd
  have hgl : (limbs g).length ≤ 900 := by rw [hg]; exact Nat.le_trans (limbs_len_mono (Nat.gcd_le_right _ hd)) hl2
  clear hd hg hn hm
  go_enter Try.func81, Try.ntmps81
  go_wp2_with fail
  generalize (w.alloc (.cells #[.bool false, .slice none 0 0, .slice none 0 0] 45)) = w0 at *
  have B0 := Below.refl w0.heap.size w0
  refine (l02Trim_n _ _ _ _ Ha.out).mono ?_
  rintro e w1 ⟨vx, rfl, ho1, hp, hb⟩
  replace q0 := keep_frozen (w1 := w1) hb c0_0 q0
  replace c0_0 := keep_cell (w1 := w1) hb c0_0
  replace q1 := keep_frozen (w1 := w1) hb c0_1 q1
  replace c0_1 := keep_cell (w1 := w1) hb c0_1
  replace q2 := keep_frozen (w1 := w1) hb c0_2 q2
  replace c0_2 := keep_cell (w1 := w1) hb c0_2
  replace Ha := Lib.hid (Ha.out.below hb (Nat.le_refl _))
  replace Hb := Lib.hid (Hb.out.below hb (Nat.le_refl _))
  have Hx := Lib.hid ho1
  clear ho1
  clear hp
  obtain ⟨ax, cx, rfl, -, -, -, -, -⟩ := Hx.out.form
  replace B0 := B0.trans (hb.mono B0.size)
  clear hb
  go_wp2_with fail
  refine (l02Trim_n _ _ _ _ Hb.out).mono ?_
  rintro e w2 ⟨vy, rfl, ho1, hp, hb⟩
  replace q0 := keep_frozen (w1 := w2) hb c0_0 q0
  replace c0_0 := keep_cell (w1 := w2) hb c0_0
  replace q1 := keep_frozen (w1 := w2) hb c0_1 q1
  replace c0_1 := keep_cell (w1 := w2) hb c0_1
  replace q2 := keep_frozen (w1 := w2) hb c0_2 q2
  replace c0_2 := keep_cell (w1 := w2) hb c0_2
  replace Ha := Lib.hid (Ha.out.below hb (Nat.le_refl _))
  replace Hb := Lib.hid (Hb.out.below hb (Nat.le_refl _))
  replace Hx := Lib.hid (Hx.out.below hb (Nat.le_refl _))
  have Hy := Lib.hid ho1
  clear ho1
  clear hp
  obtain ⟨ay, cy, rfl, -, -, -, -, -⟩ := Hy.out.form
  replace B0 := B0.trans (hb.mono B0.size)
  clear hb
  go_wp2_with fail
  refine (l04One_f _ _ _ d Hy.out hd1).mono ?_
  rintro e w3 ⟨rfl, hb⟩
  replace q0 := keep_frozen (w1 := w3) hb c0_0 q0
  replace c0_0 := keep_cell (w1 := w3) hb c0_0
  replace q1 := keep_frozen (w1 := w3) hb c0_1 q1
  replace c0_1 := keep_cell (w1 := w3) hb c0_1
  replace q2 := keep_frozen (w1 := w3) hb c0_2 q2
  replace c0_2 := keep_cell (w1 := w3) hb c0_2
  replace Ha := Lib.hid (Ha.out.below hb (Nat.le_refl _))
  replace Hb := Lib.hid (Hb.out.below hb (Nat.le_refl _))
  replace Hx := Lib.hid (Hx.out.below hb (Nat.le_refl _))
  replace Hy := Lib.hid (Hy.out.below hb (Nat.le_refl _))
  replace B0 := B0.trans (hb.mono B0.size)
  clear hb
  go_wp2_with fail
  refine (gcd_s _ _ _ _ _ x.natAbs d Hx.out Hy.out hl1 hl2 g HG).mono ?_
  rintro e w4 ⟨vg, rfl, ho1, hb⟩
  replace q0 := keep_frozen (w1 := w4) hb c0_0 q0
  replace c0_0 := keep_cell (w1 := w4) hb c0_0
  replace q1 := keep_frozen (w1 := w4) hb c0_1 q1
  replace c0_1 := keep_cell (w1 := w4) hb c0_1
  replace q2 := keep_frozen (w1 := w4) hb c0_2 q2
  replace c0_2 := keep_cell (w1 := w4) hb c0_2
  replace Ha := Lib.hid (Ha.out.below hb (Nat.le_refl _))
  replace Hb := Lib.hid (Hb.out.below hb (Nat.le_refl _))
  replace Hx := Lib.hid (Hx.out.below hb (Nat.le_refl _))
  replace Hy := Lib.hid (Hy.out.below hb (Nat.le_refl _))
  have Hg := Lib.hid (ho1.mono B0.size)
  clear ho1
  replace B0 := B0.trans (hb.mono B0.size)
  clear hb
  go_wp2_with fail
  refine (l04One_f _ _ _ g Hg.out hg1).mono ?_
  rintro e w5 ⟨rfl, hb⟩
  replace q0 := keep_frozen (w1 := w5) hb c0_0 q0
  replace c0_0 := keep_cell (w1 := w5) hb c0_0
  replace q1 := keep_frozen (w1 := w5) hb c0_1 q1
  replace c0_1 := keep_cell (w1 := w5) hb c0_1
  replace q2 := keep_frozen (w1 := w5) hb c0_2 q2
  replace c0_2 := keep_cell (w1 := w5) hb c0_2
  replace Ha := Lib.hid (Ha.out.below hb (Nat.le_refl _))
  replace Hb := Lib.hid (Hb.out.below hb (Nat.le_refl _))
  replace Hx := Lib.hid (Hx.out.below hb (Nat.le_refl _))
  replace Hy := Lib.hid (Hy.out.below hb (Nat.le_refl _))
  replace Hg := Lib.hid (Hg.out.below hb (Nat.le_refl _))
  replace B0 := B0.trans (hb.mono B0.size)
  clear hb
  go_wp2_with fail
  refine (l02Div_n _ _ _ _ _ x.natAbs g z.natAbs Hx.out Hg.out hl1 hgl hgp HN).mono ?_
  rintro e w6 ⟨vn, ve, rfl, ho1, ho2, ha, hb⟩
  replace q0 := keep_frozen (w1 := w6) hb c0_0 q0
  replace c0_0 := keep_cell (w1 := w6) hb c0_0
  replace q1 := keep_frozen (w1 := w6) hb c0_1 q1
  replace c0_1 := keep_cell (w1 := w6) hb c0_1
  replace q2 := keep_frozen (w1 := w6) hb c0_2 q2
  replace c0_2 := keep_cell (w1 := w6) hb c0_2
  replace Ha := Lib.hid (Ha.out.below hb (Nat.le_refl _))
  replace Hb := Lib.hid (Hb.out.below hb (Nat.le_refl _))
  replace Hx := Lib.hid (Hx.out.below hb (Nat.le_refl _))
  replace Hy := Lib.hid (Hy.out.below hb (Nat.le_refl _))
  replace Hg := Lib.hid (Hg.out.below hb (Nat.le_refl _))
  have Hn := Lib.hid (ho1.mono B0.size)
  clear ho1
  have He := Lib.hid (ho2.mono B0.size)
  clear ho2
  clear ha
  obtain ⟨an, cn, rfl, -, -, -, -, -⟩ := Hn.out.form
  replace B0 := B0.trans (hb.mono B0.size)
  clear hb
  go_wp2_with fail
  refine (l02Div_n _ _ _ _ _ d g m Hy.out Hg.out hl2 hgl hgp HM).mono ?_
  rintro e w7 ⟨vm, vk, rfl, ho1, ho2, ha, hb⟩
  replace q0 := keep_frozen (w1 := w7) hb c0_0 q0
  replace c0_0 := keep_cell (w1 := w7) hb c0_0
  replace q1 := keep_frozen (w1 := w7) hb c0_1 q1
  replace c0_1 := keep_cell (w1 := w7) hb c0_1
  replace q2 := keep_frozen (w1 := w7) hb c0_2 q2
  replace c0_2 := keep_cell (w1 := w7) hb c0_2
  replace Ha := Lib.hid (Ha.out.below hb (Nat.le_refl _))
  replace Hb := Lib.hid (Hb.out.below hb (Nat.le_refl _))
  replace Hx := Lib.hid (Hx.out.below hb (Nat.le_refl _))
  replace Hy := Lib.hid (Hy.out.below hb (Nat.le_refl _))
  replace Hg := Lib.hid (Hg.out.below hb (Nat.le_refl _))
  replace Hn := Lib.hid (Hn.out.below hb (Nat.le_refl _))
  replace He := Lib.hid (He.out.below hb (Nat.le_refl _))
  have Hm := Lib.hid (ho1.mono B0.size)
  clear ho1
  have Hk := Lib.hid (ho2.mono B0.size)
  clear ho2
  clear ha
  obtain ⟨am, cm, rfl, -, -, -, -, -⟩ := Hm.out.form
  replace B0 := B0.trans (hb.mono B0.size)
  clear hb
  go_wp2
  exact bodyPost_ret (v := .agg #[.bool false, .slice none 0 0, .slice none 0 0]) (by simp [results, Try.results81, go_sem, c0_0, c0_1, c0_2]) rfl (retQ_nil (set3_below (BW.trans (B0.mono BW.size)) (by omega)))

theorem l04Low_c (w : World) (b1 b2 : Nat) (s : Bool) (v1 v2 : Value) (x : Int) (d : Nat) (h1 : Own w b1 v1 (limbs x.natAbs)) (h2 : Own w b2 v2 (limbs d)) (hl1 : (limbs x.natAbs).length ≤ 900) (hl2 : (limbs d).length ≤ 900) (z : Int) (e : Nat) (hz : Hid (z = lowZ x d)) (he : Hid (e = lowD x d)) (hs : Hid (x ≠ 0 → s = ng x)) :
    Calls Try.prog 81 #[.bool s, v1, v2] w (RetQ w z e) := by
  have hs := hs.out
  rw [hz.out, he.out]
  rcases Nat.eq_zero_or_pos d with hd | hd
  · subst hd
    rw [(low_den0 x).1, (low_den0 x).2]
    exact l04Low_0 w b1 b2 s v1 v2 x h1 h2 hl1 hl2
  by_cases hd1 : d = 1
  · subst hd1
    by_cases h3 : (limbs x.natAbs).length ≤ 24
    · obtain ⟨e1, e2⟩ := low_of_isQ (z := x) (d := 1) ⟨hd, Nat.gcd_one_right _, h3, by simp [Fit, limbs_one]⟩
      rw [e1, e2]
      exact l04Low_oy w b1 b2 s v1 v2 x h1 h2 hl1 hl2 h3 x rfl hs
    · obtain ⟨e1, e2⟩ := low_no (z := x) (d := 1) (fun h => by have := h.2.1; rw [Nat.gcd_one_right, Nat.div_one] at this; exact h3 this)
      rw [e1, e2]
      exact l04Low_o1 w b1 b2 s v1 v2 x h1 h2 hl1 hl2 (by omega)
  by_cases hg : Nat.gcd x.natAbs d = 1
  · by_cases h3 : (limbs x.natAbs).length ≤ 24
    · by_cases h4 : (limbs d).length ≤ 24
      · obtain ⟨e1, e2⟩ := low_of_isQ (z := x) (d := d) ⟨hd, hg, h3, h4⟩
        rw [e1, e2]
        exact l04Low_1y w b1 b2 s v1 v2 x d h1 h2 hl1 hl2 hd hd1 hg.symm h3 h4 x rfl hs
      · obtain ⟨e1, e2⟩ := low_no (z := x) (d := d) (fun h => by have := h.2.2; rw [hg, Nat.div_one] at this; exact h4 this)
        rw [e1, e2]
        exact l04Low_12 w b1 b2 s v1 v2 x d h1 h2 hl1 hl2 hd hd1 hg.symm h3 (by omega)
    · obtain ⟨e1, e2⟩ := low_no (z := x) (d := d) (fun h => by have := h.2.1; rw [hg, Nat.div_one] at this; exact h3 this)
      rw [e1, e2]
      exact l04Low_11 w b1 b2 s v1 v2 x d h1 h2 hl1 hl2 hd hd1 hg.symm (by omega)
  · have hdv : Nat.gcd x.natAbs d ∣ x.natAbs := Nat.gcd_dvd_left _ _
    have hn := natAbs_ediv_dvd (z := x) hdv
    have hgp : 0 < Nat.gcd x.natAbs d := gcd_pos_den hd
    have hs2 : x / ((Nat.gcd x.natAbs d : Nat) : Int) ≠ 0 → s = ng (x / ((Nat.gcd x.natAbs d : Nat) : Int)) := fun h0 => by
      have h5 := ediv_neg_iff hgp hdv
      rw [hs (fun e => h0 (by rw [e]; simp))]
      rcases ng_cases x with ⟨h6, e6⟩ | ⟨h6, e6⟩
      · rw [e6, ng_neg (h5.2 h6)]
      · rw [e6, ng_nonneg (by omega)]
    by_cases h3 : (limbs (x.natAbs / Nat.gcd x.natAbs d)).length ≤ 24
    · by_cases h4 : (limbs (d / Nat.gcd x.natAbs d)).length ≤ 24
      · obtain ⟨e1, e2⟩ := low_yes (z := x) (d := d) ⟨hd, h3, h4⟩
        rw [e1, e2]
        exact l04Low_gy w b1 b2 s v1 v2 x d h1 h2 hl1 hl2 hd hd1 _ _ _ rfl hg hn rfl (by rw [hn]; exact h3) h4 hs2
      · obtain ⟨e1, e2⟩ := low_no (z := x) (d := d) (fun h => h4 h.2.2)
        rw [e1, e2]
        exact l04Low_g2 w b1 b2 s v1 v2 x d h1 h2 hl1 hl2 hd hd1 _ (d / Nat.gcd x.natAbs d) _ rfl hg hn rfl (by rw [hn]; exact h3) (by omega)
    · obtain ⟨e1, e2⟩ := low_no (z := x) (d := d) (fun h => h3 h.2.1)
      rw [e1, e2]
      exact l04Low_g1 w b1 b2 s v1 v2 x d h1 h2 hl1 hl2 hd hd1 _ (d / Nat.gcd x.natAbs d) _ rfl hg hn rfl (by rw [hn]; omega)

end Go.Proofs.Ytcmhpdhcpkhejaa
