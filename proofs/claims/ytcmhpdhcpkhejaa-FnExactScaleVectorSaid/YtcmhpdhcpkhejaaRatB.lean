/- The program's fractions. -/
import Derived.Test.YtcmhpdhcpkhejaaRatV
namespace Go.Proofs.Ytcmhpdhcpkhejaa
open Go.RowKit Lm

set_option maxHeartbeats 1000000 in
theorem sameInts_c (w : World) (b1 b2 : Nat) (v1 v2 : Value) (xs ys : List Int) (c : Bool) (hc : Hid (c = decide (xs = ys))) (h1 : Own w b1 v1 xs) (h2 : Own w b2 v2 ys) :
    Calls Try.prog 69 #[v1, v2] w (RetB w c) := by
  obtain ⟨a1, c1, rfl, -, f2, f3, -, -⟩ := h1.form
  obtain ⟨a2, c2, rfl, -, g2, g3, -, -⟩ := h2.form
  unfold maxLen at f3 g3
  have H1 := Lib.hid h1; have H2 := Lib.hid h2
  clear h1 h2
  by_cases hl : xs.length = ys.length
  · have t0 : ((xs.length : Int) == (ys.length : Int)) = true := by rw [hl]; exact beq_self_eq_true _
    have t0' : (xs.length == ys.length) = true := by rw [hl]; exact beq_self_eq_true _
    have HL := Lib.hid hl
    have hle : xs.length ≤ ys.length := by omega
    clear hl
    go_enter Try.func69, Try.ntmps69
    go_wp2_with fail
    go_loopw [13] (fun k wr => ∃ (i : Nat), i ≤ xs.length ∧ k = .int .i64 i ∧ Hid (xs.take i = ys.take i) ∧ Below w.heap.size w wr) (fun k _ => xs.length - (intOf k).toNat)
    case atStart => exact ⟨0, by omega, rfl, rfl, Below.refl _ _⟩
    case round =>
      obtain ⟨i, hi, rfl, HT, hb⟩ := hrel
      by_cases hlt : i < xs.length
      · have hlt2 : i < ys.length := by omega
        obtain ⟨g, rfl, -, -⟩ := H1.out.addr hlt
        obtain ⟨g', rfl, -, -⟩ := H2.out.addr hlt2
        have r1 := (H1.out.below hb (Nat.le_refl _)).cell i hlt
        have r2 := (H2.out.below hb (Nat.le_refl _)).cell i hlt2
        have t1 : (i : Int) < xs.length := by omega
        have t2 : (i : Int) < ys.length := by omega
        by_cases he : lat xs i = lat ys i
        · have d1 : (lat xs i == lat ys i) = true := by rw [he]; exact beq_self_eq_true _
          have d2 : (lat xs i != lat ys i) = false := by rw [he]; exact bne_self_eq_false _
          have HE := Lib.hid he
          clear he
          go_wp2_with fail
          go_quiet (fail)
          go_wp2_with fail
          go_roundw
          case rel => exact ⟨i + 1, by omega, by go_num, by unfold Hid; rw [take_succ xs i hlt, take_succ ys i hlt2, HT.out, HE.out], ⟨hb.os, hb.tape, hb.output, hb.size, hb.block⟩⟩
          case measure => (simp [intOf]) <;> omega
        · have d1 : (lat xs i == lat ys i) = false := beq_eq_false_iff_ne.2 he
          have d2 : (lat xs i != lat ys i) = true := by rw [bne, d1]; rfl
          have HC : Hid (c = false) := by unfold Hid; rw [hc.out]; exact decide_eq_false (fun e => he (by rw [e]))
          clear he
          go_wp2_with fail
          go_quiet (fail)
          go_wp2
          go_ret
          exact retB HC.out.symm (below_dr hb _)
      · obtain rfl : i = xs.length := by omega
        have HC : Hid (c = true) := by
          have := HT.out
          rw [List.take_length, HL.out, List.take_length] at this
          unfold Hid; rw [hc.out]; exact decide_eq_true this
        go_wp2
        go_ret
        exact retB HC.out.symm hb
  · have t0 : ((xs.length : Int) == (ys.length : Int)) = false := beq_eq_false_iff_ne.2 (by omega)
    have t0' : (xs.length == ys.length) = false := beq_eq_false_iff_ne.2 hl
    have HC : Hid (c = false) := by unfold Hid; rw [hc.out]; exact decide_eq_false (fun e => hl (by rw [e]))
    clear hl
    go_enter Try.func69, Try.ntmps69
    go_wp2
    go_ret
    exact retB HC.out.symm (Below.refl _ _)

set_option maxHeartbeats 1000000 in
theorem isOne_t (w : World) (b1 : Nat) (v1 : Value) (h1 : Own w b1 v1 (limbs 1)) : Calls Try.prog 79 #[v1] w (RetB w true) := by
  rw [limbs_one] at h1
  obtain ⟨a1, c1, rfl, -, f2, f3, -, -⟩ := h1.form
  obtain ⟨g, rfl, -, -⟩ := h1.addr (i := 0) (by simp)
  have r1 := h1.cell 0 (by simp)
  rw [show lat [1] 0 = 1 from rfl] at r1
  clear h1
  go_enter Try.func79, Try.ntmps79
  go_wp2
  go_ret
  exact retB rfl (Below.refl _ _)
set_option maxHeartbeats 1000000 in
theorem isOne_f (w : World) (b1 : Nat) (v1 : Value) (n : Nat) (h1 : Own w b1 v1 (limbs n)) (hn : n ≠ 1) : Calls Try.prog 79 #[v1] w (RetB w false) := by
  obtain ⟨a1, c1, rfl, -, f2, f3, -, -⟩ := h1.form
  by_cases hl : (limbs n).length = 1
  · obtain ⟨g, rfl, -, -⟩ := h1.addr (i := 0) (by omega)
    have r1 := h1.cell 0 (by omega)
    have hn2 : n < 1000000000 := by
      have := (limbs_len_le (n := n) (k := 1)).1 (by omega)
      simp only [pw] at this; omega
    have hn0 : 0 < n := limbs_len_pos.1 (by omega)
    rw [show lat (limbs n) 0 = (n : Int) by rw [limbs_small hn0 hn2]; rfl, hl] at *
    have d1 : ((n : Int) == 1) = false := beq_eq_false_iff_ne.2 (by omega)
    clear h1 hl
    go_enter Try.func79, Try.ntmps79
    go_wp2
    go_ret
    exact retB rfl (Below.refl _ _)
  · have d1 : ((limbs n).length == 1) = false := beq_eq_false_iff_ne.2 hl
    have d2 : (((limbs n).length : Int) == 1) = false := beq_eq_false_iff_ne.2 (by omega)
    clear h1 hl
    go_enter Try.func79, Try.ntmps79
    go_wp2
    go_ret
    exact retB rfl (Below.refl _ _)

theorem sameInts_t (w : World) (b1 b2 : Nat) (v1 v2 : Value) (xs : List Int) (h1 : Own w b1 v1 xs) (h2 : Own w b2 v2 xs) : Calls Try.prog 69 #[v1, v2] w (RetB w true) :=
  sameInts_c w b1 b2 v1 v2 xs xs true (by simp [Hid]) h1 h2
theorem sameInts_f (w : World) (b1 b2 : Nat) (v1 v2 : Value) (d f : Nat) (h1 : Own w b1 v1 (limbs d)) (h2 : Own w b2 v2 (limbs f)) (hne : d ≠ f) : Calls Try.prog 69 #[v1, v2] w (RetB w false) :=
  sameInts_c w b1 b2 v1 v2 _ _ false (by unfold Hid; exact (decide_eq_false (fun e => hne (limbs_inj e))).symm) h1 h2

theorem gcd_i (w : World) (b1 b2 : Nat) (v1 v2 : Value) (a b : Nat) (h1 : Own w b1 v1 (limbs a)) (h2 : Own w b2 v2 (limbs b)) (hs1 : (limbs a).length ≤ 900) (hs2 : (limbs b).length ≤ 900) (ha : 0 < a) (g : Nat) (hg : Hid (g = Nat.gcd a b)) :
    Calls Try.prog 80 #[v1, v2] w (RetS w (limbs g)) := by
  rw [hg.out]; exact natGcd_c w b1 b2 v1 v2 a b h1 h2 (by omega) (by omega) ha

set_option maxHeartbeats 1000000 in
theorem ratOk_f1 (w : World) (b1 e1 : Nat) (s : Bool) (v1 u1 : Value) (xs ys : List Int) (h1 : Own w b1 v1 xs) (k1 : Own w e1 u1 ys) (hx : ¬ OkG s xs) :
    Calls Try.prog 46 #[.agg #[.bool s, v1, u1]] w (RetB w false) := by
  obtain ⟨a1, c1, rfl, -, -, -, -, -⟩ := h1.form
  obtain ⟨p1, q1, rfl, -, -, -, -, -⟩ := k1.form
  have BW : Below w.heap.size w (w.alloc (.cells #[.bool s, (.slice a1 xs.length c1), (.slice p1 ys.length q1)] 45)) := ((Below.refl w.heap.size w).alloc (Nat.le_refl _) _)
  obtain ⟨c0_0, c0_1, c0_2⟩ : World.cell? (w.alloc (.cells #[.bool s, (.slice a1 xs.length c1), (.slice p1 ys.length q1)] 45)) ⟨w.heap.size, 0, none⟩ = some (.bool s) ∧ World.cell? (w.alloc (.cells #[.bool s, (.slice a1 xs.length c1), (.slice p1 ys.length q1)] 45)) ⟨w.heap.size, 1, none⟩ = some ((.slice a1 xs.length c1)) ∧ World.cell? (w.alloc (.cells #[.bool s, (.slice a1 xs.length c1), (.slice p1 ys.length q1)] 45)) ⟨w.heap.size, 2, none⟩ = some ((.slice p1 ys.length q1)) := by simp [go_sem]
  have Ha := Lib.hid (h1.below BW (Nat.le_refl _))
  have Hb := Lib.hid (k1.below BW (Nat.le_refl _))
  clear h1 k1
  have HX := Lib.hid hx
  clear hx
  go_enter Try.func46, Try.ntmps46
  go_wp2_with fail
  generalize (w.alloc (.cells #[.bool s, (.slice a1 xs.length c1), (.slice p1 ys.length q1)] 45)) = w0 at *
  have B0 := Below.refl w0.heap.size w0
  refine (bigIntOk_f _ _ _ _ _ Ha.out HX.out).mono ?_
  rintro e w1 ⟨rfl, hb⟩
  replace c0_0 := keep_cell hb c0_0
  replace c0_1 := keep_cell hb c0_1
  replace c0_2 := keep_cell hb c0_2
  replace Ha := Lib.hid (Ha.out.below hb (Nat.le_refl _))
  replace Hb := Lib.hid (Hb.out.below hb (Nat.le_refl _))
  replace B0 := B0.trans (hb.mono B0.size)
  clear hb
  go_wp2
  go_ret
  exact retB rfl (BW.trans (B0.mono BW.size))

set_option maxHeartbeats 1000000 in
theorem ratOk_f2 (w : World) (b1 e1 : Nat) (s : Bool) (v1 u1 : Value) (xs ys : List Int) (h1 : Own w b1 v1 xs) (k1 : Own w e1 u1 ys) (hx : OkG s xs) (hy : ¬ OkP ys) :
    Calls Try.prog 46 #[.agg #[.bool s, v1, u1]] w (RetB w false) := by
  obtain ⟨a1, c1, rfl, -, -, -, -, -⟩ := h1.form
  obtain ⟨p1, q1, rfl, -, -, -, -, -⟩ := k1.form
  have BW : Below w.heap.size w (w.alloc (.cells #[.bool s, (.slice a1 xs.length c1), (.slice p1 ys.length q1)] 45)) := ((Below.refl w.heap.size w).alloc (Nat.le_refl _) _)
  obtain ⟨c0_0, c0_1, c0_2⟩ : World.cell? (w.alloc (.cells #[.bool s, (.slice a1 xs.length c1), (.slice p1 ys.length q1)] 45)) ⟨w.heap.size, 0, none⟩ = some (.bool s) ∧ World.cell? (w.alloc (.cells #[.bool s, (.slice a1 xs.length c1), (.slice p1 ys.length q1)] 45)) ⟨w.heap.size, 1, none⟩ = some ((.slice a1 xs.length c1)) ∧ World.cell? (w.alloc (.cells #[.bool s, (.slice a1 xs.length c1), (.slice p1 ys.length q1)] 45)) ⟨w.heap.size, 2, none⟩ = some ((.slice p1 ys.length q1)) := by simp [go_sem]
  have Ha := Lib.hid (h1.below BW (Nat.le_refl _))
  have Hb := Lib.hid (k1.below BW (Nat.le_refl _))
  clear h1 k1
  have HX := Lib.hid hx
  have HY := Lib.hid hy
  clear hx hy
  go_enter Try.func46, Try.ntmps46
  go_wp2_with fail
  generalize (w.alloc (.cells #[.bool s, (.slice a1 xs.length c1), (.slice p1 ys.length q1)] 45)) = w0 at *
  have B0 := Below.refl w0.heap.size w0
  refine (bigIntOk_t _ _ _ _ _ Ha.out HX.out).mono ?_
  rintro e w1 ⟨rfl, hb⟩
  replace c0_0 := keep_cell hb c0_0
  replace c0_1 := keep_cell hb c0_1
  replace c0_2 := keep_cell hb c0_2
  replace Ha := Lib.hid (Ha.out.below hb (Nat.le_refl _))
  replace Hb := Lib.hid (Hb.out.below hb (Nat.le_refl _))
  replace B0 := B0.trans (hb.mono B0.size)
  clear hb
  go_wp2_with fail
  refine (natOk_f _ _ _ _ Hb.out HY.out).mono ?_
  rintro e w2 ⟨rfl, hb⟩
  replace c0_0 := keep_cell hb c0_0
  replace c0_1 := keep_cell hb c0_1
  replace c0_2 := keep_cell hb c0_2
  replace Ha := Lib.hid (Ha.out.below hb (Nat.le_refl _))
  replace Hb := Lib.hid (Hb.out.below hb (Nat.le_refl _))
  replace B0 := B0.trans (hb.mono B0.size)
  clear hb
  go_wp2
  go_ret
  exact retB rfl (BW.trans (B0.mono BW.size))

set_option maxHeartbeats 1000000 in
theorem ratOk_f3 (w : World) (b1 e1 : Nat) (s : Bool) (v1 u1 : Value) (xs : List Int) (h1 : Own w b1 v1 xs) (k1 : Own w e1 u1 []) (hx : OkG s xs) (hy : OkP []) :
    Calls Try.prog 46 #[.agg #[.bool s, v1, u1]] w (RetB w false) := by
  obtain ⟨a1, c1, rfl, -, -, -, -, -⟩ := h1.form
  obtain ⟨p1, q1, rfl, -, -, -, -, -⟩ := k1.form
  have BW : Below w.heap.size w (w.alloc (.cells #[.bool s, (.slice a1 xs.length c1), (.slice p1 ([] : List Int).length q1)] 45)) := ((Below.refl w.heap.size w).alloc (Nat.le_refl _) _)
  obtain ⟨c0_0, c0_1, c0_2⟩ : World.cell? (w.alloc (.cells #[.bool s, (.slice a1 xs.length c1), (.slice p1 ([] : List Int).length q1)] 45)) ⟨w.heap.size, 0, none⟩ = some (.bool s) ∧ World.cell? (w.alloc (.cells #[.bool s, (.slice a1 xs.length c1), (.slice p1 ([] : List Int).length q1)] 45)) ⟨w.heap.size, 1, none⟩ = some ((.slice a1 xs.length c1)) ∧ World.cell? (w.alloc (.cells #[.bool s, (.slice a1 xs.length c1), (.slice p1 ([] : List Int).length q1)] 45)) ⟨w.heap.size, 2, none⟩ = some ((.slice p1 ([] : List Int).length q1)) := by simp [go_sem]
  have Ha := Lib.hid (h1.below BW (Nat.le_refl _))
  have Hb := Lib.hid (k1.below BW (Nat.le_refl _))
  clear h1 k1
  have HX := Lib.hid hx
  have HY := Lib.hid hy
  have dz0 : (([] : List Int).length == 0) = true := rfl
  have dy0 : ((([] : List Int).length : Int) == 0) = true := rfl
  clear hx hy
  go_enter Try.func46, Try.ntmps46
  go_wp2_with fail
  generalize (w.alloc (.cells #[.bool s, (.slice a1 xs.length c1), (.slice p1 ([] : List Int).length q1)] 45)) = w0 at *
  have B0 := Below.refl w0.heap.size w0
  refine (bigIntOk_t _ _ _ _ _ Ha.out HX.out).mono ?_
  rintro e w1 ⟨rfl, hb⟩
  replace c0_0 := keep_cell hb c0_0
  replace c0_1 := keep_cell hb c0_1
  replace c0_2 := keep_cell hb c0_2
  replace Ha := Lib.hid (Ha.out.below hb (Nat.le_refl _))
  replace Hb := Lib.hid (Hb.out.below hb (Nat.le_refl _))
  replace B0 := B0.trans (hb.mono B0.size)
  clear hb
  go_wp2_with fail
  refine (natOk_t _ _ _ _ Hb.out HY.out).mono ?_
  rintro e w2 ⟨rfl, hb⟩
  replace c0_0 := keep_cell hb c0_0
  replace c0_1 := keep_cell hb c0_1
  replace c0_2 := keep_cell hb c0_2
  replace Ha := Lib.hid (Ha.out.below hb (Nat.le_refl _))
  replace Hb := Lib.hid (Hb.out.below hb (Nat.le_refl _))
  replace B0 := B0.trans (hb.mono B0.size)
  clear hb
  go_wp2
  go_ret
  exact retB rfl (BW.trans (B0.mono BW.size))

set_option maxHeartbeats 1000000 in
theorem ratOk_f4 (w : World) (b1 e1 : Nat) (s : Bool) (v1 u1 : Value) (xs ys : List Int) (h1 : Own w b1 v1 xs) (k1 : Own w e1 u1 ys) (hx : OkG s xs) (hy : OkP ys) (hz : ¬ ys.length = 0) (hl : 24 < xs.length) :
    Calls Try.prog 46 #[.agg #[.bool s, v1, u1]] w (RetB w false) := by
  obtain ⟨a1, c1, rfl, -, -, -, -, -⟩ := h1.form
  obtain ⟨p1, q1, rfl, -, -, -, -, -⟩ := k1.form
  have BW : Below w.heap.size w (w.alloc (.cells #[.bool s, (.slice a1 xs.length c1), (.slice p1 ys.length q1)] 45)) := ((Below.refl w.heap.size w).alloc (Nat.le_refl _) _)
  obtain ⟨c0_0, c0_1, c0_2⟩ : World.cell? (w.alloc (.cells #[.bool s, (.slice a1 xs.length c1), (.slice p1 ys.length q1)] 45)) ⟨w.heap.size, 0, none⟩ = some (.bool s) ∧ World.cell? (w.alloc (.cells #[.bool s, (.slice a1 xs.length c1), (.slice p1 ys.length q1)] 45)) ⟨w.heap.size, 1, none⟩ = some ((.slice a1 xs.length c1)) ∧ World.cell? (w.alloc (.cells #[.bool s, (.slice a1 xs.length c1), (.slice p1 ys.length q1)] 45)) ⟨w.heap.size, 2, none⟩ = some ((.slice p1 ys.length q1)) := by simp [go_sem]
  have Ha := Lib.hid (h1.below BW (Nat.le_refl _))
  have Hb := Lib.hid (k1.below BW (Nat.le_refl _))
  clear h1 k1
  have HX := Lib.hid hx
  have HY := Lib.hid hy
  have dz0 : (ys.length == 0) = false := beq_eq_false_iff_ne.2 hz
  have dy0 : ((ys.length : Int) == 0) = false := beq_eq_false_iff_ne.2 (by omega)
  have gx : decide (24 < xs.length) = true := decide_eq_true (by omega)
  have gix : decide ((24 : Int) < xs.length) = true := decide_eq_true (by omega)
  clear hx hy
  go_enter Try.func46, Try.ntmps46
  go_wp2_with fail
  generalize (w.alloc (.cells #[.bool s, (.slice a1 xs.length c1), (.slice p1 ys.length q1)] 45)) = w0 at *
  have B0 := Below.refl w0.heap.size w0
  refine (bigIntOk_t _ _ _ _ _ Ha.out HX.out).mono ?_
  rintro e w1 ⟨rfl, hb⟩
  replace c0_0 := keep_cell hb c0_0
  replace c0_1 := keep_cell hb c0_1
  replace c0_2 := keep_cell hb c0_2
  replace Ha := Lib.hid (Ha.out.below hb (Nat.le_refl _))
  replace Hb := Lib.hid (Hb.out.below hb (Nat.le_refl _))
  replace B0 := B0.trans (hb.mono B0.size)
  clear hb
  go_wp2_with fail
  refine (natOk_t _ _ _ _ Hb.out HY.out).mono ?_
  rintro e w2 ⟨rfl, hb⟩
  replace c0_0 := keep_cell hb c0_0
  replace c0_1 := keep_cell hb c0_1
  replace c0_2 := keep_cell hb c0_2
  replace Ha := Lib.hid (Ha.out.below hb (Nat.le_refl _))
  replace Hb := Lib.hid (Hb.out.below hb (Nat.le_refl _))
  replace B0 := B0.trans (hb.mono B0.size)
  clear hb
  go_wp2
  go_ret
  exact retB rfl (BW.trans (B0.mono BW.size))

set_option maxHeartbeats 1000000 in
theorem ratOk_f5 (w : World) (b1 e1 : Nat) (s : Bool) (v1 u1 : Value) (xs ys : List Int) (h1 : Own w b1 v1 xs) (k1 : Own w e1 u1 ys) (hx : OkG s xs) (hy : OkP ys) (hz : ¬ ys.length = 0) (hl : xs.length ≤ 24) (hm : 24 < ys.length) :
    Calls Try.prog 46 #[.agg #[.bool s, v1, u1]] w (RetB w false) := by
  obtain ⟨a1, c1, rfl, -, -, -, -, -⟩ := h1.form
  obtain ⟨p1, q1, rfl, -, -, -, -, -⟩ := k1.form
  have BW : Below w.heap.size w (w.alloc (.cells #[.bool s, (.slice a1 xs.length c1), (.slice p1 ys.length q1)] 45)) := ((Below.refl w.heap.size w).alloc (Nat.le_refl _) _)
  obtain ⟨c0_0, c0_1, c0_2⟩ : World.cell? (w.alloc (.cells #[.bool s, (.slice a1 xs.length c1), (.slice p1 ys.length q1)] 45)) ⟨w.heap.size, 0, none⟩ = some (.bool s) ∧ World.cell? (w.alloc (.cells #[.bool s, (.slice a1 xs.length c1), (.slice p1 ys.length q1)] 45)) ⟨w.heap.size, 1, none⟩ = some ((.slice a1 xs.length c1)) ∧ World.cell? (w.alloc (.cells #[.bool s, (.slice a1 xs.length c1), (.slice p1 ys.length q1)] 45)) ⟨w.heap.size, 2, none⟩ = some ((.slice p1 ys.length q1)) := by simp [go_sem]
  have Ha := Lib.hid (h1.below BW (Nat.le_refl _))
  have Hb := Lib.hid (k1.below BW (Nat.le_refl _))
  clear h1 k1
  have HX := Lib.hid hx
  have HY := Lib.hid hy
  have dz0 : (ys.length == 0) = false := beq_eq_false_iff_ne.2 hz
  have dy0 : ((ys.length : Int) == 0) = false := beq_eq_false_iff_ne.2 (by omega)
  have gx : decide (24 < xs.length) = false := decide_eq_false (by omega)
  have gix : decide ((24 : Int) < xs.length) = false := decide_eq_false (by omega)
  have gy : decide (24 < ys.length) = true := decide_eq_true (by omega)
  have giy : decide ((24 : Int) < ys.length) = true := decide_eq_true (by omega)
  clear hx hy
  go_enter Try.func46, Try.ntmps46
  go_wp2_with fail
  generalize (w.alloc (.cells #[.bool s, (.slice a1 xs.length c1), (.slice p1 ys.length q1)] 45)) = w0 at *
  have B0 := Below.refl w0.heap.size w0
  refine (bigIntOk_t _ _ _ _ _ Ha.out HX.out).mono ?_
  rintro e w1 ⟨rfl, hb⟩
  replace c0_0 := keep_cell hb c0_0
  replace c0_1 := keep_cell hb c0_1
  replace c0_2 := keep_cell hb c0_2
  replace Ha := Lib.hid (Ha.out.below hb (Nat.le_refl _))
  replace Hb := Lib.hid (Hb.out.below hb (Nat.le_refl _))
  replace B0 := B0.trans (hb.mono B0.size)
  clear hb
  go_wp2_with fail
  refine (natOk_t _ _ _ _ Hb.out HY.out).mono ?_
  rintro e w2 ⟨rfl, hb⟩
  replace c0_0 := keep_cell hb c0_0
  replace c0_1 := keep_cell hb c0_1
  replace c0_2 := keep_cell hb c0_2
  replace Ha := Lib.hid (Ha.out.below hb (Nat.le_refl _))
  replace Hb := Lib.hid (Hb.out.below hb (Nat.le_refl _))
  replace B0 := B0.trans (hb.mono B0.size)
  clear hb
  go_wp2
  go_ret
  exact retB rfl (BW.trans (B0.mono BW.size))

set_option maxHeartbeats 1000000 in
theorem ratOk_yes (w : World) (b1 e1 : Nat) (v1 u1 : Value) (x : Int) (d : Nat) (h1 : Own w b1 v1 (limbs x.natAbs)) (k1 : Own w e1 u1 (limbs d)) (hd : 0 < d) (hlx : (limbs x.natAbs).length ≤ 24) (hld : (limbs d).length ≤ 24) (g : Nat) (hg : g = Nat.gcd d x.natAbs) (hg1 : g = 1) :
    Calls Try.prog 46 #[.agg #[.bool (ng x), v1, u1]] w (RetB w true) := by
  obtain ⟨a1, c1, rfl, -, -, -, -, -⟩ := h1.form
  obtain ⟨p1, q1, rfl, -, -, -, -, -⟩ := k1.form
  subst hg1
  have BW : Below w.heap.size w (w.alloc (.cells #[.bool (ng x), (.slice a1 (limbs x.natAbs).length c1), (.slice p1 (limbs d).length q1)] 45)) := ((Below.refl w.heap.size w).alloc (Nat.le_refl _) _)
  obtain ⟨c0_0, c0_1, c0_2⟩ : World.cell? (w.alloc (.cells #[.bool (ng x), (.slice a1 (limbs x.natAbs).length c1), (.slice p1 (limbs d).length q1)] 45)) ⟨w.heap.size, 0, none⟩ = some (.bool (ng x)) ∧ World.cell? (w.alloc (.cells #[.bool (ng x), (.slice a1 (limbs x.natAbs).length c1), (.slice p1 (limbs d).length q1)] 45)) ⟨w.heap.size, 1, none⟩ = some ((.slice a1 (limbs x.natAbs).length c1)) ∧ World.cell? (w.alloc (.cells #[.bool (ng x), (.slice a1 (limbs x.natAbs).length c1), (.slice p1 (limbs d).length q1)] 45)) ⟨w.heap.size, 2, none⟩ = some ((.slice p1 (limbs d).length q1)) := by simp [go_sem]
  have Ha := Lib.hid (h1.below BW (Nat.le_refl _))
  have Hb := Lib.hid (k1.below BW (Nat.le_refl _))
  clear h1 k1
  have HG := Lib.hid hg
  have dz0 : ((limbs d).length == 0) = false := beq_eq_false_iff_ne.2 (by have := limbs_len_pos.2 hd; omega)
  have dy0 : (((limbs d).length : Int) == 0) = false := beq_eq_false_iff_ne.2 (by have := limbs_len_pos.2 hd; omega)
  have gx : decide (24 < (limbs x.natAbs).length) = false := decide_eq_false (by omega)
  have gix : decide ((24 : Int) < (limbs x.natAbs).length) = false := decide_eq_false (by omega)
  have gy : decide (24 < (limbs d).length) = false := decide_eq_false (by omega)
  have giy : decide ((24 : Int) < (limbs d).length) = false := decide_eq_false (by omega)
  have HD := Lib.hid hd
  have m1 : (limbs x.natAbs).length ≤ 60 := by omega
  have m2 : (limbs d).length ≤ 60 := by omega
  have n1 : (limbs x.natAbs).length ≤ 900 := by omega
  have n2 : (limbs d).length ≤ 900 := by omega
  clear hg hd
  go_enter Try.func46, Try.ntmps46
  go_wp2_with fail
  generalize (w.alloc (.cells #[.bool (ng x), (.slice a1 (limbs x.natAbs).length c1), (.slice p1 (limbs d).length q1)] 45)) = w0 at *
  have B0 := Below.refl w0.heap.size w0
  refine (bigIntOk_z _ _ _ x Ha.out m1).mono ?_
  rintro e w1 ⟨rfl, hb⟩
  replace c0_0 := keep_cell hb c0_0
  replace c0_1 := keep_cell hb c0_1
  replace c0_2 := keep_cell hb c0_2
  replace Ha := Lib.hid (Ha.out.below hb (Nat.le_refl _))
  replace Hb := Lib.hid (Hb.out.below hb (Nat.le_refl _))
  replace B0 := B0.trans (hb.mono B0.size)
  clear hb
  go_wp2_with fail
  refine (natOk_t _ _ _ _ Hb.out (limbs_ok m2)).mono ?_
  rintro e w2 ⟨rfl, hb⟩
  replace c0_0 := keep_cell hb c0_0
  replace c0_1 := keep_cell hb c0_1
  replace c0_2 := keep_cell hb c0_2
  replace Ha := Lib.hid (Ha.out.below hb (Nat.le_refl _))
  replace Hb := Lib.hid (Hb.out.below hb (Nat.le_refl _))
  replace B0 := B0.trans (hb.mono B0.size)
  clear hb
  go_wp2_with fail
  refine (gcd_i _ _ _ _ _ d x.natAbs Hb.out Ha.out n2 n1 HD.out 1 HG).mono ?_
  rintro e w3 ⟨vg, rfl, ho1, hb⟩
  replace c0_0 := keep_cell hb c0_0
  replace c0_1 := keep_cell hb c0_1
  replace c0_2 := keep_cell hb c0_2
  replace Ha := Lib.hid (Ha.out.below hb (Nat.le_refl _))
  replace Hb := Lib.hid (Hb.out.below hb (Nat.le_refl _))
  have Hg := Lib.hid (ho1.mono B0.size)
  clear ho1
  replace B0 := B0.trans (hb.mono B0.size)
  clear hb
  go_wp2_with fail
  refine (isOne_t _ _ _ Hg.out).mono ?_
  rintro e w4 ⟨rfl, hb⟩
  replace c0_0 := keep_cell hb c0_0
  replace c0_1 := keep_cell hb c0_1
  replace c0_2 := keep_cell hb c0_2
  replace Ha := Lib.hid (Ha.out.below hb (Nat.le_refl _))
  replace Hb := Lib.hid (Hb.out.below hb (Nat.le_refl _))
  replace Hg := Lib.hid (Hg.out.below hb (Nat.le_refl _))
  replace B0 := B0.trans (hb.mono B0.size)
  clear hb
  go_wp2
  go_ret
  exact retB rfl (BW.trans (B0.mono BW.size))

set_option maxHeartbeats 1000000 in
theorem ratOk_no (w : World) (b1 e1 : Nat) (v1 u1 : Value) (x : Int) (d : Nat) (h1 : Own w b1 v1 (limbs x.natAbs)) (k1 : Own w e1 u1 (limbs d)) (hd : 0 < d) (hlx : (limbs x.natAbs).length ≤ 24) (hld : (limbs d).length ≤ 24) (g : Nat) (hg : g = Nat.gcd d x.natAbs) (hg1 : g ≠ 1) :
    Calls Try.prog 46 #[.agg #[.bool (ng x), v1, u1]] w (RetB w false) := by
  obtain ⟨a1, c1, rfl, -, -, -, -, -⟩ := h1.form
  obtain ⟨p1, q1, rfl, -, -, -, -, -⟩ := k1.form
  have BW : Below w.heap.size w (w.alloc (.cells #[.bool (ng x), (.slice a1 (limbs x.natAbs).length c1), (.slice p1 (limbs d).length q1)] 45)) := ((Below.refl w.heap.size w).alloc (Nat.le_refl _) _)
  obtain ⟨c0_0, c0_1, c0_2⟩ : World.cell? (w.alloc (.cells #[.bool (ng x), (.slice a1 (limbs x.natAbs).length c1), (.slice p1 (limbs d).length q1)] 45)) ⟨w.heap.size, 0, none⟩ = some (.bool (ng x)) ∧ World.cell? (w.alloc (.cells #[.bool (ng x), (.slice a1 (limbs x.natAbs).length c1), (.slice p1 (limbs d).length q1)] 45)) ⟨w.heap.size, 1, none⟩ = some ((.slice a1 (limbs x.natAbs).length c1)) ∧ World.cell? (w.alloc (.cells #[.bool (ng x), (.slice a1 (limbs x.natAbs).length c1), (.slice p1 (limbs d).length q1)] 45)) ⟨w.heap.size, 2, none⟩ = some ((.slice p1 (limbs d).length q1)) := by simp [go_sem]
  have Ha := Lib.hid (h1.below BW (Nat.le_refl _))
  have Hb := Lib.hid (k1.below BW (Nat.le_refl _))
  clear h1 k1
  have HG := Lib.hid hg
  have dz0 : ((limbs d).length == 0) = false := beq_eq_false_iff_ne.2 (by have := limbs_len_pos.2 hd; omega)
  have dy0 : (((limbs d).length : Int) == 0) = false := beq_eq_false_iff_ne.2 (by have := limbs_len_pos.2 hd; omega)
  have gx : decide (24 < (limbs x.natAbs).length) = false := decide_eq_false (by omega)
  have gix : decide ((24 : Int) < (limbs x.natAbs).length) = false := decide_eq_false (by omega)
  have gy : decide (24 < (limbs d).length) = false := decide_eq_false (by omega)
  have giy : decide ((24 : Int) < (limbs d).length) = false := decide_eq_false (by omega)
  have HD := Lib.hid hd
  have m1 : (limbs x.natAbs).length ≤ 60 := by omega
  have m2 : (limbs d).length ≤ 60 := by omega
  have n1 : (limbs x.natAbs).length ≤ 900 := by omega
  have n2 : (limbs d).length ≤ 900 := by omega
  clear hg hd
  go_enter Try.func46, Try.ntmps46
  go_wp2_with fail
  generalize (w.alloc (.cells #[.bool (ng x), (.slice a1 (limbs x.natAbs).length c1), (.slice p1 (limbs d).length q1)] 45)) = w0 at *
  have B0 := Below.refl w0.heap.size w0
  refine (bigIntOk_z _ _ _ x Ha.out m1).mono ?_
  rintro e w1 ⟨rfl, hb⟩
  replace c0_0 := keep_cell hb c0_0
  replace c0_1 := keep_cell hb c0_1
  replace c0_2 := keep_cell hb c0_2
  replace Ha := Lib.hid (Ha.out.below hb (Nat.le_refl _))
  replace Hb := Lib.hid (Hb.out.below hb (Nat.le_refl _))
  replace B0 := B0.trans (hb.mono B0.size)
  clear hb
  go_wp2_with fail
  refine (natOk_t _ _ _ _ Hb.out (limbs_ok m2)).mono ?_
  rintro e w2 ⟨rfl, hb⟩
  replace c0_0 := keep_cell hb c0_0
  replace c0_1 := keep_cell hb c0_1
  replace c0_2 := keep_cell hb c0_2
  replace Ha := Lib.hid (Ha.out.below hb (Nat.le_refl _))
  replace Hb := Lib.hid (Hb.out.below hb (Nat.le_refl _))
  replace B0 := B0.trans (hb.mono B0.size)
  clear hb
  go_wp2_with fail
  refine (gcd_i _ _ _ _ _ d x.natAbs Hb.out Ha.out n2 n1 HD.out g HG).mono ?_
  rintro e w3 ⟨vg, rfl, ho1, hb⟩
  replace c0_0 := keep_cell hb c0_0
  replace c0_1 := keep_cell hb c0_1
  replace c0_2 := keep_cell hb c0_2
  replace Ha := Lib.hid (Ha.out.below hb (Nat.le_refl _))
  replace Hb := Lib.hid (Hb.out.below hb (Nat.le_refl _))
  have Hg := Lib.hid (ho1.mono B0.size)
  clear ho1
  replace B0 := B0.trans (hb.mono B0.size)
  clear hb
  go_wp2_with fail
  refine (isOne_f _ _ _ g Hg.out hg1).mono ?_
  rintro e w4 ⟨rfl, hb⟩
  replace c0_0 := keep_cell hb c0_0
  replace c0_1 := keep_cell hb c0_1
  replace c0_2 := keep_cell hb c0_2
  replace Ha := Lib.hid (Ha.out.below hb (Nat.le_refl _))
  replace Hb := Lib.hid (Hb.out.below hb (Nat.le_refl _))
  replace Hg := Lib.hid (Hg.out.below hb (Nat.le_refl _))
  replace B0 := B0.trans (hb.mono B0.size)
  clear hb
  go_wp2
  go_ret
  exact retB rfl (BW.trans (B0.mono BW.size))

theorem ratOk_t (w : World) (b1 e1 : Nat) (s : Bool) (v1 u1 : Value) (xs ys : List Int) (h1 : Own w b1 v1 xs) (k1 : Own w e1 u1 ys) (h : OkR s xs ys) : Calls Try.prog 46 #[.agg #[.bool s, v1, u1]] w (RetB w true) := by
  obtain ⟨x, d, rfl, rfl, rfl, h, -, -⟩ := okR_q h
  exact ratOk_yes w b1 e1 v1 u1 x d h1 k1 h.1 h.2.2.1 h.2.2.2 _ rfl (by rw [Nat.gcd_comm]; exact h.2.1)
theorem ratOk_f (w : World) (b1 e1 : Nat) (s : Bool) (v1 u1 : Value) (xs ys : List Int) (h1 : Own w b1 v1 xs) (k1 : Own w e1 u1 ys) (h : ¬ OkR s xs ys) : Calls Try.prog 46 #[.agg #[.bool s, v1, u1]] w (RetB w false) := by
  by_cases hx : OkG s xs
  · by_cases hy : OkP ys
    · by_cases hz : ys.length = 0
      · obtain rfl := List.length_eq_zero_iff.1 hz
        exact ratOk_f3 w b1 e1 s v1 u1 xs h1 k1 hx hy
      · by_cases hl : xs.length ≤ 24
        · by_cases hm : ys.length ≤ 24
          · obtain ⟨x, rfl, rfl, hl1, -⟩ := okG_z hx
            obtain ⟨d, rfl, hl2⟩ := ok_limbs hy
            have hd : 0 < d := limbs_len_pos.1 (by omega)
            refine ratOk_no w b1 e1 v1 u1 x d h1 k1 hd (hl) (hm) _ rfl (fun e => h ⟨hx, hy, fun e2 => hz (by rw [e2]; rfl), hl, hm, ?_⟩)
            rw [nv_toNat, nv_toNat]
            rw [Nat.gcd_comm]; exact e
          · exact ratOk_f5 w b1 e1 s v1 u1 xs ys h1 k1 hx hy hz hl (by omega)
        · exact ratOk_f4 w b1 e1 s v1 u1 xs ys h1 k1 hx hy hz (by omega)
    · exact ratOk_f2 w b1 e1 s v1 u1 xs ys h1 k1 hx hy
  · exact ratOk_f1 w b1 e1 s v1 u1 xs ys h1 k1 hx
theorem ratOk_q (w : World) (b1 e1 : Nat) (v1 u1 : Value) (x : Int) (d : Nat) (h1 : Own w b1 v1 (limbs x.natAbs)) (k1 : Own w e1 u1 (limbs d)) (h : IsQ x d) : Calls Try.prog 46 #[.agg #[.bool (ng x), v1, u1]] w (RetB w true) := ratOk_t w b1 e1 _ v1 u1 _ _ h1 k1 (okR_of h)
theorem ratOk_c (w : World) (b1 e1 : Nat) (s : Bool) (v1 u1 : Value) (xs ys : List Int) (h1 : Own w b1 v1 xs) (k1 : Own w e1 u1 ys) : Calls Try.prog 46 #[.agg #[.bool s, v1, u1]] w (RetB w (okRB s xs ys)) := by
  by_cases h : OkR s xs ys
  · rw [show okRB s xs ys = true by simp [okRB, h]]; exact ratOk_t w b1 e1 s v1 u1 xs ys h1 k1 h
  · rw [show okRB s xs ys = false by simp [okRB, h]]; exact ratOk_f w b1 e1 s v1 u1 xs ys h1 k1 h

set_option maxHeartbeats 1000000 in
theorem void_t (w : World) (e1 : Nat) (s : Bool) (v1 u1 : Value) (d : Nat) (k1 : Own w e1 u1 (limbs d)) (hd : d = 0) : Calls Try.prog 89 #[.agg #[.bool s, v1, u1]] w (RetB w true) := by
  obtain ⟨p1, q1, rfl, -, -, -, -, -⟩ := k1.form
  have dz0 : ((limbs d).length == 0) = true := by rw [show (limbs d) = [] from limbs_nil.2 hd]; rfl
  have dy0 : (((limbs d).length : Int) == 0) = true := by rw [show (limbs d) = [] from limbs_nil.2 hd]; rfl
  clear k1
  go_enter Try.func89, Try.ntmps89
  go_wp2
  go_ret
  exact retB rfl ((Below.refl _ _).alloc (Nat.le_refl _) _)

set_option maxHeartbeats 1000000 in
theorem void_f (w : World) (e1 : Nat) (s : Bool) (v1 u1 : Value) (d : Nat) (k1 : Own w e1 u1 (limbs d)) (hd : 0 < d) : Calls Try.prog 89 #[.agg #[.bool s, v1, u1]] w (RetB w false) := by
  obtain ⟨p1, q1, rfl, -, -, -, -, -⟩ := k1.form
  have dz0 : ((limbs d).length == 0) = false := beq_eq_false_iff_ne.2 (by have := limbs_len_pos.2 hd; omega)
  have dy0 : (((limbs d).length : Int) == 0) = false := beq_eq_false_iff_ne.2 (by have := limbs_len_pos.2 hd; omega)
  clear k1
  go_enter Try.func89, Try.ntmps89
  go_wp2
  go_ret
  exact retB rfl ((Below.refl _ _).alloc (Nat.le_refl _) _)

theorem own_one_at (w : World) (g : Nat) (hg : w.heap.size = g) : Own (w.alloc (.cells #[.int .i64 1] 3)) w.heap.size (.slice (some ⟨g, 0, none⟩) 1 1) (limbs 1) := by
  subst hg; exact own_one w
set_option maxHeartbeats 1000000 in
theorem lowest_zero (w : World) (b : Nat) (v1 v2 : Value) (x : Int) (d : Nat) (h1 : Own w b v1 (limbs x.natAbs)) (h2 : Own w b v2 (limbs d)) (hb : b ≤ w.heap.size) (hx : x.natAbs = 0) : Calls Try.prog 90 #[.agg #[.bool (ng x), v1], v2] w (RetL w b v1 v2 0 1) := by
  obtain ⟨a1, c1, rfl, -, -, -, -, -⟩ := h1.form
  obtain ⟨a2, c2, rfl, -, -, -, -, -⟩ := h2.form
  have dz0 : ((limbs x.natAbs).length == 0) = true := by rw [show (limbs x.natAbs) = [] from limbs_nil.2 hx]; rfl
  have dy0 : (((limbs x.natAbs).length : Int) == 0) = true := by rw [show (limbs x.natAbs) = [] from limbs_nil.2 hx]; rfl
  clear h1 h2 hx
  go_enter Try.func90, Try.ntmps90
  go_wp2
  exact bodyPost_ret (v := .agg #[.bool false, .slice none 0 0, .slice (some ⟨w.heap.size + 1 + 1, 0, none⟩) 1 1]) (by simp [results, Try.results90, go_sem]) rfl
    ⟨_, _, rfl, Own.nil _ _, (own_one_at _ _ (by simp)).mono (by simp; omega), fun _ => apart_nil, (((Below.refl _ _).alloc (Nat.le_refl _) _).alloc (by simp) _).alloc (by simp; omega) _⟩

theorem natDiv_n (w : World) (b1 b2 : Nat) (v1 v2 : Value) (a b n : Nat) (h1 : Own w b1 v1 (limbs a)) (h2 : Own w b2 v2 (limbs b)) (hs1 : (limbs a).length ≤ 900) (hb : 0 < b) (hn : Hid (n = a / b)) :
    Calls Try.prog 103 #[v1, v2] w (RetSS w (limbs n) (limbs (a % b))) := by
  rw [hn.out]; exact natDiv_c w b1 b2 v1 v2 a b h1 h2 (by omega) hb

set_option maxHeartbeats 1000000 in
theorem lowest_1y (w : World) (b : Nat) (v1 v2 : Value) (x : Int) (d : Nat) (h1 : Own w b v1 (limbs x.natAbs)) (h2 : Own w b v2 (limbs d)) (_hb : b ≤ w.heap.size) (hl1 : (limbs x.natAbs).length ≤ 900) (hl2 : (limbs d).length ≤ 900) (hd : 0 < d) (hx : 0 < x.natAbs) (hg : 1 = Nat.gcd d x.natAbs) (hf1 : (limbs x.natAbs).length ≤ 24) (hf2 : (limbs d).length ≤ 24) :
    Calls Try.prog 90 #[.agg #[.bool (ng x), v1], v2] w (RetL w b v1 v2 x d) := by
  obtain ⟨a1, c1, rfl, -, -, -, -, -⟩ := h1.form
  obtain ⟨a2, c2, rfl, -, -, -, -, -⟩ := h2.form
  have BW : Below w.heap.size w ((w.alloc (.cells #[.bool (ng x), (.slice a1 (limbs x.natAbs).length c1)] 43)).alloc (.cells #[.bool false, .slice none 0 0, .slice none 0 0] 45)) := (((Below.refl w.heap.size w).alloc (Nat.le_refl _) _).alloc (by simp) _)
  obtain ⟨c0_0, c0_1, q0_0, q0_1, c1_0, c1_1, c1_2, q0, q1, q2⟩ : World.cell? ((w.alloc (.cells #[.bool (ng x), (.slice a1 (limbs x.natAbs).length c1)] 43)).alloc (.cells #[.bool false, .slice none 0 0, .slice none 0 0] 45)) ⟨w.heap.size, 0, none⟩ = some (.bool (ng x)) ∧ World.cell? ((w.alloc (.cells #[.bool (ng x), (.slice a1 (limbs x.natAbs).length c1)] 43)).alloc (.cells #[.bool false, .slice none 0 0, .slice none 0 0] 45)) ⟨w.heap.size, 1, none⟩ = some ((.slice a1 (limbs x.natAbs).length c1)) ∧ World.frozen? ((w.alloc (.cells #[.bool (ng x), (.slice a1 (limbs x.natAbs).length c1)] 43)).alloc (.cells #[.bool false, .slice none 0 0, .slice none 0 0] 45)) ⟨w.heap.size, 0, none⟩ = false ∧ World.frozen? ((w.alloc (.cells #[.bool (ng x), (.slice a1 (limbs x.natAbs).length c1)] 43)).alloc (.cells #[.bool false, .slice none 0 0, .slice none 0 0] 45)) ⟨w.heap.size, 1, none⟩ = false ∧ World.cell? ((w.alloc (.cells #[.bool (ng x), (.slice a1 (limbs x.natAbs).length c1)] 43)).alloc (.cells #[.bool false, .slice none 0 0, .slice none 0 0] 45)) ⟨w.heap.size + 1, 0, none⟩ = some (.bool false) ∧ World.cell? ((w.alloc (.cells #[.bool (ng x), (.slice a1 (limbs x.natAbs).length c1)] 43)).alloc (.cells #[.bool false, .slice none 0 0, .slice none 0 0] 45)) ⟨w.heap.size + 1, 1, none⟩ = some (.slice none 0 0) ∧ World.cell? ((w.alloc (.cells #[.bool (ng x), (.slice a1 (limbs x.natAbs).length c1)] 43)).alloc (.cells #[.bool false, .slice none 0 0, .slice none 0 0] 45)) ⟨w.heap.size + 1, 2, none⟩ = some (.slice none 0 0) ∧ World.frozen? ((w.alloc (.cells #[.bool (ng x), (.slice a1 (limbs x.natAbs).length c1)] 43)).alloc (.cells #[.bool false, .slice none 0 0, .slice none 0 0] 45)) ⟨w.heap.size + 1, 0, none⟩ = false ∧ World.frozen? ((w.alloc (.cells #[.bool (ng x), (.slice a1 (limbs x.natAbs).length c1)] 43)).alloc (.cells #[.bool false, .slice none 0 0, .slice none 0 0] 45)) ⟨w.heap.size + 1, 1, none⟩ = false ∧ World.frozen? ((w.alloc (.cells #[.bool (ng x), (.slice a1 (limbs x.natAbs).length c1)] 43)).alloc (.cells #[.bool false, .slice none 0 0, .slice none 0 0] 45)) ⟨w.heap.size + 1, 2, none⟩ = false := by simp [go_sem]
  have hg0 : w.heap.size + 1 < (((w.alloc (.cells #[.bool (ng x), (.slice a1 (limbs x.natAbs).length c1)] 43)).alloc (.cells #[.bool false, .slice none 0 0, .slice none 0 0] 45))).heap.size := World.block_lt_of_cell? _ _ c1_0
  have hgN : w.heap.size < (((w.alloc (.cells #[.bool (ng x), (.slice a1 (limbs x.natAbs).length c1)] 43)).alloc (.cells #[.bool false, .slice none 0 0, .slice none 0 0] 45))).heap.size := World.block_lt_of_cell? _ _ c0_0
  have Ia := Lib.hid h1
  have Ha := Lib.hid (h1.below BW (Nat.le_refl _))
  have Ib := Lib.hid h2
  have Hb := Lib.hid (h2.below BW (Nat.le_refl _))
  clear h1 h2
  have dz0 : ((limbs x.natAbs).length == 0) = false := beq_eq_false_iff_ne.2 (by have := limbs_len_pos.2 hx; omega)
  have dy0 : (((limbs x.natAbs).length : Int) == 0) = false := beq_eq_false_iff_ne.2 (by have := limbs_len_pos.2 hx; omega)
  have HD := Lib.hid hd
  have HG := Lib.hid hg
  have gx : decide (24 < (limbs x.natAbs).length) = false := decide_eq_false (by omega)
  have gix : decide ((24 : Int) < (limbs x.natAbs).length) = false := decide_eq_false (by omega)
  have gy : decide (24 < (limbs d).length) = false := decide_eq_false (by omega)
  have giy : decide ((24 : Int) < (limbs d).length) = false := decide_eq_false (by omega)
  clear hd hg hx
  go_enter Try.func90, Try.ntmps90
  go_wp2_with fail
  generalize ((w.alloc (.cells #[.bool (ng x), (.slice a1 (limbs x.natAbs).length c1)] 43)).alloc (.cells #[.bool false, .slice none 0 0, .slice none 0 0] 45)) = w0 at *
  have B0 := Below.refl w0.heap.size w0
  refine (gcd_i _ _ _ _ _ d x.natAbs Hb.out Ha.out hl2 hl1 HD.out 1 HG).mono ?_
  rintro e w1 ⟨vg, rfl, ho1, hb⟩
  replace q0_0 := keep_frozen (w1 := w1) hb c0_0 q0_0
  replace q0_1 := keep_frozen (w1 := w1) hb c0_1 q0_1
  replace c0_0 := keep_cell hb c0_0
  replace c0_1 := keep_cell hb c0_1
  replace q0 := keep_frozen (w1 := w1) hb c1_0 q0
  replace c1_0 := keep_cell (w1 := w1) hb c1_0
  replace q1 := keep_frozen (w1 := w1) hb c1_1 q1
  replace c1_1 := keep_cell (w1 := w1) hb c1_1
  replace q2 := keep_frozen (w1 := w1) hb c1_2 q2
  replace c1_2 := keep_cell (w1 := w1) hb c1_2
  replace Ha := Lib.hid (Ha.out.below hb (Nat.le_refl _))
  replace Hb := Lib.hid (Hb.out.below hb (Nat.le_refl _))
  have Hg := Lib.hid (ho1.mono B0.size)
  clear ho1
  replace B0 := B0.trans (hb.mono B0.size)
  clear hb
  go_wp2_with fail
  refine (isOne_t _ _ _ Hg.out).mono ?_
  rintro e w2 ⟨rfl, hb⟩
  replace q0_0 := keep_frozen (w1 := w2) hb c0_0 q0_0
  replace q0_1 := keep_frozen (w1 := w2) hb c0_1 q0_1
  replace c0_0 := keep_cell hb c0_0
  replace c0_1 := keep_cell hb c0_1
  replace q0 := keep_frozen (w1 := w2) hb c1_0 q0
  replace c1_0 := keep_cell (w1 := w2) hb c1_0
  replace q1 := keep_frozen (w1 := w2) hb c1_1 q1
  replace c1_1 := keep_cell (w1 := w2) hb c1_1
  replace q2 := keep_frozen (w1 := w2) hb c1_2 q2
  replace c1_2 := keep_cell (w1 := w2) hb c1_2
  replace Ha := Lib.hid (Ha.out.below hb (Nat.le_refl _))
  replace Hb := Lib.hid (Hb.out.below hb (Nat.le_refl _))
  replace Hg := Lib.hid (Hg.out.below hb (Nat.le_refl _))
  replace B0 := B0.trans (hb.mono B0.size)
  clear hb
  go_wp2
  exact bodyPost_ret (v := .agg #[.bool (ng x), .slice a1 (limbs x.natAbs).length c1, .slice a2 (limbs d).length c2]) (by simp [results, Try.results90, go_sem, c1_0, c1_1, c1_2]) rfl (retL_end (BW.trans (B0.mono BW.size)) (by omega) Ha.out Hb.out (ne_of_top Ia.out (by omega)) (ne_of_top Ib.out (by omega)) (fun h => h))

set_option maxHeartbeats 1000000 in
theorem lowest_11 (w : World) (b : Nat) (v1 v2 : Value) (x : Int) (d : Nat) (h1 : Own w b v1 (limbs x.natAbs)) (h2 : Own w b v2 (limbs d)) (_hb : b ≤ w.heap.size) (hl1 : (limbs x.natAbs).length ≤ 900) (hl2 : (limbs d).length ≤ 900) (hd : 0 < d) (hx : 0 < x.natAbs) (hg : 1 = Nat.gcd d x.natAbs) (hf1 : 24 < (limbs x.natAbs).length) :
    Calls Try.prog 90 #[.agg #[.bool (ng x), v1], v2] w (RetL w b v1 v2 0 0) := by
  obtain ⟨a1, c1, rfl, -, -, -, -, -⟩ := h1.form
  obtain ⟨a2, c2, rfl, -, -, -, -, -⟩ := h2.form
  have BW : Below w.heap.size w ((w.alloc (.cells #[.bool (ng x), (.slice a1 (limbs x.natAbs).length c1)] 43)).alloc (.cells #[.bool false, .slice none 0 0, .slice none 0 0] 45)) := (((Below.refl w.heap.size w).alloc (Nat.le_refl _) _).alloc (by simp) _)
  obtain ⟨c0_0, c0_1, q0_0, q0_1, c1_0, c1_1, c1_2, q0, q1, q2⟩ : World.cell? ((w.alloc (.cells #[.bool (ng x), (.slice a1 (limbs x.natAbs).length c1)] 43)).alloc (.cells #[.bool false, .slice none 0 0, .slice none 0 0] 45)) ⟨w.heap.size, 0, none⟩ = some (.bool (ng x)) ∧ World.cell? ((w.alloc (.cells #[.bool (ng x), (.slice a1 (limbs x.natAbs).length c1)] 43)).alloc (.cells #[.bool false, .slice none 0 0, .slice none 0 0] 45)) ⟨w.heap.size, 1, none⟩ = some ((.slice a1 (limbs x.natAbs).length c1)) ∧ World.frozen? ((w.alloc (.cells #[.bool (ng x), (.slice a1 (limbs x.natAbs).length c1)] 43)).alloc (.cells #[.bool false, .slice none 0 0, .slice none 0 0] 45)) ⟨w.heap.size, 0, none⟩ = false ∧ World.frozen? ((w.alloc (.cells #[.bool (ng x), (.slice a1 (limbs x.natAbs).length c1)] 43)).alloc (.cells #[.bool false, .slice none 0 0, .slice none 0 0] 45)) ⟨w.heap.size, 1, none⟩ = false ∧ World.cell? ((w.alloc (.cells #[.bool (ng x), (.slice a1 (limbs x.natAbs).length c1)] 43)).alloc (.cells #[.bool false, .slice none 0 0, .slice none 0 0] 45)) ⟨w.heap.size + 1, 0, none⟩ = some (.bool false) ∧ World.cell? ((w.alloc (.cells #[.bool (ng x), (.slice a1 (limbs x.natAbs).length c1)] 43)).alloc (.cells #[.bool false, .slice none 0 0, .slice none 0 0] 45)) ⟨w.heap.size + 1, 1, none⟩ = some (.slice none 0 0) ∧ World.cell? ((w.alloc (.cells #[.bool (ng x), (.slice a1 (limbs x.natAbs).length c1)] 43)).alloc (.cells #[.bool false, .slice none 0 0, .slice none 0 0] 45)) ⟨w.heap.size + 1, 2, none⟩ = some (.slice none 0 0) ∧ World.frozen? ((w.alloc (.cells #[.bool (ng x), (.slice a1 (limbs x.natAbs).length c1)] 43)).alloc (.cells #[.bool false, .slice none 0 0, .slice none 0 0] 45)) ⟨w.heap.size + 1, 0, none⟩ = false ∧ World.frozen? ((w.alloc (.cells #[.bool (ng x), (.slice a1 (limbs x.natAbs).length c1)] 43)).alloc (.cells #[.bool false, .slice none 0 0, .slice none 0 0] 45)) ⟨w.heap.size + 1, 1, none⟩ = false ∧ World.frozen? ((w.alloc (.cells #[.bool (ng x), (.slice a1 (limbs x.natAbs).length c1)] 43)).alloc (.cells #[.bool false, .slice none 0 0, .slice none 0 0] 45)) ⟨w.heap.size + 1, 2, none⟩ = false := by simp [go_sem]
  have hg0 : w.heap.size + 1 < (((w.alloc (.cells #[.bool (ng x), (.slice a1 (limbs x.natAbs).length c1)] 43)).alloc (.cells #[.bool false, .slice none 0 0, .slice none 0 0] 45))).heap.size := World.block_lt_of_cell? _ _ c1_0
  have hgN : w.heap.size < (((w.alloc (.cells #[.bool (ng x), (.slice a1 (limbs x.natAbs).length c1)] 43)).alloc (.cells #[.bool false, .slice none 0 0, .slice none 0 0] 45))).heap.size := World.block_lt_of_cell? _ _ c0_0
  have Ia := Lib.hid h1
  have Ha := Lib.hid (h1.below BW (Nat.le_refl _))
  have Ib := Lib.hid h2
  have Hb := Lib.hid (h2.below BW (Nat.le_refl _))
  clear h1 h2
  have dz0 : ((limbs x.natAbs).length == 0) = false := beq_eq_false_iff_ne.2 (by have := limbs_len_pos.2 hx; omega)
  have dy0 : (((limbs x.natAbs).length : Int) == 0) = false := beq_eq_false_iff_ne.2 (by have := limbs_len_pos.2 hx; omega)
  have HD := Lib.hid hd
  have HG := Lib.hid hg
  have gx : decide (24 < (limbs x.natAbs).length) = true := decide_eq_true (by omega)
  have gix : decide ((24 : Int) < (limbs x.natAbs).length) = true := decide_eq_true (by omega)
  clear hd hg hx
  go_enter Try.func90, Try.ntmps90
  go_wp2_with fail
  generalize ((w.alloc (.cells #[.bool (ng x), (.slice a1 (limbs x.natAbs).length c1)] 43)).alloc (.cells #[.bool false, .slice none 0 0, .slice none 0 0] 45)) = w0 at *
  have B0 := Below.refl w0.heap.size w0
  refine (gcd_i _ _ _ _ _ d x.natAbs Hb.out Ha.out hl2 hl1 HD.out 1 HG).mono ?_
  rintro e w1 ⟨vg, rfl, ho1, hb⟩
  replace q0_0 := keep_frozen (w1 := w1) hb c0_0 q0_0
  replace q0_1 := keep_frozen (w1 := w1) hb c0_1 q0_1
  replace c0_0 := keep_cell hb c0_0
  replace c0_1 := keep_cell hb c0_1
  replace q0 := keep_frozen (w1 := w1) hb c1_0 q0
  replace c1_0 := keep_cell (w1 := w1) hb c1_0
  replace q1 := keep_frozen (w1 := w1) hb c1_1 q1
  replace c1_1 := keep_cell (w1 := w1) hb c1_1
  replace q2 := keep_frozen (w1 := w1) hb c1_2 q2
  replace c1_2 := keep_cell (w1 := w1) hb c1_2
  replace Ha := Lib.hid (Ha.out.below hb (Nat.le_refl _))
  replace Hb := Lib.hid (Hb.out.below hb (Nat.le_refl _))
  have Hg := Lib.hid (ho1.mono B0.size)
  clear ho1
  replace B0 := B0.trans (hb.mono B0.size)
  clear hb
  go_wp2_with fail
  refine (isOne_t _ _ _ Hg.out).mono ?_
  rintro e w2 ⟨rfl, hb⟩
  replace q0_0 := keep_frozen (w1 := w2) hb c0_0 q0_0
  replace q0_1 := keep_frozen (w1 := w2) hb c0_1 q0_1
  replace c0_0 := keep_cell hb c0_0
  replace c0_1 := keep_cell hb c0_1
  replace q0 := keep_frozen (w1 := w2) hb c1_0 q0
  replace c1_0 := keep_cell (w1 := w2) hb c1_0
  replace q1 := keep_frozen (w1 := w2) hb c1_1 q1
  replace c1_1 := keep_cell (w1 := w2) hb c1_1
  replace q2 := keep_frozen (w1 := w2) hb c1_2 q2
  replace c1_2 := keep_cell (w1 := w2) hb c1_2
  replace Ha := Lib.hid (Ha.out.below hb (Nat.le_refl _))
  replace Hb := Lib.hid (Hb.out.below hb (Nat.le_refl _))
  replace Hg := Lib.hid (Hg.out.below hb (Nat.le_refl _))
  replace B0 := B0.trans (hb.mono B0.size)
  clear hb
  go_wp2
  exact bodyPost_ret (v := .agg #[.bool false, .slice none 0 0, .slice none 0 0]) (by simp [results, Try.results90, go_sem, c1_0, c1_1, c1_2]) rfl (retL_nil (set3_below (BW.trans (B0.mono BW.size)) (by omega)))

set_option maxHeartbeats 1000000 in
theorem lowest_12 (w : World) (b : Nat) (v1 v2 : Value) (x : Int) (d : Nat) (h1 : Own w b v1 (limbs x.natAbs)) (h2 : Own w b v2 (limbs d)) (_hb : b ≤ w.heap.size) (hl1 : (limbs x.natAbs).length ≤ 900) (hl2 : (limbs d).length ≤ 900) (hd : 0 < d) (hx : 0 < x.natAbs) (hg : 1 = Nat.gcd d x.natAbs) (hf1 : (limbs x.natAbs).length ≤ 24) (hf2 : 24 < (limbs d).length) :
    Calls Try.prog 90 #[.agg #[.bool (ng x), v1], v2] w (RetL w b v1 v2 0 0) := by
  obtain ⟨a1, c1, rfl, -, -, -, -, -⟩ := h1.form
  obtain ⟨a2, c2, rfl, -, -, -, -, -⟩ := h2.form
  have BW : Below w.heap.size w ((w.alloc (.cells #[.bool (ng x), (.slice a1 (limbs x.natAbs).length c1)] 43)).alloc (.cells #[.bool false, .slice none 0 0, .slice none 0 0] 45)) := (((Below.refl w.heap.size w).alloc (Nat.le_refl _) _).alloc (by simp) _)
  obtain ⟨c0_0, c0_1, q0_0, q0_1, c1_0, c1_1, c1_2, q0, q1, q2⟩ : World.cell? ((w.alloc (.cells #[.bool (ng x), (.slice a1 (limbs x.natAbs).length c1)] 43)).alloc (.cells #[.bool false, .slice none 0 0, .slice none 0 0] 45)) ⟨w.heap.size, 0, none⟩ = some (.bool (ng x)) ∧ World.cell? ((w.alloc (.cells #[.bool (ng x), (.slice a1 (limbs x.natAbs).length c1)] 43)).alloc (.cells #[.bool false, .slice none 0 0, .slice none 0 0] 45)) ⟨w.heap.size, 1, none⟩ = some ((.slice a1 (limbs x.natAbs).length c1)) ∧ World.frozen? ((w.alloc (.cells #[.bool (ng x), (.slice a1 (limbs x.natAbs).length c1)] 43)).alloc (.cells #[.bool false, .slice none 0 0, .slice none 0 0] 45)) ⟨w.heap.size, 0, none⟩ = false ∧ World.frozen? ((w.alloc (.cells #[.bool (ng x), (.slice a1 (limbs x.natAbs).length c1)] 43)).alloc (.cells #[.bool false, .slice none 0 0, .slice none 0 0] 45)) ⟨w.heap.size, 1, none⟩ = false ∧ World.cell? ((w.alloc (.cells #[.bool (ng x), (.slice a1 (limbs x.natAbs).length c1)] 43)).alloc (.cells #[.bool false, .slice none 0 0, .slice none 0 0] 45)) ⟨w.heap.size + 1, 0, none⟩ = some (.bool false) ∧ World.cell? ((w.alloc (.cells #[.bool (ng x), (.slice a1 (limbs x.natAbs).length c1)] 43)).alloc (.cells #[.bool false, .slice none 0 0, .slice none 0 0] 45)) ⟨w.heap.size + 1, 1, none⟩ = some (.slice none 0 0) ∧ World.cell? ((w.alloc (.cells #[.bool (ng x), (.slice a1 (limbs x.natAbs).length c1)] 43)).alloc (.cells #[.bool false, .slice none 0 0, .slice none 0 0] 45)) ⟨w.heap.size + 1, 2, none⟩ = some (.slice none 0 0) ∧ World.frozen? ((w.alloc (.cells #[.bool (ng x), (.slice a1 (limbs x.natAbs).length c1)] 43)).alloc (.cells #[.bool false, .slice none 0 0, .slice none 0 0] 45)) ⟨w.heap.size + 1, 0, none⟩ = false ∧ World.frozen? ((w.alloc (.cells #[.bool (ng x), (.slice a1 (limbs x.natAbs).length c1)] 43)).alloc (.cells #[.bool false, .slice none 0 0, .slice none 0 0] 45)) ⟨w.heap.size + 1, 1, none⟩ = false ∧ World.frozen? ((w.alloc (.cells #[.bool (ng x), (.slice a1 (limbs x.natAbs).length c1)] 43)).alloc (.cells #[.bool false, .slice none 0 0, .slice none 0 0] 45)) ⟨w.heap.size + 1, 2, none⟩ = false := by simp [go_sem]
  have hg0 : w.heap.size + 1 < (((w.alloc (.cells #[.bool (ng x), (.slice a1 (limbs x.natAbs).length c1)] 43)).alloc (.cells #[.bool false, .slice none 0 0, .slice none 0 0] 45))).heap.size := World.block_lt_of_cell? _ _ c1_0
  have hgN : w.heap.size < (((w.alloc (.cells #[.bool (ng x), (.slice a1 (limbs x.natAbs).length c1)] 43)).alloc (.cells #[.bool false, .slice none 0 0, .slice none 0 0] 45))).heap.size := World.block_lt_of_cell? _ _ c0_0
  have Ia := Lib.hid h1
  have Ha := Lib.hid (h1.below BW (Nat.le_refl _))
  have Ib := Lib.hid h2
  have Hb := Lib.hid (h2.below BW (Nat.le_refl _))
  clear h1 h2
  have dz0 : ((limbs x.natAbs).length == 0) = false := beq_eq_false_iff_ne.2 (by have := limbs_len_pos.2 hx; omega)
  have dy0 : (((limbs x.natAbs).length : Int) == 0) = false := beq_eq_false_iff_ne.2 (by have := limbs_len_pos.2 hx; omega)
  have HD := Lib.hid hd
  have HG := Lib.hid hg
  have gx : decide (24 < (limbs x.natAbs).length) = false := decide_eq_false (by omega)
  have gix : decide ((24 : Int) < (limbs x.natAbs).length) = false := decide_eq_false (by omega)
  have gy : decide (24 < (limbs d).length) = true := decide_eq_true (by omega)
  have giy : decide ((24 : Int) < (limbs d).length) = true := decide_eq_true (by omega)
  clear hd hg hx
  go_enter Try.func90, Try.ntmps90
  go_wp2_with fail
  generalize ((w.alloc (.cells #[.bool (ng x), (.slice a1 (limbs x.natAbs).length c1)] 43)).alloc (.cells #[.bool false, .slice none 0 0, .slice none 0 0] 45)) = w0 at *
  have B0 := Below.refl w0.heap.size w0
  refine (gcd_i _ _ _ _ _ d x.natAbs Hb.out Ha.out hl2 hl1 HD.out 1 HG).mono ?_
  rintro e w1 ⟨vg, rfl, ho1, hb⟩
  replace q0_0 := keep_frozen (w1 := w1) hb c0_0 q0_0
  replace q0_1 := keep_frozen (w1 := w1) hb c0_1 q0_1
  replace c0_0 := keep_cell hb c0_0
  replace c0_1 := keep_cell hb c0_1
  replace q0 := keep_frozen (w1 := w1) hb c1_0 q0
  replace c1_0 := keep_cell (w1 := w1) hb c1_0
  replace q1 := keep_frozen (w1 := w1) hb c1_1 q1
  replace c1_1 := keep_cell (w1 := w1) hb c1_1
  replace q2 := keep_frozen (w1 := w1) hb c1_2 q2
  replace c1_2 := keep_cell (w1 := w1) hb c1_2
  replace Ha := Lib.hid (Ha.out.below hb (Nat.le_refl _))
  replace Hb := Lib.hid (Hb.out.below hb (Nat.le_refl _))
  have Hg := Lib.hid (ho1.mono B0.size)
  clear ho1
  replace B0 := B0.trans (hb.mono B0.size)
  clear hb
  go_wp2_with fail
  refine (isOne_t _ _ _ Hg.out).mono ?_
  rintro e w2 ⟨rfl, hb⟩
  replace q0_0 := keep_frozen (w1 := w2) hb c0_0 q0_0
  replace q0_1 := keep_frozen (w1 := w2) hb c0_1 q0_1
  replace c0_0 := keep_cell hb c0_0
  replace c0_1 := keep_cell hb c0_1
  replace q0 := keep_frozen (w1 := w2) hb c1_0 q0
  replace c1_0 := keep_cell (w1 := w2) hb c1_0
  replace q1 := keep_frozen (w1 := w2) hb c1_1 q1
  replace c1_1 := keep_cell (w1 := w2) hb c1_1
  replace q2 := keep_frozen (w1 := w2) hb c1_2 q2
  replace c1_2 := keep_cell (w1 := w2) hb c1_2
  replace Ha := Lib.hid (Ha.out.below hb (Nat.le_refl _))
  replace Hb := Lib.hid (Hb.out.below hb (Nat.le_refl _))
  replace Hg := Lib.hid (Hg.out.below hb (Nat.le_refl _))
  replace B0 := B0.trans (hb.mono B0.size)
  clear hb
  go_wp2
  exact bodyPost_ret (v := .agg #[.bool false, .slice none 0 0, .slice none 0 0]) (by simp [results, Try.results90, go_sem, c1_0, c1_1, c1_2]) rfl (retL_nil (set3_below (BW.trans (B0.mono BW.size)) (by omega)))

set_option maxHeartbeats 1000000 in
theorem lowest_gy (w : World) (b : Nat) (v1 v2 : Value) (x : Int) (d : Nat) (h1 : Own w b v1 (limbs x.natAbs)) (h2 : Own w b v2 (limbs d)) (hb : b ≤ w.heap.size) (hl1 : (limbs x.natAbs).length ≤ 900) (hl2 : (limbs d).length ≤ 900) (hd : 0 < d) (hx : 0 < x.natAbs) (g m : Nat) (z : Int) (hg : g = Nat.gcd d x.natAbs) (hg1 : g ≠ 1) (hn : z.natAbs = x.natAbs / g) (hm : m = d / g) (hs : z ≠ 0 → ng x = ng z) (hf1 : (limbs z.natAbs).length ≤ 24) (hf2 : (limbs m).length ≤ 24) :
    Calls Try.prog 90 #[.agg #[.bool (ng x), v1], v2] w (RetL w b v1 v2 z m) := by
  obtain ⟨a1, c1, rfl, -, -, -, -, -⟩ := h1.form
  obtain ⟨a2, c2, rfl, -, -, -, -, -⟩ := h2.form
  have BW : Below w.heap.size w ((w.alloc (.cells #[.bool (ng x), (.slice a1 (limbs x.natAbs).length c1)] 43)).alloc (.cells #[.bool false, .slice none 0 0, .slice none 0 0] 45)) := (((Below.refl w.heap.size w).alloc (Nat.le_refl _) _).alloc (by simp) _)
  obtain ⟨c0_0, c0_1, q0_0, q0_1, c1_0, c1_1, c1_2, q0, q1, q2⟩ : World.cell? ((w.alloc (.cells #[.bool (ng x), (.slice a1 (limbs x.natAbs).length c1)] 43)).alloc (.cells #[.bool false, .slice none 0 0, .slice none 0 0] 45)) ⟨w.heap.size, 0, none⟩ = some (.bool (ng x)) ∧ World.cell? ((w.alloc (.cells #[.bool (ng x), (.slice a1 (limbs x.natAbs).length c1)] 43)).alloc (.cells #[.bool false, .slice none 0 0, .slice none 0 0] 45)) ⟨w.heap.size, 1, none⟩ = some ((.slice a1 (limbs x.natAbs).length c1)) ∧ World.frozen? ((w.alloc (.cells #[.bool (ng x), (.slice a1 (limbs x.natAbs).length c1)] 43)).alloc (.cells #[.bool false, .slice none 0 0, .slice none 0 0] 45)) ⟨w.heap.size, 0, none⟩ = false ∧ World.frozen? ((w.alloc (.cells #[.bool (ng x), (.slice a1 (limbs x.natAbs).length c1)] 43)).alloc (.cells #[.bool false, .slice none 0 0, .slice none 0 0] 45)) ⟨w.heap.size, 1, none⟩ = false ∧ World.cell? ((w.alloc (.cells #[.bool (ng x), (.slice a1 (limbs x.natAbs).length c1)] 43)).alloc (.cells #[.bool false, .slice none 0 0, .slice none 0 0] 45)) ⟨w.heap.size + 1, 0, none⟩ = some (.bool false) ∧ World.cell? ((w.alloc (.cells #[.bool (ng x), (.slice a1 (limbs x.natAbs).length c1)] 43)).alloc (.cells #[.bool false, .slice none 0 0, .slice none 0 0] 45)) ⟨w.heap.size + 1, 1, none⟩ = some (.slice none 0 0) ∧ World.cell? ((w.alloc (.cells #[.bool (ng x), (.slice a1 (limbs x.natAbs).length c1)] 43)).alloc (.cells #[.bool false, .slice none 0 0, .slice none 0 0] 45)) ⟨w.heap.size + 1, 2, none⟩ = some (.slice none 0 0) ∧ World.frozen? ((w.alloc (.cells #[.bool (ng x), (.slice a1 (limbs x.natAbs).length c1)] 43)).alloc (.cells #[.bool false, .slice none 0 0, .slice none 0 0] 45)) ⟨w.heap.size + 1, 0, none⟩ = false ∧ World.frozen? ((w.alloc (.cells #[.bool (ng x), (.slice a1 (limbs x.natAbs).length c1)] 43)).alloc (.cells #[.bool false, .slice none 0 0, .slice none 0 0] 45)) ⟨w.heap.size + 1, 1, none⟩ = false ∧ World.frozen? ((w.alloc (.cells #[.bool (ng x), (.slice a1 (limbs x.natAbs).length c1)] 43)).alloc (.cells #[.bool false, .slice none 0 0, .slice none 0 0] 45)) ⟨w.heap.size + 1, 2, none⟩ = false := by simp [go_sem]
  have hg0 : w.heap.size + 1 < (((w.alloc (.cells #[.bool (ng x), (.slice a1 (limbs x.natAbs).length c1)] 43)).alloc (.cells #[.bool false, .slice none 0 0, .slice none 0 0] 45))).heap.size := World.block_lt_of_cell? _ _ c1_0
  have hgN : w.heap.size < (((w.alloc (.cells #[.bool (ng x), (.slice a1 (limbs x.natAbs).length c1)] 43)).alloc (.cells #[.bool false, .slice none 0 0, .slice none 0 0] 45))).heap.size := World.block_lt_of_cell? _ _ c0_0
  have Ia := Lib.hid h1
  have Ha := Lib.hid (h1.below BW (Nat.le_refl _))
  have Ib := Lib.hid h2
  have Hb := Lib.hid (h2.below BW (Nat.le_refl _))
  clear h1 h2
  have dz0 : ((limbs x.natAbs).length == 0) = false := beq_eq_false_iff_ne.2 (by have := limbs_len_pos.2 hx; omega)
  have dy0 : (((limbs x.natAbs).length : Int) == 0) = false := beq_eq_false_iff_ne.2 (by have := limbs_len_pos.2 hx; omega)
  have HD := Lib.hid hd
  have HG := Lib.hid hg
  have gx : decide (24 < (limbs z.natAbs).length) = false := decide_eq_false (by omega)
  have gix : decide ((24 : Int) < (limbs z.natAbs).length) = false := decide_eq_false (by omega)
  have gy : decide (24 < (limbs m).length) = false := decide_eq_false (by omega)
  have giy : decide ((24 : Int) < (limbs m).length) = false := decide_eq_false (by omega)
  have HN : Hid (z.natAbs = x.natAbs / g) := hn
  have HM : Hid (m = d / g) := hm
  have HS : Hid (z ≠ 0 → ng x = ng z) := hs
  have hgp : 0 < g := by rw [hg]; exact Nat.gcd_pos_of_pos_left _ hd
  clear hn hm hs
  clear hd hg hx
  go_enter Try.func90, Try.ntmps90
  go_wp2_with fail
  generalize ((w.alloc (.cells #[.bool (ng x), (.slice a1 (limbs x.natAbs).length c1)] 43)).alloc (.cells #[.bool false, .slice none 0 0, .slice none 0 0] 45)) = w0 at *
  have B0 := Below.refl w0.heap.size w0
  refine (gcd_i _ _ _ _ _ d x.natAbs Hb.out Ha.out hl2 hl1 HD.out g HG).mono ?_
  rintro e w1 ⟨vg, rfl, ho1, hb⟩
  replace q0_0 := keep_frozen (w1 := w1) hb c0_0 q0_0
  replace q0_1 := keep_frozen (w1 := w1) hb c0_1 q0_1
  replace c0_0 := keep_cell hb c0_0
  replace c0_1 := keep_cell hb c0_1
  replace q0 := keep_frozen (w1 := w1) hb c1_0 q0
  replace c1_0 := keep_cell (w1 := w1) hb c1_0
  replace q1 := keep_frozen (w1 := w1) hb c1_1 q1
  replace c1_1 := keep_cell (w1 := w1) hb c1_1
  replace q2 := keep_frozen (w1 := w1) hb c1_2 q2
  replace c1_2 := keep_cell (w1 := w1) hb c1_2
  replace Ha := Lib.hid (Ha.out.below hb (Nat.le_refl _))
  replace Hb := Lib.hid (Hb.out.below hb (Nat.le_refl _))
  have Hg := Lib.hid (ho1.mono B0.size)
  clear ho1
  replace B0 := B0.trans (hb.mono B0.size)
  clear hb
  go_wp2_with fail
  refine (isOne_f _ _ _ g Hg.out hg1).mono ?_
  rintro e w2 ⟨rfl, hb⟩
  replace q0_0 := keep_frozen (w1 := w2) hb c0_0 q0_0
  replace q0_1 := keep_frozen (w1 := w2) hb c0_1 q0_1
  replace c0_0 := keep_cell hb c0_0
  replace c0_1 := keep_cell hb c0_1
  replace q0 := keep_frozen (w1 := w2) hb c1_0 q0
  replace c1_0 := keep_cell (w1 := w2) hb c1_0
  replace q1 := keep_frozen (w1 := w2) hb c1_1 q1
  replace c1_1 := keep_cell (w1 := w2) hb c1_1
  replace q2 := keep_frozen (w1 := w2) hb c1_2 q2
  replace c1_2 := keep_cell (w1 := w2) hb c1_2
  replace Ha := Lib.hid (Ha.out.below hb (Nat.le_refl _))
  replace Hb := Lib.hid (Hb.out.below hb (Nat.le_refl _))
  replace Hg := Lib.hid (Hg.out.below hb (Nat.le_refl _))
  replace B0 := B0.trans (hb.mono B0.size)
  clear hb
  go_wp2_with fail
  refine (natDiv_n _ _ _ _ _ x.natAbs g z.natAbs Ha.out Hg.out hl1 hgp HN).mono ?_
  rintro e w3 ⟨vn, ve, rfl, ho1, ho2, ha, hb⟩
  replace q0_0 := keep_frozen (w1 := w3) hb c0_0 q0_0
  replace q0_1 := keep_frozen (w1 := w3) hb c0_1 q0_1
  replace c0_0 := keep_cell hb c0_0
  replace c0_1 := keep_cell hb c0_1
  replace q0 := keep_frozen (w1 := w3) hb c1_0 q0
  replace c1_0 := keep_cell (w1 := w3) hb c1_0
  replace q1 := keep_frozen (w1 := w3) hb c1_1 q1
  replace c1_1 := keep_cell (w1 := w3) hb c1_1
  replace q2 := keep_frozen (w1 := w3) hb c1_2 q2
  replace c1_2 := keep_cell (w1 := w3) hb c1_2
  replace Ha := Lib.hid (Ha.out.below hb (Nat.le_refl _))
  replace Hb := Lib.hid (Hb.out.below hb (Nat.le_refl _))
  replace Hg := Lib.hid (Hg.out.below hb (Nat.le_refl _))
  have Hn := Lib.hid (ho1.mono B0.size)
  clear ho1
  have He := Lib.hid (ho2.mono B0.size)
  clear ho2
  clear ha
  replace B0 := B0.trans (hb.mono B0.size)
  clear hb
  go_wp2_with fail
  refine (natDiv_n _ _ _ _ _ d g m Hb.out Hg.out hl2 hgp HM).mono ?_
  rintro e w4 ⟨vm, vk, rfl, ho1, ho2, ha, hb⟩
  have HAP0 := apart_new Hn.out (.inr rfl) ho1
  replace q0_0 := keep_frozen (w1 := w4) hb c0_0 q0_0
  replace q0_1 := keep_frozen (w1 := w4) hb c0_1 q0_1
  replace c0_0 := keep_cell hb c0_0
  replace c0_1 := keep_cell hb c0_1
  replace q0 := keep_frozen (w1 := w4) hb c1_0 q0
  replace c1_0 := keep_cell (w1 := w4) hb c1_0
  replace q1 := keep_frozen (w1 := w4) hb c1_1 q1
  replace c1_1 := keep_cell (w1 := w4) hb c1_1
  replace q2 := keep_frozen (w1 := w4) hb c1_2 q2
  replace c1_2 := keep_cell (w1 := w4) hb c1_2
  replace Ha := Lib.hid (Ha.out.below hb (Nat.le_refl _))
  replace Hb := Lib.hid (Hb.out.below hb (Nat.le_refl _))
  replace Hg := Lib.hid (Hg.out.below hb (Nat.le_refl _))
  replace Hn := Lib.hid (Hn.out.below hb (Nat.le_refl _))
  replace He := Lib.hid (He.out.below hb (Nat.le_refl _))
  have Hm := Lib.hid (ho1.mono B0.size)
  clear ho1
  have Hk := Lib.hid (ho2.mono B0.size)
  clear ho2
  clear ha
  obtain ⟨am, cm, rfl, -, -, -, -, -⟩ := Hm.out.form
  replace B0 := B0.trans (hb.mono B0.size)
  clear hb
  go_wp2_with fail
  refine (signed_z _ _ _ _ z Hn.out HS.out).mono ?_
  rintro e w5 ⟨vr, rfl, ho2, hp, hb⟩
  replace q0_0 := keep_frozen (w1 := w5) hb c0_0 q0_0
  replace q0_1 := keep_frozen (w1 := w5) hb c0_1 q0_1
  replace c0_0 := keep_cell hb c0_0
  replace c0_1 := keep_cell hb c0_1
  replace q0 := keep_frozen (w1 := w5) hb c1_0 q0
  replace c1_0 := keep_cell (w1 := w5) hb c1_0
  replace q1 := keep_frozen (w1 := w5) hb c1_1 q1
  replace c1_1 := keep_cell (w1 := w5) hb c1_1
  replace q2 := keep_frozen (w1 := w5) hb c1_2 q2
  replace c1_2 := keep_cell (w1 := w5) hb c1_2
  replace Ha := Lib.hid (Ha.out.below hb (Nat.le_refl _))
  replace Hb := Lib.hid (Hb.out.below hb (Nat.le_refl _))
  replace Hg := Lib.hid (Hg.out.below hb (Nat.le_refl _))
  replace Hn := Lib.hid (Hn.out.below hb (Nat.le_refl _))
  replace He := Lib.hid (He.out.below hb (Nat.le_refl _))
  replace Hm := Lib.hid (Hm.out.below hb (Nat.le_refl _))
  replace Hk := Lib.hid (Hk.out.below hb (Nat.le_refl _))
  have Hr := Lib.hid ho2
  clear ho2
  have HAP := apart_part HAP0 hp
  obtain ⟨ar, cr, rfl, -, -, -, -, -⟩ := Hr.out.form
  replace B0 := B0.trans (hb.mono B0.size)
  clear hb
  have ne1 : ¬ w.heap.size = w.heap.size + 1 := by omega
  go_wp2
  exact bodyPost_ret (v := .agg #[.bool (ng z), .slice ar (limbs z.natAbs).length cr, .slice am (limbs m).length cm]) (by simp [results, Try.results90, go_sem, c1_0, c1_1, c1_2]) rfl (retL_end ((Below.setCell (BW.trans (B0.mono BW.size)) (p := ⟨w.heap.size, 0, none⟩) (Nat.le_refl _) _).setCell (p := ⟨w.heap.size, 1, none⟩) (Nat.le_refl _) _) (by omega) ((Own.mono Hr.out (Nat.le_trans hb BW.size)).setOther (ne_of_base Hr.out hgN) _ |>.setOther (ne_of_base Hr.out hgN) _) ((Own.mono Hm.out (Nat.le_trans hb BW.size)).setOther (ne_of_base Hm.out hgN) _ |>.setOther (ne_of_base Hm.out hgN) _) (ne_of_base Hr.out hg0) (ne_of_base Hm.out hg0) (fun _ => HAP))

set_option maxHeartbeats 1000000 in
theorem lowest_g1 (w : World) (b : Nat) (v1 v2 : Value) (x : Int) (d : Nat) (h1 : Own w b v1 (limbs x.natAbs)) (h2 : Own w b v2 (limbs d)) (_hb : b ≤ w.heap.size) (hl1 : (limbs x.natAbs).length ≤ 900) (hl2 : (limbs d).length ≤ 900) (hd : 0 < d) (hx : 0 < x.natAbs) (g m : Nat) (z : Int) (hg : g = Nat.gcd d x.natAbs) (hg1 : g ≠ 1) (hn : z.natAbs = x.natAbs / g) (hm : m = d / g) (hs : z ≠ 0 → ng x = ng z) (hf1 : 24 < (limbs z.natAbs).length) :
    Calls Try.prog 90 #[.agg #[.bool (ng x), v1], v2] w (RetL w b v1 v2 0 0) := by
  obtain ⟨a1, c1, rfl, -, -, -, -, -⟩ := h1.form
  obtain ⟨a2, c2, rfl, -, -, -, -, -⟩ := h2.form
  have BW : Below w.heap.size w ((w.alloc (.cells #[.bool (ng x), (.slice a1 (limbs x.natAbs).length c1)] 43)).alloc (.cells #[.bool false, .slice none 0 0, .slice none 0 0] 45)) := (((Below.refl w.heap.size w).alloc (Nat.le_refl _) _).alloc (by simp) _)
  obtain ⟨c0_0, c0_1, q0_0, q0_1, c1_0, c1_1, c1_2, q0, q1, q2⟩ : World.cell? ((w.alloc (.cells #[.bool (ng x), (.slice a1 (limbs x.natAbs).length c1)] 43)).alloc (.cells #[.bool false, .slice none 0 0, .slice none 0 0] 45)) ⟨w.heap.size, 0, none⟩ = some (.bool (ng x)) ∧ World.cell? ((w.alloc (.cells #[.bool (ng x), (.slice a1 (limbs x.natAbs).length c1)] 43)).alloc (.cells #[.bool false, .slice none 0 0, .slice none 0 0] 45)) ⟨w.heap.size, 1, none⟩ = some ((.slice a1 (limbs x.natAbs).length c1)) ∧ World.frozen? ((w.alloc (.cells #[.bool (ng x), (.slice a1 (limbs x.natAbs).length c1)] 43)).alloc (.cells #[.bool false, .slice none 0 0, .slice none 0 0] 45)) ⟨w.heap.size, 0, none⟩ = false ∧ World.frozen? ((w.alloc (.cells #[.bool (ng x), (.slice a1 (limbs x.natAbs).length c1)] 43)).alloc (.cells #[.bool false, .slice none 0 0, .slice none 0 0] 45)) ⟨w.heap.size, 1, none⟩ = false ∧ World.cell? ((w.alloc (.cells #[.bool (ng x), (.slice a1 (limbs x.natAbs).length c1)] 43)).alloc (.cells #[.bool false, .slice none 0 0, .slice none 0 0] 45)) ⟨w.heap.size + 1, 0, none⟩ = some (.bool false) ∧ World.cell? ((w.alloc (.cells #[.bool (ng x), (.slice a1 (limbs x.natAbs).length c1)] 43)).alloc (.cells #[.bool false, .slice none 0 0, .slice none 0 0] 45)) ⟨w.heap.size + 1, 1, none⟩ = some (.slice none 0 0) ∧ World.cell? ((w.alloc (.cells #[.bool (ng x), (.slice a1 (limbs x.natAbs).length c1)] 43)).alloc (.cells #[.bool false, .slice none 0 0, .slice none 0 0] 45)) ⟨w.heap.size + 1, 2, none⟩ = some (.slice none 0 0) ∧ World.frozen? ((w.alloc (.cells #[.bool (ng x), (.slice a1 (limbs x.natAbs).length c1)] 43)).alloc (.cells #[.bool false, .slice none 0 0, .slice none 0 0] 45)) ⟨w.heap.size + 1, 0, none⟩ = false ∧ World.frozen? ((w.alloc (.cells #[.bool (ng x), (.slice a1 (limbs x.natAbs).length c1)] 43)).alloc (.cells #[.bool false, .slice none 0 0, .slice none 0 0] 45)) ⟨w.heap.size + 1, 1, none⟩ = false ∧ World.frozen? ((w.alloc (.cells #[.bool (ng x), (.slice a1 (limbs x.natAbs).length c1)] 43)).alloc (.cells #[.bool false, .slice none 0 0, .slice none 0 0] 45)) ⟨w.heap.size + 1, 2, none⟩ = false := by simp [go_sem]
  have hg0 : w.heap.size + 1 < (((w.alloc (.cells #[.bool (ng x), (.slice a1 (limbs x.natAbs).length c1)] 43)).alloc (.cells #[.bool false, .slice none 0 0, .slice none 0 0] 45))).heap.size := World.block_lt_of_cell? _ _ c1_0
  have hgN : w.heap.size < (((w.alloc (.cells #[.bool (ng x), (.slice a1 (limbs x.natAbs).length c1)] 43)).alloc (.cells #[.bool false, .slice none 0 0, .slice none 0 0] 45))).heap.size := World.block_lt_of_cell? _ _ c0_0
  have Ia := Lib.hid h1
  have Ha := Lib.hid (h1.below BW (Nat.le_refl _))
  have Ib := Lib.hid h2
  have Hb := Lib.hid (h2.below BW (Nat.le_refl _))
  clear h1 h2
  have dz0 : ((limbs x.natAbs).length == 0) = false := beq_eq_false_iff_ne.2 (by have := limbs_len_pos.2 hx; omega)
  have dy0 : (((limbs x.natAbs).length : Int) == 0) = false := beq_eq_false_iff_ne.2 (by have := limbs_len_pos.2 hx; omega)
  have HD := Lib.hid hd
  have HG := Lib.hid hg
  have gx : decide (24 < (limbs z.natAbs).length) = true := decide_eq_true (by omega)
  have gix : decide ((24 : Int) < (limbs z.natAbs).length) = true := decide_eq_true (by omega)
  have HN : Hid (z.natAbs = x.natAbs / g) := hn
  have HM : Hid (m = d / g) := hm
  have HS : Hid (z ≠ 0 → ng x = ng z) := hs
  have hgp : 0 < g := by rw [hg]; exact Nat.gcd_pos_of_pos_left _ hd
  clear hn hm hs
  clear hd hg hx
  go_enter Try.func90, Try.ntmps90
  go_wp2_with fail
  generalize ((w.alloc (.cells #[.bool (ng x), (.slice a1 (limbs x.natAbs).length c1)] 43)).alloc (.cells #[.bool false, .slice none 0 0, .slice none 0 0] 45)) = w0 at *
  have B0 := Below.refl w0.heap.size w0
  refine (gcd_i _ _ _ _ _ d x.natAbs Hb.out Ha.out hl2 hl1 HD.out g HG).mono ?_
  rintro e w1 ⟨vg, rfl, ho1, hb⟩
  replace q0_0 := keep_frozen (w1 := w1) hb c0_0 q0_0
  replace q0_1 := keep_frozen (w1 := w1) hb c0_1 q0_1
  replace c0_0 := keep_cell hb c0_0
  replace c0_1 := keep_cell hb c0_1
  replace q0 := keep_frozen (w1 := w1) hb c1_0 q0
  replace c1_0 := keep_cell (w1 := w1) hb c1_0
  replace q1 := keep_frozen (w1 := w1) hb c1_1 q1
  replace c1_1 := keep_cell (w1 := w1) hb c1_1
  replace q2 := keep_frozen (w1 := w1) hb c1_2 q2
  replace c1_2 := keep_cell (w1 := w1) hb c1_2
  replace Ha := Lib.hid (Ha.out.below hb (Nat.le_refl _))
  replace Hb := Lib.hid (Hb.out.below hb (Nat.le_refl _))
  have Hg := Lib.hid (ho1.mono B0.size)
  clear ho1
  replace B0 := B0.trans (hb.mono B0.size)
  clear hb
  go_wp2_with fail
  refine (isOne_f _ _ _ g Hg.out hg1).mono ?_
  rintro e w2 ⟨rfl, hb⟩
  replace q0_0 := keep_frozen (w1 := w2) hb c0_0 q0_0
  replace q0_1 := keep_frozen (w1 := w2) hb c0_1 q0_1
  replace c0_0 := keep_cell hb c0_0
  replace c0_1 := keep_cell hb c0_1
  replace q0 := keep_frozen (w1 := w2) hb c1_0 q0
  replace c1_0 := keep_cell (w1 := w2) hb c1_0
  replace q1 := keep_frozen (w1 := w2) hb c1_1 q1
  replace c1_1 := keep_cell (w1 := w2) hb c1_1
  replace q2 := keep_frozen (w1 := w2) hb c1_2 q2
  replace c1_2 := keep_cell (w1 := w2) hb c1_2
  replace Ha := Lib.hid (Ha.out.below hb (Nat.le_refl _))
  replace Hb := Lib.hid (Hb.out.below hb (Nat.le_refl _))
  replace Hg := Lib.hid (Hg.out.below hb (Nat.le_refl _))
  replace B0 := B0.trans (hb.mono B0.size)
  clear hb
  go_wp2_with fail
  refine (natDiv_n _ _ _ _ _ x.natAbs g z.natAbs Ha.out Hg.out hl1 hgp HN).mono ?_
  rintro e w3 ⟨vn, ve, rfl, ho1, ho2, ha, hb⟩
  replace q0_0 := keep_frozen (w1 := w3) hb c0_0 q0_0
  replace q0_1 := keep_frozen (w1 := w3) hb c0_1 q0_1
  replace c0_0 := keep_cell hb c0_0
  replace c0_1 := keep_cell hb c0_1
  replace q0 := keep_frozen (w1 := w3) hb c1_0 q0
  replace c1_0 := keep_cell (w1 := w3) hb c1_0
  replace q1 := keep_frozen (w1 := w3) hb c1_1 q1
  replace c1_1 := keep_cell (w1 := w3) hb c1_1
  replace q2 := keep_frozen (w1 := w3) hb c1_2 q2
  replace c1_2 := keep_cell (w1 := w3) hb c1_2
  replace Ha := Lib.hid (Ha.out.below hb (Nat.le_refl _))
  replace Hb := Lib.hid (Hb.out.below hb (Nat.le_refl _))
  replace Hg := Lib.hid (Hg.out.below hb (Nat.le_refl _))
  have Hn := Lib.hid (ho1.mono B0.size)
  clear ho1
  have He := Lib.hid (ho2.mono B0.size)
  clear ho2
  clear ha
  replace B0 := B0.trans (hb.mono B0.size)
  clear hb
  go_wp2_with fail
  refine (natDiv_n _ _ _ _ _ d g m Hb.out Hg.out hl2 hgp HM).mono ?_
  rintro e w4 ⟨vm, vk, rfl, ho1, ho2, ha, hb⟩
  have HAP0 := apart_new Hn.out (.inr rfl) ho1
  replace q0_0 := keep_frozen (w1 := w4) hb c0_0 q0_0
  replace q0_1 := keep_frozen (w1 := w4) hb c0_1 q0_1
  replace c0_0 := keep_cell hb c0_0
  replace c0_1 := keep_cell hb c0_1
  replace q0 := keep_frozen (w1 := w4) hb c1_0 q0
  replace c1_0 := keep_cell (w1 := w4) hb c1_0
  replace q1 := keep_frozen (w1 := w4) hb c1_1 q1
  replace c1_1 := keep_cell (w1 := w4) hb c1_1
  replace q2 := keep_frozen (w1 := w4) hb c1_2 q2
  replace c1_2 := keep_cell (w1 := w4) hb c1_2
  replace Ha := Lib.hid (Ha.out.below hb (Nat.le_refl _))
  replace Hb := Lib.hid (Hb.out.below hb (Nat.le_refl _))
  replace Hg := Lib.hid (Hg.out.below hb (Nat.le_refl _))
  replace Hn := Lib.hid (Hn.out.below hb (Nat.le_refl _))
  replace He := Lib.hid (He.out.below hb (Nat.le_refl _))
  have Hm := Lib.hid (ho1.mono B0.size)
  clear ho1
  have Hk := Lib.hid (ho2.mono B0.size)
  clear ho2
  clear ha
  obtain ⟨am, cm, rfl, -, -, -, -, -⟩ := Hm.out.form
  replace B0 := B0.trans (hb.mono B0.size)
  clear hb
  go_wp2_with fail
  refine (signed_z _ _ _ _ z Hn.out HS.out).mono ?_
  rintro e w5 ⟨vr, rfl, ho2, hp, hb⟩
  replace q0_0 := keep_frozen (w1 := w5) hb c0_0 q0_0
  replace q0_1 := keep_frozen (w1 := w5) hb c0_1 q0_1
  replace c0_0 := keep_cell hb c0_0
  replace c0_1 := keep_cell hb c0_1
  replace q0 := keep_frozen (w1 := w5) hb c1_0 q0
  replace c1_0 := keep_cell (w1 := w5) hb c1_0
  replace q1 := keep_frozen (w1 := w5) hb c1_1 q1
  replace c1_1 := keep_cell (w1 := w5) hb c1_1
  replace q2 := keep_frozen (w1 := w5) hb c1_2 q2
  replace c1_2 := keep_cell (w1 := w5) hb c1_2
  replace Ha := Lib.hid (Ha.out.below hb (Nat.le_refl _))
  replace Hb := Lib.hid (Hb.out.below hb (Nat.le_refl _))
  replace Hg := Lib.hid (Hg.out.below hb (Nat.le_refl _))
  replace Hn := Lib.hid (Hn.out.below hb (Nat.le_refl _))
  replace He := Lib.hid (He.out.below hb (Nat.le_refl _))
  replace Hm := Lib.hid (Hm.out.below hb (Nat.le_refl _))
  replace Hk := Lib.hid (Hk.out.below hb (Nat.le_refl _))
  have Hr := Lib.hid ho2
  clear ho2
  have HAP := apart_part HAP0 hp
  obtain ⟨ar, cr, rfl, -, -, -, -, -⟩ := Hr.out.form
  replace B0 := B0.trans (hb.mono B0.size)
  clear hb
  have ne1 : ¬ w.heap.size = w.heap.size + 1 := by omega
  go_wp2
  exact bodyPost_ret (v := .agg #[.bool false, .slice none 0 0, .slice none 0 0]) (by simp [results, Try.results90, go_sem, c1_0, c1_1, c1_2]) rfl (retL_nil (set3_below ((Below.setCell (BW.trans (B0.mono BW.size)) (p := ⟨w.heap.size, 0, none⟩) (Nat.le_refl _) _).setCell (p := ⟨w.heap.size, 1, none⟩) (Nat.le_refl _) _) (by omega)))

set_option maxHeartbeats 1000000 in
theorem lowest_g2 (w : World) (b : Nat) (v1 v2 : Value) (x : Int) (d : Nat) (h1 : Own w b v1 (limbs x.natAbs)) (h2 : Own w b v2 (limbs d)) (_hb : b ≤ w.heap.size) (hl1 : (limbs x.natAbs).length ≤ 900) (hl2 : (limbs d).length ≤ 900) (hd : 0 < d) (hx : 0 < x.natAbs) (g m : Nat) (z : Int) (hg : g = Nat.gcd d x.natAbs) (hg1 : g ≠ 1) (hn : z.natAbs = x.natAbs / g) (hm : m = d / g) (hs : z ≠ 0 → ng x = ng z) (hf1 : (limbs z.natAbs).length ≤ 24) (hf2 : 24 < (limbs m).length) :
    Calls Try.prog 90 #[.agg #[.bool (ng x), v1], v2] w (RetL w b v1 v2 0 0) := by
  obtain ⟨a1, c1, rfl, -, -, -, -, -⟩ := h1.form
  obtain ⟨a2, c2, rfl, -, -, -, -, -⟩ := h2.form
  have BW : Below w.heap.size w ((w.alloc (.cells #[.bool (ng x), (.slice a1 (limbs x.natAbs).length c1)] 43)).alloc (.cells #[.bool false, .slice none 0 0, .slice none 0 0] 45)) := (((Below.refl w.heap.size w).alloc (Nat.le_refl _) _).alloc (by simp) _)
  obtain ⟨c0_0, c0_1, q0_0, q0_1, c1_0, c1_1, c1_2, q0, q1, q2⟩ : World.cell? ((w.alloc (.cells #[.bool (ng x), (.slice a1 (limbs x.natAbs).length c1)] 43)).alloc (.cells #[.bool false, .slice none 0 0, .slice none 0 0] 45)) ⟨w.heap.size, 0, none⟩ = some (.bool (ng x)) ∧ World.cell? ((w.alloc (.cells #[.bool (ng x), (.slice a1 (limbs x.natAbs).length c1)] 43)).alloc (.cells #[.bool false, .slice none 0 0, .slice none 0 0] 45)) ⟨w.heap.size, 1, none⟩ = some ((.slice a1 (limbs x.natAbs).length c1)) ∧ World.frozen? ((w.alloc (.cells #[.bool (ng x), (.slice a1 (limbs x.natAbs).length c1)] 43)).alloc (.cells #[.bool false, .slice none 0 0, .slice none 0 0] 45)) ⟨w.heap.size, 0, none⟩ = false ∧ World.frozen? ((w.alloc (.cells #[.bool (ng x), (.slice a1 (limbs x.natAbs).length c1)] 43)).alloc (.cells #[.bool false, .slice none 0 0, .slice none 0 0] 45)) ⟨w.heap.size, 1, none⟩ = false ∧ World.cell? ((w.alloc (.cells #[.bool (ng x), (.slice a1 (limbs x.natAbs).length c1)] 43)).alloc (.cells #[.bool false, .slice none 0 0, .slice none 0 0] 45)) ⟨w.heap.size + 1, 0, none⟩ = some (.bool false) ∧ World.cell? ((w.alloc (.cells #[.bool (ng x), (.slice a1 (limbs x.natAbs).length c1)] 43)).alloc (.cells #[.bool false, .slice none 0 0, .slice none 0 0] 45)) ⟨w.heap.size + 1, 1, none⟩ = some (.slice none 0 0) ∧ World.cell? ((w.alloc (.cells #[.bool (ng x), (.slice a1 (limbs x.natAbs).length c1)] 43)).alloc (.cells #[.bool false, .slice none 0 0, .slice none 0 0] 45)) ⟨w.heap.size + 1, 2, none⟩ = some (.slice none 0 0) ∧ World.frozen? ((w.alloc (.cells #[.bool (ng x), (.slice a1 (limbs x.natAbs).length c1)] 43)).alloc (.cells #[.bool false, .slice none 0 0, .slice none 0 0] 45)) ⟨w.heap.size + 1, 0, none⟩ = false ∧ World.frozen? ((w.alloc (.cells #[.bool (ng x), (.slice a1 (limbs x.natAbs).length c1)] 43)).alloc (.cells #[.bool false, .slice none 0 0, .slice none 0 0] 45)) ⟨w.heap.size + 1, 1, none⟩ = false ∧ World.frozen? ((w.alloc (.cells #[.bool (ng x), (.slice a1 (limbs x.natAbs).length c1)] 43)).alloc (.cells #[.bool false, .slice none 0 0, .slice none 0 0] 45)) ⟨w.heap.size + 1, 2, none⟩ = false := by simp [go_sem]
  have hg0 : w.heap.size + 1 < (((w.alloc (.cells #[.bool (ng x), (.slice a1 (limbs x.natAbs).length c1)] 43)).alloc (.cells #[.bool false, .slice none 0 0, .slice none 0 0] 45))).heap.size := World.block_lt_of_cell? _ _ c1_0
  have hgN : w.heap.size < (((w.alloc (.cells #[.bool (ng x), (.slice a1 (limbs x.natAbs).length c1)] 43)).alloc (.cells #[.bool false, .slice none 0 0, .slice none 0 0] 45))).heap.size := World.block_lt_of_cell? _ _ c0_0
  have Ia := Lib.hid h1
  have Ha := Lib.hid (h1.below BW (Nat.le_refl _))
  have Ib := Lib.hid h2
  have Hb := Lib.hid (h2.below BW (Nat.le_refl _))
  clear h1 h2
  have dz0 : ((limbs x.natAbs).length == 0) = false := beq_eq_false_iff_ne.2 (by have := limbs_len_pos.2 hx; omega)
  have dy0 : (((limbs x.natAbs).length : Int) == 0) = false := beq_eq_false_iff_ne.2 (by have := limbs_len_pos.2 hx; omega)
  have HD := Lib.hid hd
  have HG := Lib.hid hg
  have gx : decide (24 < (limbs z.natAbs).length) = false := decide_eq_false (by omega)
  have gix : decide ((24 : Int) < (limbs z.natAbs).length) = false := decide_eq_false (by omega)
  have gy : decide (24 < (limbs m).length) = true := decide_eq_true (by omega)
  have giy : decide ((24 : Int) < (limbs m).length) = true := decide_eq_true (by omega)
  have HN : Hid (z.natAbs = x.natAbs / g) := hn
  have HM : Hid (m = d / g) := hm
  have HS : Hid (z ≠ 0 → ng x = ng z) := hs
  have hgp : 0 < g := by rw [hg]; exact Nat.gcd_pos_of_pos_left _ hd
  clear hn hm hs
  clear hd hg hx
  go_enter Try.func90, Try.ntmps90
  go_wp2_with fail
  generalize ((w.alloc (.cells #[.bool (ng x), (.slice a1 (limbs x.natAbs).length c1)] 43)).alloc (.cells #[.bool false, .slice none 0 0, .slice none 0 0] 45)) = w0 at *
  have B0 := Below.refl w0.heap.size w0
  refine (gcd_i _ _ _ _ _ d x.natAbs Hb.out Ha.out hl2 hl1 HD.out g HG).mono ?_
  rintro e w1 ⟨vg, rfl, ho1, hb⟩
  replace q0_0 := keep_frozen (w1 := w1) hb c0_0 q0_0
  replace q0_1 := keep_frozen (w1 := w1) hb c0_1 q0_1
  replace c0_0 := keep_cell hb c0_0
  replace c0_1 := keep_cell hb c0_1
  replace q0 := keep_frozen (w1 := w1) hb c1_0 q0
  replace c1_0 := keep_cell (w1 := w1) hb c1_0
  replace q1 := keep_frozen (w1 := w1) hb c1_1 q1
  replace c1_1 := keep_cell (w1 := w1) hb c1_1
  replace q2 := keep_frozen (w1 := w1) hb c1_2 q2
  replace c1_2 := keep_cell (w1 := w1) hb c1_2
  replace Ha := Lib.hid (Ha.out.below hb (Nat.le_refl _))
  replace Hb := Lib.hid (Hb.out.below hb (Nat.le_refl _))
  have Hg := Lib.hid (ho1.mono B0.size)
  clear ho1
  replace B0 := B0.trans (hb.mono B0.size)
  clear hb
  go_wp2_with fail
  refine (isOne_f _ _ _ g Hg.out hg1).mono ?_
  rintro e w2 ⟨rfl, hb⟩
  replace q0_0 := keep_frozen (w1 := w2) hb c0_0 q0_0
  replace q0_1 := keep_frozen (w1 := w2) hb c0_1 q0_1
  replace c0_0 := keep_cell hb c0_0
  replace c0_1 := keep_cell hb c0_1
  replace q0 := keep_frozen (w1 := w2) hb c1_0 q0
  replace c1_0 := keep_cell (w1 := w2) hb c1_0
  replace q1 := keep_frozen (w1 := w2) hb c1_1 q1
  replace c1_1 := keep_cell (w1 := w2) hb c1_1
  replace q2 := keep_frozen (w1 := w2) hb c1_2 q2
  replace c1_2 := keep_cell (w1 := w2) hb c1_2
  replace Ha := Lib.hid (Ha.out.below hb (Nat.le_refl _))
  replace Hb := Lib.hid (Hb.out.below hb (Nat.le_refl _))
  replace Hg := Lib.hid (Hg.out.below hb (Nat.le_refl _))
  replace B0 := B0.trans (hb.mono B0.size)
  clear hb
  go_wp2_with fail
  refine (natDiv_n _ _ _ _ _ x.natAbs g z.natAbs Ha.out Hg.out hl1 hgp HN).mono ?_
  rintro e w3 ⟨vn, ve, rfl, ho1, ho2, ha, hb⟩
  replace q0_0 := keep_frozen (w1 := w3) hb c0_0 q0_0
  replace q0_1 := keep_frozen (w1 := w3) hb c0_1 q0_1
  replace c0_0 := keep_cell hb c0_0
  replace c0_1 := keep_cell hb c0_1
  replace q0 := keep_frozen (w1 := w3) hb c1_0 q0
  replace c1_0 := keep_cell (w1 := w3) hb c1_0
  replace q1 := keep_frozen (w1 := w3) hb c1_1 q1
  replace c1_1 := keep_cell (w1 := w3) hb c1_1
  replace q2 := keep_frozen (w1 := w3) hb c1_2 q2
  replace c1_2 := keep_cell (w1 := w3) hb c1_2
  replace Ha := Lib.hid (Ha.out.below hb (Nat.le_refl _))
  replace Hb := Lib.hid (Hb.out.below hb (Nat.le_refl _))
  replace Hg := Lib.hid (Hg.out.below hb (Nat.le_refl _))
  have Hn := Lib.hid (ho1.mono B0.size)
  clear ho1
  have He := Lib.hid (ho2.mono B0.size)
  clear ho2
  clear ha
  replace B0 := B0.trans (hb.mono B0.size)
  clear hb
  go_wp2_with fail
  refine (natDiv_n _ _ _ _ _ d g m Hb.out Hg.out hl2 hgp HM).mono ?_
  rintro e w4 ⟨vm, vk, rfl, ho1, ho2, ha, hb⟩
  have HAP0 := apart_new Hn.out (.inr rfl) ho1
  replace q0_0 := keep_frozen (w1 := w4) hb c0_0 q0_0
  replace q0_1 := keep_frozen (w1 := w4) hb c0_1 q0_1
  replace c0_0 := keep_cell hb c0_0
  replace c0_1 := keep_cell hb c0_1
  replace q0 := keep_frozen (w1 := w4) hb c1_0 q0
  replace c1_0 := keep_cell (w1 := w4) hb c1_0
  replace q1 := keep_frozen (w1 := w4) hb c1_1 q1
  replace c1_1 := keep_cell (w1 := w4) hb c1_1
  replace q2 := keep_frozen (w1 := w4) hb c1_2 q2
  replace c1_2 := keep_cell (w1 := w4) hb c1_2
  replace Ha := Lib.hid (Ha.out.below hb (Nat.le_refl _))
  replace Hb := Lib.hid (Hb.out.below hb (Nat.le_refl _))
  replace Hg := Lib.hid (Hg.out.below hb (Nat.le_refl _))
  replace Hn := Lib.hid (Hn.out.below hb (Nat.le_refl _))
  replace He := Lib.hid (He.out.below hb (Nat.le_refl _))
  have Hm := Lib.hid (ho1.mono B0.size)
  clear ho1
  have Hk := Lib.hid (ho2.mono B0.size)
  clear ho2
  clear ha
  obtain ⟨am, cm, rfl, -, -, -, -, -⟩ := Hm.out.form
  replace B0 := B0.trans (hb.mono B0.size)
  clear hb
  go_wp2_with fail
  refine (signed_z _ _ _ _ z Hn.out HS.out).mono ?_
  rintro e w5 ⟨vr, rfl, ho2, hp, hb⟩
  replace q0_0 := keep_frozen (w1 := w5) hb c0_0 q0_0
  replace q0_1 := keep_frozen (w1 := w5) hb c0_1 q0_1
  replace c0_0 := keep_cell hb c0_0
  replace c0_1 := keep_cell hb c0_1
  replace q0 := keep_frozen (w1 := w5) hb c1_0 q0
  replace c1_0 := keep_cell (w1 := w5) hb c1_0
  replace q1 := keep_frozen (w1 := w5) hb c1_1 q1
  replace c1_1 := keep_cell (w1 := w5) hb c1_1
  replace q2 := keep_frozen (w1 := w5) hb c1_2 q2
  replace c1_2 := keep_cell (w1 := w5) hb c1_2
  replace Ha := Lib.hid (Ha.out.below hb (Nat.le_refl _))
  replace Hb := Lib.hid (Hb.out.below hb (Nat.le_refl _))
  replace Hg := Lib.hid (Hg.out.below hb (Nat.le_refl _))
  replace Hn := Lib.hid (Hn.out.below hb (Nat.le_refl _))
  replace He := Lib.hid (He.out.below hb (Nat.le_refl _))
  replace Hm := Lib.hid (Hm.out.below hb (Nat.le_refl _))
  replace Hk := Lib.hid (Hk.out.below hb (Nat.le_refl _))
  have Hr := Lib.hid ho2
  clear ho2
  have HAP := apart_part HAP0 hp
  obtain ⟨ar, cr, rfl, -, -, -, -, -⟩ := Hr.out.form
  replace B0 := B0.trans (hb.mono B0.size)
  clear hb
  have ne1 : ¬ w.heap.size = w.heap.size + 1 := by omega
  go_wp2
  exact bodyPost_ret (v := .agg #[.bool false, .slice none 0 0, .slice none 0 0]) (by simp [results, Try.results90, go_sem, c1_0, c1_1, c1_2]) rfl (retL_nil (set3_below ((Below.setCell (BW.trans (B0.mono BW.size)) (p := ⟨w.heap.size, 0, none⟩) (Nat.le_refl _) _).setCell (p := ⟨w.heap.size, 1, none⟩) (Nat.le_refl _) _) (by omega)))

theorem lowest_c (w : World) (b : Nat) (v1 v2 : Value) (x : Int) (d : Nat) (h1 : Own w b v1 (limbs x.natAbs)) (h2 : Own w b v2 (limbs d)) (hb : b ≤ w.heap.size) (hl1 : (limbs x.natAbs).length ≤ 900) (hl2 : (limbs d).length ≤ 900) (hd : 0 < d) (z : Int) (e : Nat) (hz : Hid (z = lowZ x d)) (he : Hid (e = lowD x d)) :
    Calls Try.prog 90 #[.agg #[.bool (ng x), v1], v2] w (RetL w b v1 v2 z e) := by
  rw [hz.out, he.out]
  by_cases hx : x.natAbs = 0
  · have e0 : x = 0 := by omega
    subst e0
    have hf : FitQ 0 d := ⟨hd, by simp [Fit, limbs_zero], by simp [Fit, Nat.div_self hd, limbs_one]⟩
    obtain ⟨e1, e2⟩ := low_yes hf
    rw [e1, e2]
    rw [show (0 : Int).natAbs = 0 from rfl, Nat.gcd_zero_left, Nat.div_self hd, Int.zero_ediv]
    exact lowest_zero w b v1 v2 0 d h1 h2 hb rfl
  have hx0 : 0 < x.natAbs := by omega
  by_cases hg : Nat.gcd x.natAbs d = 1
  · have hg' : 1 = Nat.gcd d x.natAbs := by rw [Nat.gcd_comm, hg]
    by_cases h3 : (limbs x.natAbs).length ≤ 24
    · by_cases h4 : (limbs d).length ≤ 24
      · obtain ⟨e1, e2⟩ := low_of_isQ (z := x) (d := d) ⟨hd, hg, h3, h4⟩
        rw [e1, e2]
        exact lowest_1y w b v1 v2 x d h1 h2 hb hl1 hl2 hd hx0 hg' h3 h4
      · obtain ⟨e1, e2⟩ := low_no (z := x) (d := d) (fun h => by have := h.2.2; rw [hg, Nat.div_one] at this; exact h4 this)
        rw [e1, e2]
        exact lowest_12 w b v1 v2 x d h1 h2 hb hl1 hl2 hd hx0 hg' h3 (by omega)
    · obtain ⟨e1, e2⟩ := low_no (z := x) (d := d) (fun h => by have := h.2.1; rw [hg, Nat.div_one] at this; exact h3 this)
      rw [e1, e2]
      exact lowest_11 w b v1 v2 x d h1 h2 hb hl1 hl2 hd hx0 hg' (by omega)
  · have hdv : Nat.gcd x.natAbs d ∣ x.natAbs := Nat.gcd_dvd_left _ _
    have hn := natAbs_ediv_dvd (z := x) hdv
    have hgp : 0 < Nat.gcd x.natAbs d := gcd_pos_den hd
    have hs : x / ((Nat.gcd x.natAbs d : Nat) : Int) ≠ 0 → ng x = ng (x / ((Nat.gcd x.natAbs d : Nat) : Int)) := fun _ => by
      have h5 := ediv_neg_iff hgp hdv
      rcases ng_cases x with ⟨h6, e6⟩ | ⟨h6, e6⟩
      · rw [e6, ng_neg (h5.2 h6)]
      · rw [e6, ng_nonneg (by omega)]
    have hgc : Nat.gcd x.natAbs d = Nat.gcd d x.natAbs := Nat.gcd_comm _ _
    by_cases h3 : (limbs (x.natAbs / Nat.gcd x.natAbs d)).length ≤ 24
    · by_cases h4 : (limbs (d / Nat.gcd x.natAbs d)).length ≤ 24
      · obtain ⟨e1, e2⟩ := low_yes (z := x) (d := d) ⟨hd, h3, h4⟩
        rw [e1, e2]
        exact lowest_gy w b v1 v2 x d h1 h2 hb hl1 hl2 hd hx0 _ _ _ hgc hg hn rfl hs (by rw [hn]; exact h3) h4
      · obtain ⟨e1, e2⟩ := low_no (z := x) (d := d) (fun h => h4 h.2.2)
        rw [e1, e2]
        exact lowest_g2 w b v1 v2 x d h1 h2 hb hl1 hl2 hd hx0 _ (d / Nat.gcd x.natAbs d) _ hgc hg hn rfl hs (by rw [hn]; exact h3) (by omega)
    · obtain ⟨e1, e2⟩ := low_no (z := x) (d := d) (fun h => h3 h.2.1)
      rw [e1, e2]
      exact lowest_g1 w b v1 v2 x d h1 h2 hb hl1 hl2 hd hx0 _ (d / Nat.gcd x.natAbs d) _ hgc hg hn rfl hs (by rw [hn]; omega)

end Go.Proofs.Ytcmhpdhcpkhejaa
