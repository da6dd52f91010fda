/- FnExactBigIntFloorDiv: the program's BigIntFloorDiv answers what the reference's BigIntFloorDiv answers, for every input; no condition. -/
import Derived.Test.YtjhgomdfbljgdaaBigS
import Derived.Test.YtjhgomdfbljgdaaLawZ
import Derived.Test.YtjhgomdfbljgdaaLawK
namespace Go.Proofs.Ytjhgomdfbljgdaa.lawBigIntFloorDiv
open Go.ChangeShapes Go.WideShapes Go.ChangeAt Go.RowKit Lm Go.Proofs.Ytjhgomdfbljgdaa

set_option maxHeartbeats 4000000 in
set_option maxRecDepth 100000 in
theorem walk (w : World) (s0 : Bool) (a0 : Value) (x0 : List Int) (h0 : Rd w a0 x0) (hm0 : x0.length ≤ 9223372036854775807) (a1 : Value) (x1 : List Int) (h1 : Rd w a1 x1) (t0 : Bool) (r0 : List Int) (hr0 : r0.length ≤ 1000) (r1 : List Int) (hr1 : r1.length ≤ 1000)
    (C1 : ∀ (w : World) (b0 : Nat) (u0 : Value) (b1 : Nat) (u1 : Value), Own w b0 u0 x0 → Own w b1 u1 x1 → Calls Try.prog 64 #[.agg #[.bool s0, u0], u1] w (RetGS w t0 r0 r1))
    (C2 : ∀ (w : World) (b0 : Nat) (u0 : Value) (b1 : Nat) (u1 : Value), Own w b0 u0 x0 → Own w b1 u1 x1 → Calls Try.prog 65 #[.agg #[.bool s0, u0], u1] w (RetGS w t0 r0 r1)) :
    Calls Try.prog 20 #[.agg #[.bool s0, a0], a1] w (RetB w true) := by
  obtain ⟨p0, q0, hv0, hc0⟩ := id h0
  subst hv0
  clear hc0
  obtain ⟨p1, q1, hv1, hc1⟩ := id h1
  subst hv1
  clear hc1
  have R0 := Lib.hid h0
  have R1 := Lib.hid h1
  have K1 := Lib.hid C1
  have K2 := Lib.hid C2
  clear h0 h1 C1 C2
  by_cases hl1 : x1.length ≤ 1048576
  case neg =>
    have d1 : decide ((1048576 : Int) < x1.length) = true := decide_eq_true (by omega)
    go_enter Try.func20, Try.ntmps20
    go_wp2
    go_ret
    exact retB rfl ((Below.refl _ _).alloc (Nat.le_refl _) _)
  case pos =>
    by_cases hlx0 : (0 : Int) ≤ 1048576 - (x0.length : Int)
    case neg =>
      have HL : Hid (1048576 - (x0.length : Int) < 0) := by unfold Hid; omega
      have BW : Below w.heap.size w (w.alloc (.cells #[.bool s0, .slice p0 x0.length q0] 30)) := ((Below.refl w.heap.size w).alloc (Nat.le_refl _) _)
      obtain ⟨c0_0, c0_1⟩ : World.cell? (w.alloc (.cells #[.bool s0, .slice p0 x0.length q0] 30)) ⟨w.heap.size, 0, none⟩ = some (.bool s0) ∧ World.cell? (w.alloc (.cells #[.bool s0, .slice p0 x0.length q0] 30)) ⟨w.heap.size, 1, none⟩ = some (.slice p0 x0.length q0) := by simp [go_sem]
      have d1 : decide ((1048576 : Int) < x1.length) = false := decide_eq_false (by omega)
      go_enter Try.func20, Try.ntmps20
      go_wp2_with fail
      generalize (w.alloc (.cells #[.bool s0, .slice p0 x0.length q0] 30)) = w0 at *
      have B0 := Below.refl w0.heap.size w0
      refine (szBigInt_x _ s0 x0.length _ _ (1048576) HL.out (by omega) hm0 (by omega)).mono ?_
      rintro e w1 ⟨rfl, hb⟩
      replace c0_0 := keep_cell hb c0_0
      replace c0_1 := keep_cell hb c0_1
      replace B0 := B0.trans (hb.mono B0.size)
      clear hb
      go_wp2
      go_ret
      exact retB rfl (BW.trans (B0.mono BW.size))
    case pos =>
      have hx0 : x0.length ≤ 17592186044415 := by omega
      have BW : Below w.heap.size w (w.alloc (.cells #[.bool s0, .slice p0 x0.length q0] 30)) := ((Below.refl w.heap.size w).alloc (Nat.le_refl _) _)
      obtain ⟨c0_0, c0_1⟩ : World.cell? (w.alloc (.cells #[.bool s0, .slice p0 x0.length q0] 30)) ⟨w.heap.size, 0, none⟩ = some (.bool s0) ∧ World.cell? (w.alloc (.cells #[.bool s0, .slice p0 x0.length q0] 30)) ⟨w.heap.size, 1, none⟩ = some (.slice p0 x0.length q0) := by simp [go_sem]
      have d1 : decide ((1048576 : Int) < x1.length) = false := decide_eq_false (by omega)
      go_enter Try.func20, Try.ntmps20
      go_wp2_with fail
      generalize (w.alloc (.cells #[.bool s0, .slice p0 x0.length q0] 30)) = w0 at *
      have B0 := Below.refl w0.heap.size w0
      refine (szBigInt_ok _ s0 x0.length _ _ (1048576) hlx0 (by omega)).mono ?_
      rintro e w1 ⟨rfl, hb⟩
      replace c0_0 := keep_cell hb c0_0
      replace c0_1 := keep_cell hb c0_1
      replace B0 := B0.trans (hb.mono B0.size)
      clear hb
      have dl0 : decide (1048576 - (x0.length : Int) < 0) = false := decide_eq_false (by omega)
      go_wp2_with fail
      refine (toBigInt_c _ _ s0 x0 (R0.out.below (BW.trans (B0.mono BW.size))) hx0).mono ?_
      rintro e w2 ⟨vy0m, rfl, ho1, hb⟩
      replace c0_0 := keep_cell hb c0_0
      replace c0_1 := keep_cell hb c0_1
      have Hy0m := Lib.hid (ho1.mono B0.size)
      clear ho1
      obtain ⟨ay0m, cy0m, rfl, -, -, -, -, -⟩ := Hy0m.out.form
      replace B0 := B0.trans (hb.mono B0.size)
      clear hb
      go_wp2_with fail
      refine (toIntS_c _ _ x1 (R1.out.below (BW.trans (B0.mono BW.size))) (by omega)).mono ?_
      rintro e w3 ⟨vy1, rfl, ho1, hb⟩
      replace c0_0 := keep_cell hb c0_0
      replace c0_1 := keep_cell hb c0_1
      replace Hy0m := Lib.hid (Hy0m.out.below hb (Nat.le_refl _))
      have Hy1 := Lib.hid (ho1.mono B0.size)
      clear ho1
      replace B0 := B0.trans (hb.mono B0.size)
      clear hb
      go_wp2_with fail
      refine (K1.out _ _ _ _ _ Hy0m.out Hy1.out).mono ?_
      rintro e w4 ⟨vw0m, vw1, rfl, ho1, ho2, ha, hb⟩
      replace c0_0 := keep_cell hb c0_0
      replace c0_1 := keep_cell hb c0_1
      replace Hy0m := Lib.hid (Hy0m.out.below hb (Nat.le_refl _))
      replace Hy1 := Lib.hid (Hy1.out.below hb (Nat.le_refl _))
      have Hw0m := Lib.hid (ho1.mono B0.size)
      clear ho1
      have Hw1 := Lib.hid (ho2.mono B0.size)
      clear ho2
      have HA_w0m_w1 := Lib.hid ha
      clear ha
      obtain ⟨aw0m, cw0m, rfl, -, -, -, -, -⟩ := Hw0m.out.form
      replace B0 := B0.trans (hb.mono B0.size)
      clear hb
      clear Hy0m
      clear Hy1
      have hb := alloc_bel w4 (.cells #[.bool t0, .slice aw0m r0.length cw0m] 33)
      replace c0_0 := keep_cell hb c0_0
      replace c0_1 := keep_cell hb c0_1
      replace Hw0m := Lib.hid (Hw0m.out.below hb (Nat.le_refl _))
      replace Hw1 := Lib.hid (Hw1.out.below hb (Nat.le_refl _))
      obtain ⟨bw0_0, bw0_1⟩ : World.cell? (w4.alloc (.cells #[.bool t0, .slice aw0m r0.length cw0m] 33)) ⟨w4.heap.size, 0, none⟩ = some (.bool t0) ∧ World.cell? (w4.alloc (.cells #[.bool t0, .slice aw0m r0.length cw0m] 33)) ⟨w4.heap.size, 1, none⟩ = some (.slice aw0m r0.length cw0m) := by simp [go_sem]
      replace B0 := B0.trans (hb.mono B0.size)
      clear hb
      go_wp2_with fail
      generalize w4.alloc (.cells #[.bool t0, .slice aw0m r0.length cw0m] 33) = w5 at *
      refine (toBigInt_c _ _ s0 x0 (R0.out.below (BW.trans (B0.mono BW.size))) hx0).mono ?_
      rintro e w6 ⟨vz0m, rfl, ho1, hb⟩
      have HN_z0m_c0 := Lib.hid (own_ne_old c0_0 ho1)
      have HN_z0m_bw0 := Lib.hid (own_ne_old bw0_0 ho1)
      have HA_w0m_z0m := Lib.hid (apart_new Hw0m.out (.inr rfl) ho1)
      have HA_w1_z0m := Lib.hid (apart_new Hw1.out (.inr rfl) ho1)
      replace c0_0 := keep_cell hb c0_0
      replace c0_1 := keep_cell hb c0_1
      replace bw0_0 := keep_cell hb bw0_0
      replace bw0_1 := keep_cell hb bw0_1
      replace Hw0m := Lib.hid (Hw0m.out.below hb (Nat.le_refl _))
      replace Hw1 := Lib.hid (Hw1.out.below hb (Nat.le_refl _))
      have Hz0m := Lib.hid (ho1.mono B0.size)
      clear ho1
      obtain ⟨az0m, cz0m, rfl, -, -, -, -, -⟩ := Hz0m.out.form
      replace B0 := B0.trans (hb.mono B0.size)
      clear hb
      have HN_z0m_bx0 := Lib.hid (own_ne_new Hz0m.out)
      have hb := alloc_bel w6 (.cells #[.bool s0, .slice az0m x0.length cz0m] 33)
      replace c0_0 := keep_cell hb c0_0
      replace c0_1 := keep_cell hb c0_1
      replace bw0_0 := keep_cell hb bw0_0
      replace bw0_1 := keep_cell hb bw0_1
      replace Hw0m := Lib.hid (Hw0m.out.below hb (Nat.le_refl _))
      replace Hw1 := Lib.hid (Hw1.out.below hb (Nat.le_refl _))
      replace Hz0m := Lib.hid (Hz0m.out.below hb (Nat.le_refl _))
      obtain ⟨bx0_0, bx0_1⟩ : World.cell? (w6.alloc (.cells #[.bool s0, .slice az0m x0.length cz0m] 33)) ⟨w6.heap.size, 0, none⟩ = some (.bool s0) ∧ World.cell? (w6.alloc (.cells #[.bool s0, .slice az0m x0.length cz0m] 33)) ⟨w6.heap.size, 1, none⟩ = some (.slice az0m x0.length cz0m) := by simp [go_sem]
      replace B0 := B0.trans (hb.mono B0.size)
      clear hb
      go_wp2_with fail
      generalize w6.alloc (.cells #[.bool s0, .slice az0m x0.length cz0m] 33) = w7 at *
      refine (toIntS_c _ _ x1 (R1.out.below (BW.trans (B0.mono BW.size))) (by omega)).mono ?_
      rintro e w8 ⟨vz1, rfl, ho1, hb⟩
      have HN_z1_c0 := Lib.hid (own_ne_old c0_0 ho1)
      have HN_z1_bw0 := Lib.hid (own_ne_old bw0_0 ho1)
      have HN_z1_bx0 := Lib.hid (own_ne_old bx0_0 ho1)
      have HA_w0m_z1 := Lib.hid (apart_new Hw0m.out (.inr rfl) ho1)
      have HA_w1_z1 := Lib.hid (apart_new Hw1.out (.inr rfl) ho1)
      have HA_z0m_z1 := Lib.hid (apart_new Hz0m.out (.inr rfl) ho1)
      replace c0_0 := keep_cell hb c0_0
      replace c0_1 := keep_cell hb c0_1
      replace bw0_0 := keep_cell hb bw0_0
      replace bw0_1 := keep_cell hb bw0_1
      replace bx0_0 := keep_cell hb bx0_0
      replace bx0_1 := keep_cell hb bx0_1
      replace Hw0m := Lib.hid (Hw0m.out.below hb (Nat.le_refl _))
      replace Hw1 := Lib.hid (Hw1.out.below hb (Nat.le_refl _))
      replace Hz0m := Lib.hid (Hz0m.out.below hb (Nat.le_refl _))
      have Hz1 := Lib.hid (ho1.mono B0.size)
      clear ho1
      replace B0 := B0.trans (hb.mono B0.size)
      clear hb
      go_wp2_with fail
      refine (K2.out _ _ _ _ _ Hz0m.out Hz1.out).mono ?_
      rintro e w9 ⟨vg0m, vg1, rfl, ho1, ho2, ha, hb⟩
      have HN_g0m_c0 := Lib.hid (own_ne_old c0_0 ho1)
      have HN_g0m_bw0 := Lib.hid (own_ne_old bw0_0 ho1)
      have HN_g0m_bx0 := Lib.hid (own_ne_old bx0_0 ho1)
      have HA_w0m_g0m := Lib.hid (apart_new Hw0m.out (.inr rfl) ho1)
      have HA_w1_g0m := Lib.hid (apart_new Hw1.out (.inr rfl) ho1)
      have HA_z0m_g0m := Lib.hid (apart_new Hz0m.out (.inr rfl) ho1)
      have HA_z1_g0m := Lib.hid (apart_new Hz1.out (.inr rfl) ho1)
      have HN_g1_c0 := Lib.hid (own_ne_old c0_0 ho2)
      have HN_g1_bw0 := Lib.hid (own_ne_old bw0_0 ho2)
      have HN_g1_bx0 := Lib.hid (own_ne_old bx0_0 ho2)
      have HA_w0m_g1 := Lib.hid (apart_new Hw0m.out (.inr rfl) ho2)
      have HA_w1_g1 := Lib.hid (apart_new Hw1.out (.inr rfl) ho2)
      have HA_z0m_g1 := Lib.hid (apart_new Hz0m.out (.inr rfl) ho2)
      have HA_z1_g1 := Lib.hid (apart_new Hz1.out (.inr rfl) ho2)
      replace c0_0 := keep_cell hb c0_0
      replace c0_1 := keep_cell hb c0_1
      replace bw0_0 := keep_cell hb bw0_0
      replace bw0_1 := keep_cell hb bw0_1
      replace bx0_0 := keep_cell hb bx0_0
      replace bx0_1 := keep_cell hb bx0_1
      replace Hw0m := Lib.hid (Hw0m.out.below hb (Nat.le_refl _))
      replace Hw1 := Lib.hid (Hw1.out.below hb (Nat.le_refl _))
      replace Hz0m := Lib.hid (Hz0m.out.below hb (Nat.le_refl _))
      replace Hz1 := Lib.hid (Hz1.out.below hb (Nat.le_refl _))
      have Hg0m := Lib.hid (ho1.mono B0.size)
      clear ho1
      have Hg1 := Lib.hid (ho2.mono B0.size)
      clear ho2
      have HA_g0m_g1 := Lib.hid ha
      clear ha
      obtain ⟨ag0m, cg0m, rfl, -, -, -, -, -⟩ := Hg0m.out.form
      replace B0 := B0.trans (hb.mono B0.size)
      clear hb
      have HN_g0m_bg0 := Lib.hid (own_ne_new Hg0m.out)
      have HN_z1_bg0 := Lib.hid (own_ne_new Hz1.out)
      have HN_z0m_bg0 := Lib.hid (own_ne_new Hz0m.out)
      have HN_g1_bg0 := Lib.hid (own_ne_new Hg1.out)
      have hb := alloc_bel w9 (.cells #[.bool t0, .slice ag0m r0.length cg0m] 33)
      replace c0_0 := keep_cell hb c0_0
      replace c0_1 := keep_cell hb c0_1
      replace bw0_0 := keep_cell hb bw0_0
      replace bw0_1 := keep_cell hb bw0_1
      replace bx0_0 := keep_cell hb bx0_0
      replace bx0_1 := keep_cell hb bx0_1
      replace Hw0m := Lib.hid (Hw0m.out.below hb (Nat.le_refl _))
      replace Hw1 := Lib.hid (Hw1.out.below hb (Nat.le_refl _))
      replace Hz0m := Lib.hid (Hz0m.out.below hb (Nat.le_refl _))
      replace Hz1 := Lib.hid (Hz1.out.below hb (Nat.le_refl _))
      replace Hg0m := Lib.hid (Hg0m.out.below hb (Nat.le_refl _))
      replace Hg1 := Lib.hid (Hg1.out.below hb (Nat.le_refl _))
      obtain ⟨bg0_0, bg0_1⟩ : World.cell? (w9.alloc (.cells #[.bool t0, .slice ag0m r0.length cg0m] 33)) ⟨w9.heap.size, 0, none⟩ = some (.bool t0) ∧ World.cell? (w9.alloc (.cells #[.bool t0, .slice ag0m r0.length cg0m] 33)) ⟨w9.heap.size, 1, none⟩ = some (.slice ag0m r0.length cg0m) := by simp [go_sem]
      replace B0 := B0.trans (hb.mono B0.size)
      clear hb
      go_wp2_with fail
      generalize w9.alloc (.cells #[.bool t0, .slice ag0m r0.length cg0m] 33) = w10 at *
      refine (eqBigInt_c _ _ _ t0 _ _ r0 Hg0m.out Hw0m.out).mono ?_
      rintro e w11 ⟨rfl, hb⟩
      replace c0_0 := keep_cell hb c0_0
      replace c0_1 := keep_cell hb c0_1
      replace bw0_0 := keep_cell hb bw0_0
      replace bw0_1 := keep_cell hb bw0_1
      replace bx0_0 := keep_cell hb bx0_0
      replace bx0_1 := keep_cell hb bx0_1
      replace bg0_0 := keep_cell hb bg0_0
      replace bg0_1 := keep_cell hb bg0_1
      replace Hw0m := Lib.hid (Hw0m.out.below hb (Nat.le_refl _))
      replace Hw1 := Lib.hid (Hw1.out.below hb (Nat.le_refl _))
      replace Hz0m := Lib.hid (Hz0m.out.below hb (Nat.le_refl _))
      replace Hz1 := Lib.hid (Hz1.out.below hb (Nat.le_refl _))
      replace Hg0m := Lib.hid (Hg0m.out.below hb (Nat.le_refl _))
      replace Hg1 := Lib.hid (Hg1.out.below hb (Nat.le_refl _))
      replace B0 := B0.trans (hb.mono B0.size)
      clear hb
      go_wp2_with fail
      refine (eqIntS_c _ _ _ _ _ r1 Hg1.out Hw1.out).mono ?_
      rintro e w12 ⟨rfl, hb⟩
      replace c0_0 := keep_cell hb c0_0
      replace c0_1 := keep_cell hb c0_1
      replace bw0_0 := keep_cell hb bw0_0
      replace bw0_1 := keep_cell hb bw0_1
      replace bx0_0 := keep_cell hb bx0_0
      replace bx0_1 := keep_cell hb bx0_1
      replace bg0_0 := keep_cell hb bg0_0
      replace bg0_1 := keep_cell hb bg0_1
      replace Hw0m := Lib.hid (Hw0m.out.below hb (Nat.le_refl _))
      replace Hw1 := Lib.hid (Hw1.out.below hb (Nat.le_refl _))
      replace Hz0m := Lib.hid (Hz0m.out.below hb (Nat.le_refl _))
      replace Hz1 := Lib.hid (Hz1.out.below hb (Nat.le_refl _))
      replace Hg0m := Lib.hid (Hg0m.out.below hb (Nat.le_refl _))
      replace Hg1 := Lib.hid (Hg1.out.below hb (Nat.le_refl _))
      replace B0 := B0.trans (hb.mono B0.size)
      clear hb
      go_wp2_with fail
      replace Hw0m := Lib.hid Hw0m.out.drew
      replace Hw1 := Lib.hid Hw1.out.drew
      replace Hz0m := Lib.hid Hz0m.out.drew
      replace Hz1 := Lib.hid Hz1.out.drew
      replace Hg0m := Lib.hid Hg0m.out.drew
      replace Hg1 := Lib.hid Hg1.out.drew
      replace B0 := below_drew B0
      replace c0_0 := cell_drew c0_0
      replace c0_1 := cell_drew c0_1
      replace bw0_0 := cell_drew bw0_0
      replace bw0_1 := cell_drew bw0_1
      replace bx0_0 := cell_drew bx0_0
      replace bx0_1 := cell_drew bx0_1
      replace bg0_0 := cell_drew bg0_0
      replace bg0_1 := cell_drew bg0_1
      go_region_held3 (fun w' => w'.cell? ⟨w.heap.size, 0, none⟩ = some (.bool s0) ∧ w'.cell? ⟨w.heap.size, 1, none⟩ = some (.slice p0 x0.length q0) ∧ w'.cell? ⟨w6.heap.size, 0, none⟩ = some (.bool s0) ∧ w'.cell? ⟨w6.heap.size, 1, none⟩ = some (.slice az0m x0.length cz0m)) (first | exact ⟨c0_0, c0_1, bx0_0, bx0_1⟩ | exact ⟨keep_cell (alloc_bel _ _) c0_0, keep_cell (alloc_bel _ _) c0_1, keep_cell (alloc_bel _ _) bx0_0, keep_cell (alloc_bel _ _) bx0_1⟩ | (go_split_ands; exact ⟨(set_far (set_far ‹_› (by dsimp only; omega)) (by dsimp only; omega)), (set_far (set_far ‹_› (by dsimp only; omega)) (by dsimp only; omega)), (set_far (set_far ‹_› (by dsimp only; omega)) (by dsimp only; omega)), (set_far (set_far ‹_› (by dsimp only; omega)) (by dsimp only; omega))⟩) | (go_split_ands; exact ⟨(set_far (set_far (set_far ‹_› (by dsimp only; omega)) (by dsimp only; omega)) (by dsimp only; omega)), (set_far (set_far (set_far ‹_› (by dsimp only; omega)) (by dsimp only; omega)) (by dsimp only; omega)), (set_far (set_far (set_far ‹_› (by dsimp only; omega)) (by dsimp only; omega)) (by dsimp only; omega)), (set_far (set_far (set_far ‹_› (by dsimp only; omega)) (by dsimp only; omega)) (by dsimp only; omega))⟩) | (go_split_ands; exact ⟨(set_far ‹_› (by dsimp only; omega)), (set_far ‹_› (by dsimp only; omega)), (set_far ‹_› (by dsimp only; omega)), (set_far ‹_› (by dsimp only; omega))⟩) | go_keep)
        (first | (go_at_call 31; refine (toBigInt_c _ _ s0 x0 (R0.out.below (BW.trans (B0.mono BW.size))) hx0).mono ?_; rintro e w13 ⟨vq0m, rfl, ho1, hb13⟩; replace c0_0 := keep_cell (w1 := w13) hb13 c0_0; replace c0_1 := keep_cell (w1 := w13) hb13 c0_1; replace bw0_0 := keep_cell (w1 := w13) hb13 bw0_0; replace bw0_1 := keep_cell (w1 := w13) hb13 bw0_1; replace bx0_0 := keep_cell (w1 := w13) hb13 bx0_0; replace bx0_1 := keep_cell (w1 := w13) hb13 bx0_1; replace bg0_0 := keep_cell (w1 := w13) hb13 bg0_0; replace bg0_1 := keep_cell (w1 := w13) hb13 bg0_1; replace Hw0m := Lib.hid (Hw0m.out.below hb13 (Nat.le_refl _)); replace Hw1 := Lib.hid (Hw1.out.below hb13 (Nat.le_refl _)); replace Hz0m := Lib.hid (Hz0m.out.below hb13 (Nat.le_refl _)); replace Hz1 := Lib.hid (Hz1.out.below hb13 (Nat.le_refl _)); replace Hg0m := Lib.hid (Hg0m.out.below hb13 (Nat.le_refl _)); replace Hg1 := Lib.hid (Hg1.out.below hb13 (Nat.le_refl _)); have Hq0m := Lib.hid (ho1.mono B0.size); clear ho1; obtain ⟨aq0m, cq0m, rfl, -, -, -, -, -⟩ := Hq0m.out.form; replace B0 := B0.trans (hb13.mono B0.size); clear hb13) | (go_at_call 33; refine (eqBigInt_c _ _ _ s0 _ _ x0 Hz0m.out Hq0m.out).mono ?_; rintro e w14 ⟨rfl, hb14⟩; replace c0_0 := keep_cell (w1 := w14) hb14 c0_0; replace c0_1 := keep_cell (w1 := w14) hb14 c0_1; replace bw0_0 := keep_cell (w1 := w14) hb14 bw0_0; replace bw0_1 := keep_cell (w1 := w14) hb14 bw0_1; replace bx0_0 := keep_cell (w1 := w14) hb14 bx0_0; replace bx0_1 := keep_cell (w1 := w14) hb14 bx0_1; replace bg0_0 := keep_cell (w1 := w14) hb14 bg0_0; replace bg0_1 := keep_cell (w1 := w14) hb14 bg0_1; replace Hw0m := Lib.hid (Hw0m.out.below hb14 (Nat.le_refl _)); replace Hw1 := Lib.hid (Hw1.out.below hb14 (Nat.le_refl _)); replace Hz0m := Lib.hid (Hz0m.out.below hb14 (Nat.le_refl _)); replace Hz1 := Lib.hid (Hz1.out.below hb14 (Nat.le_refl _)); replace Hg0m := Lib.hid (Hg0m.out.below hb14 (Nat.le_refl _)); replace Hg1 := Lib.hid (Hg1.out.below hb14 (Nat.le_refl _)); (try (replace Hq0m := Lib.hid (Hq0m.out.below hb14 (Nat.le_refl _)))); replace B0 := B0.trans (hb14.mono B0.size); clear hb14))
      clear Hq0m
      go_wp2_with fail
      refine (toIntS_c _ _ x1 (R1.out.below (BW.trans (B0.mono BW.size))) (by omega)).mono ?_
      rintro e w15 ⟨vq1, rfl, ho1, hb⟩
      replace c0_0 := keep_cell hb c0_0
      replace c0_1 := keep_cell hb c0_1
      replace bw0_0 := keep_cell hb bw0_0
      replace bw0_1 := keep_cell hb bw0_1
      replace bx0_0 := keep_cell hb bx0_0
      replace bx0_1 := keep_cell hb bx0_1
      replace bg0_0 := keep_cell hb bg0_0
      replace bg0_1 := keep_cell hb bg0_1
      replace Hw0m := Lib.hid (Hw0m.out.below hb (Nat.le_refl _))
      replace Hw1 := Lib.hid (Hw1.out.below hb (Nat.le_refl _))
      replace Hz0m := Lib.hid (Hz0m.out.below hb (Nat.le_refl _))
      replace Hz1 := Lib.hid (Hz1.out.below hb (Nat.le_refl _))
      replace Hg0m := Lib.hid (Hg0m.out.below hb (Nat.le_refl _))
      replace Hg1 := Lib.hid (Hg1.out.below hb (Nat.le_refl _))
      have Hq1 := Lib.hid (ho1.mono B0.size)
      clear ho1
      replace B0 := B0.trans (hb.mono B0.size)
      clear hb
      go_wp2_with fail
      refine (eqIntS_c _ _ _ _ _ x1 Hz1.out Hq1.out).mono ?_
      rintro e w16 ⟨rfl, hb⟩
      replace c0_0 := keep_cell hb c0_0
      replace c0_1 := keep_cell hb c0_1
      replace bw0_0 := keep_cell hb bw0_0
      replace bw0_1 := keep_cell hb bw0_1
      replace bx0_0 := keep_cell hb bx0_0
      replace bx0_1 := keep_cell hb bx0_1
      replace bg0_0 := keep_cell hb bg0_0
      replace bg0_1 := keep_cell hb bg0_1
      replace Hw0m := Lib.hid (Hw0m.out.below hb (Nat.le_refl _))
      replace Hw1 := Lib.hid (Hw1.out.below hb (Nat.le_refl _))
      replace Hz0m := Lib.hid (Hz0m.out.below hb (Nat.le_refl _))
      replace Hz1 := Lib.hid (Hz1.out.below hb (Nat.le_refl _))
      replace Hg0m := Lib.hid (Hg0m.out.below hb (Nat.le_refl _))
      replace Hg1 := Lib.hid (Hg1.out.below hb (Nat.le_refl _))
      replace Hq1 := Lib.hid (Hq1.out.below hb (Nat.le_refl _))
      replace B0 := B0.trans (hb.mono B0.size)
      clear hb
      clear Hq1
      go_wp2_with fail
      refine (markZ_c _ _ _ s0 x0 1 Hz0m.out (by omega) (by omega) (by omega)).mono ?_
      rintro e w17 ⟨k0, hm, rfl, ho1, hg⟩
      have HMk0 := Lib.hid hm
      have k00 : 0 ≤ k0 := by omega
      have k01 : k0 ≤ 10000000 := by omega
      clear hm
      replace c0_0 := keep_grown hg c0_0 HN_z0m_c0.out
      replace c0_1 := keep_grown hg c0_1 HN_z0m_c0.out
      replace bw0_0 := keep_grown hg bw0_0 HN_z0m_bw0.out
      replace bw0_1 := keep_grown hg bw0_1 HN_z0m_bw0.out
      replace bx0_0 := keep_grown hg bx0_0 HN_z0m_bx0.out
      replace bx0_1 := keep_grown hg bx0_1 HN_z0m_bx0.out
      replace bg0_0 := keep_grown hg bg0_0 HN_z0m_bg0.out
      replace bg0_1 := keep_grown hg bg0_1 HN_z0m_bg0.out
      replace Hw0m := Lib.hid (Hw0m.out.marked hg HA_w0m_z0m.out)
      replace Hw1 := Lib.hid (Hw1.out.marked hg HA_w1_z0m.out)
      replace Hz1 := Lib.hid (Hz1.out.marked hg HA_z0m_z1.out.symm)
      replace Hg0m := Lib.hid (Hg0m.out.marked hg HA_z0m_g0m.out.symm)
      replace Hg1 := Lib.hid (Hg1.out.marked hg HA_z0m_g1.out.symm)
      replace B0 := Hz0m.out.grownBelow B0 hg (Nat.le_refl _) B0.size
      clear hg
      replace Hz0m := Lib.hid ho1
      clear ho1
      clear bx0_0
      clear bx0_1
      clear Hz0m
      go_wp2_with fail
      refine (markI_c _ _ _ x1 k0 Hz1.out (by omega) (by omega) (by omega)).mono ?_
      rintro e w18 ⟨k1, hm, rfl, ho1, hg⟩
      have HMk1 := Lib.hid hm
      have k10 : 0 ≤ k1 := by omega
      have k11 : k1 ≤ 20000000 := by omega
      clear hm
      replace c0_0 := keep_grown hg c0_0 HN_z1_c0.out
      replace c0_1 := keep_grown hg c0_1 HN_z1_c0.out
      replace bw0_0 := keep_grown hg bw0_0 HN_z1_bw0.out
      replace bw0_1 := keep_grown hg bw0_1 HN_z1_bw0.out
      replace bg0_0 := keep_grown hg bg0_0 HN_z1_bg0.out
      replace bg0_1 := keep_grown hg bg0_1 HN_z1_bg0.out
      replace Hw0m := Lib.hid (Hw0m.out.marked hg HA_w0m_z1.out)
      replace Hw1 := Lib.hid (Hw1.out.marked hg HA_w1_z1.out)
      replace Hg0m := Lib.hid (Hg0m.out.marked hg HA_z1_g0m.out.symm)
      replace Hg1 := Lib.hid (Hg1.out.marked hg HA_z1_g1.out.symm)
      replace B0 := Hz1.out.grownBelow B0 hg (Nat.le_refl _) B0.size
      clear hg
      replace Hz1 := Lib.hid ho1
      clear ho1
      clear Hz1
      have dk : decide (k1 < 0) = false := decide_eq_false (by omega)
      go_wp2_with fail
      refine (eqBigInt_c _ _ _ t0 _ _ r0 Hg0m.out Hw0m.out).mono ?_
      rintro e w19 ⟨rfl, hb⟩
      replace c0_0 := keep_cell hb c0_0
      replace c0_1 := keep_cell hb c0_1
      replace bw0_0 := keep_cell hb bw0_0
      replace bw0_1 := keep_cell hb bw0_1
      replace bg0_0 := keep_cell hb bg0_0
      replace bg0_1 := keep_cell hb bg0_1
      replace Hw0m := Lib.hid (Hw0m.out.below hb (Nat.le_refl _))
      replace Hw1 := Lib.hid (Hw1.out.below hb (Nat.le_refl _))
      replace Hg0m := Lib.hid (Hg0m.out.below hb (Nat.le_refl _))
      replace Hg1 := Lib.hid (Hg1.out.below hb (Nat.le_refl _))
      replace B0 := B0.trans (hb.mono B0.size)
      clear hb
      go_wp2_with fail
      refine (eqIntS_c _ _ _ _ _ r1 Hg1.out Hw1.out).mono ?_
      rintro e w20 ⟨rfl, hb⟩
      replace c0_0 := keep_cell hb c0_0
      replace c0_1 := keep_cell hb c0_1
      replace bw0_0 := keep_cell hb bw0_0
      replace bw0_1 := keep_cell hb bw0_1
      replace bg0_0 := keep_cell hb bg0_0
      replace bg0_1 := keep_cell hb bg0_1
      replace Hw0m := Lib.hid (Hw0m.out.below hb (Nat.le_refl _))
      replace Hw1 := Lib.hid (Hw1.out.below hb (Nat.le_refl _))
      replace Hg0m := Lib.hid (Hg0m.out.below hb (Nat.le_refl _))
      replace Hg1 := Lib.hid (Hg1.out.below hb (Nat.le_refl _))
      replace B0 := B0.trans (hb.mono B0.size)
      clear hb
      go_wp2_with fail
      refine (markZ_c _ _ _ t0 r0 1 Hg0m.out (by omega) (by omega) (by omega)).mono ?_
      rintro e w21 ⟨m0, hm, rfl, ho1, hg⟩
      have HMm0 := Lib.hid hm
      have m00 : 0 ≤ m0 := by omega
      have m01 : m0 ≤ 30000000 := by omega
      clear hm
      replace c0_0 := keep_grown hg c0_0 HN_g0m_c0.out
      replace c0_1 := keep_grown hg c0_1 HN_g0m_c0.out
      replace bw0_0 := keep_grown hg bw0_0 HN_g0m_bw0.out
      replace bw0_1 := keep_grown hg bw0_1 HN_g0m_bw0.out
      replace bg0_0 := keep_grown hg bg0_0 HN_g0m_bg0.out
      replace bg0_1 := keep_grown hg bg0_1 HN_g0m_bg0.out
      replace Hw0m := Lib.hid (Hw0m.out.marked hg HA_w0m_g0m.out)
      replace Hw1 := Lib.hid (Hw1.out.marked hg HA_w1_g0m.out)
      replace Hg1 := Lib.hid (Hg1.out.marked hg HA_g0m_g1.out.symm)
      replace B0 := Hg0m.out.grownBelow B0 hg (Nat.le_refl _) B0.size
      clear hg
      replace Hg0m := Lib.hid ho1
      clear ho1
      have dm0 : decide (m0 < 0) = false := decide_eq_false (by omega)
      go_wp2_with fail
      refine (markI_c _ _ _ r1 m0 Hg1.out (by omega) (by omega) (by omega)).mono ?_
      rintro e w22 ⟨m1, hm, rfl, ho1, hg⟩
      have HMm1 := Lib.hid hm
      have m10 : 0 ≤ m1 := by omega
      have m11 : m1 ≤ 40000000 := by omega
      clear hm
      replace c0_0 := keep_grown hg c0_0 HN_g1_c0.out
      replace c0_1 := keep_grown hg c0_1 HN_g1_c0.out
      replace bw0_0 := keep_grown hg bw0_0 HN_g1_bw0.out
      replace bw0_1 := keep_grown hg bw0_1 HN_g1_bw0.out
      replace bg0_0 := keep_grown hg bg0_0 HN_g1_bg0.out
      replace bg0_1 := keep_grown hg bg0_1 HN_g1_bg0.out
      replace Hw0m := Lib.hid (Hw0m.out.marked hg HA_w0m_g1.out)
      replace Hw1 := Lib.hid (Hw1.out.marked hg HA_w1_g1.out)
      replace Hg0m := Lib.hid (Hg0m.out.marked hg HA_g0m_g1.out)
      replace B0 := Hg1.out.grownBelow B0 hg (Nat.le_refl _) B0.size
      clear hg
      replace Hg1 := Lib.hid ho1
      clear ho1
      have dm1 : decide (m1 < 0) = false := decide_eq_false (by omega)
      go_wp2_with fail
      refine (heldZ_c _ _ t0 _ r0.length 1 m0 Hg0m.out (by omega) (by omega) (by omega) HMm0.out).mono ?_
      rintro e w23 ⟨rfl, hb⟩
      replace c0_0 := keep_cell hb c0_0
      replace c0_1 := keep_cell hb c0_1
      replace bw0_0 := keep_cell hb bw0_0
      replace bw0_1 := keep_cell hb bw0_1
      replace bg0_0 := keep_cell hb bg0_0
      replace bg0_1 := keep_cell hb bg0_1
      replace Hw0m := Lib.hid (Hw0m.out.below hb (Nat.le_refl _))
      replace Hw1 := Lib.hid (Hw1.out.below hb (Nat.le_refl _))
      replace Hg0m := Lib.hid (Hg0m.out.below hb (Nat.le_refl _))
      replace Hg1 := Lib.hid (Hg1.out.below hb (Nat.le_refl _))
      replace B0 := B0.trans (hb.mono B0.size)
      clear hb
      go_wp2_with fail
      refine (heldI_c _ _ _ r1.length m0 m1 Hg1.out (by omega) (by omega) (by omega) HMm1.out).mono ?_
      rintro e w24 ⟨rfl, hb⟩
      replace c0_0 := keep_cell hb c0_0
      replace c0_1 := keep_cell hb c0_1
      replace bw0_0 := keep_cell hb bw0_0
      replace bw0_1 := keep_cell hb bw0_1
      replace bg0_0 := keep_cell hb bg0_0
      replace bg0_1 := keep_cell hb bg0_1
      replace Hw0m := Lib.hid (Hw0m.out.below hb (Nat.le_refl _))
      replace Hw1 := Lib.hid (Hw1.out.below hb (Nat.le_refl _))
      replace Hg0m := Lib.hid (Hg0m.out.below hb (Nat.le_refl _))
      replace Hg1 := Lib.hid (Hg1.out.below hb (Nat.le_refl _))
      replace B0 := B0.trans (hb.mono B0.size)
      clear hb
      go_wp2_with fail
      refine (toBigInt_c _ _ s0 x0 (R0.out.below (BW.trans (B0.mono BW.size))) hx0).mono ?_
      rintro e w25 ⟨vy0m, rfl, ho1, hb⟩
      replace c0_0 := keep_cell hb c0_0
      replace c0_1 := keep_cell hb c0_1
      replace bw0_0 := keep_cell hb bw0_0
      replace bw0_1 := keep_cell hb bw0_1
      replace bg0_0 := keep_cell hb bg0_0
      replace bg0_1 := keep_cell hb bg0_1
      replace Hw0m := Lib.hid (Hw0m.out.below hb (Nat.le_refl _))
      replace Hw1 := Lib.hid (Hw1.out.below hb (Nat.le_refl _))
      replace Hg0m := Lib.hid (Hg0m.out.below hb (Nat.le_refl _))
      replace Hg1 := Lib.hid (Hg1.out.below hb (Nat.le_refl _))
      have Hy0m := Lib.hid (ho1.mono B0.size)
      clear ho1
      obtain ⟨ay0m, cy0m, rfl, -, -, -, -, -⟩ := Hy0m.out.form
      replace B0 := B0.trans (hb.mono B0.size)
      clear hb
      go_wp2_with fail
      refine (toIntS_c _ _ x1 (R1.out.below (BW.trans (B0.mono BW.size))) (by omega)).mono ?_
      rintro e w26 ⟨vy1, rfl, ho1, hb⟩
      replace c0_0 := keep_cell hb c0_0
      replace c0_1 := keep_cell hb c0_1
      replace bw0_0 := keep_cell hb bw0_0
      replace bw0_1 := keep_cell hb bw0_1
      replace bg0_0 := keep_cell hb bg0_0
      replace bg0_1 := keep_cell hb bg0_1
      replace Hw0m := Lib.hid (Hw0m.out.below hb (Nat.le_refl _))
      replace Hw1 := Lib.hid (Hw1.out.below hb (Nat.le_refl _))
      replace Hg0m := Lib.hid (Hg0m.out.below hb (Nat.le_refl _))
      replace Hg1 := Lib.hid (Hg1.out.below hb (Nat.le_refl _))
      replace Hy0m := Lib.hid (Hy0m.out.below hb (Nat.le_refl _))
      have Hy1 := Lib.hid (ho1.mono B0.size)
      clear ho1
      replace B0 := B0.trans (hb.mono B0.size)
      clear hb
      go_wp2_with fail
      refine (K2.out _ _ _ _ _ Hy0m.out Hy1.out).mono ?_
      rintro e w27 ⟨vf0m, vf1, rfl, ho1, ho2, ha, hb⟩
      replace c0_0 := keep_cell hb c0_0
      replace c0_1 := keep_cell hb c0_1
      replace bw0_0 := keep_cell hb bw0_0
      replace bw0_1 := keep_cell hb bw0_1
      replace bg0_0 := keep_cell hb bg0_0
      replace bg0_1 := keep_cell hb bg0_1
      replace Hw0m := Lib.hid (Hw0m.out.below hb (Nat.le_refl _))
      replace Hw1 := Lib.hid (Hw1.out.below hb (Nat.le_refl _))
      replace Hg0m := Lib.hid (Hg0m.out.below hb (Nat.le_refl _))
      replace Hg1 := Lib.hid (Hg1.out.below hb (Nat.le_refl _))
      replace Hy0m := Lib.hid (Hy0m.out.below hb (Nat.le_refl _))
      replace Hy1 := Lib.hid (Hy1.out.below hb (Nat.le_refl _))
      have Hf0m := Lib.hid (ho1.mono B0.size)
      clear ho1
      have Hf1 := Lib.hid (ho2.mono B0.size)
      clear ho2
      have HA_f0m_f1 := Lib.hid ha
      clear ha
      obtain ⟨af0m, cf0m, rfl, -, -, -, -, -⟩ := Hf0m.out.form
      replace B0 := B0.trans (hb.mono B0.size)
      clear hb
      clear Hy0m
      clear Hy1
      have hb := alloc_bel w27 (.cells #[.bool t0, .slice af0m r0.length cf0m] 33)
      replace c0_0 := keep_cell hb c0_0
      replace c0_1 := keep_cell hb c0_1
      replace bw0_0 := keep_cell hb bw0_0
      replace bw0_1 := keep_cell hb bw0_1
      replace bg0_0 := keep_cell hb bg0_0
      replace bg0_1 := keep_cell hb bg0_1
      replace Hw0m := Lib.hid (Hw0m.out.below hb (Nat.le_refl _))
      replace Hw1 := Lib.hid (Hw1.out.below hb (Nat.le_refl _))
      replace Hg0m := Lib.hid (Hg0m.out.below hb (Nat.le_refl _))
      replace Hg1 := Lib.hid (Hg1.out.below hb (Nat.le_refl _))
      replace Hf0m := Lib.hid (Hf0m.out.below hb (Nat.le_refl _))
      replace Hf1 := Lib.hid (Hf1.out.below hb (Nat.le_refl _))
      obtain ⟨bf0_0, bf0_1⟩ : World.cell? (w27.alloc (.cells #[.bool t0, .slice af0m r0.length cf0m] 33)) ⟨w27.heap.size, 0, none⟩ = some (.bool t0) ∧ World.cell? (w27.alloc (.cells #[.bool t0, .slice af0m r0.length cf0m] 33)) ⟨w27.heap.size, 1, none⟩ = some (.slice af0m r0.length cf0m) := by simp [go_sem]
      replace B0 := B0.trans (hb.mono B0.size)
      clear hb
      go_wp2_with fail
      generalize w27.alloc (.cells #[.bool t0, .slice af0m r0.length cf0m] 33) = w28 at *
      refine (eqBigInt_c _ _ _ t0 _ _ r0 Hf0m.out Hw0m.out).mono ?_
      rintro e w29 ⟨rfl, hb⟩
      replace c0_0 := keep_cell hb c0_0
      replace c0_1 := keep_cell hb c0_1
      replace bw0_0 := keep_cell hb bw0_0
      replace bw0_1 := keep_cell hb bw0_1
      replace bg0_0 := keep_cell hb bg0_0
      replace bg0_1 := keep_cell hb bg0_1
      replace bf0_0 := keep_cell hb bf0_0
      replace bf0_1 := keep_cell hb bf0_1
      replace Hw0m := Lib.hid (Hw0m.out.below hb (Nat.le_refl _))
      replace Hw1 := Lib.hid (Hw1.out.below hb (Nat.le_refl _))
      replace Hg0m := Lib.hid (Hg0m.out.below hb (Nat.le_refl _))
      replace Hg1 := Lib.hid (Hg1.out.below hb (Nat.le_refl _))
      replace Hf0m := Lib.hid (Hf0m.out.below hb (Nat.le_refl _))
      replace Hf1 := Lib.hid (Hf1.out.below hb (Nat.le_refl _))
      replace B0 := B0.trans (hb.mono B0.size)
      clear hb
      go_wp2_with fail
      refine (eqIntS_c _ _ _ _ _ r1 Hf1.out Hw1.out).mono ?_
      rintro e w30 ⟨rfl, hb⟩
      replace c0_0 := keep_cell hb c0_0
      replace c0_1 := keep_cell hb c0_1
      replace bw0_0 := keep_cell hb bw0_0
      replace bw0_1 := keep_cell hb bw0_1
      replace bg0_0 := keep_cell hb bg0_0
      replace bg0_1 := keep_cell hb bg0_1
      replace bf0_0 := keep_cell hb bf0_0
      replace bf0_1 := keep_cell hb bf0_1
      replace Hw0m := Lib.hid (Hw0m.out.below hb (Nat.le_refl _))
      replace Hw1 := Lib.hid (Hw1.out.below hb (Nat.le_refl _))
      replace Hg0m := Lib.hid (Hg0m.out.below hb (Nat.le_refl _))
      replace Hg1 := Lib.hid (Hg1.out.below hb (Nat.le_refl _))
      replace Hf0m := Lib.hid (Hf0m.out.below hb (Nat.le_refl _))
      replace Hf1 := Lib.hid (Hf1.out.below hb (Nat.le_refl _))
      replace B0 := B0.trans (hb.mono B0.size)
      clear hb
      go_wp2_with fail
      refine (heldZ_c _ _ t0 _ r0.length 1 m0 Hg0m.out (by omega) (by omega) (by omega) HMm0.out).mono ?_
      rintro e w31 ⟨rfl, hb⟩
      replace c0_0 := keep_cell hb c0_0
      replace c0_1 := keep_cell hb c0_1
      replace bw0_0 := keep_cell hb bw0_0
      replace bw0_1 := keep_cell hb bw0_1
      replace bg0_0 := keep_cell hb bg0_0
      replace bg0_1 := keep_cell hb bg0_1
      replace bf0_0 := keep_cell hb bf0_0
      replace bf0_1 := keep_cell hb bf0_1
      replace Hw0m := Lib.hid (Hw0m.out.below hb (Nat.le_refl _))
      replace Hw1 := Lib.hid (Hw1.out.below hb (Nat.le_refl _))
      replace Hg0m := Lib.hid (Hg0m.out.below hb (Nat.le_refl _))
      replace Hg1 := Lib.hid (Hg1.out.below hb (Nat.le_refl _))
      replace Hf0m := Lib.hid (Hf0m.out.below hb (Nat.le_refl _))
      replace Hf1 := Lib.hid (Hf1.out.below hb (Nat.le_refl _))
      replace B0 := B0.trans (hb.mono B0.size)
      clear hb
      go_wp2_with fail
      refine (heldI_c _ _ _ r1.length m0 m1 Hg1.out (by omega) (by omega) (by omega) HMm1.out).mono ?_
      rintro e w32 ⟨rfl, hb⟩
      replace c0_0 := keep_cell hb c0_0
      replace c0_1 := keep_cell hb c0_1
      replace bw0_0 := keep_cell hb bw0_0
      replace bw0_1 := keep_cell hb bw0_1
      replace bg0_0 := keep_cell hb bg0_0
      replace bg0_1 := keep_cell hb bg0_1
      replace bf0_0 := keep_cell hb bf0_0
      replace bf0_1 := keep_cell hb bf0_1
      replace Hw0m := Lib.hid (Hw0m.out.below hb (Nat.le_refl _))
      replace Hw1 := Lib.hid (Hw1.out.below hb (Nat.le_refl _))
      replace Hg0m := Lib.hid (Hg0m.out.below hb (Nat.le_refl _))
      replace Hg1 := Lib.hid (Hg1.out.below hb (Nat.le_refl _))
      replace Hf0m := Lib.hid (Hf0m.out.below hb (Nat.le_refl _))
      replace Hf1 := Lib.hid (Hf1.out.below hb (Nat.le_refl _))
      replace B0 := B0.trans (hb.mono B0.size)
      clear hb
      go_wp2
      go_ret
      exact retB rfl (BW.trans (B0.mono BW.size))

set_option maxRecDepth 100000 in
theorem lifted (os : Os) (started : os.Started) (H : Type) (enc : TypeId × Value → H) :
    ReturnsInHanded {} Try.checked os 20 .any (Rows.fnExactBigIntFloorDivSpec.pre6 enc Try.prog Try.f20 Rows.fnExactBigIntFloorDivRow.domain false) (Rows.fnExactBigIntFloorDivSpec.post enc Try.prog Try.f20 false true false false) := by
  refine returnsInHanded_of_change (C := Try.checked) Try.own started (by kernel_rfl) Try.func20
    (ChangeSpec.witness6 (enc := enc) (C := Try.checked) false ⟨#[], #[.agg #[.bool false, .slice none 0 0], .slice none 0 0], []⟩ 8 (by kernel_rfl) (by kernel_rfl) (by kernel_rfl) (by kernel_rfl)) ?_
  intro W base args ds gs before hval0 hW hcnd _
  have hval : ∀ (j : Nat) t v, Try.f20.params[j]? = some t → args[j]? = some v → Value.okWide Try.prog W .any base t v := hval0
  have hW' := hW
  obtain ⟨p, q, hA0, hV, rfl, hfz, hnd⟩ := hW
  have hA : DataW.TrodAll enc Try.prog W 0 (fun _ => true) true Try.f20.params.toList args.toList ds p := hA0
  rw [Try.params20] at hA hval
  obtain ⟨v0, vs0, d0, ds0, p0, q0, hargs, rfl, rfl, h0, r0⟩ := trodAll_cons hA
  obtain ⟨v1, vs1, d1, ds1, p1, q1, rfl, rfl, rfl, h1, r1⟩ := trodAll_cons r0
  obtain ⟨rfl, rfl, rfl⟩ := trodAll_nil r1
  obtain rfl : args = #[v0, v1] := by cases args; simp_all
  obtain ⟨rfl, rfl⟩ := trodVars_none hV
  have lt0 : ∀ x ∈ p0, x.block < W.heap.size := by obtain ⟨m, hm⟩ := h0; exact DataW.trod_lt m _ _ _ hm
  have lt1 : ∀ x ∈ p1, x.block < W.heap.size := by obtain ⟨m, hm⟩ := h1; exact DataW.trod_lt m _ _ _ hm
  obtain ⟨s0, u0, x0, rfl, w0, hm0⟩ := big_of_trod (hval 0 30 v0 rfl rfl) h0
  obtain ⟨x1, w1⟩ := rd_of_trod (hval 1 22 v1 rfl rfl) h1
  clear hA0 hval0
  refine (walk W s0 u0 x0 w0 hm0 v1 x1 w1 (ng (fdivQ s0 x0 x1)) (limbs (fdivQ s0 x0 x1).natAbs) (fdivQ_len s0 x0 x1) (limbs (fdivR s0 x0 x1)) (fdivR_len s0 x0 x1)
    (fun w b0 u0 b1 u1 k0 k1 => sBigIntFloorDiv_c w b0 b1 s0 u0 u1 x0 x1 k0 k1)
    (fun w b0 u0 b1 u1 k0 k1 => BigIntFloorDiv_c w b0 b1 s0 u0 u1 x0 x1 k0 k1)).mono fun e W' ⟨he, bel⟩ => ?_
  subst he
  exact ⟨_, rfl, _, _, _, [], _, [], hW', trodAll_mk1 (shut_bool Try.underlying4 _), (trodAll_cons_mk (Below.trod Try.laidOut (by kernel_rfl) (of_decide_eq_true (by kernel_rfl)) h0 bel lt0) (trodAll_cons_mk (Below.trod Try.laidOut (by kernel_rfl) (of_decide_eq_true (by kernel_rfl)) h1 bel lt1) trodAll_mk0)), rfl, bel.frame _, fun h => by cases h⟩

theorem facts : joinedFacts Try.pinned.checked.prog 20 Try.f20 Rows.fnExactBigIntFloorDivSpec Rows.fnExactBigIntFloorDivRow = true := by
  unfold joinedFacts
  refine and_mk (and_mk (and_mk (and_mk (and_mk (and_mk (and_mk ?_ Try.mayEnter) ?_) ?_) ?_) ?_) ?_) ?_
  · kernel_rfl
  · rw [Try.liftsNone]; rfl
  · rw [Try.makeCut]; rfl
  · kernel_rfl
  · kernel_rfl
  · kernel_rfl
  · kernel_rfl

theorem proved : Rows.FnExactBigIntFloorDivSaid :=
  OpenClaim.holds_of_wide 20 Try.f20 rfl rfl rfl rfl rfl rfl rfl ⟨rfl, rfl, rfl, rfl, rfl⟩ rfl rfl rfl rfl rfl (by as_aux_lemma => kernel_rfl) Try.func20 facts
    (of_decide_eq_true (by as_aux_lemma => kernel_rfl)) (by unfold Func.isWrapper; rw [if_neg (of_decide_eq_false (by as_aux_lemma => kernel_rfl))]; exact ⟨rfl, rfl⟩)
    (fun os started H enc _ => lifted os started H enc)

end Go.Proofs.Ytjhgomdfbljgdaa.lawBigIntFloorDiv
