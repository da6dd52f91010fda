/- FnExactRatNeg: the program's RatNeg answers what the reference's RatNeg answers, for every input; no condition. -/
import Derived.Test.YtlideggpdailkaaRatW
import Derived.Test.YtlideggpdailkaaLawR
import Derived.Test.YtlideggpdailkaaLawK
namespace Go.Proofs.Ytlideggpdailkaa.lawRatNeg
open Go.ChangeShapes Go.WideShapes Go.ChangeAt Go.RowKit Lm Go.Proofs.Ytlideggpdailkaa

set_option maxHeartbeats 4000000 in
set_option maxRecDepth 100000 in
theorem walk (w : World) (s0 : Bool) (a0 d0 : Value) (x0n x0d : List Int) (h0 : Rd2 w a0 d0 x0n x0d) (hm0 : x0n.length ≤ 9223372036854775807 ∧ x0d.length ≤ 9223372036854775807) (t0 : Bool) (r0n r0d : List Int) (hr0 : r0n.length ≤ 1000 ∧ r0d.length ≤ 1000)
    (C1 : ∀ (w : World) (b0 : Nat) (u0 : Value) (e0 : Nat) (f0 : Value), Own w b0 u0 x0n → Own w e0 f0 x0d → Calls Try.prog 38 #[.agg #[.bool s0, u0, f0]] w (RetR w t0 r0n r0d))
    (C2 : ∀ (w : World) (b0 : Nat) (u0 : Value) (e0 : Nat) (f0 : Value), Own w b0 u0 x0n → Own w e0 f0 x0d → Calls Try.prog 39 #[.agg #[.bool s0, u0, f0]] w (RetR w t0 r0n r0d)) :
    Calls Try.prog 9 #[.agg #[.bool s0, a0, d0]] w (RetB w true) := by
  obtain ⟨⟨p0, q0, hv0, hc0⟩, ⟨pd0, qd0, hw0, hd0⟩⟩ := id h0
  subst hv0
  subst hw0
  clear hc0 hd0
  obtain ⟨hr0n, hr0d⟩ := hr0
  obtain ⟨hm0n, hm0d⟩ := hm0
  have R0 := Lib.hid h0
  have K1 := Lib.hid C1
  have K2 := Lib.hid C2
  clear h0 C1 C2
  by_cases hlx0n : (0 : Int) ≤ 1048576 - (x0n.length : Int)
  case neg =>
    have HL : Hid (1048576 - (x0n.length : Int) < 0) := by unfold Hid; omega
    have BW : Below w.heap.size w (w.alloc (.cells #[.bool s0, .slice p0 x0n.length q0, .slice pd0 x0d.length qd0] 26)) := ((Below.refl w.heap.size w).alloc (Nat.le_refl _) _)
    obtain ⟨c0_0, c0_1, c0_2⟩ : World.cell? (w.alloc (.cells #[.bool s0, .slice p0 x0n.length q0, .slice pd0 x0d.length qd0] 26)) ⟨w.heap.size, 0, none⟩ = some (.bool s0) ∧ World.cell? (w.alloc (.cells #[.bool s0, .slice p0 x0n.length q0, .slice pd0 x0d.length qd0] 26)) ⟨w.heap.size, 1, none⟩ = some (.slice p0 x0n.length q0) ∧ World.cell? (w.alloc (.cells #[.bool s0, .slice p0 x0n.length q0, .slice pd0 x0d.length qd0] 26)) ⟨w.heap.size, 2, none⟩ = some (.slice pd0 x0d.length qd0) := by simp [go_sem]
    go_enter Try.func9, Try.ntmps9
    go_wp2_with fail
    generalize (w.alloc (.cells #[.bool s0, .slice p0 x0n.length q0, .slice pd0 x0d.length qd0] 26)) = w0 at *
    have B0 := Below.refl w0.heap.size w0
    refine (szRat_x1 _ s0 x0n.length x0d.length _ _ _ _ (1048576) HL.out (by omega) hm0n (by omega)).mono ?_
    rintro e w1 ⟨rfl, hb⟩
    replace c0_0 := keep_cell hb c0_0
    replace c0_1 := keep_cell hb c0_1
    replace c0_2 := keep_cell hb c0_2
    replace B0 := B0.trans (hb.mono B0.size)
    clear hb
    go_wp2
    go_ret
    exact retB rfl (BW.trans (B0.mono BW.size))
  case pos =>
    by_cases hlx0d : (0 : Int) ≤ 1048576 - (x0n.length : Int) - (x0d.length : Int)
    case neg =>
      have HL : Hid (1048576 - (x0n.length : Int) - (x0d.length : Int) < 0) := by unfold Hid; omega
      have BW : Below w.heap.size w (w.alloc (.cells #[.bool s0, .slice p0 x0n.length q0, .slice pd0 x0d.length qd0] 26)) := ((Below.refl w.heap.size w).alloc (Nat.le_refl _) _)
      obtain ⟨c0_0, c0_1, c0_2⟩ : World.cell? (w.alloc (.cells #[.bool s0, .slice p0 x0n.length q0, .slice pd0 x0d.length qd0] 26)) ⟨w.heap.size, 0, none⟩ = some (.bool s0) ∧ World.cell? (w.alloc (.cells #[.bool s0, .slice p0 x0n.length q0, .slice pd0 x0d.length qd0] 26)) ⟨w.heap.size, 1, none⟩ = some (.slice p0 x0n.length q0) ∧ World.cell? (w.alloc (.cells #[.bool s0, .slice p0 x0n.length q0, .slice pd0 x0d.length qd0] 26)) ⟨w.heap.size, 2, none⟩ = some (.slice pd0 x0d.length qd0) := by simp [go_sem]
      go_enter Try.func9, Try.ntmps9
      go_wp2_with fail
      generalize (w.alloc (.cells #[.bool s0, .slice p0 x0n.length q0, .slice pd0 x0d.length qd0] 26)) = w0 at *
      have B0 := Below.refl w0.heap.size w0
      refine (szRat_x2 _ s0 x0n.length x0d.length _ _ _ _ (1048576) hlx0n HL.out (by omega) hm0d (by omega)).mono ?_
      rintro e w1 ⟨rfl, hb⟩
      replace c0_0 := keep_cell hb c0_0
      replace c0_1 := keep_cell hb c0_1
      replace c0_2 := keep_cell hb c0_2
      replace B0 := B0.trans (hb.mono B0.size)
      clear hb
      go_wp2
      go_ret
      exact retB rfl (BW.trans (B0.mono BW.size))
    case pos =>
      have hx0n : x0n.length ≤ 17592186044415 := by omega
      have hx0d : x0d.length ≤ 17592186044415 := by omega
      have BW : Below w.heap.size w (w.alloc (.cells #[.bool s0, .slice p0 x0n.length q0, .slice pd0 x0d.length qd0] 26)) := ((Below.refl w.heap.size w).alloc (Nat.le_refl _) _)
      obtain ⟨c0_0, c0_1, c0_2⟩ : World.cell? (w.alloc (.cells #[.bool s0, .slice p0 x0n.length q0, .slice pd0 x0d.length qd0] 26)) ⟨w.heap.size, 0, none⟩ = some (.bool s0) ∧ World.cell? (w.alloc (.cells #[.bool s0, .slice p0 x0n.length q0, .slice pd0 x0d.length qd0] 26)) ⟨w.heap.size, 1, none⟩ = some (.slice p0 x0n.length q0) ∧ World.cell? (w.alloc (.cells #[.bool s0, .slice p0 x0n.length q0, .slice pd0 x0d.length qd0] 26)) ⟨w.heap.size, 2, none⟩ = some (.slice pd0 x0d.length qd0) := by simp [go_sem]
      go_enter Try.func9, Try.ntmps9
      go_wp2_with fail
      generalize (w.alloc (.cells #[.bool s0, .slice p0 x0n.length q0, .slice pd0 x0d.length qd0] 26)) = w0 at *
      have B0 := Below.refl w0.heap.size w0
      refine (szRat_ok _ s0 x0n.length x0d.length _ _ _ _ (1048576) hlx0n hlx0d (by omega)).mono ?_
      rintro e w1 ⟨rfl, hb⟩
      replace c0_0 := keep_cell hb c0_0
      replace c0_1 := keep_cell hb c0_1
      replace c0_2 := keep_cell hb c0_2
      replace B0 := B0.trans (hb.mono B0.size)
      clear hb
      have dl0 : decide (1048576 - (x0n.length : Int) - (x0d.length : Int) < 0) = false := decide_eq_false (by omega)
      go_wp2_with fail
      refine (toRat_c _ _ _ s0 x0n x0d (R0.out.below (BW.trans (B0.mono BW.size))) hx0n hx0d).mono ?_
      rintro e w2 ⟨vy0n, vy0d, rfl, ho1, ho2, ha, hb⟩
      replace c0_0 := keep_cell hb c0_0
      replace c0_1 := keep_cell hb c0_1
      replace c0_2 := keep_cell hb c0_2
      have Hy0n := Lib.hid (ho1.mono B0.size)
      clear ho1
      have Hy0d := Lib.hid (ho2.mono B0.size)
      clear ho2
      have HA_y0n_y0d := Lib.hid ha
      clear ha
      obtain ⟨ay0n, cy0n, rfl, -, -, -, -, -⟩ := Hy0n.out.form
      obtain ⟨ay0d, cy0d, rfl, -, -, -, -, -⟩ := Hy0d.out.form
      replace B0 := B0.trans (hb.mono B0.size)
      clear hb
      go_wp2_with fail
      refine (K1.out _ _ _ _ _ Hy0n.out Hy0d.out).mono ?_
      rintro e w3 ⟨vw0n, vw0d, rfl, ho1, ho2, ha, hb⟩
      replace c0_0 := keep_cell hb c0_0
      replace c0_1 := keep_cell hb c0_1
      replace c0_2 := keep_cell hb c0_2
      replace Hy0n := Lib.hid (Hy0n.out.below hb (Nat.le_refl _))
      replace Hy0d := Lib.hid (Hy0d.out.below hb (Nat.le_refl _))
      have Hw0n := Lib.hid (ho1.mono B0.size)
      clear ho1
      have Hw0d := Lib.hid (ho2.mono B0.size)
      clear ho2
      have HA_w0n_w0d := Lib.hid ha
      clear ha
      obtain ⟨aw0n, cw0n, rfl, -, -, -, -, -⟩ := Hw0n.out.form
      obtain ⟨aw0d, cw0d, rfl, -, -, -, -, -⟩ := Hw0d.out.form
      replace B0 := B0.trans (hb.mono B0.size)
      clear hb
      clear Hy0n
      clear Hy0d
      have hb := alloc_bel w3 (.cells #[.bool t0, .slice aw0n r0n.length cw0n, .slice aw0d r0d.length cw0d] 31)
      replace c0_0 := keep_cell hb c0_0
      replace c0_1 := keep_cell hb c0_1
      replace c0_2 := keep_cell hb c0_2
      replace Hw0n := Lib.hid (Hw0n.out.below hb (Nat.le_refl _))
      replace Hw0d := Lib.hid (Hw0d.out.below hb (Nat.le_refl _))
      obtain ⟨bw0_0, bw0_1, bw0_2⟩ : World.cell? (w3.alloc (.cells #[.bool t0, .slice aw0n r0n.length cw0n, .slice aw0d r0d.length cw0d] 31)) ⟨w3.heap.size, 0, none⟩ = some (.bool t0) ∧ World.cell? (w3.alloc (.cells #[.bool t0, .slice aw0n r0n.length cw0n, .slice aw0d r0d.length cw0d] 31)) ⟨w3.heap.size, 1, none⟩ = some (.slice aw0n r0n.length cw0n) ∧ World.cell? (w3.alloc (.cells #[.bool t0, .slice aw0n r0n.length cw0n, .slice aw0d r0d.length cw0d] 31)) ⟨w3.heap.size, 2, none⟩ = some (.slice aw0d r0d.length cw0d) := by simp [go_sem]
      replace B0 := B0.trans (hb.mono B0.size)
      clear hb
      go_wp2_with fail
      generalize w3.alloc (.cells #[.bool t0, .slice aw0n r0n.length cw0n, .slice aw0d r0d.length cw0d] 31) = w4 at *
      refine (toRat_c _ _ _ s0 x0n x0d (R0.out.below (BW.trans (B0.mono BW.size))) hx0n hx0d).mono ?_
      rintro e w5 ⟨vz0n, vz0d, rfl, ho1, ho2, ha, hb⟩
      have HN_z0n_c0 := Lib.hid (own_ne_old c0_0 ho1)
      have HN_z0n_bw0 := Lib.hid (own_ne_old bw0_0 ho1)
      have HA_w0n_z0n := Lib.hid (apart_new Hw0n.out (.inr rfl) ho1)
      have HA_w0d_z0n := Lib.hid (apart_new Hw0d.out (.inr rfl) ho1)
      have HN_z0d_c0 := Lib.hid (own_ne_old c0_0 ho2)
      have HN_z0d_bw0 := Lib.hid (own_ne_old bw0_0 ho2)
      have HA_w0n_z0d := Lib.hid (apart_new Hw0n.out (.inr rfl) ho2)
      have HA_w0d_z0d := Lib.hid (apart_new Hw0d.out (.inr rfl) ho2)
      replace c0_0 := keep_cell hb c0_0
      replace c0_1 := keep_cell hb c0_1
      replace c0_2 := keep_cell hb c0_2
      replace bw0_0 := keep_cell hb bw0_0
      replace bw0_1 := keep_cell hb bw0_1
      replace bw0_2 := keep_cell hb bw0_2
      replace Hw0n := Lib.hid (Hw0n.out.below hb (Nat.le_refl _))
      replace Hw0d := Lib.hid (Hw0d.out.below hb (Nat.le_refl _))
      have Hz0n := Lib.hid (ho1.mono B0.size)
      clear ho1
      have Hz0d := Lib.hid (ho2.mono B0.size)
      clear ho2
      have HA_z0n_z0d := Lib.hid ha
      clear ha
      obtain ⟨az0n, cz0n, rfl, -, -, -, -, -⟩ := Hz0n.out.form
      obtain ⟨az0d, cz0d, rfl, -, -, -, -, -⟩ := Hz0d.out.form
      replace B0 := B0.trans (hb.mono B0.size)
      clear hb
      have HN_z0d_bx0 := Lib.hid (own_ne_new Hz0d.out)
      have HN_z0n_bx0 := Lib.hid (own_ne_new Hz0n.out)
      have hb := alloc_bel w5 (.cells #[.bool s0, .slice az0n x0n.length cz0n, .slice az0d x0d.length cz0d] 31)
      replace c0_0 := keep_cell hb c0_0
      replace c0_1 := keep_cell hb c0_1
      replace c0_2 := keep_cell hb c0_2
      replace bw0_0 := keep_cell hb bw0_0
      replace bw0_1 := keep_cell hb bw0_1
      replace bw0_2 := keep_cell hb bw0_2
      replace Hw0n := Lib.hid (Hw0n.out.below hb (Nat.le_refl _))
      replace Hw0d := Lib.hid (Hw0d.out.below hb (Nat.le_refl _))
      replace Hz0n := Lib.hid (Hz0n.out.below hb (Nat.le_refl _))
      replace Hz0d := Lib.hid (Hz0d.out.below hb (Nat.le_refl _))
      obtain ⟨bx0_0, bx0_1, bx0_2⟩ : World.cell? (w5.alloc (.cells #[.bool s0, .slice az0n x0n.length cz0n, .slice az0d x0d.length cz0d] 31)) ⟨w5.heap.size, 0, none⟩ = some (.bool s0) ∧ World.cell? (w5.alloc (.cells #[.bool s0, .slice az0n x0n.length cz0n, .slice az0d x0d.length cz0d] 31)) ⟨w5.heap.size, 1, none⟩ = some (.slice az0n x0n.length cz0n) ∧ World.cell? (w5.alloc (.cells #[.bool s0, .slice az0n x0n.length cz0n, .slice az0d x0d.length cz0d] 31)) ⟨w5.heap.size, 2, none⟩ = some (.slice az0d x0d.length cz0d) := by simp [go_sem]
      replace B0 := B0.trans (hb.mono B0.size)
      clear hb
      go_wp2_with fail
      generalize w5.alloc (.cells #[.bool s0, .slice az0n x0n.length cz0n, .slice az0d x0d.length cz0d] 31) = w6 at *
      refine (K2.out _ _ _ _ _ Hz0n.out Hz0d.out).mono ?_
      rintro e w7 ⟨vg0n, vg0d, rfl, ho1, ho2, ha, hb⟩
      have HN_g0n_c0 := Lib.hid (own_ne_old c0_0 ho1)
      have HN_g0n_bw0 := Lib.hid (own_ne_old bw0_0 ho1)
      have HN_g0n_bx0 := Lib.hid (own_ne_old bx0_0 ho1)
      have HA_w0n_g0n := Lib.hid (apart_new Hw0n.out (.inr rfl) ho1)
      have HA_w0d_g0n := Lib.hid (apart_new Hw0d.out (.inr rfl) ho1)
      have HA_z0n_g0n := Lib.hid (apart_new Hz0n.out (.inr rfl) ho1)
      have HA_z0d_g0n := Lib.hid (apart_new Hz0d.out (.inr rfl) ho1)
      have HN_g0d_c0 := Lib.hid (own_ne_old c0_0 ho2)
      have HN_g0d_bw0 := Lib.hid (own_ne_old bw0_0 ho2)
      have HN_g0d_bx0 := Lib.hid (own_ne_old bx0_0 ho2)
      have HA_w0n_g0d := Lib.hid (apart_new Hw0n.out (.inr rfl) ho2)
      have HA_w0d_g0d := Lib.hid (apart_new Hw0d.out (.inr rfl) ho2)
      have HA_z0n_g0d := Lib.hid (apart_new Hz0n.out (.inr rfl) ho2)
      have HA_z0d_g0d := Lib.hid (apart_new Hz0d.out (.inr rfl) ho2)
      replace c0_0 := keep_cell hb c0_0
      replace c0_1 := keep_cell hb c0_1
      replace c0_2 := keep_cell hb c0_2
      replace bw0_0 := keep_cell hb bw0_0
      replace bw0_1 := keep_cell hb bw0_1
      replace bw0_2 := keep_cell hb bw0_2
      replace bx0_0 := keep_cell hb bx0_0
      replace bx0_1 := keep_cell hb bx0_1
      replace bx0_2 := keep_cell hb bx0_2
      replace Hw0n := Lib.hid (Hw0n.out.below hb (Nat.le_refl _))
      replace Hw0d := Lib.hid (Hw0d.out.below hb (Nat.le_refl _))
      replace Hz0n := Lib.hid (Hz0n.out.below hb (Nat.le_refl _))
      replace Hz0d := Lib.hid (Hz0d.out.below hb (Nat.le_refl _))
      have Hg0n := Lib.hid (ho1.mono B0.size)
      clear ho1
      have Hg0d := Lib.hid (ho2.mono B0.size)
      clear ho2
      have HA_g0n_g0d := Lib.hid ha
      clear ha
      obtain ⟨ag0n, cg0n, rfl, -, -, -, -, -⟩ := Hg0n.out.form
      obtain ⟨ag0d, cg0d, rfl, -, -, -, -, -⟩ := Hg0d.out.form
      replace B0 := B0.trans (hb.mono B0.size)
      clear hb
      have HN_z0d_bg0 := Lib.hid (own_ne_new Hz0d.out)
      have HN_g0n_bg0 := Lib.hid (own_ne_new Hg0n.out)
      have HN_z0n_bg0 := Lib.hid (own_ne_new Hz0n.out)
      have HN_g0d_bg0 := Lib.hid (own_ne_new Hg0d.out)
      have hb := alloc_bel w7 (.cells #[.bool t0, .slice ag0n r0n.length cg0n, .slice ag0d r0d.length cg0d] 31)
      replace c0_0 := keep_cell hb c0_0
      replace c0_1 := keep_cell hb c0_1
      replace c0_2 := keep_cell hb c0_2
      replace bw0_0 := keep_cell hb bw0_0
      replace bw0_1 := keep_cell hb bw0_1
      replace bw0_2 := keep_cell hb bw0_2
      replace bx0_0 := keep_cell hb bx0_0
      replace bx0_1 := keep_cell hb bx0_1
      replace bx0_2 := keep_cell hb bx0_2
      replace Hw0n := Lib.hid (Hw0n.out.below hb (Nat.le_refl _))
      replace Hw0d := Lib.hid (Hw0d.out.below hb (Nat.le_refl _))
      replace Hz0n := Lib.hid (Hz0n.out.below hb (Nat.le_refl _))
      replace Hz0d := Lib.hid (Hz0d.out.below hb (Nat.le_refl _))
      replace Hg0n := Lib.hid (Hg0n.out.below hb (Nat.le_refl _))
      replace Hg0d := Lib.hid (Hg0d.out.below hb (Nat.le_refl _))
      obtain ⟨bg0_0, bg0_1, bg0_2⟩ : World.cell? (w7.alloc (.cells #[.bool t0, .slice ag0n r0n.length cg0n, .slice ag0d r0d.length cg0d] 31)) ⟨w7.heap.size, 0, none⟩ = some (.bool t0) ∧ World.cell? (w7.alloc (.cells #[.bool t0, .slice ag0n r0n.length cg0n, .slice ag0d r0d.length cg0d] 31)) ⟨w7.heap.size, 1, none⟩ = some (.slice ag0n r0n.length cg0n) ∧ World.cell? (w7.alloc (.cells #[.bool t0, .slice ag0n r0n.length cg0n, .slice ag0d r0d.length cg0d] 31)) ⟨w7.heap.size, 2, none⟩ = some (.slice ag0d r0d.length cg0d) := by simp [go_sem]
      replace B0 := B0.trans (hb.mono B0.size)
      clear hb
      go_wp2_with fail
      generalize w7.alloc (.cells #[.bool t0, .slice ag0n r0n.length cg0n, .slice ag0d r0d.length cg0d] 31) = w8 at *
      refine (eqRat_c _ t0 r0n r0d Hg0n.out Hg0d.out Hw0n.out Hw0d.out).mono ?_
      rintro e w9 ⟨rfl, hb⟩
      replace c0_0 := keep_cell hb c0_0
      replace c0_1 := keep_cell hb c0_1
      replace c0_2 := keep_cell hb c0_2
      replace bw0_0 := keep_cell hb bw0_0
      replace bw0_1 := keep_cell hb bw0_1
      replace bw0_2 := keep_cell hb bw0_2
      replace bx0_0 := keep_cell hb bx0_0
      replace bx0_1 := keep_cell hb bx0_1
      replace bx0_2 := keep_cell hb bx0_2
      replace bg0_0 := keep_cell hb bg0_0
      replace bg0_1 := keep_cell hb bg0_1
      replace bg0_2 := keep_cell hb bg0_2
      replace Hw0n := Lib.hid (Hw0n.out.below hb (Nat.le_refl _))
      replace Hw0d := Lib.hid (Hw0d.out.below hb (Nat.le_refl _))
      replace Hz0n := Lib.hid (Hz0n.out.below hb (Nat.le_refl _))
      replace Hz0d := Lib.hid (Hz0d.out.below hb (Nat.le_refl _))
      replace Hg0n := Lib.hid (Hg0n.out.below hb (Nat.le_refl _))
      replace Hg0d := Lib.hid (Hg0d.out.below hb (Nat.le_refl _))
      replace B0 := B0.trans (hb.mono B0.size)
      clear hb
      go_wp2_with fail
      replace Hw0n := Lib.hid Hw0n.out.drew
      replace Hw0d := Lib.hid Hw0d.out.drew
      replace Hz0n := Lib.hid Hz0n.out.drew
      replace Hz0d := Lib.hid Hz0d.out.drew
      replace Hg0n := Lib.hid Hg0n.out.drew
      replace Hg0d := Lib.hid Hg0d.out.drew
      replace B0 := below_drew B0
      replace c0_0 := cell_drew c0_0
      replace c0_1 := cell_drew c0_1
      replace c0_2 := cell_drew c0_2
      replace bw0_0 := cell_drew bw0_0
      replace bw0_1 := cell_drew bw0_1
      replace bw0_2 := cell_drew bw0_2
      replace bx0_0 := cell_drew bx0_0
      replace bx0_1 := cell_drew bx0_1
      replace bx0_2 := cell_drew bx0_2
      replace bg0_0 := cell_drew bg0_0
      replace bg0_1 := cell_drew bg0_1
      replace bg0_2 := cell_drew bg0_2
      go_region_held3 (fun w' => w'.cell? ⟨w.heap.size, 0, none⟩ = some (.bool s0) ∧ w'.cell? ⟨w.heap.size, 1, none⟩ = some (.slice p0 x0n.length q0) ∧ w'.cell? ⟨w.heap.size, 2, none⟩ = some (.slice pd0 x0d.length qd0) ∧ w'.cell? ⟨w5.heap.size, 0, none⟩ = some (.bool s0) ∧ w'.cell? ⟨w5.heap.size, 1, none⟩ = some (.slice az0n x0n.length cz0n) ∧ w'.cell? ⟨w5.heap.size, 2, none⟩ = some (.slice az0d x0d.length cz0d)) (first | exact ⟨c0_0, c0_1, c0_2, bx0_0, bx0_1, bx0_2⟩ | exact ⟨keep_cell (alloc_bel _ _) c0_0, keep_cell (alloc_bel _ _) c0_1, keep_cell (alloc_bel _ _) c0_2, keep_cell (alloc_bel _ _) bx0_0, keep_cell (alloc_bel _ _) bx0_1, keep_cell (alloc_bel _ _) bx0_2⟩ | (go_split_ands; exact ⟨(set_far (set_far ‹_› (by dsimp only; omega)) (by dsimp only; omega)), (set_far (set_far ‹_› (by dsimp only; omega)) (by dsimp only; omega)), (set_far (set_far ‹_› (by dsimp only; omega)) (by dsimp only; omega)), (set_far (set_far ‹_› (by dsimp only; omega)) (by dsimp only; omega)), (set_far (set_far ‹_› (by dsimp only; omega)) (by dsimp only; omega)), (set_far (set_far ‹_› (by dsimp only; omega)) (by dsimp only; omega))⟩) | (go_split_ands; exact ⟨(set_far (set_far (set_far ‹_› (by dsimp only; omega)) (by dsimp only; omega)) (by dsimp only; omega)), (set_far (set_far (set_far ‹_› (by dsimp only; omega)) (by dsimp only; omega)) (by dsimp only; omega)), (set_far (set_far (set_far ‹_› (by dsimp only; omega)) (by dsimp only; omega)) (by dsimp only; omega)), (set_far (set_far (set_far ‹_› (by dsimp only; omega)) (by dsimp only; omega)) (by dsimp only; omega)), (set_far (set_far (set_far ‹_› (by dsimp only; omega)) (by dsimp only; omega)) (by dsimp only; omega)), (set_far (set_far (set_far ‹_› (by dsimp only; omega)) (by dsimp only; omega)) (by dsimp only; omega))⟩) | (go_split_ands; exact ⟨(set_far ‹_› (by dsimp only; omega)), (set_far ‹_› (by dsimp only; omega)), (set_far ‹_› (by dsimp only; omega)), (set_far ‹_› (by dsimp only; omega)), (set_far ‹_› (by dsimp only; omega)), (set_far ‹_› (by dsimp only; omega))⟩) | go_keep)
        (first | (go_at_call 19; refine (toRat_c _ _ _ s0 x0n x0d (R0.out.below (BW.trans (B0.mono BW.size))) hx0n hx0d).mono ?_; rintro e w10 ⟨vq0n, vq0d, rfl, ho1, ho2, ha, hb10⟩; replace c0_0 := keep_cell (w1 := w10) hb10 c0_0; replace c0_1 := keep_cell (w1 := w10) hb10 c0_1; replace c0_2 := keep_cell (w1 := w10) hb10 c0_2; replace bw0_0 := keep_cell (w1 := w10) hb10 bw0_0; replace bw0_1 := keep_cell (w1 := w10) hb10 bw0_1; replace bw0_2 := keep_cell (w1 := w10) hb10 bw0_2; replace bx0_0 := keep_cell (w1 := w10) hb10 bx0_0; replace bx0_1 := keep_cell (w1 := w10) hb10 bx0_1; replace bx0_2 := keep_cell (w1 := w10) hb10 bx0_2; replace bg0_0 := keep_cell (w1 := w10) hb10 bg0_0; replace bg0_1 := keep_cell (w1 := w10) hb10 bg0_1; replace bg0_2 := keep_cell (w1 := w10) hb10 bg0_2; replace Hw0n := Lib.hid (Hw0n.out.below hb10 (Nat.le_refl _)); replace Hw0d := Lib.hid (Hw0d.out.below hb10 (Nat.le_refl _)); replace Hz0n := Lib.hid (Hz0n.out.below hb10 (Nat.le_refl _)); replace Hz0d := Lib.hid (Hz0d.out.below hb10 (Nat.le_refl _)); replace Hg0n := Lib.hid (Hg0n.out.below hb10 (Nat.le_refl _)); replace Hg0d := Lib.hid (Hg0d.out.below hb10 (Nat.le_refl _)); have Hq0n := Lib.hid (ho1.mono B0.size); clear ho1; have Hq0d := Lib.hid (ho2.mono B0.size); clear ho2; have HA_q0n_q0d := Lib.hid ha; clear ha; obtain ⟨aq0n, cq0n, rfl, -, -, -, -, -⟩ := Hq0n.out.form; obtain ⟨aq0d, cq0d, rfl, -, -, -, -, -⟩ := Hq0d.out.form; replace B0 := B0.trans (hb10.mono B0.size); clear hb10) | (go_at_call 21; refine (eqRat_c _ s0 x0n x0d Hz0n.out Hz0d.out Hq0n.out Hq0d.out).mono ?_; rintro e w11 ⟨rfl, hb11⟩; replace c0_0 := keep_cell (w1 := w11) hb11 c0_0; replace c0_1 := keep_cell (w1 := w11) hb11 c0_1; replace c0_2 := keep_cell (w1 := w11) hb11 c0_2; replace bw0_0 := keep_cell (w1 := w11) hb11 bw0_0; replace bw0_1 := keep_cell (w1 := w11) hb11 bw0_1; replace bw0_2 := keep_cell (w1 := w11) hb11 bw0_2; replace bx0_0 := keep_cell (w1 := w11) hb11 bx0_0; replace bx0_1 := keep_cell (w1 := w11) hb11 bx0_1; replace bx0_2 := keep_cell (w1 := w11) hb11 bx0_2; replace bg0_0 := keep_cell (w1 := w11) hb11 bg0_0; replace bg0_1 := keep_cell (w1 := w11) hb11 bg0_1; replace bg0_2 := keep_cell (w1 := w11) hb11 bg0_2; replace Hw0n := Lib.hid (Hw0n.out.below hb11 (Nat.le_refl _)); replace Hw0d := Lib.hid (Hw0d.out.below hb11 (Nat.le_refl _)); replace Hz0n := Lib.hid (Hz0n.out.below hb11 (Nat.le_refl _)); replace Hz0d := Lib.hid (Hz0d.out.below hb11 (Nat.le_refl _)); replace Hg0n := Lib.hid (Hg0n.out.below hb11 (Nat.le_refl _)); replace Hg0d := Lib.hid (Hg0d.out.below hb11 (Nat.le_refl _)); (try (replace Hq0n := Lib.hid (Hq0n.out.below hb11 (Nat.le_refl _)))); (try (replace Hq0d := Lib.hid (Hq0d.out.below hb11 (Nat.le_refl _)))); replace B0 := B0.trans (hb11.mono B0.size); clear hb11))
      clear Hq0n
      clear Hq0d
      go_wp2_with fail
      refine (markR_c _ s0 x0n x0d 1 Hz0n.out Hz0d.out HA_z0n_z0d.out (by omega) (by omega) (by omega) (by omega)).mono ?_
      rintro e w12 ⟨k0, hm, rfl, ho1, ho2, wm, hg, hg2⟩
      have HMk0 := Lib.hid hm
      have k00 : 0 ≤ k0 := by omega
      have k01 : k0 ≤ 10000000 := by omega
      clear hm
      replace c0_0 := keep_grown hg2 (keep_grown hg c0_0 HN_z0n_c0.out) HN_z0d_c0.out
      replace c0_1 := keep_grown hg2 (keep_grown hg c0_1 HN_z0n_c0.out) HN_z0d_c0.out
      replace c0_2 := keep_grown hg2 (keep_grown hg c0_2 HN_z0n_c0.out) HN_z0d_c0.out
      replace bw0_0 := keep_grown hg2 (keep_grown hg bw0_0 HN_z0n_bw0.out) HN_z0d_bw0.out
      replace bw0_1 := keep_grown hg2 (keep_grown hg bw0_1 HN_z0n_bw0.out) HN_z0d_bw0.out
      replace bw0_2 := keep_grown hg2 (keep_grown hg bw0_2 HN_z0n_bw0.out) HN_z0d_bw0.out
      replace bx0_0 := keep_grown hg2 (keep_grown hg bx0_0 HN_z0n_bx0.out) HN_z0d_bx0.out
      replace bx0_1 := keep_grown hg2 (keep_grown hg bx0_1 HN_z0n_bx0.out) HN_z0d_bx0.out
      replace bx0_2 := keep_grown hg2 (keep_grown hg bx0_2 HN_z0n_bx0.out) HN_z0d_bx0.out
      replace bg0_0 := keep_grown hg2 (keep_grown hg bg0_0 HN_z0n_bg0.out) HN_z0d_bg0.out
      replace bg0_1 := keep_grown hg2 (keep_grown hg bg0_1 HN_z0n_bg0.out) HN_z0d_bg0.out
      replace bg0_2 := keep_grown hg2 (keep_grown hg bg0_2 HN_z0n_bg0.out) HN_z0d_bg0.out
      replace Hw0n := Lib.hid ((Hw0n.out.marked hg HA_w0n_z0n.out).marked hg2 HA_w0n_z0d.out)
      replace Hw0d := Lib.hid ((Hw0d.out.marked hg HA_w0d_z0n.out).marked hg2 HA_w0d_z0d.out)
      replace Hg0n := Lib.hid ((Hg0n.out.marked hg HA_z0n_g0n.out.symm).marked hg2 HA_z0d_g0n.out.symm)
      replace Hg0d := Lib.hid ((Hg0d.out.marked hg HA_z0n_g0d.out.symm).marked hg2 HA_z0d_g0d.out.symm)
      replace B0 := mark2Below Hz0n.out Hz0d.out B0 hg hg2 (Nat.le_refl _) (Nat.le_refl _)
      clear hg hg2
      replace Hz0n := Lib.hid ho1
      clear ho1
      replace Hz0d := Lib.hid ho2
      clear ho2
      clear bx0_0
      clear bx0_1
      clear bx0_2
      clear Hz0n
      clear Hz0d
      have dk : decide (k0 < 0) = false := decide_eq_false (by omega)
      go_wp2_with fail
      refine (eqRat_c _ t0 r0n r0d Hg0n.out Hg0d.out Hw0n.out Hw0d.out).mono ?_
      rintro e w13 ⟨rfl, hb⟩
      replace c0_0 := keep_cell hb c0_0
      replace c0_1 := keep_cell hb c0_1
      replace c0_2 := keep_cell hb c0_2
      replace bw0_0 := keep_cell hb bw0_0
      replace bw0_1 := keep_cell hb bw0_1
      replace bw0_2 := keep_cell hb bw0_2
      replace bg0_0 := keep_cell hb bg0_0
      replace bg0_1 := keep_cell hb bg0_1
      replace bg0_2 := keep_cell hb bg0_2
      replace Hw0n := Lib.hid (Hw0n.out.below hb (Nat.le_refl _))
      replace Hw0d := Lib.hid (Hw0d.out.below hb (Nat.le_refl _))
      replace Hg0n := Lib.hid (Hg0n.out.below hb (Nat.le_refl _))
      replace Hg0d := Lib.hid (Hg0d.out.below hb (Nat.le_refl _))
      replace B0 := B0.trans (hb.mono B0.size)
      clear hb
      go_wp2_with fail
      refine (markR_c _ t0 r0n r0d 1 Hg0n.out Hg0d.out HA_g0n_g0d.out (by omega) (by omega) (by omega) (by omega)).mono ?_
      rintro e w14 ⟨m0, hm, rfl, ho1, ho2, wm, hg, hg2⟩
      have HMm0 := Lib.hid hm
      have m00 : 0 ≤ m0 := by omega
      have m01 : m0 ≤ 20000000 := by omega
      clear hm
      replace c0_0 := keep_grown hg2 (keep_grown hg c0_0 HN_g0n_c0.out) HN_g0d_c0.out
      replace c0_1 := keep_grown hg2 (keep_grown hg c0_1 HN_g0n_c0.out) HN_g0d_c0.out
      replace c0_2 := keep_grown hg2 (keep_grown hg c0_2 HN_g0n_c0.out) HN_g0d_c0.out
      replace bw0_0 := keep_grown hg2 (keep_grown hg bw0_0 HN_g0n_bw0.out) HN_g0d_bw0.out
      replace bw0_1 := keep_grown hg2 (keep_grown hg bw0_1 HN_g0n_bw0.out) HN_g0d_bw0.out
      replace bw0_2 := keep_grown hg2 (keep_grown hg bw0_2 HN_g0n_bw0.out) HN_g0d_bw0.out
      replace bg0_0 := keep_grown hg2 (keep_grown hg bg0_0 HN_g0n_bg0.out) HN_g0d_bg0.out
      replace bg0_1 := keep_grown hg2 (keep_grown hg bg0_1 HN_g0n_bg0.out) HN_g0d_bg0.out
      replace bg0_2 := keep_grown hg2 (keep_grown hg bg0_2 HN_g0n_bg0.out) HN_g0d_bg0.out
      replace Hw0n := Lib.hid ((Hw0n.out.marked hg HA_w0n_g0n.out).marked hg2 HA_w0n_g0d.out)
      replace Hw0d := Lib.hid ((Hw0d.out.marked hg HA_w0d_g0n.out).marked hg2 HA_w0d_g0d.out)
      replace B0 := mark2Below Hg0n.out Hg0d.out B0 hg hg2 (Nat.le_refl _) (Nat.le_refl _)
      clear hg hg2
      replace Hg0n := Lib.hid ho1
      clear ho1
      replace Hg0d := Lib.hid ho2
      clear ho2
      have dm0 : decide (m0 < 0) = false := decide_eq_false (by omega)
      go_wp2_with fail
      refine (heldR_c _ t0 r0n.length r0d.length 1 m0 Hg0n.out Hg0d.out (by omega) (by omega) (by omega) (by omega) HMm0.out).mono ?_
      rintro e w15 ⟨rfl, hb⟩
      replace c0_0 := keep_cell hb c0_0
      replace c0_1 := keep_cell hb c0_1
      replace c0_2 := keep_cell hb c0_2
      replace bw0_0 := keep_cell hb bw0_0
      replace bw0_1 := keep_cell hb bw0_1
      replace bw0_2 := keep_cell hb bw0_2
      replace bg0_0 := keep_cell hb bg0_0
      replace bg0_1 := keep_cell hb bg0_1
      replace bg0_2 := keep_cell hb bg0_2
      replace Hw0n := Lib.hid (Hw0n.out.below hb (Nat.le_refl _))
      replace Hw0d := Lib.hid (Hw0d.out.below hb (Nat.le_refl _))
      replace Hg0n := Lib.hid (Hg0n.out.below hb (Nat.le_refl _))
      replace Hg0d := Lib.hid (Hg0d.out.below hb (Nat.le_refl _))
      replace B0 := B0.trans (hb.mono B0.size)
      clear hb
      go_wp2_with fail
      refine (toRat_c _ _ _ s0 x0n x0d (R0.out.below (BW.trans (B0.mono BW.size))) hx0n hx0d).mono ?_
      rintro e w16 ⟨vy0n, vy0d, rfl, ho1, ho2, ha, hb⟩
      replace c0_0 := keep_cell hb c0_0
      replace c0_1 := keep_cell hb c0_1
      replace c0_2 := keep_cell hb c0_2
      replace bw0_0 := keep_cell hb bw0_0
      replace bw0_1 := keep_cell hb bw0_1
      replace bw0_2 := keep_cell hb bw0_2
      replace bg0_0 := keep_cell hb bg0_0
      replace bg0_1 := keep_cell hb bg0_1
      replace bg0_2 := keep_cell hb bg0_2
      replace Hw0n := Lib.hid (Hw0n.out.below hb (Nat.le_refl _))
      replace Hw0d := Lib.hid (Hw0d.out.below hb (Nat.le_refl _))
      replace Hg0n := Lib.hid (Hg0n.out.below hb (Nat.le_refl _))
      replace Hg0d := Lib.hid (Hg0d.out.below hb (Nat.le_refl _))
      have Hy0n := Lib.hid (ho1.mono B0.size)
      clear ho1
      have Hy0d := Lib.hid (ho2.mono B0.size)
      clear ho2
      have HA_y0n_y0d := Lib.hid ha
      clear ha
      obtain ⟨ay0n, cy0n, rfl, -, -, -, -, -⟩ := Hy0n.out.form
      obtain ⟨ay0d, cy0d, rfl, -, -, -, -, -⟩ := Hy0d.out.form
      replace B0 := B0.trans (hb.mono B0.size)
      clear hb
      go_wp2_with fail
      refine (K2.out _ _ _ _ _ Hy0n.out Hy0d.out).mono ?_
      rintro e w17 ⟨vf0n, vf0d, rfl, ho1, ho2, ha, hb⟩
      replace c0_0 := keep_cell hb c0_0
      replace c0_1 := keep_cell hb c0_1
      replace c0_2 := keep_cell hb c0_2
      replace bw0_0 := keep_cell hb bw0_0
      replace bw0_1 := keep_cell hb bw0_1
      replace bw0_2 := keep_cell hb bw0_2
      replace bg0_0 := keep_cell hb bg0_0
      replace bg0_1 := keep_cell hb bg0_1
      replace bg0_2 := keep_cell hb bg0_2
      replace Hw0n := Lib.hid (Hw0n.out.below hb (Nat.le_refl _))
      replace Hw0d := Lib.hid (Hw0d.out.below hb (Nat.le_refl _))
      replace Hg0n := Lib.hid (Hg0n.out.below hb (Nat.le_refl _))
      replace Hg0d := Lib.hid (Hg0d.out.below hb (Nat.le_refl _))
      replace Hy0n := Lib.hid (Hy0n.out.below hb (Nat.le_refl _))
      replace Hy0d := Lib.hid (Hy0d.out.below hb (Nat.le_refl _))
      have Hf0n := Lib.hid (ho1.mono B0.size)
      clear ho1
      have Hf0d := Lib.hid (ho2.mono B0.size)
      clear ho2
      have HA_f0n_f0d := Lib.hid ha
      clear ha
      obtain ⟨af0n, cf0n, rfl, -, -, -, -, -⟩ := Hf0n.out.form
      obtain ⟨af0d, cf0d, rfl, -, -, -, -, -⟩ := Hf0d.out.form
      replace B0 := B0.trans (hb.mono B0.size)
      clear hb
      clear Hy0n
      clear Hy0d
      have hb := alloc_bel w17 (.cells #[.bool t0, .slice af0n r0n.length cf0n, .slice af0d r0d.length cf0d] 31)
      replace c0_0 := keep_cell hb c0_0
      replace c0_1 := keep_cell hb c0_1
      replace c0_2 := keep_cell hb c0_2
      replace bw0_0 := keep_cell hb bw0_0
      replace bw0_1 := keep_cell hb bw0_1
      replace bw0_2 := keep_cell hb bw0_2
      replace bg0_0 := keep_cell hb bg0_0
      replace bg0_1 := keep_cell hb bg0_1
      replace bg0_2 := keep_cell hb bg0_2
      replace Hw0n := Lib.hid (Hw0n.out.below hb (Nat.le_refl _))
      replace Hw0d := Lib.hid (Hw0d.out.below hb (Nat.le_refl _))
      replace Hg0n := Lib.hid (Hg0n.out.below hb (Nat.le_refl _))
      replace Hg0d := Lib.hid (Hg0d.out.below hb (Nat.le_refl _))
      replace Hf0n := Lib.hid (Hf0n.out.below hb (Nat.le_refl _))
      replace Hf0d := Lib.hid (Hf0d.out.below hb (Nat.le_refl _))
      obtain ⟨bf0_0, bf0_1, bf0_2⟩ : World.cell? (w17.alloc (.cells #[.bool t0, .slice af0n r0n.length cf0n, .slice af0d r0d.length cf0d] 31)) ⟨w17.heap.size, 0, none⟩ = some (.bool t0) ∧ World.cell? (w17.alloc (.cells #[.bool t0, .slice af0n r0n.length cf0n, .slice af0d r0d.length cf0d] 31)) ⟨w17.heap.size, 1, none⟩ = some (.slice af0n r0n.length cf0n) ∧ World.cell? (w17.alloc (.cells #[.bool t0, .slice af0n r0n.length cf0n, .slice af0d r0d.length cf0d] 31)) ⟨w17.heap.size, 2, none⟩ = some (.slice af0d r0d.length cf0d) := by simp [go_sem]
      replace B0 := B0.trans (hb.mono B0.size)
      clear hb
      go_wp2_with fail
      generalize w17.alloc (.cells #[.bool t0, .slice af0n r0n.length cf0n, .slice af0d r0d.length cf0d] 31) = w18 at *
      refine (eqRat_c _ t0 r0n r0d Hf0n.out Hf0d.out Hw0n.out Hw0d.out).mono ?_
      rintro e w19 ⟨rfl, hb⟩
      replace c0_0 := keep_cell hb c0_0
      replace c0_1 := keep_cell hb c0_1
      replace c0_2 := keep_cell hb c0_2
      replace bw0_0 := keep_cell hb bw0_0
      replace bw0_1 := keep_cell hb bw0_1
      replace bw0_2 := keep_cell hb bw0_2
      replace bg0_0 := keep_cell hb bg0_0
      replace bg0_1 := keep_cell hb bg0_1
      replace bg0_2 := keep_cell hb bg0_2
      replace bf0_0 := keep_cell hb bf0_0
      replace bf0_1 := keep_cell hb bf0_1
      replace bf0_2 := keep_cell hb bf0_2
      replace Hw0n := Lib.hid (Hw0n.out.below hb (Nat.le_refl _))
      replace Hw0d := Lib.hid (Hw0d.out.below hb (Nat.le_refl _))
      replace Hg0n := Lib.hid (Hg0n.out.below hb (Nat.le_refl _))
      replace Hg0d := Lib.hid (Hg0d.out.below hb (Nat.le_refl _))
      replace Hf0n := Lib.hid (Hf0n.out.below hb (Nat.le_refl _))
      replace Hf0d := Lib.hid (Hf0d.out.below hb (Nat.le_refl _))
      replace B0 := B0.trans (hb.mono B0.size)
      clear hb
      go_wp2_with fail
      refine (heldR_c _ t0 r0n.length r0d.length 1 m0 Hg0n.out Hg0d.out (by omega) (by omega) (by omega) (by omega) HMm0.out).mono ?_
      rintro e w20 ⟨rfl, hb⟩
      replace c0_0 := keep_cell hb c0_0
      replace c0_1 := keep_cell hb c0_1
      replace c0_2 := keep_cell hb c0_2
      replace bw0_0 := keep_cell hb bw0_0
      replace bw0_1 := keep_cell hb bw0_1
      replace bw0_2 := keep_cell hb bw0_2
      replace bg0_0 := keep_cell hb bg0_0
      replace bg0_1 := keep_cell hb bg0_1
      replace bg0_2 := keep_cell hb bg0_2
      replace bf0_0 := keep_cell hb bf0_0
      replace bf0_1 := keep_cell hb bf0_1
      replace bf0_2 := keep_cell hb bf0_2
      replace Hw0n := Lib.hid (Hw0n.out.below hb (Nat.le_refl _))
      replace Hw0d := Lib.hid (Hw0d.out.below hb (Nat.le_refl _))
      replace Hg0n := Lib.hid (Hg0n.out.below hb (Nat.le_refl _))
      replace Hg0d := Lib.hid (Hg0d.out.below hb (Nat.le_refl _))
      replace Hf0n := Lib.hid (Hf0n.out.below hb (Nat.le_refl _))
      replace Hf0d := Lib.hid (Hf0d.out.below hb (Nat.le_refl _))
      replace B0 := B0.trans (hb.mono B0.size)
      clear hb
      go_wp2
      go_ret
      exact retB rfl (BW.trans (B0.mono BW.size))

set_option maxRecDepth 100000 in
theorem lifted (os : Os) (started : os.Started) (H : Type) (enc : TypeId × Value → H) :
    ReturnsInHanded {} Try.checked os 9 .any (Rows.fnExactRatNegSpec.pre6 enc Try.prog Try.f9 Rows.fnExactRatNegRow.domain false) (Rows.fnExactRatNegSpec.post enc Try.prog Try.f9 false true false false) := by
  refine returnsInHanded_of_change (C := Try.checked) Try.own started (by kernel_rfl) Try.func9
    (ChangeSpec.witness6 (enc := enc) (C := Try.checked) false ⟨#[], #[.agg #[.bool false, .slice none 0 0, .slice none 0 0]], []⟩ 8 (by kernel_rfl) (by kernel_rfl) (by kernel_rfl) (by kernel_rfl)) ?_
  intro W base args ds gs before hval0 hW hcnd _
  have hval : ∀ (j : Nat) t v, Try.f9.params[j]? = some t → args[j]? = some v → Value.okWide Try.prog W .any base t v := hval0
  have hW' := hW
  obtain ⟨p, q, hA0, hV, rfl, hfz, hnd⟩ := hW
  have hA : DataW.TrodAll enc Try.prog W 0 (fun _ => true) true Try.f9.params.toList args.toList ds p := hA0
  rw [Try.params9] at hA hval
  obtain ⟨v0, vs0, d0, ds0, p0, q0, hargs, rfl, rfl, h0, r0⟩ := trodAll_cons hA
  obtain ⟨rfl, rfl, rfl⟩ := trodAll_nil r0
  obtain rfl : args = #[v0] := by cases args; simp_all
  obtain ⟨rfl, rfl⟩ := trodVars_none hV
  have lt0 : ∀ x ∈ p0, x.block < W.heap.size := by obtain ⟨m, hm⟩ := h0; exact DataW.trod_lt m _ _ _ hm
  obtain ⟨s0, u0, e0, x0n, x0d, rfl, w0, hm0⟩ := rat_of_trod (hval 0 26 v0 rfl rfl) h0
  clear hA0 hval0
  refine (walk W s0 u0 e0 x0n x0d w0 hm0 (ng (q1 qneg s0 x0n x0d).1) (limbs (Int.natAbs (q1 qneg s0 x0n x0d).1)) (limbs (q1 qneg s0 x0n x0d).2) (q1_len qneg_len s0 x0n x0d)
    (fun w b0 u0 e0 f0 k0 k1 => sRatNeg_c w b0 e0 s0 u0 f0 x0n x0d k0 k1)
    (fun w b0 u0 e0 f0 k0 k1 => RatNeg_c w b0 e0 s0 u0 f0 x0n x0d k0 k1)).mono fun e W' ⟨he, bel⟩ => ?_
  subst he
  exact ⟨_, rfl, _, _, _, [], _, [], hW', trodAll_mk1 (shut_bool Try.underlying4 _), (trodAll_cons_mk (Below.trod Try.laidOut (by kernel_rfl) (of_decide_eq_true (by kernel_rfl)) h0 bel lt0) trodAll_mk0), rfl, bel.frame _, fun h => by cases h⟩

theorem facts : joinedFacts Try.pinned.checked.prog 9 Try.f9 Rows.fnExactRatNegSpec Rows.fnExactRatNegRow = true := by
  unfold joinedFacts
  refine and_mk (and_mk (and_mk (and_mk (and_mk (and_mk (and_mk ?_ Try.mayEnter) ?_) ?_) ?_) ?_) ?_) ?_
  · kernel_rfl
  · rw [Try.liftsNone]; rfl
  · rw [Try.makeCut]; rfl
  · kernel_rfl
  · kernel_rfl
  · kernel_rfl
  · kernel_rfl

theorem proved : Rows.FnExactRatNegSaid :=
  OpenClaim.holds_of_wide 9 Try.f9 rfl rfl rfl rfl rfl rfl rfl ⟨rfl, rfl, rfl, rfl, rfl⟩ rfl rfl rfl rfl rfl (by as_aux_lemma => kernel_rfl) Try.func9 facts
    (of_decide_eq_true (by as_aux_lemma => kernel_rfl)) (by unfold Func.isWrapper; rw [if_neg (of_decide_eq_false (by as_aux_lemma => kernel_rfl))]; exact ⟨rfl, rfl⟩)
    (fun os started H enc _ => lifted os started H enc)

end Go.Proofs.Ytlideggpdailkaa.lawRatNeg
