/- FnExactScaleVector: the program's ScaleVector answers what the reference's ScaleVector answers, for every input; no condition. -/
import Derived.Test.YtcmhpdhcpkhejaaVecL
import Derived.Test.YtcmhpdhcpkhejaaVecS
namespace Go.Proofs.Ytcmhpdhcpkhejaa.lawScaleVector
open Go.ChangeShapes Go.WideShapes Go.ChangeAt Go.RowKit Lm Go.Proofs.Ytcmhpdhcpkhejaa

theorem sc_sum (r : Rc) (n : Nat) (A : Nat → Rc) : sumK (v2R qmul A (fun _ => r)) 0 (scN r n A) ≤ 100000 := by
  have h1 : scN r n A ≤ 24 := by
    unfold scN
    split
    · next h =>
      by_cases hh : OkRc r ∧ OkV n A
      · exact hh.2.1
      · rw [scc_no hh] at h; simp at h
    · omega
  have h2 := sumK_le (v2R qmul A (fun _ => r)) (scN r n A) 48 fun i _ => by
    show (limbs (Int.natAbs (vop qmul A (fun _ => r) i).1)).length + (limbs (vop qmul A (fun _ => r) i).2).length ≤ 48
    have := (low_isQ0 (numR (A i) * numR r) (denR (A i) * denR r)).len
    exact Nat.add_le_add this.1 this.2
  omega

set_option maxHeartbeats 4000000 in
set_option maxRecDepth 100000 in
theorem walk (w : World) (s0 : Bool) (a0 d0 : Value) (x0n x0d : List Int) (h0 : Rd2 w a0 d0 x0n x0d) (hm0 : x0n.length ≤ 9223372036854775807 ∧ x0d.length ≤ 9223372036854775807) (v1 : Value) (n1 : Nat) (E1 : Nat → Ent) (A1 : Nat → Rc) (h1 : RdV w v1 n1 E1 A1) (m0 : Nat) (R0 : Nat → Rc) (hr0 : sumK R0 0 m0 ≤ 100000) (c1 : Bool)
    (C1 : ∀ (w : World) (b0 : Nat) (u0 : Value) (e0 : Nat) (f0 : Value) (lo1 hi1 : Nat) (u1 : Value), Own w b0 u0 x0n → Own w e0 f0 x0d → Vec w lo1 hi1 u1 n1 A1 → Calls Try.prog 25 #[.agg #[.bool s0, u0, f0], u1] w (RetVB w m0 R0 c1))
    (C2 : ∀ (w : World) (b0 : Nat) (u0 : Value) (e0 : Nat) (f0 : Value) (lo1 hi1 : Nat) (u1 : Value), Own w b0 u0 x0n → Own w e0 f0 x0d → Vec w lo1 hi1 u1 n1 A1 → Calls Try.prog 27 #[.agg #[.bool s0, u0, f0], u1] w (RetVB w m0 R0 c1)) :
    Calls Try.prog 7 #[.agg #[.bool s0, a0, d0], v1] w (RetB w true) := by
  obtain ⟨⟨p0, q0, hv0, hc0⟩, ⟨pd0, qd0, hw0, hd0⟩⟩ := id h0
  subst hv0
  subst hw0
  clear hc0 hd0
  obtain ⟨hm0n, hm0d⟩ := hm0
  have BW : Below w.heap.size w (w.alloc (.cells #[.bool s0, .slice p0 x0n.length q0, .slice pd0 x0d.length qd0] 39)) := alloc_bel _ _
  have G0 := Lib.hid h0
  have G1 := Lib.hid h1
  have K1 := Lib.hid C1
  have K2 := Lib.hid C2
  clear h0 h1 C1 C2
  obtain ⟨c0_0, c0_1, c0_2⟩ : World.cell? (w.alloc (.cells #[.bool s0, .slice p0 x0n.length q0, .slice pd0 x0d.length qd0] 39)) ⟨w.heap.size, 0, none⟩ = some (.bool s0) ∧ World.cell? (w.alloc (.cells #[.bool s0, .slice p0 x0n.length q0, .slice pd0 x0d.length qd0] 39)) ⟨w.heap.size, 1, none⟩ = some (.slice p0 x0n.length q0) ∧ World.cell? (w.alloc (.cells #[.bool s0, .slice p0 x0n.length q0, .slice pd0 x0d.length qd0] 39)) ⟨w.heap.size, 2, none⟩ = some (.slice pd0 x0d.length qd0) := by simp [go_sem]
  have hs0 : w.heap.size + 1 ≤ (w.alloc (.cells #[.bool s0, .slice p0 x0n.length q0, .slice pd0 x0d.length qd0] 39)).heap.size := by simp
  go_enter Try.func7, Try.ntmps7
  go_wp2_with fail
  generalize (w.alloc (.cells #[.bool s0, .slice p0 x0n.length q0, .slice pd0 x0d.length qd0] 39)) = w0 at *
  have B := Below.refl w0.heap.size w0
  refine (szRat_c _ s0 x0n.length x0d.length q0 p0 qd0 pd0 1048576 (by omega) (by omega) hm0n hm0d).mono ?_
  rintro e w1 ⟨l0, rfl, hl0, hm, hb⟩
  have HL0 := Lib.hid hm
  clear hm
  replace c0_0 := keep_cell hb c0_0
  replace c0_1 := keep_cell hb c0_1
  replace c0_2 := keep_cell hb c0_2
  have hs1 := hb.size
  replace B := B.trans (hb.mono B.size)
  clear hb
  by_cases hz0 : l0 < 0
  case pos =>
    go_wp2
    go_ret
    exact retB rfl (BW.trans (B.mono BW.size))
  case neg =>
    have dl0 : decide (l0 < 0) = false := decide_eq_false hz0
    have hx0 : (x0n.length : Int) + x0d.length ≤ 1048576 := by have := HL0.out (by omega); omega
    have hl00 : 0 ≤ l0 := by omega
    clear hz0
    go_wp2_with fail
    refine (szRatS_c _ _ n1 E1 A1 l0 (G1.out.below (BW.trans (B.mono BW.size))) (by omega) (by omega)).mono ?_
    rintro e w2 ⟨l1, rfl, hl1, hm, hb⟩
    have HL1 := Lib.hid hm
    clear hm
    replace c0_0 := keep_cell hb c0_0
    replace c0_1 := keep_cell hb c0_1
    replace c0_2 := keep_cell hb c0_2
    have hs2 := hb.size
    replace B := B.trans (hb.mono B.size)
    clear hb
    by_cases hz1 : l1 < 0
    case pos =>
      go_wp2
      go_ret
      exact retB rfl (BW.trans (B.mono BW.size))
    case neg =>
      have dl1 : decide (l1 < 0) = false := decide_eq_false hz1
      have hk1 : sumK A1 0 n1 ≤ 1048576 := by have := HL1.out (by omega); omega
      have hl01 : 0 ≤ l1 := by omega
      clear hz1
      go_wp2_with fail
      refine (toRat_c _ _ _ s0 x0n x0d (G0.out.below (BW.trans (B.mono BW.size))) (by omega) (by omega)).mono ?_
      rintro e w3 ⟨u, d, rfl, ho1, ho2, ha, hb⟩
      have ho := RatF.of (s := s0) ho1 ho2 ha
      clear ho1 ho2 ha
      replace c0_0 := keep_cell hb c0_0
      replace c0_1 := keep_cell hb c0_1
      replace c0_2 := keep_cell hb c0_2
      have hs3 := hb.size
      replace B := B.trans (hb.mono B.size)
      clear hb
      obtain ⟨ay0, cy0, by0, ey0, rfl, rfl⟩ := ho.form
      have Hy0 := Lib.hid ho
      clear ho
      go_wp2_with fail
      refine (toRatS_c _ _ n1 E1 A1 (G1.out.below (BW.trans (B.mono BW.size))) hk1).mono ?_
      rintro e w4 ⟨vy1, rfl, ho, hb⟩
      replace Hy0 := Lib.hid (Hy0.out.bel hb)
      replace c0_0 := keep_cell hb c0_0
      replace c0_1 := keep_cell hb c0_1
      replace c0_2 := keep_cell hb c0_2
      have hs4 := hb.size
      replace B := B.trans (hb.mono B.size)
      clear hb
      have Hy1 := Lib.hid ho
      clear ho
      go_wp2_with fail
      refine (K1.out _ _ _ _ _ _ _ _ Hy0.out.num Hy0.out.den Hy1.out).mono ?_
      rintro e w5 ⟨vws, rfl, ho, hb⟩
      replace Hy0 := Lib.hid (Hy0.out.bel hb)
      replace Hy1 := Lib.hid (Hy1.out.bel hb)
      replace c0_0 := keep_cell hb c0_0
      replace c0_1 := keep_cell hb c0_1
      replace c0_2 := keep_cell hb c0_2
      have hs5 := hb.size
      replace B := B.trans (hb.mono B.size)
      clear hb
      have Hws := Lib.hid ho
      clear ho
      clear Hy0
      clear Hy1
      go_wp2_with fail
      refine (toRat_c _ _ _ s0 x0n x0d (G0.out.below (BW.trans (B.mono BW.size))) (by omega) (by omega)).mono ?_
      rintro e w6 ⟨u, d, rfl, ho1, ho2, ha, hb⟩
      have ho := RatF.of (s := s0) ho1 ho2 ha
      clear ho1 ho2 ha
      replace Hws := Lib.hid (Hws.out.bel hb)
      replace c0_0 := keep_cell hb c0_0
      replace c0_1 := keep_cell hb c0_1
      replace c0_2 := keep_cell hb c0_2
      have hs6 := hb.size
      replace B := B.trans (hb.mono B.size)
      clear hb
      obtain ⟨ax0, cx0, bx0, ex0, rfl, rfl⟩ := ho.form
      have Hx0 := Lib.hid ho
      clear ho
      have hb := alloc_bel w6 (.cells #[.bool s0, .slice ax0 x0n.length cx0, .slice bx0 x0d.length ex0] 45)
      replace Hws := Lib.hid (Hws.out.bel hb)
      replace Hx0 := Lib.hid (Hx0.out.bel hb)
      replace c0_0 := keep_cell hb c0_0
      replace c0_1 := keep_cell hb c0_1
      replace c0_2 := keep_cell hb c0_2
      obtain ⟨bx_0, bx_1, bx_2⟩ : World.cell? (w6.alloc (.cells #[.bool s0, .slice ax0 x0n.length cx0, .slice bx0 x0d.length ex0] 45)) ⟨w6.heap.size, 0, none⟩ = some (.bool s0) ∧ World.cell? (w6.alloc (.cells #[.bool s0, .slice ax0 x0n.length cx0, .slice bx0 x0d.length ex0] 45)) ⟨w6.heap.size, 1, none⟩ = some (.slice ax0 x0n.length cx0) ∧ World.cell? (w6.alloc (.cells #[.bool s0, .slice ax0 x0n.length cx0, .slice bx0 x0d.length ex0] 45)) ⟨w6.heap.size, 2, none⟩ = some (.slice bx0 x0d.length ex0) := by simp [go_sem]
      have hs7 : w6.heap.size + 1 ≤ (w6.alloc (.cells #[.bool s0, .slice ax0 x0n.length cx0, .slice bx0 x0d.length ex0] 45)).heap.size := by simp
      replace B := B.trans (hb.mono B.size)
      clear hb
      go_wp2_with fail
      generalize w6.alloc (.cells #[.bool s0, .slice ax0 x0n.length cx0, .slice bx0 x0d.length ex0] 45) = w7 at *
      refine (toRatS_c _ _ n1 E1 A1 (G1.out.below (BW.trans (B.mono BW.size))) hk1).mono ?_
      rintro e w8 ⟨vx1, rfl, ho, hb⟩
      replace Hws := Lib.hid (Hws.out.bel hb)
      replace Hx0 := Lib.hid (Hx0.out.bel hb)
      replace c0_0 := keep_cell hb c0_0
      replace c0_1 := keep_cell hb c0_1
      replace c0_2 := keep_cell hb c0_2
      replace bx_0 := keep_cell hb bx_0
      replace bx_1 := keep_cell hb bx_1
      replace bx_2 := keep_cell hb bx_2
      have hs8 := hb.size
      replace B := B.trans (hb.mono B.size)
      clear hb
      have Hx1 := Lib.hid ho
      clear ho
      go_wp2_with fail
      refine (K2.out _ _ _ _ _ _ _ _ Hx0.out.num Hx0.out.den Hx1.out).mono ?_
      rintro e w9 ⟨vgs, rfl, ho, hb⟩
      replace Hws := Lib.hid (Hws.out.bel hb)
      replace Hx0 := Lib.hid (Hx0.out.bel hb)
      replace Hx1 := Lib.hid (Hx1.out.bel hb)
      replace c0_0 := keep_cell hb c0_0
      replace c0_1 := keep_cell hb c0_1
      replace c0_2 := keep_cell hb c0_2
      replace bx_0 := keep_cell hb bx_0
      replace bx_1 := keep_cell hb bx_1
      replace bx_2 := keep_cell hb bx_2
      have hs9 := hb.size
      replace B := B.trans (hb.mono B.size)
      clear hb
      have Hgs := Lib.hid ho
      clear ho
      go_wp2_with fail
      refine (eqRatS_c _ m0 R0 Hgs.out Hws.out).mono ?_
      rintro e w10 ⟨rfl, hb⟩
      replace Hws := Lib.hid (Hws.out.bel hb)
      replace Hx0 := Lib.hid (Hx0.out.bel hb)
      replace Hx1 := Lib.hid (Hx1.out.bel hb)
      replace Hgs := Lib.hid (Hgs.out.bel hb)
      replace c0_0 := keep_cell hb c0_0
      replace c0_1 := keep_cell hb c0_1
      replace c0_2 := keep_cell hb c0_2
      replace bx_0 := keep_cell hb bx_0
      replace bx_1 := keep_cell hb bx_1
      replace bx_2 := keep_cell hb bx_2
      have hs10 := hb.size
      replace B := B.trans (hb.mono B.size)
      clear hb
      go_wp2_with fail
      replace Hws := Lib.hid (Hws.out.bel (below_drawn _ 1))
      replace Hx0 := Lib.hid (Hx0.out.bel (below_drawn _ 1))
      replace Hx1 := Lib.hid (Hx1.out.bel (below_drawn _ 1))
      replace Hgs := Lib.hid (Hgs.out.bel (below_drawn _ 1))
      replace B := below_drew B
      replace c0_0 := cell_drew c0_0
      replace c0_1 := cell_drew c0_1
      replace c0_2 := cell_drew c0_2
      replace bx_0 := cell_drew bx_0
      replace bx_1 := cell_drew bx_1
      replace bx_2 := cell_drew bx_2
      go_region_held3 (fun w' => w'.cell? ⟨w.heap.size, 0, none⟩ = some (.bool s0) ∧ w'.cell? ⟨w.heap.size, 1, none⟩ = some (.slice p0 x0n.length q0) ∧ w'.cell? ⟨w.heap.size, 2, none⟩ = some (.slice pd0 x0d.length qd0) ∧ w'.cell? ⟨w6.heap.size, 0, none⟩ = some (.bool s0) ∧ w'.cell? ⟨w6.heap.size, 1, none⟩ = some (.slice ax0 x0n.length cx0) ∧ w'.cell? ⟨w6.heap.size, 2, none⟩ = some (.slice bx0 x0d.length ex0)) (first | exact ⟨c0_0, c0_1, c0_2, bx_0, bx_1, bx_2⟩ | go_keep)
              (first | (go_at_call 26; refine (toRat_c _ _ _ s0 x0n x0d (G0.out.below (BW.trans (B.mono BW.size))) (by omega) (by omega)).mono ?_; rintro e w11 ⟨u, d, rfl, ho1, ho2, ha, hb3⟩; have ho := RatF.of (s := s0) ho1 ho2 ha; clear ho1 ho2 ha; replace Hws := Lib.hid (Hws.out.bel hb3); replace Hx0 := Lib.hid (Hx0.out.bel hb3); replace Hx1 := Lib.hid (Hx1.out.bel hb3); replace Hgs := Lib.hid (Hgs.out.bel hb3); replace c0_0 := keep_cell hb3 c0_0; replace c0_1 := keep_cell hb3 c0_1; replace c0_2 := keep_cell hb3 c0_2; replace bx_0 := keep_cell hb3 bx_0; replace bx_1 := keep_cell hb3 bx_1; replace bx_2 := keep_cell hb3 bx_2; have hs_hb3 := hb3.size; replace B := B.trans (hb3.mono B.size); obtain ⟨aq0, cq0, bq0, eq0, rfl, rfl⟩ := ho.form; have Hq0 := Lib.hid ho; clear ho hb3) | (go_at_call 28; refine (eqRat_c _ s0 x0n x0d Hx0.out.num Hx0.out.den Hq0.out.num Hq0.out.den).mono ?_; rintro e w12 ⟨rfl, hb4⟩; replace Hws := Lib.hid (Hws.out.bel hb4); replace Hx0 := Lib.hid (Hx0.out.bel hb4); replace Hx1 := Lib.hid (Hx1.out.bel hb4); replace Hgs := Lib.hid (Hgs.out.bel hb4); replace c0_0 := keep_cell hb4 c0_0; replace c0_1 := keep_cell hb4 c0_1; replace c0_2 := keep_cell hb4 c0_2; replace bx_0 := keep_cell hb4 bx_0; replace bx_1 := keep_cell hb4 bx_1; replace bx_2 := keep_cell hb4 bx_2; have hs_hb4 := hb4.size; replace B := B.trans (hb4.mono B.size); clear hb4 Hq0))
      have hs12 : w10.heap.size ≤ w12.heap.size := Nat.le_trans hs_hb3 hs_hb4
      clear hs_hb3 hs_hb4
      go_wp2_with fail
      refine (toRatS_c _ _ n1 E1 A1 (G1.out.below (BW.trans (B.mono BW.size))) hk1).mono ?_
      rintro e w13 ⟨vq1, rfl, ho, hb⟩
      replace Hws := Lib.hid (Hws.out.bel hb)
      replace Hx0 := Lib.hid (Hx0.out.bel hb)
      replace Hx1 := Lib.hid (Hx1.out.bel hb)
      replace Hgs := Lib.hid (Hgs.out.bel hb)
      replace c0_0 := keep_cell hb c0_0
      replace c0_1 := keep_cell hb c0_1
      replace c0_2 := keep_cell hb c0_2
      replace bx_0 := keep_cell hb bx_0
      replace bx_1 := keep_cell hb bx_1
      replace bx_2 := keep_cell hb bx_2
      have hs13 := hb.size
      replace B := B.trans (hb.mono B.size)
      clear hb
      have Hq1 := Lib.hid ho
      clear ho
      go_wp2_with fail
      refine (eqRatS_c _ n1 A1 Hx1.out Hq1.out).mono ?_
      rintro e w14 ⟨rfl, hb⟩
      replace Hws := Lib.hid (Hws.out.bel hb)
      replace Hx0 := Lib.hid (Hx0.out.bel hb)
      replace Hx1 := Lib.hid (Hx1.out.bel hb)
      replace Hgs := Lib.hid (Hgs.out.bel hb)
      replace Hq1 := Lib.hid (Hq1.out.bel hb)
      replace c0_0 := keep_cell hb c0_0
      replace c0_1 := keep_cell hb c0_1
      replace c0_2 := keep_cell hb c0_2
      replace bx_0 := keep_cell hb bx_0
      replace bx_1 := keep_cell hb bx_1
      replace bx_2 := keep_cell hb bx_2
      have hs14 := hb.size
      replace B := B.trans (hb.mono B.size)
      clear hb
      clear Hq1
      go_wp2_with fail
      refine (markQ_c _ s0 x0n x0d 1 1048576 Hx0.out hx0 (by omega) (by omega)).mono ?_
      rintro e w15 ⟨k0, rfl, k00, k01, hm, ho, hw⟩
      have hs15 := hw.size
      have HMk0 := Lib.hid hm
      replace Hws := Lib.hid (Hws.out.within hw (by omega))
      replace Hx1 := Lib.hid (Hx1.out.within hw (by omega))
      replace Hgs := Lib.hid (Hgs.out.within hw (by omega))
      replace c0_0 := hw.cell c0_0 (by dsimp only; omega)
      replace c0_1 := hw.cell c0_1 (by dsimp only; omega)
      replace c0_2 := hw.cell c0_2 (by dsimp only; omega)
      replace bx_0 := hw.cell bx_0 (by dsimp only; omega)
      replace bx_1 := hw.cell bx_1 (by dsimp only; omega)
      replace bx_2 := hw.cell bx_2 (by dsimp only; omega)
      replace Hx0 := Lib.hid ho
      replace B := hw.below B (by omega) (by omega)
      clear hm ho hw
      have dk0 : decide (k0 < 0) = false := decide_eq_false (by omega)
      clear Hx0
      clear bx_0
      clear bx_1
      clear bx_2
      go_wp2_with fail
      refine (markV_c _ w7.heap.size w8.heap.size _ n1 A1 k0 1048576 Hx1.out (by omega) hk1 (by omega)).mono ?_
      rintro e w16 ⟨k1, rfl, k10, k11, hm, ho, hw⟩
      have hs16 := hw.size
      have HMk1 := Lib.hid hm
      replace Hws := Lib.hid (Hws.out.within hw (by omega))
      replace Hgs := Lib.hid (Hgs.out.within hw (by omega))
      replace c0_0 := hw.cell c0_0 (by dsimp only; omega)
      replace c0_1 := hw.cell c0_1 (by dsimp only; omega)
      replace c0_2 := hw.cell c0_2 (by dsimp only; omega)
      replace Hx1 := Lib.hid ho
      replace B := hw.below B (by omega) (by omega)
      clear hm ho hw
      have dk1 : decide (k1 < 0) = false := decide_eq_false (by omega)
      clear Hx1
      go_wp2_with fail
      refine (eqRatS_c _ m0 R0 Hgs.out Hws.out).mono ?_
      rintro e w17 ⟨rfl, hb⟩
      replace Hws := Lib.hid (Hws.out.bel hb)
      replace Hgs := Lib.hid (Hgs.out.bel hb)
      replace c0_0 := keep_cell hb c0_0
      replace c0_1 := keep_cell hb c0_1
      replace c0_2 := keep_cell hb c0_2
      have hs17 := hb.size
      replace B := B.trans (hb.mono B.size)
      clear hb
      go_wp2_with fail
      refine (markV_c _ w8.heap.size w9.heap.size _ m0 R0 1 100000 Hgs.out (by omega) hr0 (by omega)).mono ?_
      rintro e w18 ⟨q9, rfl, q90, q91, hm, ho, hw⟩
      have hs18 := hw.size
      have HMq9 := Lib.hid hm
      replace Hws := Lib.hid (Hws.out.within hw (by omega))
      replace c0_0 := hw.cell c0_0 (by dsimp only; omega)
      replace c0_1 := hw.cell c0_1 (by dsimp only; omega)
      replace c0_2 := hw.cell c0_2 (by dsimp only; omega)
      replace Hgs := Lib.hid ho
      replace B := hw.below B (by omega) (by omega)
      clear hm ho hw
      have dq9 : decide (q9 < 0) = false := decide_eq_false (by omega)
      go_wp2_with fail
      refine (heldRatS_c _ w8.heap.size w9.heap.size _ m0 R0 1 q9 Hgs.out (by omega) (by omega) HMq9.out).mono ?_
      rintro e w19 ⟨rfl, hb⟩
      replace Hws := Lib.hid (Hws.out.bel hb)
      replace Hgs := Lib.hid (Hgs.out.bel hb)
      replace c0_0 := keep_cell hb c0_0
      replace c0_1 := keep_cell hb c0_1
      replace c0_2 := keep_cell hb c0_2
      have hs19 := hb.size
      replace B := B.trans (hb.mono B.size)
      clear hb
      go_wp2_with fail
      refine (toRat_c _ _ _ s0 x0n x0d (G0.out.below (BW.trans (B.mono BW.size))) (by omega) (by omega)).mono ?_
      rintro e w20 ⟨u, d, rfl, ho1, ho2, ha, hb⟩
      have ho := RatF.of (s := s0) ho1 ho2 ha
      clear ho1 ho2 ha
      replace Hws := Lib.hid (Hws.out.bel hb)
      replace Hgs := Lib.hid (Hgs.out.bel hb)
      replace c0_0 := keep_cell hb c0_0
      replace c0_1 := keep_cell hb c0_1
      replace c0_2 := keep_cell hb c0_2
      have hs20 := hb.size
      replace B := B.trans (hb.mono B.size)
      clear hb
      obtain ⟨az0, cz0, bz0, ez0, rfl, rfl⟩ := ho.form
      have Hz0 := Lib.hid ho
      clear ho
      go_wp2_with fail
      refine (toRatS_c _ _ n1 E1 A1 (G1.out.below (BW.trans (B.mono BW.size))) hk1).mono ?_
      rintro e w21 ⟨vz1, rfl, ho, hb⟩
      replace Hws := Lib.hid (Hws.out.bel hb)
      replace Hgs := Lib.hid (Hgs.out.bel hb)
      replace Hz0 := Lib.hid (Hz0.out.bel hb)
      replace c0_0 := keep_cell hb c0_0
      replace c0_1 := keep_cell hb c0_1
      replace c0_2 := keep_cell hb c0_2
      have hs21 := hb.size
      replace B := B.trans (hb.mono B.size)
      clear hb
      have Hz1 := Lib.hid ho
      clear ho
      go_wp2_with fail
      refine (K2.out _ _ _ _ _ _ _ _ Hz0.out.num Hz0.out.den Hz1.out).mono ?_
      rintro e w22 ⟨vfs, rfl, ho, hb⟩
      replace Hws := Lib.hid (Hws.out.bel hb)
      replace Hgs := Lib.hid (Hgs.out.bel hb)
      replace Hz0 := Lib.hid (Hz0.out.bel hb)
      replace Hz1 := Lib.hid (Hz1.out.bel hb)
      replace c0_0 := keep_cell hb c0_0
      replace c0_1 := keep_cell hb c0_1
      replace c0_2 := keep_cell hb c0_2
      have hs22 := hb.size
      replace B := B.trans (hb.mono B.size)
      clear hb
      have Hfs := Lib.hid ho
      clear ho
      clear Hz0
      clear Hz1
      go_wp2_with fail
      refine (eqRatS_c _ m0 R0 Hfs.out Hws.out).mono ?_
      rintro e w23 ⟨rfl, hb⟩
      replace Hws := Lib.hid (Hws.out.bel hb)
      replace Hgs := Lib.hid (Hgs.out.bel hb)
      replace Hfs := Lib.hid (Hfs.out.bel hb)
      replace c0_0 := keep_cell hb c0_0
      replace c0_1 := keep_cell hb c0_1
      replace c0_2 := keep_cell hb c0_2
      have hs23 := hb.size
      replace B := B.trans (hb.mono B.size)
      clear hb
      go_wp2_with fail
      refine (heldRatS_c _ w8.heap.size w9.heap.size _ m0 R0 1 q9 Hgs.out (by omega) (by omega) HMq9.out).mono ?_
      rintro e w24 ⟨rfl, hb⟩
      replace Hws := Lib.hid (Hws.out.bel hb)
      replace Hgs := Lib.hid (Hgs.out.bel hb)
      replace Hfs := Lib.hid (Hfs.out.bel hb)
      replace c0_0 := keep_cell hb c0_0
      replace c0_1 := keep_cell hb c0_1
      replace c0_2 := keep_cell hb c0_2
      have hs24 := hb.size
      replace B := B.trans (hb.mono B.size)
      clear hb
      go_wp2
      go_ret
      exact retB rfl (BW.trans (B.mono BW.size))

set_option maxRecDepth 100000 in
theorem lifted (os : Os) (started : os.Started) (H : Type) (enc : TypeId × Value → H) :
    ReturnsInHanded {} Try.checked os 7 .any (Rows.fnExactScaleVectorSpec.pre6 enc Try.prog Try.f7 Rows.fnExactScaleVectorRow.domain false) (Rows.fnExactScaleVectorSpec.post enc Try.prog Try.f7 false true false false) := by
  refine returnsInHanded_of_change (C := Try.checked) Try.own started (by kernel_rfl) Try.func7
    (ChangeSpec.witness6 (enc := enc) (C := Try.checked) false ⟨#[], #[.agg #[.bool false, .slice none 0 0, .slice none 0 0], .slice none 0 0], []⟩ 8 (by kernel_rfl) (by kernel_rfl) (by kernel_rfl) (by kernel_rfl)) ?_
  intro W base args ds gs before hval0 hW hcnd _
  have hval : ∀ (j : Nat) t v, Try.f7.params[j]? = some t → args[j]? = some v → Value.okWide Try.prog W .any base t v := hval0
  have hW' := hW
  obtain ⟨p, q, hA0, hV, rfl, hfz, hnd⟩ := hW
  have hA : DataW.TrodAll enc Try.prog W 0 (fun _ => true) true Try.f7.params.toList args.toList ds p := hA0
  rw [Try.params7] at hA hval
  obtain ⟨v0, vs0, d0, ds0, p0, q0, hargs, rfl, rfl, h0, r0⟩ := trodAll_cons hA
  obtain ⟨v1, vs1, d1, ds1, p1, q1, rfl, rfl, rfl, h1, r1⟩ := trodAll_cons r0
  obtain ⟨rfl, rfl, rfl⟩ := trodAll_nil r1
  obtain rfl : args = #[v0, v1] := by cases args; simp_all
  obtain ⟨rfl, rfl⟩ := trodVars_none hV
  have lt0 : ∀ x ∈ p0, x.block < W.heap.size := by obtain ⟨m, hm⟩ := h0; exact DataW.trod_lt m _ _ _ hm
  have lt1 : ∀ x ∈ p1, x.block < W.heap.size := by obtain ⟨m, hm⟩ := h1; exact DataW.trod_lt m _ _ _ hm
  obtain ⟨s0, u0, e0, x0n, x0d, rfl, w0, hm0⟩ := rat_of_trod (hval 0 39 v0 rfl rfl) h0
  obtain ⟨n1, E1, A1, w1⟩ := rdV_of_trod (hval 1 22 v1 rfl rfl) h1
  clear hA0 hval0
  refine (walk W s0 u0 e0 x0n x0d w0 hm0 v1 n1 E1 A1 w1 (scN ⟨s0, x0n, x0d⟩ n1 A1) (v2R qmul A1 (fun _ => ⟨s0, x0n, x0d⟩)) (sc_sum ⟨s0, x0n, x0d⟩ n1 A1) (scc ⟨s0, x0n, x0d⟩ n1 A1)
    (fun w b0 u0 e0 f0 _ _ u1 k0 k1 h => sScaleVector_c w b0 e0 s0 u0 f0 u1 x0n x0d n1 A1 k0 k1 h)
    (fun w b0 u0 e0 f0 _ _ u1 k0 k1 h => ScaleVector_c w b0 e0 s0 u0 f0 u1 x0n x0d n1 A1 k0 k1 h)).mono fun e W' ⟨he, bel⟩ => ?_
  subst he
  exact ⟨_, rfl, _, _, _, [], _, [], hW', trodAll_mk1 (shut_bool Try.underlying4 _), (trodAll_cons_mk (Below.trod Try.laidOut (by kernel_rfl) (of_decide_eq_true (by kernel_rfl)) h0 bel lt0) (trodAll_cons_mk (Below.trod Try.laidOut (by kernel_rfl) (of_decide_eq_true (by kernel_rfl)) h1 bel lt1) trodAll_mk0)), rfl, bel.frame _, fun h => by cases h⟩

theorem facts : joinedFacts Try.pinned.checked.prog 7 Try.f7 Rows.fnExactScaleVectorSpec Rows.fnExactScaleVectorRow = true := by
  unfold joinedFacts
  refine and_mk (and_mk (and_mk (and_mk (and_mk (and_mk (and_mk ?_ Try.mayEnter) ?_) ?_) ?_) ?_) ?_) ?_
  · kernel_rfl
  · rw [Try.liftsNone]; rfl
  · rw [Try.makeCut]; rfl
  · kernel_rfl
  · kernel_rfl
  · kernel_rfl
  · kernel_rfl

theorem proved : Rows.FnExactScaleVectorSaid :=
  OpenClaim.holds_of_wide 7 Try.f7 rfl rfl rfl rfl rfl rfl rfl ⟨rfl, rfl, rfl, rfl, rfl⟩ rfl rfl rfl rfl rfl (by as_aux_lemma => kernel_rfl) Try.func7 facts
    (of_decide_eq_true (by as_aux_lemma => kernel_rfl)) (by unfold Func.isWrapper; rw [if_neg (of_decide_eq_false (by as_aux_lemma => kernel_rfl))]; exact ⟨rfl, rfl⟩)
    (fun os started H enc _ => lifted os started H enc)

end Go.Proofs.Ytcmhpdhcpkhejaa.lawScaleVector
