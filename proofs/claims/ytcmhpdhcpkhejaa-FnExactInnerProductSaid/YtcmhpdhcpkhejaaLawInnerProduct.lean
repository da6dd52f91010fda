/- FnExactInnerProduct: the program's InnerProduct answers what the reference's InnerProduct answers, for every input; no condition. -/
import Derived.Test.YtcmhpdhcpkhejaaVecL
import Derived.Test.YtcmhpdhcpkhejaaVecU
namespace Go.Proofs.Ytcmhpdhcpkhejaa.lawInnerProduct
open Go.ChangeShapes Go.WideShapes Go.ChangeAt Go.RowKit Lm Go.Proofs.Ytcmhpdhcpkhejaa

theorem ip_len (n : Nat) (A : Nat → Rc) (m : Nat) (B : Nat → Rc) : (limbs (ipQ n A m B).1.natAbs).length ≤ 24 ∧ (limbs (ipQ n A m B).2).length ≤ 24 := by
  by_cases h : OkV n A ∧ OkV m B ∧ n = m
  · rw [ipQ_yes h]; exact (inn_q _ _ _ _ n).len
  · rw [ipQ_no h]; exact IsQ0.len (.inr ⟨rfl, rfl⟩)

set_option maxHeartbeats 4000000 in
set_option maxRecDepth 100000 in
theorem walk (w : World) (v0 : Value) (n0 : Nat) (E0 : Nat → Ent) (A0 : Nat → Rc) (h0 : RdV w v0 n0 E0 A0) (v1 : Value) (n1 : Nat) (E1 : Nat → Ent) (A1 : Nat → Rc) (h1 : RdV w v1 n1 E1 A1) (z : Int) (d : Nat) (hr : (limbs z.natAbs).length ≤ 24 ∧ (limbs d).length ≤ 24) (c1 : Bool)
    (C1 : ∀ (w : World) (lo0 hi0 : Nat) (u0 : Value) (lo1 hi1 : Nat) (u1 : Value), Vec w lo0 hi0 u0 n0 A0 → Vec w lo1 hi1 u1 n1 A1 → Calls Try.prog 34 #[u0, u1] w (RetQB w z d c1))
    (C2 : ∀ (w : World) (lo0 hi0 : Nat) (u0 : Value) (lo1 hi1 : Nat) (u1 : Value), Vec w lo0 hi0 u0 n0 A0 → Vec w lo1 hi1 u1 n1 A1 → Calls Try.prog 35 #[u0, u1] w (RetQB w z d c1)) :
    Calls Try.prog 10 #[v0, v1] w (RetB w true) := by
  obtain ⟨hr1, hr2⟩ := hr
  have G0 := Lib.hid h0
  have G1 := Lib.hid h1
  have K1 := Lib.hid C1
  have K2 := Lib.hid C2
  clear h0 h1 C1 C2
  have B := Below.refl w.heap.size w
  go_enter Try.func10, Try.ntmps10
  go_wp2_with fail
  refine (szRatS_c _ _ n0 E0 A0 1048576 (G0.out.below B) (by omega) (by omega)).mono ?_
  rintro e w1 ⟨l0, rfl, hl0, hm, hb⟩
  have HL0 := Lib.hid hm
  clear hm
  have hs1 := hb.size
  replace B := B.trans (hb.mono B.size)
  clear hb
  by_cases hz0 : l0 < 0
  case pos =>
    go_wp2
    go_ret
    exact retB rfl B
  case neg =>
    have dl0 : decide (l0 < 0) = false := decide_eq_false hz0
    have hk0 : sumK A0 0 n0 ≤ 1048576 := by have := HL0.out (by omega); omega
    have hl00 : 0 ≤ l0 := by omega
    clear hz0
    go_wp2_with fail
    refine (szRatS_c _ _ n1 E1 A1 l0 (G1.out.below B) (by omega) (by omega)).mono ?_
    rintro e w2 ⟨l1, rfl, hl1, hm, hb⟩
    have HL1 := Lib.hid hm
    clear hm
    have hs2 := hb.size
    replace B := B.trans (hb.mono B.size)
    clear hb
    by_cases hz1 : l1 < 0
    case pos =>
      go_wp2
      go_ret
      exact retB rfl B
    case neg =>
      have dl1 : decide (l1 < 0) = false := decide_eq_false hz1
      have hk1 : sumK A1 0 n1 ≤ 1048576 := by have := HL1.out (by omega); omega
      have hl01 : 0 ≤ l1 := by omega
      clear hz1
      go_wp2_with fail
      refine (toRatS_c _ _ n0 E0 A0 (G0.out.below B) hk0).mono ?_
      rintro e w3 ⟨vy0, rfl, ho, hb⟩
      have hs3 := hb.size
      replace B := B.trans (hb.mono B.size)
      clear hb
      have Hy0 := Lib.hid ho
      clear ho
      go_wp2_with fail
      refine (toRatS_c _ _ n1 E1 A1 (G1.out.below B) hk1).mono ?_
      rintro e w4 ⟨vy1, rfl, ho, hb⟩
      replace Hy0 := Lib.hid (Hy0.out.bel hb)
      have hs4 := hb.size
      replace B := B.trans (hb.mono B.size)
      clear hb
      have Hy1 := Lib.hid ho
      clear ho
      go_wp2_with fail
      refine (K1.out _ _ _ _ _ _ _ Hy0.out Hy1.out).mono ?_
      rintro e w5 ⟨u, d, rfl, ho1, ho2, ha, hb⟩
      have ho := RatF.of (s := ng z) ho1 ho2 ha
      clear ho1 ho2 ha
      replace Hy0 := Lib.hid (Hy0.out.bel hb)
      replace Hy1 := Lib.hid (Hy1.out.bel hb)
      have hs5 := hb.size
      replace B := B.trans (hb.mono B.size)
      clear hb
      obtain ⟨aws, cws, bws, ews, rfl, rfl⟩ := ho.form
      have Hws := Lib.hid ho
      clear ho
      have hb := alloc_bel w5 (.cells #[.bool (ng z), .slice aws (limbs z.natAbs).length cws, .slice bws (limbs d).length ews] 45)
      replace Hy0 := Lib.hid (Hy0.out.bel hb)
      replace Hy1 := Lib.hid (Hy1.out.bel hb)
      replace Hws := Lib.hid (Hws.out.bel hb)
      obtain ⟨bw_0, bw_1, bw_2⟩ : World.cell? (w5.alloc (.cells #[.bool (ng z), .slice aws (limbs z.natAbs).length cws, .slice bws (limbs d).length ews] 45)) ⟨w5.heap.size, 0, none⟩ = some (.bool (ng z)) ∧ World.cell? (w5.alloc (.cells #[.bool (ng z), .slice aws (limbs z.natAbs).length cws, .slice bws (limbs d).length ews] 45)) ⟨w5.heap.size, 1, none⟩ = some (.slice aws (limbs z.natAbs).length cws) ∧ World.cell? (w5.alloc (.cells #[.bool (ng z), .slice aws (limbs z.natAbs).length cws, .slice bws (limbs d).length ews] 45)) ⟨w5.heap.size, 2, none⟩ = some (.slice bws (limbs d).length ews) := by simp [go_sem]
      have hs6 : w5.heap.size + 1 ≤ (w5.alloc (.cells #[.bool (ng z), .slice aws (limbs z.natAbs).length cws, .slice bws (limbs d).length ews] 45)).heap.size := by simp
      replace B := B.trans (hb.mono B.size)
      clear hb
      go_wp2_with fail
      generalize w5.alloc (.cells #[.bool (ng z), .slice aws (limbs z.natAbs).length cws, .slice bws (limbs d).length ews] 45) = w6 at *
      clear Hy0
      clear Hy1
      refine (toRatS_c _ _ n0 E0 A0 (G0.out.below B) hk0).mono ?_
      rintro e w7 ⟨vx0, rfl, ho, hb⟩
      replace Hws := Lib.hid (Hws.out.bel hb)
      replace bw_0 := keep_cell hb bw_0
      replace bw_1 := keep_cell hb bw_1
      replace bw_2 := keep_cell hb bw_2
      have hs7 := hb.size
      replace B := B.trans (hb.mono B.size)
      clear hb
      have Hx0 := Lib.hid ho
      clear ho
      go_wp2_with fail
      refine (toRatS_c _ _ n1 E1 A1 (G1.out.below B) hk1).mono ?_
      rintro e w8 ⟨vx1, rfl, ho, hb⟩
      replace Hws := Lib.hid (Hws.out.bel hb)
      replace Hx0 := Lib.hid (Hx0.out.bel hb)
      replace bw_0 := keep_cell hb bw_0
      replace bw_1 := keep_cell hb bw_1
      replace bw_2 := keep_cell hb bw_2
      have hs8 := hb.size
      replace B := B.trans (hb.mono B.size)
      clear hb
      have Hx1 := Lib.hid ho
      clear ho
      go_wp2_with fail
      refine (K2.out _ _ _ _ _ _ _ Hx0.out Hx1.out).mono ?_
      rintro e w9 ⟨u, d, rfl, ho1, ho2, ha, hb⟩
      have ho := RatF.of (s := ng z) ho1 ho2 ha
      clear ho1 ho2 ha
      replace Hws := Lib.hid (Hws.out.bel hb)
      replace Hx0 := Lib.hid (Hx0.out.bel hb)
      replace Hx1 := Lib.hid (Hx1.out.bel hb)
      replace bw_0 := keep_cell hb bw_0
      replace bw_1 := keep_cell hb bw_1
      replace bw_2 := keep_cell hb bw_2
      have hs9 := hb.size
      replace B := B.trans (hb.mono B.size)
      clear hb
      obtain ⟨ags, cgs, bgs, egs, rfl, rfl⟩ := ho.form
      have Hgs := Lib.hid ho
      clear ho
      have hb := alloc_bel w9 (.cells #[.bool (ng z), .slice ags (limbs z.natAbs).length cgs, .slice bgs (limbs d).length egs] 45)
      replace Hws := Lib.hid (Hws.out.bel hb)
      replace Hx0 := Lib.hid (Hx0.out.bel hb)
      replace Hx1 := Lib.hid (Hx1.out.bel hb)
      replace Hgs := Lib.hid (Hgs.out.bel hb)
      replace bw_0 := keep_cell hb bw_0
      replace bw_1 := keep_cell hb bw_1
      replace bw_2 := keep_cell hb bw_2
      obtain ⟨bg_0, bg_1, bg_2⟩ : World.cell? (w9.alloc (.cells #[.bool (ng z), .slice ags (limbs z.natAbs).length cgs, .slice bgs (limbs d).length egs] 45)) ⟨w9.heap.size, 0, none⟩ = some (.bool (ng z)) ∧ World.cell? (w9.alloc (.cells #[.bool (ng z), .slice ags (limbs z.natAbs).length cgs, .slice bgs (limbs d).length egs] 45)) ⟨w9.heap.size, 1, none⟩ = some (.slice ags (limbs z.natAbs).length cgs) ∧ World.cell? (w9.alloc (.cells #[.bool (ng z), .slice ags (limbs z.natAbs).length cgs, .slice bgs (limbs d).length egs] 45)) ⟨w9.heap.size, 2, none⟩ = some (.slice bgs (limbs d).length egs) := by simp [go_sem]
      have hs10 : w9.heap.size + 1 ≤ (w9.alloc (.cells #[.bool (ng z), .slice ags (limbs z.natAbs).length cgs, .slice bgs (limbs d).length egs] 45)).heap.size := by simp
      replace B := B.trans (hb.mono B.size)
      clear hb
      go_wp2_with fail
      generalize w9.alloc (.cells #[.bool (ng z), .slice ags (limbs z.natAbs).length cgs, .slice bgs (limbs d).length egs] 45) = w10 at *
      refine (eqRat_c _ (ng z) (limbs z.natAbs) (limbs d) Hgs.out.num Hgs.out.den Hws.out.num Hws.out.den).mono ?_
      rintro e w11 ⟨rfl, hb⟩
      replace Hws := Lib.hid (Hws.out.bel hb)
      replace Hx0 := Lib.hid (Hx0.out.bel hb)
      replace Hx1 := Lib.hid (Hx1.out.bel hb)
      replace Hgs := Lib.hid (Hgs.out.bel hb)
      replace bw_0 := keep_cell hb bw_0
      replace bw_1 := keep_cell hb bw_1
      replace bw_2 := keep_cell hb bw_2
      replace bg_0 := keep_cell hb bg_0
      replace bg_1 := keep_cell hb bg_1
      replace bg_2 := keep_cell hb bg_2
      have hs11 := hb.size
      replace B := B.trans (hb.mono B.size)
      clear hb
      go_wp2_with fail
      refine (toRatS_c _ _ n0 E0 A0 (G0.out.below B) hk0).mono ?_
      rintro e w12 ⟨vq0, rfl, ho, hb⟩
      replace Hws := Lib.hid (Hws.out.bel hb)
      replace Hx0 := Lib.hid (Hx0.out.bel hb)
      replace Hx1 := Lib.hid (Hx1.out.bel hb)
      replace Hgs := Lib.hid (Hgs.out.bel hb)
      replace bw_0 := keep_cell hb bw_0
      replace bw_1 := keep_cell hb bw_1
      replace bw_2 := keep_cell hb bw_2
      replace bg_0 := keep_cell hb bg_0
      replace bg_1 := keep_cell hb bg_1
      replace bg_2 := keep_cell hb bg_2
      have hs12 := hb.size
      replace B := B.trans (hb.mono B.size)
      clear hb
      have Hq0 := Lib.hid ho
      clear ho
      go_wp2_with fail
      refine (eqRatS_c _ n0 A0 Hx0.out Hq0.out).mono ?_
      rintro e w13 ⟨rfl, hb⟩
      replace Hws := Lib.hid (Hws.out.bel hb)
      replace Hx0 := Lib.hid (Hx0.out.bel hb)
      replace Hx1 := Lib.hid (Hx1.out.bel hb)
      replace Hgs := Lib.hid (Hgs.out.bel hb)
      replace Hq0 := Lib.hid (Hq0.out.bel hb)
      replace bw_0 := keep_cell hb bw_0
      replace bw_1 := keep_cell hb bw_1
      replace bw_2 := keep_cell hb bw_2
      replace bg_0 := keep_cell hb bg_0
      replace bg_1 := keep_cell hb bg_1
      replace bg_2 := keep_cell hb bg_2
      have hs13 := hb.size
      replace B := B.trans (hb.mono B.size)
      clear hb
      clear Hq0
      go_wp2_with fail
      refine (toRatS_c _ _ n1 E1 A1 (G1.out.below B) hk1).mono ?_
      rintro e w14 ⟨vq1, rfl, ho, hb⟩
      replace Hws := Lib.hid (Hws.out.bel hb)
      replace Hx0 := Lib.hid (Hx0.out.bel hb)
      replace Hx1 := Lib.hid (Hx1.out.bel hb)
      replace Hgs := Lib.hid (Hgs.out.bel hb)
      replace bw_0 := keep_cell hb bw_0
      replace bw_1 := keep_cell hb bw_1
      replace bw_2 := keep_cell hb bw_2
      replace bg_0 := keep_cell hb bg_0
      replace bg_1 := keep_cell hb bg_1
      replace bg_2 := keep_cell hb bg_2
      have hs14 := hb.size
      replace B := B.trans (hb.mono B.size)
      clear hb
      have Hq1 := Lib.hid ho
      clear ho
      go_wp2_with fail
      refine (eqRatS_c _ n1 A1 Hx1.out Hq1.out).mono ?_
      rintro e w15 ⟨rfl, hb⟩
      replace Hws := Lib.hid (Hws.out.bel hb)
      replace Hx0 := Lib.hid (Hx0.out.bel hb)
      replace Hx1 := Lib.hid (Hx1.out.bel hb)
      replace Hgs := Lib.hid (Hgs.out.bel hb)
      replace Hq1 := Lib.hid (Hq1.out.bel hb)
      replace bw_0 := keep_cell hb bw_0
      replace bw_1 := keep_cell hb bw_1
      replace bw_2 := keep_cell hb bw_2
      replace bg_0 := keep_cell hb bg_0
      replace bg_1 := keep_cell hb bg_1
      replace bg_2 := keep_cell hb bg_2
      have hs15 := hb.size
      replace B := B.trans (hb.mono B.size)
      clear hb
      clear Hq1
      go_wp2_with fail
      refine (markV_c _ w6.heap.size w7.heap.size _ n0 A0 1 1048576 Hx0.out (by omega) hk0 (by omega)).mono ?_
      rintro e w16 ⟨k0, rfl, k00, k01, hm, ho, hw⟩
      have hs16 := hw.size
      have HMk0 := Lib.hid hm
      replace Hws := Lib.hid (Hws.out.within hw (by omega))
      replace Hx1 := Lib.hid (Hx1.out.within hw (by omega))
      replace Hgs := Lib.hid (Hgs.out.within hw (by omega))
      replace bw_0 := hw.cell bw_0 (by dsimp only; omega)
      replace bw_1 := hw.cell bw_1 (by dsimp only; omega)
      replace bw_2 := hw.cell bw_2 (by dsimp only; omega)
      replace bg_0 := hw.cell bg_0 (by dsimp only; omega)
      replace bg_1 := hw.cell bg_1 (by dsimp only; omega)
      replace bg_2 := hw.cell bg_2 (by dsimp only; omega)
      replace Hx0 := Lib.hid ho
      replace B := hw.below B (by omega) (by omega)
      clear hm ho hw
      have dk0 : decide (k0 < 0) = false := decide_eq_false (by omega)
      clear Hx0
      go_wp2_with fail
      refine (markV_c _ w7.heap.size w8.heap.size _ n1 A1 k0 1048576 Hx1.out (by omega) hk1 (by omega)).mono ?_
      rintro e w17 ⟨k1, rfl, k10, k11, hm, ho, hw⟩
      have hs17 := hw.size
      have HMk1 := Lib.hid hm
      replace Hws := Lib.hid (Hws.out.within hw (by omega))
      replace Hgs := Lib.hid (Hgs.out.within hw (by omega))
      replace bw_0 := hw.cell bw_0 (by dsimp only; omega)
      replace bw_1 := hw.cell bw_1 (by dsimp only; omega)
      replace bw_2 := hw.cell bw_2 (by dsimp only; omega)
      replace bg_0 := hw.cell bg_0 (by dsimp only; omega)
      replace bg_1 := hw.cell bg_1 (by dsimp only; omega)
      replace bg_2 := hw.cell bg_2 (by dsimp only; omega)
      replace Hx1 := Lib.hid ho
      replace B := hw.below B (by omega) (by omega)
      clear hm ho hw
      have dk1 : decide (k1 < 0) = false := decide_eq_false (by omega)
      clear Hx1
      go_wp2_with fail
      refine (eqRat_c _ (ng z) (limbs z.natAbs) (limbs d) Hgs.out.num Hgs.out.den Hws.out.num Hws.out.den).mono ?_
      rintro e w18 ⟨rfl, hb⟩
      replace Hws := Lib.hid (Hws.out.bel hb)
      replace Hgs := Lib.hid (Hgs.out.bel hb)
      replace bw_0 := keep_cell hb bw_0
      replace bw_1 := keep_cell hb bw_1
      replace bw_2 := keep_cell hb bw_2
      replace bg_0 := keep_cell hb bg_0
      replace bg_1 := keep_cell hb bg_1
      replace bg_2 := keep_cell hb bg_2
      have hs18 := hb.size
      replace B := B.trans (hb.mono B.size)
      clear hb
      go_wp2_with fail
      refine (markQ_c _ (ng z) (limbs z.natAbs) (limbs d) 1 100000 Hgs.out (by omega) (by omega) (by omega)).mono ?_
      rintro e w19 ⟨q0, rfl, q00, q01, hm, ho, hw⟩
      have hs19 := hw.size
      have HMq0 := Lib.hid hm
      replace Hws := Lib.hid (Hws.out.within hw (by omega))
      replace bw_0 := hw.cell bw_0 (by dsimp only; omega)
      replace bw_1 := hw.cell bw_1 (by dsimp only; omega)
      replace bw_2 := hw.cell bw_2 (by dsimp only; omega)
      replace bg_0 := hw.cell bg_0 (by dsimp only; omega)
      replace bg_1 := hw.cell bg_1 (by dsimp only; omega)
      replace bg_2 := hw.cell bg_2 (by dsimp only; omega)
      replace Hgs := Lib.hid ho
      replace B := hw.below B (by omega) (by omega)
      clear hm ho hw
      have dq0 : decide (q0 < 0) = false := decide_eq_false (by omega)
      go_wp2_with fail
      refine (heldR_c _ (ng z) (limbs z.natAbs).length (limbs d).length 1 q0 Hgs.out.num Hgs.out.den (by omega) (by omega) (by omega) (by omega) HMq0.out).mono ?_
      rintro e w20 ⟨rfl, hb⟩
      replace Hws := Lib.hid (Hws.out.bel hb)
      replace Hgs := Lib.hid (Hgs.out.bel hb)
      replace bw_0 := keep_cell hb bw_0
      replace bw_1 := keep_cell hb bw_1
      replace bw_2 := keep_cell hb bw_2
      replace bg_0 := keep_cell hb bg_0
      replace bg_1 := keep_cell hb bg_1
      replace bg_2 := keep_cell hb bg_2
      have hs20 := hb.size
      replace B := B.trans (hb.mono B.size)
      clear hb
      go_wp2_with fail
      refine (toRatS_c _ _ n0 E0 A0 (G0.out.below B) hk0).mono ?_
      rintro e w21 ⟨vz0, rfl, ho, hb⟩
      replace Hws := Lib.hid (Hws.out.bel hb)
      replace Hgs := Lib.hid (Hgs.out.bel hb)
      replace bw_0 := keep_cell hb bw_0
      replace bw_1 := keep_cell hb bw_1
      replace bw_2 := keep_cell hb bw_2
      replace bg_0 := keep_cell hb bg_0
      replace bg_1 := keep_cell hb bg_1
      replace bg_2 := keep_cell hb bg_2
      have hs21 := hb.size
      replace B := B.trans (hb.mono B.size)
      clear hb
      have Hz0 := Lib.hid ho
      clear ho
      go_wp2_with fail
      refine (toRatS_c _ _ n1 E1 A1 (G1.out.below B) hk1).mono ?_
      rintro e w22 ⟨vz1, rfl, ho, hb⟩
      replace Hws := Lib.hid (Hws.out.bel hb)
      replace Hgs := Lib.hid (Hgs.out.bel hb)
      replace Hz0 := Lib.hid (Hz0.out.bel hb)
      replace bw_0 := keep_cell hb bw_0
      replace bw_1 := keep_cell hb bw_1
      replace bw_2 := keep_cell hb bw_2
      replace bg_0 := keep_cell hb bg_0
      replace bg_1 := keep_cell hb bg_1
      replace bg_2 := keep_cell hb bg_2
      have hs22 := hb.size
      replace B := B.trans (hb.mono B.size)
      clear hb
      have Hz1 := Lib.hid ho
      clear ho
      go_wp2_with fail
      refine (K2.out _ _ _ _ _ _ _ Hz0.out Hz1.out).mono ?_
      rintro e w23 ⟨u, d, rfl, ho1, ho2, ha, hb⟩
      have ho := RatF.of (s := ng z) ho1 ho2 ha
      clear ho1 ho2 ha
      replace Hws := Lib.hid (Hws.out.bel hb)
      replace Hgs := Lib.hid (Hgs.out.bel hb)
      replace Hz0 := Lib.hid (Hz0.out.bel hb)
      replace Hz1 := Lib.hid (Hz1.out.bel hb)
      replace bw_0 := keep_cell hb bw_0
      replace bw_1 := keep_cell hb bw_1
      replace bw_2 := keep_cell hb bw_2
      replace bg_0 := keep_cell hb bg_0
      replace bg_1 := keep_cell hb bg_1
      replace bg_2 := keep_cell hb bg_2
      have hs23 := hb.size
      replace B := B.trans (hb.mono B.size)
      clear hb
      obtain ⟨afs, cfs, bfs, efs, rfl, rfl⟩ := ho.form
      have Hfs := Lib.hid ho
      clear ho
      have hb := alloc_bel w23 (.cells #[.bool (ng z), .slice afs (limbs z.natAbs).length cfs, .slice bfs (limbs d).length efs] 45)
      replace Hws := Lib.hid (Hws.out.bel hb)
      replace Hgs := Lib.hid (Hgs.out.bel hb)
      replace Hz0 := Lib.hid (Hz0.out.bel hb)
      replace Hz1 := Lib.hid (Hz1.out.bel hb)
      replace Hfs := Lib.hid (Hfs.out.bel hb)
      replace bw_0 := keep_cell hb bw_0
      replace bw_1 := keep_cell hb bw_1
      replace bw_2 := keep_cell hb bw_2
      replace bg_0 := keep_cell hb bg_0
      replace bg_1 := keep_cell hb bg_1
      replace bg_2 := keep_cell hb bg_2
      obtain ⟨bf_0, bf_1, bf_2⟩ : World.cell? (w23.alloc (.cells #[.bool (ng z), .slice afs (limbs z.natAbs).length cfs, .slice bfs (limbs d).length efs] 45)) ⟨w23.heap.size, 0, none⟩ = some (.bool (ng z)) ∧ World.cell? (w23.alloc (.cells #[.bool (ng z), .slice afs (limbs z.natAbs).length cfs, .slice bfs (limbs d).length efs] 45)) ⟨w23.heap.size, 1, none⟩ = some (.slice afs (limbs z.natAbs).length cfs) ∧ World.cell? (w23.alloc (.cells #[.bool (ng z), .slice afs (limbs z.natAbs).length cfs, .slice bfs (limbs d).length efs] 45)) ⟨w23.heap.size, 2, none⟩ = some (.slice bfs (limbs d).length efs) := by simp [go_sem]
      have hs24 : w23.heap.size + 1 ≤ (w23.alloc (.cells #[.bool (ng z), .slice afs (limbs z.natAbs).length cfs, .slice bfs (limbs d).length efs] 45)).heap.size := by simp
      replace B := B.trans (hb.mono B.size)
      clear hb
      go_wp2_with fail
      generalize w23.alloc (.cells #[.bool (ng z), .slice afs (limbs z.natAbs).length cfs, .slice bfs (limbs d).length efs] 45) = w24 at *
      clear Hz0
      clear Hz1
      refine (eqRat_c _ (ng z) (limbs z.natAbs) (limbs d) Hfs.out.num Hfs.out.den Hws.out.num Hws.out.den).mono ?_
      rintro e w25 ⟨rfl, hb⟩
      replace Hws := Lib.hid (Hws.out.bel hb)
      replace Hgs := Lib.hid (Hgs.out.bel hb)
      replace Hfs := Lib.hid (Hfs.out.bel hb)
      replace bw_0 := keep_cell hb bw_0
      replace bw_1 := keep_cell hb bw_1
      replace bw_2 := keep_cell hb bw_2
      replace bg_0 := keep_cell hb bg_0
      replace bg_1 := keep_cell hb bg_1
      replace bg_2 := keep_cell hb bg_2
      replace bf_0 := keep_cell hb bf_0
      replace bf_1 := keep_cell hb bf_1
      replace bf_2 := keep_cell hb bf_2
      have hs25 := hb.size
      replace B := B.trans (hb.mono B.size)
      clear hb
      go_wp2_with fail
      refine (heldR_c _ (ng z) (limbs z.natAbs).length (limbs d).length 1 q0 Hgs.out.num Hgs.out.den (by omega) (by omega) (by omega) (by omega) HMq0.out).mono ?_
      rintro e w26 ⟨rfl, hb⟩
      replace Hws := Lib.hid (Hws.out.bel hb)
      replace Hgs := Lib.hid (Hgs.out.bel hb)
      replace Hfs := Lib.hid (Hfs.out.bel hb)
      replace bw_0 := keep_cell hb bw_0
      replace bw_1 := keep_cell hb bw_1
      replace bw_2 := keep_cell hb bw_2
      replace bg_0 := keep_cell hb bg_0
      replace bg_1 := keep_cell hb bg_1
      replace bg_2 := keep_cell hb bg_2
      replace bf_0 := keep_cell hb bf_0
      replace bf_1 := keep_cell hb bf_1
      replace bf_2 := keep_cell hb bf_2
      have hs26 := hb.size
      replace B := B.trans (hb.mono B.size)
      clear hb
      go_wp2
      go_ret
      exact retB rfl B

set_option maxRecDepth 100000 in
theorem lifted (os : Os) (started : os.Started) (H : Type) (enc : TypeId × Value → H) :
    ReturnsInHanded {} Try.checked os 10 .any (Rows.fnExactInnerProductSpec.pre6 enc Try.prog Try.f10 Rows.fnExactInnerProductRow.domain false) (Rows.fnExactInnerProductSpec.post enc Try.prog Try.f10 false true false false) := by
  refine returnsInHanded_of_change (C := Try.checked) Try.own started (by kernel_rfl) Try.func10
    (ChangeSpec.witness6 (enc := enc) (C := Try.checked) false ⟨#[], #[.slice none 0 0, .slice none 0 0], []⟩ 8 (by kernel_rfl) (by kernel_rfl) (by kernel_rfl) (by kernel_rfl)) ?_
  intro W base args ds gs before hval0 hW hcnd _
  have hval : ∀ (j : Nat) t v, Try.f10.params[j]? = some t → args[j]? = some v → Value.okWide Try.prog W .any base t v := hval0
  have hW' := hW
  obtain ⟨p, q, hA0, hV, rfl, hfz, hnd⟩ := hW
  have hA : DataW.TrodAll enc Try.prog W 0 (fun _ => true) true Try.f10.params.toList args.toList ds p := hA0
  rw [Try.params10] at hA hval
  obtain ⟨v0, vs0, d0, ds0, p0, q0, hargs, rfl, rfl, h0, r0⟩ := trodAll_cons hA
  obtain ⟨v1, vs1, d1, ds1, p1, q1, rfl, rfl, rfl, h1, r1⟩ := trodAll_cons r0
  obtain ⟨rfl, rfl, rfl⟩ := trodAll_nil r1
  obtain rfl : args = #[v0, v1] := by cases args; simp_all
  obtain ⟨rfl, rfl⟩ := trodVars_none hV
  have lt0 : ∀ x ∈ p0, x.block < W.heap.size := by obtain ⟨m, hm⟩ := h0; exact DataW.trod_lt m _ _ _ hm
  have lt1 : ∀ x ∈ p1, x.block < W.heap.size := by obtain ⟨m, hm⟩ := h1; exact DataW.trod_lt m _ _ _ hm
  obtain ⟨n0, E0, A0, w0⟩ := rdV_of_trod (hval 0 22 v0 rfl rfl) h0
  obtain ⟨n1, E1, A1, w1⟩ := rdV_of_trod (hval 1 22 v1 rfl rfl) h1
  clear hA0 hval0
  refine (walk W v0 n0 E0 A0 w0 v1 n1 E1 A1 w1 (ipQ n0 A0 n1 A1).1 (ipQ n0 A0 n1 A1).2 (ip_len n0 A0 n1 A1) (ipB n0 A0 n1 A1)
    (fun w _ _ _ _ _ _ h k => sInnerProduct_c w n0 A0 n1 A1 h k)
    (fun w _ _ _ _ _ _ h k => InnerProduct_c w n0 A0 n1 A1 h k)).mono fun e W' ⟨he, bel⟩ => ?_
  subst he
  exact ⟨_, rfl, _, _, _, [], _, [], hW', trodAll_mk1 (shut_bool Try.underlying4 _), (trodAll_cons_mk (Below.trod Try.laidOut (by kernel_rfl) (of_decide_eq_true (by kernel_rfl)) h0 bel lt0) (trodAll_cons_mk (Below.trod Try.laidOut (by kernel_rfl) (of_decide_eq_true (by kernel_rfl)) h1 bel lt1) trodAll_mk0)), rfl, bel.frame _, fun h => by cases h⟩

theorem facts : joinedFacts Try.pinned.checked.prog 10 Try.f10 Rows.fnExactInnerProductSpec Rows.fnExactInnerProductRow = true := by
  unfold joinedFacts
  refine and_mk (and_mk (and_mk (and_mk (and_mk (and_mk (and_mk ?_ Try.mayEnter) ?_) ?_) ?_) ?_) ?_) ?_
  · kernel_rfl
  · rw [Try.liftsNone]; rfl
  · rw [Try.makeCut]; rfl
  · kernel_rfl
  · kernel_rfl
  · kernel_rfl
  · kernel_rfl

theorem proved : Rows.FnExactInnerProductSaid :=
  OpenClaim.holds_of_wide 10 Try.f10 rfl rfl rfl rfl rfl rfl rfl ⟨rfl, rfl, rfl, rfl, rfl⟩ rfl rfl rfl rfl rfl (by as_aux_lemma => kernel_rfl) Try.func10 facts
    (of_decide_eq_true (by as_aux_lemma => kernel_rfl)) (by unfold Func.isWrapper; rw [if_neg (of_decide_eq_false (by as_aux_lemma => kernel_rfl))]; exact ⟨rfl, rfl⟩)
    (fun os started H enc _ => lifted os started H enc)

end Go.Proofs.Ytcmhpdhcpkhejaa.lawInnerProduct
