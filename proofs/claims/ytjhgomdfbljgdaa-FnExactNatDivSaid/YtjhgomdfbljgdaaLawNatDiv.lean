/- FnExactNatDiv: the program's NatDiv answers what the reference's NatDiv answers, for every input; no condition. -/
import Derived.Test.YtjhgomdfbljgdaaNatTop
import Derived.Test.YtjhgomdfbljgdaaLawK
import Derived.Test.YtjhgomdfbljgdaaOpen
namespace Go.Proofs.Ytjhgomdfbljgdaa.lawNatDiv
open Go.ChangeShapes Go.WideShapes Go.ChangeAt Go.RowKit Lm Go.Proofs.Ytjhgomdfbljgdaa

set_option maxHeartbeats 2000000 in
theorem walk (W : World) (a0 : Value) (x0 : List Int) (h0 : Rd W a0 x0) (a1 : Value) (x1 : List Int) (h1 : Rd W a1 x1) (r0 : List Int) (hr0 : r0.length ≤ 1000) (r1 : List Int) (hr1 : r1.length ≤ 1000)
    (C1 : ∀ (w : World) (b0 : Nat) (u0 : Value) (b1 : Nat) (u1 : Value), Own w b0 u0 x0 → Own w b1 u1 x1 → Calls Try.prog 60 #[u0, u1] w (RetSS w r0 r1))
    (C2 : ∀ (w : World) (b0 : Nat) (u0 : Value) (b1 : Nat) (u1 : Value), Own w b0 u0 x0 → Own w b1 u1 x1 → Calls Try.prog 61 #[u0, u1] w (RetSS w r0 r1)) :
    Calls Try.prog 18 #[a0, a1] W (RetB W true) := by
  obtain ⟨p0, q0, hv0, hc0⟩ := id h0
  subst hv0
  clear hc0
  obtain ⟨p1, q1, hv1, hc1⟩ := id h1
  subst hv1
  clear hc1
  have R0 := Lib.hid h0
  have R1 := Lib.hid h1
  have K1 := Lib.hid C1
  have K2 := Lib.hid C2
  clear h0 h1 C1 C2
  by_cases hl0 : x0.length ≤ 1048576
  case neg =>
    have d0 : decide ((1048576 : Int) < x0.length) = true := decide_eq_true (by omega)
    go_enter Try.func18, Try.ntmps18
    go_wp2
    go_ret
    exact retB rfl (Below.refl _ _)
  case pos =>
    by_cases hl1 : x1.length ≤ 1048576
    case neg =>
      have d0 : decide ((1048576 : Int) < x0.length) = false := decide_eq_false (by omega)
      have d1 : decide ((1048576 : Int) < x1.length) = true := decide_eq_true (by omega)
      go_enter Try.func18, Try.ntmps18
      go_wp2
      go_ret
      exact retB rfl (Below.refl _ _)
    case pos =>
      have d0 : decide ((1048576 : Int) < x0.length) = false := decide_eq_false (by omega)
      have d1 : decide ((1048576 : Int) < x1.length) = false := decide_eq_false (by omega)
      go_enter Try.func18, Try.ntmps18
      go_wp2_with fail
      refine (toIntS_c W _ x0 R0.out (by omega)).mono ?_
      rintro e w1 ⟨vy0, rfl, ho1, hb⟩
      have Hy01 := Lib.hid ho1
      clear ho1
      have B1 := hb
      clear hb
      go_wp2_with fail
      refine (toIntS_c w1 _ x1 (R1.out.below B1) (by omega)).mono ?_
      rintro e w2 ⟨vy1, rfl, ho1, hb⟩
      have Hy02 := Lib.hid (Hy01.out.below hb (Nat.le_refl _))
      clear Hy01
      have Hy12 := Lib.hid (ho1.mono B1.size)
      clear ho1
      have B2 := B1.trans (hb.mono B1.size)
      clear B1 hb
      go_wp2_with fail
      refine (K1.out w2 _ _ _ _ Hy02.out Hy12.out).mono ?_
      rintro e w3 ⟨vw0, vw1, rfl, ho1, ho2, ha, hb⟩
      have Hy03 := Lib.hid (Hy02.out.below hb (Nat.le_refl _))
      clear Hy02
      have Hy13 := Lib.hid (Hy12.out.below hb (Nat.le_refl _))
      clear Hy12
      have Hw03 := Lib.hid (ho1.mono B2.size)
      have Hw13 := Lib.hid (ho2.mono B2.size)
      clear ho1 ho2
      have B3 := B2.trans (hb.mono B2.size)
      clear B2 hb
      have HA_w0_w1 := Lib.hid ha
      clear ha
      clear Hy03
      clear Hy13
      go_wp2_with fail
      refine (toIntS_c w3 _ x0 (R0.out.below B3) (by omega)).mono ?_
      rintro e w4 ⟨vz0, rfl, ho1, hb⟩
      have HA_w0_z0 := Lib.hid (apart_new Hw03.out (.inr rfl) ho1)
      have HA_w1_z0 := Lib.hid (apart_new Hw13.out (.inr rfl) ho1)
      have Hw04 := Lib.hid (Hw03.out.below hb (Nat.le_refl _))
      clear Hw03
      have Hw14 := Lib.hid (Hw13.out.below hb (Nat.le_refl _))
      clear Hw13
      have Hz04 := Lib.hid (ho1.mono B3.size)
      clear ho1
      have B4 := B3.trans (hb.mono B3.size)
      clear B3 hb
      go_wp2_with fail
      refine (toIntS_c w4 _ x1 (R1.out.below B4) (by omega)).mono ?_
      rintro e w5 ⟨vz1, rfl, ho1, hb⟩
      have HA_w0_z1 := Lib.hid (apart_new Hw04.out (.inr rfl) ho1)
      have HA_w1_z1 := Lib.hid (apart_new Hw14.out (.inr rfl) ho1)
      have HA_z0_z1 := Lib.hid (apart_new Hz04.out (.inr rfl) ho1)
      have Hw05 := Lib.hid (Hw04.out.below hb (Nat.le_refl _))
      clear Hw04
      have Hw15 := Lib.hid (Hw14.out.below hb (Nat.le_refl _))
      clear Hw14
      have Hz05 := Lib.hid (Hz04.out.below hb (Nat.le_refl _))
      clear Hz04
      have Hz15 := Lib.hid (ho1.mono B4.size)
      clear ho1
      have B5 := B4.trans (hb.mono B4.size)
      clear B4 hb
      go_wp2_with fail
      refine (K2.out w5 _ _ _ _ Hz05.out Hz15.out).mono ?_
      rintro e w6 ⟨vg0, vg1, rfl, ho1, ho2, ha, hb⟩
      have HA_w0_g0 := Lib.hid (apart_new Hw05.out (.inr rfl) ho1)
      have HA_w1_g0 := Lib.hid (apart_new Hw15.out (.inr rfl) ho1)
      have HA_z0_g0 := Lib.hid (apart_new Hz05.out (.inr rfl) ho1)
      have HA_z1_g0 := Lib.hid (apart_new Hz15.out (.inr rfl) ho1)
      have HA_w0_g1 := Lib.hid (apart_new Hw05.out (.inr rfl) ho2)
      have HA_w1_g1 := Lib.hid (apart_new Hw15.out (.inr rfl) ho2)
      have HA_z0_g1 := Lib.hid (apart_new Hz05.out (.inr rfl) ho2)
      have HA_z1_g1 := Lib.hid (apart_new Hz15.out (.inr rfl) ho2)
      have Hw06 := Lib.hid (Hw05.out.below hb (Nat.le_refl _))
      clear Hw05
      have Hw16 := Lib.hid (Hw15.out.below hb (Nat.le_refl _))
      clear Hw15
      have Hz06 := Lib.hid (Hz05.out.below hb (Nat.le_refl _))
      clear Hz05
      have Hz16 := Lib.hid (Hz15.out.below hb (Nat.le_refl _))
      clear Hz15
      have Hg06 := Lib.hid (ho1.mono B5.size)
      have Hg16 := Lib.hid (ho2.mono B5.size)
      clear ho1 ho2
      have B6 := B5.trans (hb.mono B5.size)
      clear B5 hb
      have HA_g0_g1 := Lib.hid ha
      clear ha
      go_wp2_with fail
      refine (eqIntS_c w6 _ _ _ _ r0 Hg06.out Hw06.out).mono ?_
      rintro e w7 ⟨rfl, hb⟩
      have Hw07 := Lib.hid (Hw06.out.below hb (Nat.le_refl _))
      clear Hw06
      have Hw17 := Lib.hid (Hw16.out.below hb (Nat.le_refl _))
      clear Hw16
      have Hz07 := Lib.hid (Hz06.out.below hb (Nat.le_refl _))
      clear Hz06
      have Hz17 := Lib.hid (Hz16.out.below hb (Nat.le_refl _))
      clear Hz16
      have Hg07 := Lib.hid (Hg06.out.below hb (Nat.le_refl _))
      clear Hg06
      have Hg17 := Lib.hid (Hg16.out.below hb (Nat.le_refl _))
      clear Hg16
      have B7 := B6.trans (hb.mono B6.size)
      clear B6 hb
      go_wp2_with fail
      refine (eqIntS_c w7 _ _ _ _ r1 Hg17.out Hw17.out).mono ?_
      rintro e w8 ⟨rfl, hb⟩
      have Hw08 := Lib.hid (Hw07.out.below hb (Nat.le_refl _))
      clear Hw07
      have Hw18 := Lib.hid (Hw17.out.below hb (Nat.le_refl _))
      clear Hw17
      have Hz08 := Lib.hid (Hz07.out.below hb (Nat.le_refl _))
      clear Hz07
      have Hz18 := Lib.hid (Hz17.out.below hb (Nat.le_refl _))
      clear Hz17
      have Hg08 := Lib.hid (Hg07.out.below hb (Nat.le_refl _))
      clear Hg07
      have Hg18 := Lib.hid (Hg17.out.below hb (Nat.le_refl _))
      clear Hg17
      have B8 := B7.trans (hb.mono B7.size)
      clear B7 hb
      go_wp2_with fail
      refine (toIntS_c w8 _ x0 (R0.out.below B8) (by omega)).mono ?_
      rintro e w9 ⟨vq0, rfl, ho1, hb⟩
      have Hw09 := Lib.hid (Hw08.out.below hb (Nat.le_refl _))
      clear Hw08
      have Hw19 := Lib.hid (Hw18.out.below hb (Nat.le_refl _))
      clear Hw18
      have Hz09 := Lib.hid (Hz08.out.below hb (Nat.le_refl _))
      clear Hz08
      have Hz19 := Lib.hid (Hz18.out.below hb (Nat.le_refl _))
      clear Hz18
      have Hg09 := Lib.hid (Hg08.out.below hb (Nat.le_refl _))
      clear Hg08
      have Hg19 := Lib.hid (Hg18.out.below hb (Nat.le_refl _))
      clear Hg18
      have Hq09 := Lib.hid (ho1.mono B8.size)
      clear ho1
      have B9 := B8.trans (hb.mono B8.size)
      clear B8 hb
      go_wp2_with fail
      refine (eqIntS_c w9 _ _ _ _ x0 Hz09.out Hq09.out).mono ?_
      rintro e w10 ⟨rfl, hb⟩
      have Hw010 := Lib.hid (Hw09.out.below hb (Nat.le_refl _))
      clear Hw09
      have Hw110 := Lib.hid (Hw19.out.below hb (Nat.le_refl _))
      clear Hw19
      have Hz010 := Lib.hid (Hz09.out.below hb (Nat.le_refl _))
      clear Hz09
      have Hz110 := Lib.hid (Hz19.out.below hb (Nat.le_refl _))
      clear Hz19
      have Hg010 := Lib.hid (Hg09.out.below hb (Nat.le_refl _))
      clear Hg09
      have Hg110 := Lib.hid (Hg19.out.below hb (Nat.le_refl _))
      clear Hg19
      have Hq010 := Lib.hid (Hq09.out.below hb (Nat.le_refl _))
      clear Hq09
      have B10 := B9.trans (hb.mono B9.size)
      clear B9 hb
      clear Hq010
      go_wp2_with fail
      refine (toIntS_c w10 _ x1 (R1.out.below B10) (by omega)).mono ?_
      rintro e w11 ⟨vq1, rfl, ho1, hb⟩
      have Hw011 := Lib.hid (Hw010.out.below hb (Nat.le_refl _))
      clear Hw010
      have Hw111 := Lib.hid (Hw110.out.below hb (Nat.le_refl _))
      clear Hw110
      have Hz011 := Lib.hid (Hz010.out.below hb (Nat.le_refl _))
      clear Hz010
      have Hz111 := Lib.hid (Hz110.out.below hb (Nat.le_refl _))
      clear Hz110
      have Hg011 := Lib.hid (Hg010.out.below hb (Nat.le_refl _))
      clear Hg010
      have Hg111 := Lib.hid (Hg110.out.below hb (Nat.le_refl _))
      clear Hg110
      have Hq111 := Lib.hid (ho1.mono B10.size)
      clear ho1
      have B11 := B10.trans (hb.mono B10.size)
      clear B10 hb
      go_wp2_with fail
      refine (eqIntS_c w11 _ _ _ _ x1 Hz111.out Hq111.out).mono ?_
      rintro e w12 ⟨rfl, hb⟩
      have Hw012 := Lib.hid (Hw011.out.below hb (Nat.le_refl _))
      clear Hw011
      have Hw112 := Lib.hid (Hw111.out.below hb (Nat.le_refl _))
      clear Hw111
      have Hz012 := Lib.hid (Hz011.out.below hb (Nat.le_refl _))
      clear Hz011
      have Hz112 := Lib.hid (Hz111.out.below hb (Nat.le_refl _))
      clear Hz111
      have Hg012 := Lib.hid (Hg011.out.below hb (Nat.le_refl _))
      clear Hg011
      have Hg112 := Lib.hid (Hg111.out.below hb (Nat.le_refl _))
      clear Hg111
      have Hq112 := Lib.hid (Hq111.out.below hb (Nat.le_refl _))
      clear Hq111
      have B12 := B11.trans (hb.mono B11.size)
      clear B11 hb
      clear Hq112
      go_wp2_with fail
      refine (markI_c w12 _ _ x0 1 Hz012.out (by omega) (by omega) (by omega)).mono ?_
      rintro e w13 ⟨k0, hm, rfl, ho1, hg⟩
      have HMk0 := Lib.hid hm
      have k00 : 0 ≤ k0 := by omega
      have k01 : k0 ≤ 10000000 := by omega
      clear hm
      have Hw013 := Lib.hid (Hw012.out.marked hg HA_w0_z0.out)
      clear Hw012
      have Hw113 := Lib.hid (Hw112.out.marked hg HA_w1_z0.out)
      clear Hw112
      have Hz113 := Lib.hid (Hz112.out.marked hg HA_z0_z1.out.symm)
      clear Hz112
      have Hg013 := Lib.hid (Hg012.out.marked hg HA_z0_g0.out.symm)
      clear Hg012
      have Hg113 := Lib.hid (Hg112.out.marked hg HA_z0_g1.out.symm)
      clear Hg112
      have B13 := Hz012.out.grownBelow B12 hg (Nat.le_refl _) B12.size
      clear B12 hg
      have Hz013 := Lib.hid ho1
      clear Hz012 ho1
      clear Hz013
      go_wp2_with fail
      refine (markI_c w13 _ _ x1 k0 Hz113.out (by omega) (by omega) (by omega)).mono ?_
      rintro e w14 ⟨k1, hm, rfl, ho1, hg⟩
      have HMk1 := Lib.hid hm
      have k10 : 0 ≤ k1 := by omega
      have k11 : k1 ≤ 20000000 := by omega
      clear hm
      have Hw014 := Lib.hid (Hw013.out.marked hg HA_w0_z1.out)
      clear Hw013
      have Hw114 := Lib.hid (Hw113.out.marked hg HA_w1_z1.out)
      clear Hw113
      have Hg014 := Lib.hid (Hg013.out.marked hg HA_z1_g0.out.symm)
      clear Hg013
      have Hg114 := Lib.hid (Hg113.out.marked hg HA_z1_g1.out.symm)
      clear Hg113
      have B14 := Hz113.out.grownBelow B13 hg (Nat.le_refl _) B13.size
      clear B13 hg
      have Hz114 := Lib.hid ho1
      clear Hz113 ho1
      clear Hz114
      have dk : decide (k1 < 0) = false := decide_eq_false (by omega)
      go_wp2_with fail
      refine (eqIntS_c w14 _ _ _ _ r0 Hg014.out Hw014.out).mono ?_
      rintro e w15 ⟨rfl, hb⟩
      have Hw015 := Lib.hid (Hw014.out.below hb (Nat.le_refl _))
      clear Hw014
      have Hw115 := Lib.hid (Hw114.out.below hb (Nat.le_refl _))
      clear Hw114
      have Hg015 := Lib.hid (Hg014.out.below hb (Nat.le_refl _))
      clear Hg014
      have Hg115 := Lib.hid (Hg114.out.below hb (Nat.le_refl _))
      clear Hg114
      have B15 := B14.trans (hb.mono B14.size)
      clear B14 hb
      go_wp2_with fail
      refine (eqIntS_c w15 _ _ _ _ r1 Hg115.out Hw115.out).mono ?_
      rintro e w16 ⟨rfl, hb⟩
      have Hw016 := Lib.hid (Hw015.out.below hb (Nat.le_refl _))
      clear Hw015
      have Hw116 := Lib.hid (Hw115.out.below hb (Nat.le_refl _))
      clear Hw115
      have Hg016 := Lib.hid (Hg015.out.below hb (Nat.le_refl _))
      clear Hg015
      have Hg116 := Lib.hid (Hg115.out.below hb (Nat.le_refl _))
      clear Hg115
      have B16 := B15.trans (hb.mono B15.size)
      clear B15 hb
      go_wp2_with fail
      refine (markI_c w16 _ _ r0 1 Hg016.out (by omega) (by omega) (by omega)).mono ?_
      rintro e w17 ⟨m0, hm, rfl, ho1, hg⟩
      have HMm0 := Lib.hid hm
      have m00 : 0 ≤ m0 := by omega
      have m01 : m0 ≤ 30000000 := by omega
      clear hm
      have Hw017 := Lib.hid (Hw016.out.marked hg HA_w0_g0.out)
      clear Hw016
      have Hw117 := Lib.hid (Hw116.out.marked hg HA_w1_g0.out)
      clear Hw116
      have Hg117 := Lib.hid (Hg116.out.marked hg HA_g0_g1.out.symm)
      clear Hg116
      have B17 := Hg016.out.grownBelow B16 hg (Nat.le_refl _) B16.size
      clear B16 hg
      have Hg017 := Lib.hid ho1
      clear Hg016 ho1
      have dm0 : decide (m0 < 0) = false := decide_eq_false (by omega)
      go_wp2_with fail
      refine (markI_c w17 _ _ r1 m0 Hg117.out (by omega) (by omega) (by omega)).mono ?_
      rintro e w18 ⟨m1, hm, rfl, ho1, hg⟩
      have HMm1 := Lib.hid hm
      have m10 : 0 ≤ m1 := by omega
      have m11 : m1 ≤ 40000000 := by omega
      clear hm
      have Hw018 := Lib.hid (Hw017.out.marked hg HA_w0_g1.out)
      clear Hw017
      have Hw118 := Lib.hid (Hw117.out.marked hg HA_w1_g1.out)
      clear Hw117
      have Hg018 := Lib.hid (Hg017.out.marked hg HA_g0_g1.out)
      clear Hg017
      have B18 := Hg117.out.grownBelow B17 hg (Nat.le_refl _) B17.size
      clear B17 hg
      have Hg118 := Lib.hid ho1
      clear Hg117 ho1
      have dm1 : decide (m1 < 0) = false := decide_eq_false (by omega)
      go_wp2_with fail
      refine (heldI_c w18 _ _ r0.length 1 m0 Hg018.out (by omega) (by omega) (by omega) HMm0.out).mono ?_
      rintro e w19 ⟨rfl, hb⟩
      have Hw019 := Lib.hid (Hw018.out.below hb (Nat.le_refl _))
      clear Hw018
      have Hw119 := Lib.hid (Hw118.out.below hb (Nat.le_refl _))
      clear Hw118
      have Hg019 := Lib.hid (Hg018.out.below hb (Nat.le_refl _))
      clear Hg018
      have Hg119 := Lib.hid (Hg118.out.below hb (Nat.le_refl _))
      clear Hg118
      have B19 := B18.trans (hb.mono B18.size)
      clear B18 hb
      go_wp2_with fail
      refine (heldI_c w19 _ _ r1.length m0 m1 Hg119.out (by omega) (by omega) (by omega) HMm1.out).mono ?_
      rintro e w20 ⟨rfl, hb⟩
      have Hw020 := Lib.hid (Hw019.out.below hb (Nat.le_refl _))
      clear Hw019
      have Hw120 := Lib.hid (Hw119.out.below hb (Nat.le_refl _))
      clear Hw119
      have Hg020 := Lib.hid (Hg019.out.below hb (Nat.le_refl _))
      clear Hg019
      have Hg120 := Lib.hid (Hg119.out.below hb (Nat.le_refl _))
      clear Hg119
      have B20 := B19.trans (hb.mono B19.size)
      clear B19 hb
      go_wp2_with fail
      refine (toIntS_c w20 _ x0 (R0.out.below B20) (by omega)).mono ?_
      rintro e w21 ⟨ve0, rfl, ho1, hb⟩
      have Hw021 := Lib.hid (Hw020.out.below hb (Nat.le_refl _))
      clear Hw020
      have Hw121 := Lib.hid (Hw120.out.below hb (Nat.le_refl _))
      clear Hw120
      have Hg021 := Lib.hid (Hg020.out.below hb (Nat.le_refl _))
      clear Hg020
      have Hg121 := Lib.hid (Hg120.out.below hb (Nat.le_refl _))
      clear Hg120
      have He021 := Lib.hid (ho1.mono B20.size)
      clear ho1
      have B21 := B20.trans (hb.mono B20.size)
      clear B20 hb
      go_wp2_with fail
      refine (toIntS_c w21 _ x1 (R1.out.below B21) (by omega)).mono ?_
      rintro e w22 ⟨ve1, rfl, ho1, hb⟩
      have Hw022 := Lib.hid (Hw021.out.below hb (Nat.le_refl _))
      clear Hw021
      have Hw122 := Lib.hid (Hw121.out.below hb (Nat.le_refl _))
      clear Hw121
      have Hg022 := Lib.hid (Hg021.out.below hb (Nat.le_refl _))
      clear Hg021
      have Hg122 := Lib.hid (Hg121.out.below hb (Nat.le_refl _))
      clear Hg121
      have He022 := Lib.hid (He021.out.below hb (Nat.le_refl _))
      clear He021
      have He122 := Lib.hid (ho1.mono B21.size)
      clear ho1
      have B22 := B21.trans (hb.mono B21.size)
      clear B21 hb
      go_wp2_with fail
      refine (K2.out w22 _ _ _ _ He022.out He122.out).mono ?_
      rintro e w23 ⟨vf0, vf1, rfl, ho1, ho2, ha, hb⟩
      have Hw023 := Lib.hid (Hw022.out.below hb (Nat.le_refl _))
      clear Hw022
      have Hw123 := Lib.hid (Hw122.out.below hb (Nat.le_refl _))
      clear Hw122
      have Hg023 := Lib.hid (Hg022.out.below hb (Nat.le_refl _))
      clear Hg022
      have Hg123 := Lib.hid (Hg122.out.below hb (Nat.le_refl _))
      clear Hg122
      have He023 := Lib.hid (He022.out.below hb (Nat.le_refl _))
      clear He022
      have He123 := Lib.hid (He122.out.below hb (Nat.le_refl _))
      clear He122
      have Hf023 := Lib.hid (ho1.mono B22.size)
      have Hf123 := Lib.hid (ho2.mono B22.size)
      clear ho1 ho2
      have B23 := B22.trans (hb.mono B22.size)
      clear B22 hb
      have HA_f0_f1 := Lib.hid ha
      clear ha
      clear He023
      clear He123
      go_wp2_with fail
      refine (eqIntS_c w23 _ _ _ _ r0 Hf023.out Hw023.out).mono ?_
      rintro e w24 ⟨rfl, hb⟩
      have Hw024 := Lib.hid (Hw023.out.below hb (Nat.le_refl _))
      clear Hw023
      have Hw124 := Lib.hid (Hw123.out.below hb (Nat.le_refl _))
      clear Hw123
      have Hg024 := Lib.hid (Hg023.out.below hb (Nat.le_refl _))
      clear Hg023
      have Hg124 := Lib.hid (Hg123.out.below hb (Nat.le_refl _))
      clear Hg123
      have Hf024 := Lib.hid (Hf023.out.below hb (Nat.le_refl _))
      clear Hf023
      have Hf124 := Lib.hid (Hf123.out.below hb (Nat.le_refl _))
      clear Hf123
      have B24 := B23.trans (hb.mono B23.size)
      clear B23 hb
      go_wp2_with fail
      refine (eqIntS_c w24 _ _ _ _ r1 Hf124.out Hw124.out).mono ?_
      rintro e w25 ⟨rfl, hb⟩
      have Hw025 := Lib.hid (Hw024.out.below hb (Nat.le_refl _))
      clear Hw024
      have Hw125 := Lib.hid (Hw124.out.below hb (Nat.le_refl _))
      clear Hw124
      have Hg025 := Lib.hid (Hg024.out.below hb (Nat.le_refl _))
      clear Hg024
      have Hg125 := Lib.hid (Hg124.out.below hb (Nat.le_refl _))
      clear Hg124
      have Hf025 := Lib.hid (Hf024.out.below hb (Nat.le_refl _))
      clear Hf024
      have Hf125 := Lib.hid (Hf124.out.below hb (Nat.le_refl _))
      clear Hf124
      have B25 := B24.trans (hb.mono B24.size)
      clear B24 hb
      go_wp2_with fail
      refine (heldI_c w25 _ _ r0.length 1 m0 Hg025.out (by omega) (by omega) (by omega) HMm0.out).mono ?_
      rintro e w26 ⟨rfl, hb⟩
      have Hw026 := Lib.hid (Hw025.out.below hb (Nat.le_refl _))
      clear Hw025
      have Hw126 := Lib.hid (Hw125.out.below hb (Nat.le_refl _))
      clear Hw125
      have Hg026 := Lib.hid (Hg025.out.below hb (Nat.le_refl _))
      clear Hg025
      have Hg126 := Lib.hid (Hg125.out.below hb (Nat.le_refl _))
      clear Hg125
      have Hf026 := Lib.hid (Hf025.out.below hb (Nat.le_refl _))
      clear Hf025
      have Hf126 := Lib.hid (Hf125.out.below hb (Nat.le_refl _))
      clear Hf125
      have B26 := B25.trans (hb.mono B25.size)
      clear B25 hb
      go_wp2_with fail
      refine (heldI_c w26 _ _ r1.length m0 m1 Hg126.out (by omega) (by omega) (by omega) HMm1.out).mono ?_
      rintro e w27 ⟨rfl, hb⟩
      have Hw027 := Lib.hid (Hw026.out.below hb (Nat.le_refl _))
      clear Hw026
      have Hw127 := Lib.hid (Hw126.out.below hb (Nat.le_refl _))
      clear Hw126
      have Hg027 := Lib.hid (Hg026.out.below hb (Nat.le_refl _))
      clear Hg026
      have Hg127 := Lib.hid (Hg126.out.below hb (Nat.le_refl _))
      clear Hg126
      have Hf027 := Lib.hid (Hf026.out.below hb (Nat.le_refl _))
      clear Hf026
      have Hf127 := Lib.hid (Hf126.out.below hb (Nat.le_refl _))
      clear Hf126
      have B27 := B26.trans (hb.mono B26.size)
      clear B26 hb
      go_wp2
      go_ret
      exact retB rfl B27

set_option maxRecDepth 100000 in
theorem lifted (os : Os) (started : os.Started) (H : Type) (enc : TypeId × Value → H) :
    ReturnsInHanded {} Try.checked os 18 .any (Rows.fnExactNatDivSpec.pre6 enc Try.prog Try.f18 Rows.fnExactNatDivRow.domain false) (Rows.fnExactNatDivSpec.post enc Try.prog Try.f18 false true false false) := by
  refine returnsInHanded_of_change (C := Try.checked) Try.own started (by kernel_rfl) Try.func18
    (ChangeSpec.witness6 (enc := enc) (C := Try.checked) false ⟨#[], #[.slice none 0 0, .slice none 0 0], []⟩ 8 (by kernel_rfl) (by kernel_rfl) (by kernel_rfl) (by kernel_rfl)) ?_
  intro W base args ds gs before hval0 hW hcnd _
  have hval : ∀ (j : Nat) t v, Try.f18.params[j]? = some t → args[j]? = some v → Value.okWide Try.prog W .any base t v := hval0
  have hW' := hW
  obtain ⟨p, q, hA0, hV, rfl, hfz, hnd⟩ := hW
  have hA : DataW.TrodAll enc Try.prog W 0 (fun _ => true) true Try.f18.params.toList args.toList ds p := hA0
  rw [Try.params18] at hA hval
  obtain ⟨v0, vs0, d0, ds0, p0, q0, hargs, rfl, rfl, h0, r0⟩ := trodAll_cons hA
  obtain ⟨v1, vs1, d1, ds1, p1, q1, rfl, rfl, rfl, h1, r1⟩ := trodAll_cons r0
  obtain ⟨rfl, rfl, rfl⟩ := trodAll_nil r1
  obtain rfl : args = #[v0, v1] := by cases args; simp_all
  obtain ⟨rfl, rfl⟩ := trodVars_none hV
  have lt0 : ∀ x ∈ p0, x.block < W.heap.size := by obtain ⟨m, hm⟩ := h0; exact DataW.trod_lt m _ _ _ hm
  have lt1 : ∀ x ∈ p1, x.block < W.heap.size := by obtain ⟨m, hm⟩ := h1; exact DataW.trod_lt m _ _ _ hm
  obtain ⟨x0, w0⟩ := rd_of_trod (hval 0 22 v0 rfl rfl) h0
  obtain ⟨x1, w1⟩ := rd_of_trod (hval 1 22 v1 rfl rfl) h1
  clear hA0 hval0
  refine (walk W v0 x0 w0 v1 x1 w1 (divQ x0 x1) (divQ_len x0 x1) (divR x0 x1) (divR_len x0 x1)
    (fun w b0 u0 b1 u1 k0 k1 => sNatDiv_c w b0 b1 u0 u1 x0 x1 k0 k1)
    (fun w b0 u0 b1 u1 k0 k1 => NatDiv_c w b0 b1 u0 u1 x0 x1 k0 k1)).mono fun e W' ⟨he, bel⟩ => ?_
  subst he
  exact ⟨_, rfl, _, _, _, [], _, [], hW', trodAll_mk1 (shut_bool Try.underlying4 _), (trodAll_cons_mk (Below.trod Try.laidOut (by kernel_rfl) (of_decide_eq_true (by kernel_rfl)) h0 bel lt0) (trodAll_cons_mk (Below.trod Try.laidOut (by kernel_rfl) (of_decide_eq_true (by kernel_rfl)) h1 bel lt1) trodAll_mk0)), rfl, bel.frame _, fun h => by cases h⟩

theorem facts : joinedFacts Try.pinned.checked.prog 18 Try.f18 Rows.fnExactNatDivSpec Rows.fnExactNatDivRow = true := by
  unfold joinedFacts
  refine and_mk (and_mk (and_mk (and_mk (and_mk (and_mk (and_mk ?_ Try.mayEnter) ?_) ?_) ?_) ?_) ?_) ?_
  · kernel_rfl
  · rw [Try.liftsNone]; rfl
  · rw [Try.makeCut]; rfl
  · kernel_rfl
  · kernel_rfl
  · kernel_rfl
  · kernel_rfl

theorem proved : Rows.FnExactNatDivSaid :=
  OpenClaim.holds_of_wide 18 Try.f18 rfl rfl rfl rfl rfl rfl rfl ⟨rfl, rfl, rfl, rfl, rfl⟩ rfl rfl rfl rfl rfl (by as_aux_lemma => kernel_rfl) Try.func18 facts
    (of_decide_eq_true (by as_aux_lemma => kernel_rfl)) (by unfold Func.isWrapper; rw [if_neg (of_decide_eq_false (by as_aux_lemma => kernel_rfl))]; exact ⟨rfl, rfl⟩)
    (fun os started H enc _ => lifted os started H enc)

end Go.Proofs.Ytjhgomdfbljgdaa.lawNatDiv
