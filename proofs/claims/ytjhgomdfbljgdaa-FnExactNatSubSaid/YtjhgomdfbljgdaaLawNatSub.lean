/- FnExactNatSub: the program's NatSub answers what the reference's NatSub answers, for every input; no condition. -/
import Derived.Test.YtjhgomdfbljgdaaNatTop
import Derived.Test.YtjhgomdfbljgdaaLawK
import Derived.Test.YtjhgomdfbljgdaaOpen
namespace Go.Proofs.Ytjhgomdfbljgdaa.lawNatSub
open Go.ChangeShapes Go.WideShapes Go.ChangeAt Go.RowKit Lm Go.Proofs.Ytjhgomdfbljgdaa

set_option maxHeartbeats 2000000 in
theorem walk (W : World) (a0 : Value) (x0 : List Int) (h0 : Rd W a0 x0) (a1 : Value) (x1 : List Int) (h1 : Rd W a1 x1) (r0 : List Int) (hr0 : r0.length ≤ 1000)
    (C1 : ∀ (w : World) (b0 : Nat) (u0 : Value) (b1 : Nat) (u1 : Value), Own w b0 u0 x0 → Own w b1 u1 x1 → Calls Try.prog 50 #[u0, u1] w (RetS w r0))
    (C2 : ∀ (w : World) (b0 : Nat) (u0 : Value) (b1 : Nat) (u1 : Value), Own w b0 u0 x0 → Own w b1 u1 x1 → Calls Try.prog 51 #[u0, u1] w (RetS w r0)) :
    Calls Try.prog 13 #[a0, a1] W (RetB W true) := by
  obtain ⟨p0, q0, hv0, hc0⟩ := id h0
  subst hv0
  clear hc0
  obtain ⟨p1, q1, hv1, hc1⟩ := id h1
  subst hv1
  clear hc1
  have R0 := Lib.hid h0
  have R1 := Lib.hid h1
  have K1 := Lib.hid C1
  have K2 := Lib.hid C2
  clear h0 h1 C1 C2
  by_cases hl0 : x0.length ≤ 1048576
  case neg =>
    have d0 : decide ((1048576 : Int) < x0.length) = true := decide_eq_true (by omega)
    go_enter Try.func13, Try.ntmps13
    go_wp2
    go_ret
    exact retB rfl (Below.refl _ _)
  case pos =>
    by_cases hl1 : x1.length ≤ 1048576
    case neg =>
      have d0 : decide ((1048576 : Int) < x0.length) = false := decide_eq_false (by omega)
      have d1 : decide ((1048576 : Int) < x1.length) = true := decide_eq_true (by omega)
      go_enter Try.func13, Try.ntmps13
      go_wp2
      go_ret
      exact retB rfl (Below.refl _ _)
    case pos =>
      have d0 : decide ((1048576 : Int) < x0.length) = false := decide_eq_false (by omega)
      have d1 : decide ((1048576 : Int) < x1.length) = false := decide_eq_false (by omega)
      go_enter Try.func13, Try.ntmps13
      go_wp2_with fail
      refine (toIntS_c W _ x0 R0.out (by omega)).mono ?_
      rintro e w1 ⟨vy0, rfl, ho1, hb⟩
      have Hy01 := Lib.hid ho1
      clear ho1
      have B1 := hb
      clear hb
      go_wp2_with fail
      refine (toIntS_c w1 _ x1 (R1.out.below B1) (by omega)).mono ?_
      rintro e w2 ⟨vy1, rfl, ho1, hb⟩
      have Hy02 := Lib.hid (Hy01.out.below hb (Nat.le_refl _))
      clear Hy01
      have Hy12 := Lib.hid (ho1.mono B1.size)
      clear ho1
      have B2 := B1.trans (hb.mono B1.size)
      clear B1 hb
      go_wp2_with fail
      refine (K1.out w2 _ _ _ _ Hy02.out Hy12.out).mono ?_
      rintro e w3 ⟨vw0, rfl, ho1, hb⟩
      have Hy03 := Lib.hid (Hy02.out.below hb (Nat.le_refl _))
      clear Hy02
      have Hy13 := Lib.hid (Hy12.out.below hb (Nat.le_refl _))
      clear Hy12
      have Hw03 := Lib.hid (ho1.mono B2.size)
      clear ho1
      have B3 := B2.trans (hb.mono B2.size)
      clear B2 hb
      clear Hy03
      clear Hy13
      go_wp2_with fail
      refine (toIntS_c w3 _ x0 (R0.out.below B3) (by omega)).mono ?_
      rintro e w4 ⟨vz0, rfl, ho1, hb⟩
      have HA_w0_z0 := Lib.hid (apart_new Hw03.out (.inr rfl) ho1)
      have Hw04 := Lib.hid (Hw03.out.below hb (Nat.le_refl _))
      clear Hw03
      have Hz04 := Lib.hid (ho1.mono B3.size)
      clear ho1
      have B4 := B3.trans (hb.mono B3.size)
      clear B3 hb
      go_wp2_with fail
      refine (toIntS_c w4 _ x1 (R1.out.below B4) (by omega)).mono ?_
      rintro e w5 ⟨vz1, rfl, ho1, hb⟩
      have HA_w0_z1 := Lib.hid (apart_new Hw04.out (.inr rfl) ho1)
      have HA_z0_z1 := Lib.hid (apart_new Hz04.out (.inr rfl) ho1)
      have Hw05 := Lib.hid (Hw04.out.below hb (Nat.le_refl _))
      clear Hw04
      have Hz05 := Lib.hid (Hz04.out.below hb (Nat.le_refl _))
      clear Hz04
      have Hz15 := Lib.hid (ho1.mono B4.size)
      clear ho1
      have B5 := B4.trans (hb.mono B4.size)
      clear B4 hb
      go_wp2_with fail
      refine (K2.out w5 _ _ _ _ Hz05.out Hz15.out).mono ?_
      rintro e w6 ⟨vg0, rfl, ho1, hb⟩
      have HA_w0_g0 := Lib.hid (apart_new Hw05.out (.inr rfl) ho1)
      have HA_z0_g0 := Lib.hid (apart_new Hz05.out (.inr rfl) ho1)
      have HA_z1_g0 := Lib.hid (apart_new Hz15.out (.inr rfl) ho1)
      have Hw06 := Lib.hid (Hw05.out.below hb (Nat.le_refl _))
      clear Hw05
      have Hz06 := Lib.hid (Hz05.out.below hb (Nat.le_refl _))
      clear Hz05
      have Hz16 := Lib.hid (Hz15.out.below hb (Nat.le_refl _))
      clear Hz15
      have Hg06 := Lib.hid (ho1.mono B5.size)
      clear ho1
      have B6 := B5.trans (hb.mono B5.size)
      clear B5 hb
      go_wp2_with fail
      refine (eqIntS_c w6 _ _ _ _ r0 Hg06.out Hw06.out).mono ?_
      rintro e w7 ⟨rfl, hb⟩
      have Hw07 := Lib.hid (Hw06.out.below hb (Nat.le_refl _))
      clear Hw06
      have Hz07 := Lib.hid (Hz06.out.below hb (Nat.le_refl _))
      clear Hz06
      have Hz17 := Lib.hid (Hz16.out.below hb (Nat.le_refl _))
      clear Hz16
      have Hg07 := Lib.hid (Hg06.out.below hb (Nat.le_refl _))
      clear Hg06
      have B7 := B6.trans (hb.mono B6.size)
      clear B6 hb
      go_wp2_with fail
      refine (toIntS_c w7 _ x0 (R0.out.below B7) (by omega)).mono ?_
      rintro e w8 ⟨vq0, rfl, ho1, hb⟩
      have Hw08 := Lib.hid (Hw07.out.below hb (Nat.le_refl _))
      clear Hw07
      have Hz08 := Lib.hid (Hz07.out.below hb (Nat.le_refl _))
      clear Hz07
      have Hz18 := Lib.hid (Hz17.out.below hb (Nat.le_refl _))
      clear Hz17
      have Hg08 := Lib.hid (Hg07.out.below hb (Nat.le_refl _))
      clear Hg07
      have Hq08 := Lib.hid (ho1.mono B7.size)
      clear ho1
      have B8 := B7.trans (hb.mono B7.size)
      clear B7 hb
      go_wp2_with fail
      refine (eqIntS_c w8 _ _ _ _ x0 Hz08.out Hq08.out).mono ?_
      rintro e w9 ⟨rfl, hb⟩
      have Hw09 := Lib.hid (Hw08.out.below hb (Nat.le_refl _))
      clear Hw08
      have Hz09 := Lib.hid (Hz08.out.below hb (Nat.le_refl _))
      clear Hz08
      have Hz19 := Lib.hid (Hz18.out.below hb (Nat.le_refl _))
      clear Hz18
      have Hg09 := Lib.hid (Hg08.out.below hb (Nat.le_refl _))
      clear Hg08
      have Hq09 := Lib.hid (Hq08.out.below hb (Nat.le_refl _))
      clear Hq08
      have B9 := B8.trans (hb.mono B8.size)
      clear B8 hb
      clear Hq09
      go_wp2_with fail
      refine (toIntS_c w9 _ x1 (R1.out.below B9) (by omega)).mono ?_
      rintro e w10 ⟨vq1, rfl, ho1, hb⟩
      have Hw010 := Lib.hid (Hw09.out.below hb (Nat.le_refl _))
      clear Hw09
      have Hz010 := Lib.hid (Hz09.out.below hb (Nat.le_refl _))
      clear Hz09
      have Hz110 := Lib.hid (Hz19.out.below hb (Nat.le_refl _))
      clear Hz19
      have Hg010 := Lib.hid (Hg09.out.below hb (Nat.le_refl _))
      clear Hg09
      have Hq110 := Lib.hid (ho1.mono B9.size)
      clear ho1
      have B10 := B9.trans (hb.mono B9.size)
      clear B9 hb
      go_wp2_with fail
      refine (eqIntS_c w10 _ _ _ _ x1 Hz110.out Hq110.out).mono ?_
      rintro e w11 ⟨rfl, hb⟩
      have Hw011 := Lib.hid (Hw010.out.below hb (Nat.le_refl _))
      clear Hw010
      have Hz011 := Lib.hid (Hz010.out.below hb (Nat.le_refl _))
      clear Hz010
      have Hz111 := Lib.hid (Hz110.out.below hb (Nat.le_refl _))
      clear Hz110
      have Hg011 := Lib.hid (Hg010.out.below hb (Nat.le_refl _))
      clear Hg010
      have Hq111 := Lib.hid (Hq110.out.below hb (Nat.le_refl _))
      clear Hq110
      have B11 := B10.trans (hb.mono B10.size)
      clear B10 hb
      clear Hq111
      go_wp2_with fail
      refine (markI_c w11 _ _ x0 1 Hz011.out (by omega) (by omega) (by omega)).mono ?_
      rintro e w12 ⟨k0, hm, rfl, ho1, hg⟩
      have HMk0 := Lib.hid hm
      have k00 : 0 ≤ k0 := by omega
      have k01 : k0 ≤ 10000000 := by omega
      clear hm
      have Hw012 := Lib.hid (Hw011.out.marked hg HA_w0_z0.out)
      clear Hw011
      have Hz112 := Lib.hid (Hz111.out.marked hg HA_z0_z1.out.symm)
      clear Hz111
      have Hg012 := Lib.hid (Hg011.out.marked hg HA_z0_g0.out.symm)
      clear Hg011
      have B12 := Hz011.out.grownBelow B11 hg (Nat.le_refl _) B11.size
      clear B11 hg
      have Hz012 := Lib.hid ho1
      clear Hz011 ho1
      clear Hz012
      go_wp2_with fail
      refine (markI_c w12 _ _ x1 k0 Hz112.out (by omega) (by omega) (by omega)).mono ?_
      rintro e w13 ⟨k1, hm, rfl, ho1, hg⟩
      have HMk1 := Lib.hid hm
      have k10 : 0 ≤ k1 := by omega
      have k11 : k1 ≤ 20000000 := by omega
      clear hm
      have Hw013 := Lib.hid (Hw012.out.marked hg HA_w0_z1.out)
      clear Hw012
      have Hg013 := Lib.hid (Hg012.out.marked hg HA_z1_g0.out.symm)
      clear Hg012
      have B13 := Hz112.out.grownBelow B12 hg (Nat.le_refl _) B12.size
      clear B12 hg
      have Hz113 := Lib.hid ho1
      clear Hz112 ho1
      clear Hz113
      have dk : decide (k1 < 0) = false := decide_eq_false (by omega)
      go_wp2_with fail
      refine (eqIntS_c w13 _ _ _ _ r0 Hg013.out Hw013.out).mono ?_
      rintro e w14 ⟨rfl, hb⟩
      have Hw014 := Lib.hid (Hw013.out.below hb (Nat.le_refl _))
      clear Hw013
      have Hg014 := Lib.hid (Hg013.out.below hb (Nat.le_refl _))
      clear Hg013
      have B14 := B13.trans (hb.mono B13.size)
      clear B13 hb
      go_wp2_with fail
      refine (markI_c w14 _ _ r0 1 Hg014.out (by omega) (by omega) (by omega)).mono ?_
      rintro e w15 ⟨m0, hm, rfl, ho1, hg⟩
      have HMm0 := Lib.hid hm
      have m00 : 0 ≤ m0 := by omega
      have m01 : m0 ≤ 30000000 := by omega
      clear hm
      have Hw015 := Lib.hid (Hw014.out.marked hg HA_w0_g0.out)
      clear Hw014
      have B15 := Hg014.out.grownBelow B14 hg (Nat.le_refl _) B14.size
      clear B14 hg
      have Hg015 := Lib.hid ho1
      clear Hg014 ho1
      have dm0 : decide (m0 < 0) = false := decide_eq_false (by omega)
      go_wp2_with fail
      refine (heldI_c w15 _ _ r0.length 1 m0 Hg015.out (by omega) (by omega) (by omega) HMm0.out).mono ?_
      rintro e w16 ⟨rfl, hb⟩
      have Hw016 := Lib.hid (Hw015.out.below hb (Nat.le_refl _))
      clear Hw015
      have Hg016 := Lib.hid (Hg015.out.below hb (Nat.le_refl _))
      clear Hg015
      have B16 := B15.trans (hb.mono B15.size)
      clear B15 hb
      go_wp2_with fail
      refine (toIntS_c w16 _ x0 (R0.out.below B16) (by omega)).mono ?_
      rintro e w17 ⟨ve0, rfl, ho1, hb⟩
      have Hw017 := Lib.hid (Hw016.out.below hb (Nat.le_refl _))
      clear Hw016
      have Hg017 := Lib.hid (Hg016.out.below hb (Nat.le_refl _))
      clear Hg016
      have He017 := Lib.hid (ho1.mono B16.size)
      clear ho1
      have B17 := B16.trans (hb.mono B16.size)
      clear B16 hb
      go_wp2_with fail
      refine (toIntS_c w17 _ x1 (R1.out.below B17) (by omega)).mono ?_
      rintro e w18 ⟨ve1, rfl, ho1, hb⟩
      have Hw018 := Lib.hid (Hw017.out.below hb (Nat.le_refl _))
      clear Hw017
      have Hg018 := Lib.hid (Hg017.out.below hb (Nat.le_refl _))
      clear Hg017
      have He018 := Lib.hid (He017.out.below hb (Nat.le_refl _))
      clear He017
      have He118 := Lib.hid (ho1.mono B17.size)
      clear ho1
      have B18 := B17.trans (hb.mono B17.size)
      clear B17 hb
      go_wp2_with fail
      refine (K2.out w18 _ _ _ _ He018.out He118.out).mono ?_
      rintro e w19 ⟨vf0, rfl, ho1, hb⟩
      have Hw019 := Lib.hid (Hw018.out.below hb (Nat.le_refl _))
      clear Hw018
      have Hg019 := Lib.hid (Hg018.out.below hb (Nat.le_refl _))
      clear Hg018
      have He019 := Lib.hid (He018.out.below hb (Nat.le_refl _))
      clear He018
      have He119 := Lib.hid (He118.out.below hb (Nat.le_refl _))
      clear He118
      have Hf019 := Lib.hid (ho1.mono B18.size)
      clear ho1
      have B19 := B18.trans (hb.mono B18.size)
      clear B18 hb
      clear He019
      clear He119
      go_wp2_with fail
      refine (eqIntS_c w19 _ _ _ _ r0 Hf019.out Hw019.out).mono ?_
      rintro e w20 ⟨rfl, hb⟩
      have Hw020 := Lib.hid (Hw019.out.below hb (Nat.le_refl _))
      clear Hw019
      have Hg020 := Lib.hid (Hg019.out.below hb (Nat.le_refl _))
      clear Hg019
      have Hf020 := Lib.hid (Hf019.out.below hb (Nat.le_refl _))
      clear Hf019
      have B20 := B19.trans (hb.mono B19.size)
      clear B19 hb
      go_wp2_with fail
      refine (heldI_c w20 _ _ r0.length 1 m0 Hg020.out (by omega) (by omega) (by omega) HMm0.out).mono ?_
      rintro e w21 ⟨rfl, hb⟩
      have Hw021 := Lib.hid (Hw020.out.below hb (Nat.le_refl _))
      clear Hw020
      have Hg021 := Lib.hid (Hg020.out.below hb (Nat.le_refl _))
      clear Hg020
      have Hf021 := Lib.hid (Hf020.out.below hb (Nat.le_refl _))
      clear Hf020
      have B21 := B20.trans (hb.mono B20.size)
      clear B20 hb
      go_wp2
      go_ret
      exact retB rfl B21

set_option maxRecDepth 100000 in
theorem lifted (os : Os) (started : os.Started) (H : Type) (enc : TypeId × Value → H) :
    ReturnsInHanded {} Try.checked os 13 .any (Rows.fnExactNatSubSpec.pre6 enc Try.prog Try.f13 Rows.fnExactNatSubRow.domain false) (Rows.fnExactNatSubSpec.post enc Try.prog Try.f13 false true false false) := by
  refine returnsInHanded_of_change (C := Try.checked) Try.own started (by kernel_rfl) Try.func13
    (ChangeSpec.witness6 (enc := enc) (C := Try.checked) false ⟨#[], #[.slice none 0 0, .slice none 0 0], []⟩ 8 (by kernel_rfl) (by kernel_rfl) (by kernel_rfl) (by kernel_rfl)) ?_
  intro W base args ds gs before hval0 hW hcnd _
  have hval : ∀ (j : Nat) t v, Try.f13.params[j]? = some t → args[j]? = some v → Value.okWide Try.prog W .any base t v := hval0
  have hW' := hW
  obtain ⟨p, q, hA0, hV, rfl, hfz, hnd⟩ := hW
  have hA : DataW.TrodAll enc Try.prog W 0 (fun _ => true) true Try.f13.params.toList args.toList ds p := hA0
  rw [Try.params13] at hA hval
  obtain ⟨v0, vs0, d0, ds0, p0, q0, hargs, rfl, rfl, h0, r0⟩ := trodAll_cons hA
  obtain ⟨v1, vs1, d1, ds1, p1, q1, rfl, rfl, rfl, h1, r1⟩ := trodAll_cons r0
  obtain ⟨rfl, rfl, rfl⟩ := trodAll_nil r1
  obtain rfl : args = #[v0, v1] := by cases args; simp_all
  obtain ⟨rfl, rfl⟩ := trodVars_none hV
  have lt0 : ∀ x ∈ p0, x.block < W.heap.size := by obtain ⟨m, hm⟩ := h0; exact DataW.trod_lt m _ _ _ hm
  have lt1 : ∀ x ∈ p1, x.block < W.heap.size := by obtain ⟨m, hm⟩ := h1; exact DataW.trod_lt m _ _ _ hm
  obtain ⟨x0, w0⟩ := rd_of_trod (hval 0 22 v0 rfl rfl) h0
  obtain ⟨x1, w1⟩ := rd_of_trod (hval 1 22 v1 rfl rfl) h1
  clear hA0 hval0
  refine (walk W v0 x0 w0 v1 x1 w1 (subV x0 x1) (subV_len x0 x1)
    (fun w b0 u0 b1 u1 k0 k1 => sNatSub_c w b0 b1 u0 u1 x0 x1 k0 k1)
    (fun w b0 u0 b1 u1 k0 k1 => NatSub_c w b0 b1 u0 u1 x0 x1 k0 k1)).mono fun e W' ⟨he, bel⟩ => ?_
  subst he
  exact ⟨_, rfl, _, _, _, [], _, [], hW', trodAll_mk1 (shut_bool Try.underlying4 _), (trodAll_cons_mk (Below.trod Try.laidOut (by kernel_rfl) (of_decide_eq_true (by kernel_rfl)) h0 bel lt0) (trodAll_cons_mk (Below.trod Try.laidOut (by kernel_rfl) (of_decide_eq_true (by kernel_rfl)) h1 bel lt1) trodAll_mk0)), rfl, bel.frame _, fun h => by cases h⟩

theorem facts : joinedFacts Try.pinned.checked.prog 13 Try.f13 Rows.fnExactNatSubSpec Rows.fnExactNatSubRow = true := by
  unfold joinedFacts
  refine and_mk (and_mk (and_mk (and_mk (and_mk (and_mk (and_mk ?_ Try.mayEnter) ?_) ?_) ?_) ?_) ?_) ?_
  · kernel_rfl
  · rw [Try.liftsNone]; rfl
  · rw [Try.makeCut]; rfl
  · kernel_rfl
  · kernel_rfl
  · kernel_rfl
  · kernel_rfl

theorem proved : Rows.FnExactNatSubSaid :=
  OpenClaim.holds_of_wide 13 Try.f13 rfl rfl rfl rfl rfl rfl rfl ⟨rfl, rfl, rfl, rfl, rfl⟩ rfl rfl rfl rfl rfl (by as_aux_lemma => kernel_rfl) Try.func13 facts
    (of_decide_eq_true (by as_aux_lemma => kernel_rfl)) (by unfold Func.isWrapper; rw [if_neg (of_decide_eq_false (by as_aux_lemma => kernel_rfl))]; exact ⟨rfl, rfl⟩)
    (fun os started H enc _ => lifted os started H enc)

end Go.Proofs.Ytjhgomdfbljgdaa.lawNatSub
