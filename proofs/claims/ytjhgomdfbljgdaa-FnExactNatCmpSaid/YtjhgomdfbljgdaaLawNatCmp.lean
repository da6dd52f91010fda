/- FnExactNatCmp: the program's NatCmp answers what the reference's NatCmp answers, for every input; no condition. -/
import Derived.Test.YtjhgomdfbljgdaaNatTop
import Derived.Test.YtjhgomdfbljgdaaLawK
import Derived.Test.YtjhgomdfbljgdaaOpen
namespace Go.Proofs.Ytjhgomdfbljgdaa.lawNatCmp
open Go.ChangeShapes Go.WideShapes Go.ChangeAt Go.RowKit Lm Go.Proofs.Ytjhgomdfbljgdaa

set_option maxHeartbeats 2000000 in
theorem walk (W : World) (a0 : Value) (x0 : List Int) (h0 : Rd W a0 x0) (a1 : Value) (x1 : List Int) (h1 : Rd W a1 x1) (k0 : Int)
    (C1 : ∀ (w : World) (b0 : Nat) (u0 : Value) (b1 : Nat) (u1 : Value), Own w b0 u0 x0 → Own w b1 u1 x1 → Calls Try.prog 34 #[u0, u1] w (RetI w k0))
    (C2 : ∀ (w : World) (b0 : Nat) (u0 : Value) (b1 : Nat) (u1 : Value), Own w b0 u0 x0 → Own w b1 u1 x1 → Calls Try.prog 35 #[u0, u1] w (RetI w k0)) :
    Calls Try.prog 6 #[a0, a1] W (RetB W true) := by
  obtain ⟨p0, q0, hv0, hc0⟩ := id h0
  subst hv0
  clear hc0
  obtain ⟨p1, q1, hv1, hc1⟩ := id h1
  subst hv1
  clear hc1
  have R0 := Lib.hid h0
  have R1 := Lib.hid h1
  have K1 := Lib.hid C1
  have K2 := Lib.hid C2
  clear h0 h1 C1 C2
  by_cases hl0 : x0.length ≤ 1048576
  case neg =>
    have d0 : decide ((1048576 : Int) < x0.length) = true := decide_eq_true (by omega)
    go_enter Try.func6, Try.ntmps6
    go_wp2
    go_ret
    exact retB rfl (Below.refl _ _)
  case pos =>
    by_cases hl1 : x1.length ≤ 1048576
    case neg =>
      have d0 : decide ((1048576 : Int) < x0.length) = false := decide_eq_false (by omega)
      have d1 : decide ((1048576 : Int) < x1.length) = true := decide_eq_true (by omega)
      go_enter Try.func6, Try.ntmps6
      go_wp2
      go_ret
      exact retB rfl (Below.refl _ _)
    case pos =>
      have d0 : decide ((1048576 : Int) < x0.length) = false := decide_eq_false (by omega)
      have d1 : decide ((1048576 : Int) < x1.length) = false := decide_eq_false (by omega)
      go_enter Try.func6, Try.ntmps6
      go_wp2_with fail
      refine (toIntS_c W _ x0 R0.out (by omega)).mono ?_
      rintro e w1 ⟨vy0, rfl, ho1, hb⟩
      have Hy01 := Lib.hid ho1
      clear ho1
      have B1 := hb
      clear hb
      go_wp2_with fail
      refine (toIntS_c w1 _ x1 (R1.out.below B1) (by omega)).mono ?_
      rintro e w2 ⟨vy1, rfl, ho1, hb⟩
      have Hy02 := Lib.hid (Hy01.out.below hb (Nat.le_refl _))
      clear Hy01
      have Hy12 := Lib.hid (ho1.mono B1.size)
      clear ho1
      have B2 := B1.trans (hb.mono B1.size)
      clear B1 hb
      go_wp2_with fail
      refine (K1.out w2 _ _ _ _ Hy02.out Hy12.out).mono ?_
      rintro e w3 ⟨rfl, hb⟩
      have Hy03 := Lib.hid (Hy02.out.below hb (Nat.le_refl _))
      clear Hy02
      have Hy13 := Lib.hid (Hy12.out.below hb (Nat.le_refl _))
      clear Hy12
      have B3 := B2.trans (hb.mono B2.size)
      clear B2 hb
      clear Hy03
      clear Hy13
      go_wp2_with fail
      refine (toIntS_c w3 _ x0 (R0.out.below B3) (by omega)).mono ?_
      rintro e w4 ⟨vz0, rfl, ho1, hb⟩
      have Hz04 := Lib.hid (ho1.mono B3.size)
      clear ho1
      have B4 := B3.trans (hb.mono B3.size)
      clear B3 hb
      go_wp2_with fail
      refine (toIntS_c w4 _ x1 (R1.out.below B4) (by omega)).mono ?_
      rintro e w5 ⟨vz1, rfl, ho1, hb⟩
      have Hz05 := Lib.hid (Hz04.out.below hb (Nat.le_refl _))
      clear Hz04
      have Hz15 := Lib.hid (ho1.mono B4.size)
      clear ho1
      have B5 := B4.trans (hb.mono B4.size)
      clear B4 hb
      go_wp2_with fail
      refine (K2.out w5 _ _ _ _ Hz05.out Hz15.out).mono ?_
      rintro e w6 ⟨rfl, hb⟩
      have Hz06 := Lib.hid (Hz05.out.below hb (Nat.le_refl _))
      clear Hz05
      have Hz16 := Lib.hid (Hz15.out.below hb (Nat.le_refl _))
      clear Hz15
      have B6 := B5.trans (hb.mono B5.size)
      clear B5 hb
      go_wp2_with fail
      refine (toIntS_c w6 _ x0 (R0.out.below B6) (by omega)).mono ?_
      rintro e w7 ⟨vq0, rfl, ho1, hb⟩
      have Hz07 := Lib.hid (Hz06.out.below hb (Nat.le_refl _))
      clear Hz06
      have Hz17 := Lib.hid (Hz16.out.below hb (Nat.le_refl _))
      clear Hz16
      have Hq07 := Lib.hid (ho1.mono B6.size)
      clear ho1
      have B7 := B6.trans (hb.mono B6.size)
      clear B6 hb
      go_wp2_with fail
      refine (eqIntS_c w7 _ _ _ _ x0 Hz07.out Hq07.out).mono ?_
      rintro e w8 ⟨rfl, hb⟩
      have Hz08 := Lib.hid (Hz07.out.below hb (Nat.le_refl _))
      clear Hz07
      have Hz18 := Lib.hid (Hz17.out.below hb (Nat.le_refl _))
      clear Hz17
      have Hq08 := Lib.hid (Hq07.out.below hb (Nat.le_refl _))
      clear Hq07
      have B8 := B7.trans (hb.mono B7.size)
      clear B7 hb
      clear Hq08
      go_wp2_with fail
      refine (toIntS_c w8 _ x1 (R1.out.below B8) (by omega)).mono ?_
      rintro e w9 ⟨vq1, rfl, ho1, hb⟩
      have Hz09 := Lib.hid (Hz08.out.below hb (Nat.le_refl _))
      clear Hz08
      have Hz19 := Lib.hid (Hz18.out.below hb (Nat.le_refl _))
      clear Hz18
      have Hq19 := Lib.hid (ho1.mono B8.size)
      clear ho1
      have B9 := B8.trans (hb.mono B8.size)
      clear B8 hb
      go_wp2_with fail
      refine (eqIntS_c w9 _ _ _ _ x1 Hz19.out Hq19.out).mono ?_
      rintro e w10 ⟨rfl, hb⟩
      have Hz010 := Lib.hid (Hz09.out.below hb (Nat.le_refl _))
      clear Hz09
      have Hz110 := Lib.hid (Hz19.out.below hb (Nat.le_refl _))
      clear Hz19
      have Hq110 := Lib.hid (Hq19.out.below hb (Nat.le_refl _))
      clear Hq19
      have B10 := B9.trans (hb.mono B9.size)
      clear B9 hb
      clear Hq110
      go_wp2
      go_ret
      exact retB rfl B10

set_option maxRecDepth 100000 in
theorem lifted (os : Os) (started : os.Started) (H : Type) (enc : TypeId × Value → H) :
    ReturnsInHanded {} Try.checked os 6 .any (Rows.fnExactNatCmpSpec.pre6 enc Try.prog Try.f6 Rows.fnExactNatCmpRow.domain false) (Rows.fnExactNatCmpSpec.post enc Try.prog Try.f6 false true false false) := by
  refine returnsInHanded_of_change (C := Try.checked) Try.own started (by kernel_rfl) Try.func6
    (ChangeSpec.witness6 (enc := enc) (C := Try.checked) false ⟨#[], #[.slice none 0 0, .slice none 0 0], []⟩ 8 (by kernel_rfl) (by kernel_rfl) (by kernel_rfl) (by kernel_rfl)) ?_
  intro W base args ds gs before hval0 hW hcnd _
  have hval : ∀ (j : Nat) t v, Try.f6.params[j]? = some t → args[j]? = some v → Value.okWide Try.prog W .any base t v := hval0
  have hW' := hW
  obtain ⟨p, q, hA0, hV, rfl, hfz, hnd⟩ := hW
  have hA : DataW.TrodAll enc Try.prog W 0 (fun _ => true) true Try.f6.params.toList args.toList ds p := hA0
  rw [Try.params6] at hA hval
  obtain ⟨v0, vs0, d0, ds0, p0, q0, hargs, rfl, rfl, h0, r0⟩ := trodAll_cons hA
  obtain ⟨v1, vs1, d1, ds1, p1, q1, rfl, rfl, rfl, h1, r1⟩ := trodAll_cons r0
  obtain ⟨rfl, rfl, rfl⟩ := trodAll_nil r1
  obtain rfl : args = #[v0, v1] := by cases args; simp_all
  obtain ⟨rfl, rfl⟩ := trodVars_none hV
  have lt0 : ∀ x ∈ p0, x.block < W.heap.size := by obtain ⟨m, hm⟩ := h0; exact DataW.trod_lt m _ _ _ hm
  have lt1 : ∀ x ∈ p1, x.block < W.heap.size := by obtain ⟨m, hm⟩ := h1; exact DataW.trod_lt m _ _ _ hm
  obtain ⟨x0, w0⟩ := rd_of_trod (hval 0 22 v0 rfl rfl) h0
  obtain ⟨x1, w1⟩ := rd_of_trod (hval 1 22 v1 rfl rfl) h1
  clear hA0 hval0
  refine (walk W v0 x0 w0 v1 x1 w1 (cmpV x0 x1)
    (fun w b0 u0 b1 u1 k0 k1 => sNatCmp_c w b0 b1 u0 u1 x0 x1 k0 k1)
    (fun w b0 u0 b1 u1 k0 k1 => NatCmp_c w b0 b1 u0 u1 x0 x1 k0 k1)).mono fun e W' ⟨he, bel⟩ => ?_
  subst he
  exact ⟨_, rfl, _, _, _, [], _, [], hW', trodAll_mk1 (shut_bool Try.underlying4 _), (trodAll_cons_mk (Below.trod Try.laidOut (by kernel_rfl) (of_decide_eq_true (by kernel_rfl)) h0 bel lt0) (trodAll_cons_mk (Below.trod Try.laidOut (by kernel_rfl) (of_decide_eq_true (by kernel_rfl)) h1 bel lt1) trodAll_mk0)), rfl, bel.frame _, fun h => by cases h⟩

theorem facts : joinedFacts Try.pinned.checked.prog 6 Try.f6 Rows.fnExactNatCmpSpec Rows.fnExactNatCmpRow = true := by
  unfold joinedFacts
  refine and_mk (and_mk (and_mk (and_mk (and_mk (and_mk (and_mk ?_ Try.mayEnter) ?_) ?_) ?_) ?_) ?_) ?_
  · kernel_rfl
  · rw [Try.liftsNone]; rfl
  · rw [Try.makeCut]; rfl
  · kernel_rfl
  · kernel_rfl
  · kernel_rfl
  · kernel_rfl

theorem proved : Rows.FnExactNatCmpSaid :=
  OpenClaim.holds_of_wide 6 Try.f6 rfl rfl rfl rfl rfl rfl rfl ⟨rfl, rfl, rfl, rfl, rfl⟩ rfl rfl rfl rfl rfl (by as_aux_lemma => kernel_rfl) Try.func6 facts
    (of_decide_eq_true (by as_aux_lemma => kernel_rfl)) (by unfold Func.isWrapper; rw [if_neg (of_decide_eq_false (by as_aux_lemma => kernel_rfl))]; exact ⟨rfl, rfl⟩)
    (fun os started H enc _ => lifted os started H enc)

end Go.Proofs.Ytjhgomdfbljgdaa.lawNatCmp
