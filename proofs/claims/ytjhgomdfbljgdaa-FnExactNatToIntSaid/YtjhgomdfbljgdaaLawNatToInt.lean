/- FnExactNatToInt: the program's NatToInt answers what the reference's NatToInt answers, for every input; no condition. -/
import Derived.Test.YtjhgomdfbljgdaaToIntC
import Derived.Test.YtjhgomdfbljgdaaLawK
import Derived.Test.YtjhgomdfbljgdaaOpen
namespace Go.Proofs.Ytjhgomdfbljgdaa.lawNatToInt
open Go.ChangeShapes Go.WideShapes Go.ChangeAt Go.RowKit Lm Go.Proofs.Ytjhgomdfbljgdaa

set_option maxHeartbeats 2000000 in
theorem walk (W : World) (a0 : Value) (x0 : List Int) (h0 : Rd W a0 x0) (k0 : Int) (c1 : Bool)
    (C1 : ∀ (w : World) (b0 : Nat) (u0 : Value), Own w b0 u0 x0 → Calls Try.prog 36 #[u0] w (RetIB w k0 c1))
    (C2 : ∀ (w : World) (b0 : Nat) (u0 : Value), Own w b0 u0 x0 → Calls Try.prog 37 #[u0] w (RetIB w k0 c1)) :
    Calls Try.prog 7 #[a0] W (RetB W true) := by
  obtain ⟨p0, q0, hv0, hc0⟩ := id h0
  subst hv0
  clear hc0
  have R0 := Lib.hid h0
  have K1 := Lib.hid C1
  have K2 := Lib.hid C2
  clear h0 C1 C2
  by_cases hl0 : x0.length ≤ 1048576
  case neg =>
    have d0 : decide ((1048576 : Int) < x0.length) = true := decide_eq_true (by omega)
    go_enter Try.func7, Try.ntmps7
    go_wp2
    go_ret
    exact retB rfl (Below.refl _ _)
  case pos =>
    have d0 : decide ((1048576 : Int) < x0.length) = false := decide_eq_false (by omega)
    go_enter Try.func7, Try.ntmps7
    go_wp2_with fail
    refine (toIntS_c W _ x0 R0.out (by omega)).mono ?_
    rintro e w1 ⟨vy0, rfl, ho1, hb⟩
    have Hy01 := Lib.hid ho1
    clear ho1
    have B1 := hb
    clear hb
    go_wp2_with fail
    refine (K1.out w1 _ _ Hy01.out).mono ?_
    rintro e w2 ⟨rfl, hb⟩
    have Hy02 := Lib.hid (Hy01.out.below hb (Nat.le_refl _))
    clear Hy01
    have B2 := B1.trans (hb.mono B1.size)
    clear B1 hb
    clear Hy02
    go_wp2_with fail
    refine (toIntS_c w2 _ x0 (R0.out.below B2) (by omega)).mono ?_
    rintro e w3 ⟨vz0, rfl, ho1, hb⟩
    have Hz03 := Lib.hid (ho1.mono B2.size)
    clear ho1
    have B3 := B2.trans (hb.mono B2.size)
    clear B2 hb
    go_wp2_with fail
    refine (K2.out w3 _ _ Hz03.out).mono ?_
    rintro e w4 ⟨rfl, hb⟩
    have Hz04 := Lib.hid (Hz03.out.below hb (Nat.le_refl _))
    clear Hz03
    have B4 := B3.trans (hb.mono B3.size)
    clear B3 hb
    go_wp2_with fail
    refine (toIntS_c w4 _ x0 (R0.out.below B4) (by omega)).mono ?_
    rintro e w5 ⟨vq0, rfl, ho1, hb⟩
    have Hz05 := Lib.hid (Hz04.out.below hb (Nat.le_refl _))
    clear Hz04
    have Hq05 := Lib.hid (ho1.mono B4.size)
    clear ho1
    have B5 := B4.trans (hb.mono B4.size)
    clear B4 hb
    go_wp2_with fail
    refine (eqIntS_c w5 _ _ _ _ x0 Hz05.out Hq05.out).mono ?_
    rintro e w6 ⟨rfl, hb⟩
    have Hz06 := Lib.hid (Hz05.out.below hb (Nat.le_refl _))
    clear Hz05
    have Hq06 := Lib.hid (Hq05.out.below hb (Nat.le_refl _))
    clear Hq05
    have B6 := B5.trans (hb.mono B5.size)
    clear B5 hb
    clear Hq06
    go_wp2
    go_ret
    exact retB rfl B6

set_option maxRecDepth 100000 in
theorem lifted (os : Os) (started : os.Started) (H : Type) (enc : TypeId × Value → H) :
    ReturnsInHanded {} Try.checked os 7 .any (Rows.fnExactNatToIntSpec.pre6 enc Try.prog Try.f7 Rows.fnExactNatToIntRow.domain false) (Rows.fnExactNatToIntSpec.post enc Try.prog Try.f7 false true false false) := by
  refine returnsInHanded_of_change (C := Try.checked) Try.own started (by kernel_rfl) Try.func7
    (ChangeSpec.witness6 (enc := enc) (C := Try.checked) false ⟨#[], #[.slice none 0 0], []⟩ 8 (by kernel_rfl) (by kernel_rfl) (by kernel_rfl) (by kernel_rfl)) ?_
  intro W base args ds gs before hval0 hW hcnd _
  have hval : ∀ (j : Nat) t v, Try.f7.params[j]? = some t → args[j]? = some v → Value.okWide Try.prog W .any base t v := hval0
  have hW' := hW
  obtain ⟨p, q, hA0, hV, rfl, hfz, hnd⟩ := hW
  have hA : DataW.TrodAll enc Try.prog W 0 (fun _ => true) true Try.f7.params.toList args.toList ds p := hA0
  rw [Try.params7] at hA hval
  obtain ⟨v0, vs0, d0, ds0, p0, q0, hargs, rfl, rfl, h0, r0⟩ := trodAll_cons hA
  obtain ⟨rfl, rfl, rfl⟩ := trodAll_nil r0
  obtain rfl : args = #[v0] := by cases args; simp_all
  obtain ⟨rfl, rfl⟩ := trodVars_none hV
  have lt0 : ∀ x ∈ p0, x.block < W.heap.size := by obtain ⟨m, hm⟩ := h0; exact DataW.trod_lt m _ _ _ hm
  obtain ⟨x0, w0⟩ := rd_of_trod (hval 0 22 v0 rfl rfl) h0
  clear hA0 hval0
  refine (walk W v0 x0 w0 (toIntN x0) (toIntB x0)
    (fun w b0 u0 k0 => specNatToInt_c w b0 u0 x0 k0)
    (fun w b0 u0 k0 => natToInt_c w b0 u0 x0 k0)).mono fun e W' ⟨he, bel⟩ => ?_
  subst he
  exact ⟨_, rfl, _, _, _, [], _, [], hW', trodAll_mk1 (shut_bool Try.underlying4 _), (trodAll_cons_mk (Below.trod Try.laidOut (by kernel_rfl) (of_decide_eq_true (by kernel_rfl)) h0 bel lt0) trodAll_mk0), rfl, bel.frame _, fun h => by cases h⟩

theorem facts : joinedFacts Try.pinned.checked.prog 7 Try.f7 Rows.fnExactNatToIntSpec Rows.fnExactNatToIntRow = true := by
  unfold joinedFacts
  refine and_mk (and_mk (and_mk (and_mk (and_mk (and_mk (and_mk ?_ Try.mayEnter) ?_) ?_) ?_) ?_) ?_) ?_
  · kernel_rfl
  · rw [Try.liftsNone]; rfl
  · rw [Try.makeCut]; rfl
  · kernel_rfl
  · kernel_rfl
  · kernel_rfl
  · kernel_rfl

theorem proved : Rows.FnExactNatToIntSaid :=
  OpenClaim.holds_of_wide 7 Try.f7 rfl rfl rfl rfl rfl rfl rfl ⟨rfl, rfl, rfl, rfl, rfl⟩ rfl rfl rfl rfl rfl (by as_aux_lemma => kernel_rfl) Try.func7 facts
    (of_decide_eq_true (by as_aux_lemma => kernel_rfl)) (by unfold Func.isWrapper; rw [if_neg (of_decide_eq_false (by as_aux_lemma => kernel_rfl))]; exact ⟨rfl, rfl⟩)
    (fun os started H enc _ => lifted os started H enc)

end Go.Proofs.Ytjhgomdfbljgdaa.lawNatToInt
