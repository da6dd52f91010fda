/- FnExactNatOk: the program's NatOk answers what the reference's NatOk answers, for every input; no condition. -/
import Derived.Test.YtjhgomdfbljgdaaNatOk
import Derived.Test.YtjhgomdfbljgdaaFrame
namespace Go.Proofs.Ytjhgomdfbljgdaa.lawNatOk
open Go.ChangeShapes Go.WideShapes Go.ChangeAt Go.RowKit Lm Go.Proofs.Ytjhgomdfbljgdaa

set_option maxHeartbeats 1000000 in
theorem walk (W : World) (v0 : Value) (xs : List Int) (h0 : Rd W v0 xs) :
    Calls Try.prog 3 #[v0] W (RetB W true) := by
  obtain ⟨a0, c0, hv0, hc0⟩ := id h0
  subst hv0
  have H0 := Lib.hid h0
  clear h0 hc0
  by_cases hl : xs.length ≤ 1048576
  · have d0 : decide ((1048576 : Int) < xs.length) = false := decide_eq_false (by omega)
    have hl2 : xs.length ≤ 17592186044415 := by omega
    go_enter Try.func3, Try.ntmps3
    go_wp2_with fail
    refine (toIntS_c W _ xs H0.out hl2).mono ?_
    rintro e w1 ⟨u1, rfl, ho1, hb1⟩
    have HO1 := Lib.hid ho1
    clear ho1
    go_wp2_with fail
    refine (specNatOk_c w1 _ u1 xs HO1.out).mono ?_
    rintro e w2 ⟨rfl, hb2⟩
    have B2 := hb1.trans (hb2.mono hb1.size)
    clear HO1
    go_wp2_with fail
    refine (toIntS_c w2 _ xs (H0.out.below B2) hl2).mono ?_
    rintro e w3 ⟨x0, rfl, ho3, hb3⟩
    have HX3 := Lib.hid ho3
    clear ho3
    have B3 := B2.trans (hb3.mono B2.size)
    go_wp2_with fail
    refine (natOk_c w3 _ x0 xs HX3.out).mono ?_
    rintro e w4 ⟨rfl, hb4⟩
    have HX4 := Lib.hid (HX3.out.below hb4 (Nat.le_refl _))
    have B4 := B3.trans (hb4.mono B3.size)
    clear HX3
    go_wp2_with fail
    refine (toIntS_c w4 _ xs (H0.out.below B4) hl2).mono ?_
    rintro e w5 ⟨u5, rfl, ho5, hb5⟩
    have HO5 := Lib.hid ho5
    clear ho5
    have HX5 := Lib.hid (HX4.out.below hb5 (Nat.le_refl _))
    have B5 := B4.trans (hb5.mono B4.size)
    clear HX4
    go_wp2_with fail
    refine (eqIntS_c w5 _ _ x0 u5 xs HX5.out HO5.out).mono ?_
    rintro e w6 ⟨rfl, hb6⟩
    have B6 := B5.trans (hb6.mono B5.size)
    go_wp2
    go_ret
    exact retB rfl B6
  · have d0 : decide ((1048576 : Int) < xs.length) = true := decide_eq_true (by omega)
    clear hl
    go_enter Try.func3, Try.ntmps3
    go_wp2
    go_ret
    exact retB rfl (Below.refl _ _)

set_option maxRecDepth 100000 in
theorem lifted (os : Os) (started : os.Started) (H : Type) (enc : TypeId × Value → H) :
    ReturnsInHanded {} Try.checked os 3 .any (Rows.fnExactNatOkSpec.pre6 enc Try.prog Try.f3 Rows.fnExactNatOkRow.domain false) (Rows.fnExactNatOkSpec.post enc Try.prog Try.f3 false true false false) := by
  refine returnsInHanded_of_change (C := Try.checked) Try.own started (by kernel_rfl) Try.func3
    (ChangeSpec.witness6 (enc := enc) (C := Try.checked) false ⟨#[], #[.slice none 0 0], []⟩ 8 (by kernel_rfl) (by kernel_rfl) (by kernel_rfl) (by kernel_rfl)) ?_
  intro W base args ds gs before hval0 hW hcnd _
  have hval : ∀ (j : Nat) t v, Try.f3.params[j]? = some t → args[j]? = some v → Value.okWide Try.prog W .any base t v := hval0
  have hW' := hW
  obtain ⟨p, q, hA0, hV, rfl, hfz, hnd⟩ := hW
  have hA : DataW.TrodAll enc Try.prog W 0 (fun _ => true) true Try.f3.params.toList args.toList ds p := hA0
  rw [Try.params3] at hA hval
  obtain ⟨v0, vs0, d0, ds0, p0, q0, hargs, rfl, rfl, h0, r0⟩ := trodAll_cons hA
  obtain ⟨rfl, rfl, rfl⟩ := trodAll_nil r0
  obtain rfl : args = #[v0] := by cases args; simp_all
  obtain ⟨rfl, rfl⟩ := trodVars_none hV
  have lt0 : ∀ x ∈ p0, x.block < W.heap.size := by obtain ⟨m, hm⟩ := h0; exact DataW.trod_lt m _ _ _ hm
  obtain ⟨x0, w0⟩ := rd_of_trod (hval 0 22 v0 rfl rfl) h0
  clear hA0 hval0
  refine (walk W v0 x0 w0).mono fun e W' ⟨he, bel⟩ => ?_
  subst he
  exact ⟨_, rfl, _, _, _, [], _, [], hW', trodAll_mk1 (shut_bool Try.underlying4 _), (trodAll_cons_mk (Below.trod Try.laidOut (by kernel_rfl) (of_decide_eq_true (by kernel_rfl)) h0 bel lt0) trodAll_mk0), rfl, bel.frame _, fun h => by cases h⟩

theorem facts : joinedFacts Try.pinned.checked.prog 3 Try.f3 Rows.fnExactNatOkSpec Rows.fnExactNatOkRow = true := by
  unfold joinedFacts
  refine and_mk (and_mk (and_mk (and_mk (and_mk (and_mk (and_mk ?_ Try.mayEnter) ?_) ?_) ?_) ?_) ?_) ?_
  · kernel_rfl
  · rw [Try.liftsNone]; rfl
  · rw [Try.makeCut]; rfl
  · kernel_rfl
  · kernel_rfl
  · kernel_rfl
  · kernel_rfl

theorem proved : Rows.FnExactNatOkSaid :=
  OpenClaim.holds_of_wide 3 Try.f3 rfl rfl rfl rfl rfl rfl rfl ⟨rfl, rfl, rfl, rfl, rfl⟩ rfl rfl rfl rfl rfl (by as_aux_lemma => kernel_rfl) Try.func3 facts
    (of_decide_eq_true (by as_aux_lemma => kernel_rfl)) (by unfold Func.isWrapper; rw [if_neg (of_decide_eq_false (by as_aux_lemma => kernel_rfl))]; exact ⟨rfl, rfl⟩)
    (fun os started H enc _ => lifted os started H enc)

end Go.Proofs.Ytjhgomdfbljgdaa.lawNatOk
