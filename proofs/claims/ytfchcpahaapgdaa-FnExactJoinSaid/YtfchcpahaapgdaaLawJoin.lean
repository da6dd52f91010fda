/- FnExactJoin: the program's Join answers what the reference's Join answers, for every input; no condition. -/
import Derived.Test.YtfchcpahaapgdaaLawS
import Derived.Test.YtfchcpahaapgdaaStrOpen
namespace Go.Proofs.Ytfchcpahaapgdaa.lawJoin
open Go.ChangeShapes Go.WideShapes Go.ChangeAt Go.RowKit Go.Proofs.Ytfchcpahaapgdaa

set_option maxHeartbeats 1000000 in
theorem walk (w : World) (v : Value) (xs : List ByteArray) (h : RdS w v xs) (s : ByteArray) (hs : s.size ≤ 9223372036854775807) (t : ByteArray) (ht : t = joinB xs s) : Calls Try.prog 8 #[v, .string s] w (RetB w true) := by
  have HT := Lib.hid ht
  clear ht
  by_cases h1 : s.size ≤ 1048576
  case neg =>
    have d0 : decide ((1048576 : Int) < s.size) = true := decide_eq_true (by omega)
    go_enter Try.func8, Try.ntmps8
    go_wp2
    go_ret
    exact retB rfl (Below.refl _ _)
  case pos =>
    have d0 : decide ((1048576 : Int) < s.size) = false := decide_eq_false (by omega)
    obtain ⟨c, hc⟩ : ∃ c, c = szS xs 1048576 := ⟨_, rfl⟩
    have HC := Lib.hid hc
    have HR := Lib.hid h
    by_cases h2 : c < 0
    · have d1 : decide (c < 0) = true := decide_eq_true h2
      clear hc h
      go_enter Try.func8, Try.ntmps8
      go_wp2_with fail
      refine (szStringS_c _ v xs c HR.out HC).mono ?_
      rintro e w1 ⟨rfl, hb⟩
      go_wp2
      go_ret
      exact retB rfl hb
    · have d1 : decide (c < 0) = false := decide_eq_false h2
      have hsz : (xs.length : Int) + lensB xs ≤ 1048576 := by
        unfold szS at hc
        by_cases h3 : (1048576 : Int) - xs.length - lensB xs < 0
        · rw [if_pos h3] at hc; omega
        · omega
      have g1 : xs.length ≤ 1048576 := by omega
      have g2 : lensB xs ≤ 1048576 := by omega
      clear hc h h2
      go_enter Try.func8, Try.ntmps8
      go_wp2_with fail
      refine (szStringS_c _ v xs c HR.out HC).mono ?_
      rintro e w1 ⟨rfl, hb1⟩
      have B1 := hb1
      clear hb1
      go_wp2_with fail
      refine (toStringS_c _ v xs (HR.out.below B1) g1).mono ?_
      rintro e w2 ⟨va, rfl, ha, hb⟩
      have HA := Lib.hid ha
      have B2 := B1.trans (hb.mono B1.size)
      clear ha hb B1
      go_wp2_with fail
      refine (sJoin_c _ _ va xs s t HA.out HT g1 h1 g2).mono ?_
      rintro e w3 ⟨rfl, hb⟩
      have B3 := B2.trans (hb.mono B2.size)
      clear hb B2 HA
      go_wp2_with fail
      refine (toStringS_c _ v xs (HR.out.below B3) g1).mono ?_
      rintro e w4 ⟨vb, rfl, hx, hb⟩
      have HX := Lib.hid hx
      have B4 := B3.trans (hb.mono B3.size)
      clear hx hb B3
      go_wp2_with fail
      refine (Join_c _ _ vb xs s t HX.out HT g1 h1 g2).mono ?_
      rintro e w5 ⟨rfl, hb⟩
      have HX5 := Lib.hid (HX.out.below hb (Nat.le_refl _))
      have B5 := B4.trans (hb.mono B4.size)
      clear hb B4 HX
      go_wp2_with fail
      refine (toStringS_c _ v xs (HR.out.below B5) g1).mono ?_
      rintro e w6 ⟨vc, rfl, hy, hb⟩
      have HX6 := Lib.hid (HX5.out.below hb (Nat.le_refl _))
      have HY := Lib.hid hy
      have B6 := B5.trans (hb.mono B5.size)
      clear hb B5 HX5 hy
      go_wp2_with fail
      refine (eqStringS_c _ _ _ vb vc xs HX6.out HY.out).mono ?_
      rintro e w7 ⟨rfl, hb⟩
      have B7 := B6.trans (hb.mono B6.size)
      clear hb B6 HX6 HY
      go_wp2
      go_ret
      exact retB rfl B7

set_option maxRecDepth 100000 in
theorem lifted (os : Os) (started : os.Started) (H : Type) (enc : TypeId × Value → H) :
    ReturnsInHanded {} Try.checked os 8 .any (Rows.fnExactJoinSpec.pre6 enc Try.prog Try.f8 Rows.fnExactJoinRow.domain false) (Rows.fnExactJoinSpec.post enc Try.prog Try.f8 false true false false) := by
  refine returnsInHanded_of_change (C := Try.checked) Try.own started (by kernel_rfl) Try.func8
    (ChangeSpec.witness6 (enc := enc) (C := Try.checked) false ⟨#[], #[.slice none 0 0, .string ByteArray.empty], []⟩ 8 (by kernel_rfl) (by kernel_rfl) (by kernel_rfl) (by kernel_rfl)) ?_
  intro W base args ds gs before hval0 hW hcnd _
  have hval : ∀ (j : Nat) t v, Try.f8.params[j]? = some t → args[j]? = some v → Value.okWide Try.prog W .any base t v := hval0
  have hW' := hW
  obtain ⟨p, q, hA0, hV, rfl, hfz, hnd⟩ := hW
  have hA : DataW.TrodAll enc Try.prog W 0 (fun _ => true) true Try.f8.params.toList args.toList ds p := hA0
  rw [Try.params8] at hA hval
  obtain ⟨v0, vs0, d0, ds0, p0, q0, hargs, rfl, rfl, h0, r0⟩ := trodAll_cons hA
  obtain ⟨v1, vs1, d1, ds1, p1, q1, rfl, rfl, rfl, h1, r1⟩ := trodAll_cons r0
  obtain ⟨rfl, rfl, rfl⟩ := trodAll_nil r1
  obtain rfl : args = #[v0, v1] := by cases args; simp_all
  obtain ⟨rfl, rfl⟩ := trodVars_none hV
  have lt0 : ∀ x ∈ p0, x.block < W.heap.size := by obtain ⟨m, hm⟩ := h0; exact DataW.trod_lt m _ _ _ hm
  have lt1 : ∀ x ∈ p1, x.block < W.heap.size := by obtain ⟨m, hm⟩ := h1; exact DataW.trod_lt m _ _ _ hm
  obtain ⟨x0, w0⟩ := rdS_of_trod (hval 0 24 v0 rfl rfl) h0
  obtain ⟨s1, rfl, hs1⟩ := str_of_trod (hval 1 9 v1 rfl rfl) h1
  clear hA0 hval0
  refine (walk W v0 x0 w0 s1 hs1 _ rfl
    ).mono fun e W' ⟨he, bel⟩ => ?_
  subst he
  exact ⟨_, rfl, _, _, _, [], _, [], hW', trodAll_mk1 (shut_bool Try.underlying4 _), (trodAll_cons_mk (Below.trod Try.laidOut (by kernel_rfl) (of_decide_eq_true (by kernel_rfl)) h0 bel lt0) (trodAll_cons_mk (Below.trod Try.laidOut (by kernel_rfl) (of_decide_eq_true (by kernel_rfl)) h1 bel lt1) trodAll_mk0)), rfl, bel.frame _, fun h => by cases h⟩

theorem facts : joinedFacts Try.pinned.checked.prog 8 Try.f8 Rows.fnExactJoinSpec Rows.fnExactJoinRow = true := by
  unfold joinedFacts
  refine and_mk (and_mk (and_mk (and_mk (and_mk (and_mk (and_mk ?_ Try.mayEnter) ?_) ?_) ?_) ?_) ?_) ?_
  · kernel_rfl
  · rw [Try.liftsNone]; rfl
  · rw [Try.makeCut]; rfl
  · kernel_rfl
  · kernel_rfl
  · kernel_rfl
  · kernel_rfl

theorem proved : Rows.FnExactJoinSaid :=
  OpenClaim.holds_of_wide 8 Try.f8 rfl rfl rfl rfl rfl rfl rfl ⟨rfl, rfl, rfl, rfl, rfl⟩ rfl rfl rfl rfl rfl (by as_aux_lemma => kernel_rfl) Try.func8 facts
    (of_decide_eq_true (by as_aux_lemma => kernel_rfl)) (by unfold Func.isWrapper; rw [if_neg (of_decide_eq_false (by as_aux_lemma => kernel_rfl))]; exact ⟨rfl, rfl⟩)
    (fun os started H enc _ => lifted os started H enc)

end Go.Proofs.Ytfchcpahaapgdaa.lawJoin
