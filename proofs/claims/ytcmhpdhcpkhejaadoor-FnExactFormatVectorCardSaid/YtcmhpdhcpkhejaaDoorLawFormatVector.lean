/- FnExactFormatVector: the program's FormatVector answers what the reference's FormatVector answers, for every input; no condition. -/
import Derived.Test.YtcmhpdhcpkhejaaDoorVecL
import Derived.Test.YtcmhpdhcpkhejaaDoorVecX
import Derived.Test.YtcmhpdhcpkhejaaDoorLaid
import Derived.Test.YtcmhpdhcpkhejaaDoorStrOpen
namespace Go.Proofs.YtcmhpdhcpkhejaaDoor.lawFormatVector
open Go.ChangeShapes Go.WideShapes Go.ChangeAt Go.RowKit Lm Go.Proofs.YtcmhpdhcpkhejaaDoor

set_option maxHeartbeats 4000000 in
set_option maxRecDepth 100000 in
theorem walk (w : World) (v0 : Value) (n0 : Nat) (E0 : Nat → Ent) (A0 : Nat → Rc) (h0 : RdV w v0 n0 E0 A0) (st0 : ByteArray) (ht : Tabs w)
    (C1 : ∀ (w : World) (lo0 hi0 : Nat) (u0 : Value), Vec w lo0 hi0 u0 n0 A0 → Tabs w → Calls Tryd.prog 5 #[u0] w (RetT w st0))
    (C2 : ∀ (w : World) (lo0 hi0 : Nat) (u0 : Value), Vec w lo0 hi0 u0 n0 A0 → Tabs w → Calls Tryd.prog 7 #[u0] w (RetT w st0)) :
    Calls Tryd.prog 3 #[v0] w (RetB w true) := by
  have G0 := Lib.hid h0
  have K1 := Lib.hid C1
  have K2 := Lib.hid C2
  have HT := Lib.hid ht
  clear h0 C1 C2 ht
  have B := Below.refl w.heap.size w
  go_enter Tryd.func3, Tryd.ntmps3
  go_wp2_with fail
  refine (szRatS_c _ _ n0 E0 A0 1048576 (G0.out.below B) (by omega) (by omega)).mono ?_
  rintro e w1 ⟨l0, rfl, hl0, hm, hb⟩
  have HL0 := Lib.hid hm
  clear hm
  have hs1 := hb.size
  replace B := B.trans (hb.mono B.size)
  clear hb
  by_cases hz0 : l0 < 0
  case pos =>
    go_wp2
    go_ret
    exact retB rfl B
  case neg =>
    have dl0 : decide (l0 < 0) = false := decide_eq_false hz0
    have hk0 : sumK A0 0 n0 ≤ 1048576 := by have := HL0.out (by omega); omega
    have hl00 : 0 ≤ l0 := by omega
    clear hz0
    go_wp2_with fail
    refine (toRatS_c _ _ n0 E0 A0 (G0.out.below B) hk0).mono ?_
    rintro e w2 ⟨vy0, rfl, ho, hb⟩
    have hs2 := hb.size
    replace B := B.trans (hb.mono B.size)
    clear hb
    have Hy0 := Lib.hid ho
    clear ho
    go_wp2_with fail
    refine (K1.out _ _ _ _ Hy0.out (HT.out.below B (Nat.le_refl _))).mono ?_
    rintro e w3 ⟨rfl, hb⟩
    replace Hy0 := Lib.hid (Hy0.out.bel hb)
    have hs3 := hb.size
    replace B := B.trans (hb.mono B.size)
    clear hb
    clear Hy0
    go_wp2_with fail
    refine (toRatS_c _ _ n0 E0 A0 (G0.out.below B) hk0).mono ?_
    rintro e w4 ⟨vx0, rfl, ho, hb⟩
    have hs4 := hb.size
    replace B := B.trans (hb.mono B.size)
    clear hb
    have Hx0 := Lib.hid ho
    clear ho
    go_wp2_with fail
    refine (K2.out _ _ _ _ Hx0.out (HT.out.below B (Nat.le_refl _))).mono ?_
    rintro e w5 ⟨rfl, hb⟩
    replace Hx0 := Lib.hid (Hx0.out.bel hb)
    have hs5 := hb.size
    replace B := B.trans (hb.mono B.size)
    clear hb
    go_wp2_with fail
    refine (toRatS_c _ _ n0 E0 A0 (G0.out.below B) hk0).mono ?_
    rintro e w6 ⟨vq0, rfl, ho, hb⟩
    replace Hx0 := Lib.hid (Hx0.out.bel hb)
    have hs6 := hb.size
    replace B := B.trans (hb.mono B.size)
    clear hb
    have Hq0 := Lib.hid ho
    clear ho
    go_wp2_with fail
    refine (eqRatS_c _ n0 A0 Hx0.out Hq0.out).mono ?_
    rintro e w7 ⟨rfl, hb⟩
    replace Hx0 := Lib.hid (Hx0.out.bel hb)
    replace Hq0 := Lib.hid (Hq0.out.bel hb)
    have hs7 := hb.size
    replace B := B.trans (hb.mono B.size)
    clear hb
    go_wp2
    go_ret
    exact retB rfl B

theorem allPlain : (Rows.fnExactFormatVectorRow.laid.all fun x => x.2.handleName?.isNone) = true := by kernel_rfl
set_option maxRecDepth 100000 in
theorem lifted (os : Os) (started : os.Started) (H : Type) (enc : TypeId × Value → H) :
    ReturnsInHanded {} Tryd.checked os 3 .any (fun w args => (Rows.fnExactFormatVectorSpec.pre enc Tryd.prog Tryd.f3 Rows.fnExactFormatVectorRow.domain false w args ∧ laidMetH Tryd.prog Rows.fnExactFormatVectorRow.laid w) ∧ sizedMet enc Tryd.prog Tryd.f3 (OpenSpec.ofChange Rows.fnExactFormatVectorSpec) false w args) (Rows.fnExactFormatVectorSpec.post enc Tryd.prog Tryd.f3 false true false false) := by
  refine returnsInHanded_of_change_and (C := Tryd.checked) (X := (fun w _ => laidMetH Tryd.prog Rows.fnExactFormatVectorRow.laid w)) (fun _ _ _ hh h => h.of_heap hh) Tryd.own started (by as_aux_lemma => kernel_rfl) Tryd.func3
    (ChangeSpec.witness_shaped (enc := enc) (C := Tryd.checked) (os := os) (X := (fun w _ => laidMetH Tryd.prog Rows.fnExactFormatVectorRow.laid w)) false (World.laidAll Tryd.prog os Rows.fnExactFormatVectorRow.laid) #[.slice none 0 0] 8 (World.laidAll_os _ _ _)
      (World.shaped_of_ZipB (by as_aux_lemma => kernel_rfl) (by as_aux_lemma => kernel_rfl)) (by as_aux_lemma => kernel_rfl) (by as_aux_lemma => kernel_rfl) (by as_aux_lemma => kernel_rfl)
      (by rw [MakeChecks.laidMetH_plain _ _ _ allPlain]; exact laidMet_laidAll _ (by as_aux_lemma => kernel_rfl) (by as_aux_lemma => kernel_rfl))) ?_
  intro W base args ds gs before hval0 hW hcnd _ hL _
  have hval : ∀ (j : Nat) t v, Tryd.f3.params[j]? = some t → args[j]? = some v → Value.okWide Tryd.prog W .any base t v := hval0
  have hW' := hW
  obtain ⟨p, q, hA0, hV, rfl, hfz, hnd⟩ := hW
  have hA : DataW.TrodAll enc Tryd.prog W 0 (fun _ => true) true Tryd.f3.params.toList args.toList ds p := hA0
  rw [Tryd.params3] at hA hval
  have HT : Tabs W := tabs_of_laid (l := Rows.fnExactFormatVectorRow.laid) hL allPlain (r := []) rfl
  obtain ⟨v0, vs0, d0, ds0, p0, q0, hargs, rfl, rfl, h0, r0⟩ := trodAll_cons hA
  obtain ⟨rfl, rfl, rfl⟩ := trodAll_nil r0
  obtain rfl : args = #[v0] := by cases args; simp_all
  obtain ⟨rfl, rfl⟩ := trodVars_none hV
  have lt0 : ∀ x ∈ p0, x.block < W.heap.size := by obtain ⟨m, hm⟩ := h0; exact DataW.trod_lt m _ _ _ hm
  obtain ⟨n0, E0, A0, w0⟩ := rdV_of_trod (hval 0 22 v0 rfl rfl) h0
  clear hA0 hval0
  refine (walk W v0 n0 E0 A0 w0 (fV n0 A0) HT
    (fun w _ _ _ h _ => sFormatVector_c w n0 A0 h)
    (fun w _ _ _ h ht => FormatVector_c w n0 A0 h ht)).mono fun e W' ⟨he, bel⟩ => ?_
  subst he
  exact ⟨_, rfl, _, _, _, [], _, [], hW', trodAll_mk1 (shut_bool Tryd.underlying4 _), (trodAll_cons_mk (Below.trod Tryd.laidOut (by as_aux_lemma => kernel_rfl) (of_decide_eq_true (by as_aux_lemma => kernel_rfl)) h0 bel lt0) trodAll_mk0), rfl, bel.frame _, fun h => by cases h⟩

theorem facts : joinedFacts Tryd.pinned.checked.prog 3 Tryd.f3 Rows.fnExactFormatVectorSpec Rows.fnExactFormatVectorRow = true := by
  unfold joinedFacts
  refine and_mk (and_mk (and_mk (and_mk (and_mk (and_mk (and_mk ?_ Tryd.mayEnter) ?_) ?_) ?_) ?_) ?_) ?_
  · kernel_rfl
  · rw [Tryd.liftsNone]; rfl
  · rw [Tryd.makeCut]; rfl
  · kernel_rfl
  · kernel_rfl
  · kernel_rfl
  · kernel_rfl

theorem row : Rows.FnExactFormatVectorSaid :=
  OpenClaim.holds_of_wide 3 Tryd.f3 rfl rfl rfl rfl rfl rfl rfl ⟨rfl, rfl, rfl, rfl, rfl⟩ rfl rfl rfl rfl rfl (by as_aux_lemma => kernel_rfl) Tryd.func3 facts
    (of_decide_eq_true (by as_aux_lemma => kernel_rfl)) (by unfold Func.isWrapper; rw [if_neg (of_decide_eq_false (by as_aux_lemma => kernel_rfl))]; exact ⟨rfl, rfl⟩)
    (fun os started H enc _ => lifted os started H enc)

theorem funcIs : Tryd.prog.funcNamed Rows.fnExactFormatVectorRow.func = some 3 := by kernel_rfl
theorem standIns : (Tryd.f3.params.toList.all fun u => !Tryd.prog.wantsStandIn u) = true := by kernel_rfl
theorem proved : Rows.FnExactFormatVectorCardSaid :=
  Claim7.holds_tied_plain_at .later [] _ _ _ _
    row (fun _ h => by cases h) (by as_aux_lemma => kernel_rfl) (fun _ h => by cases h) fnExactFormatVector_row_tie rfl ⟨rfl, rfl⟩ (by as_aux_lemma => kernel_rfl) rfl
    (fun f fn hf hfn => by
      obtain rfl : f = 3 := (Option.some.inj (funcIs.symm.trans hf)).symm
      obtain rfl : fn = Tryd.f3 := (Option.some.inj (Tryd.func3.symm.trans hfn)).symm
      exact ⟨by as_aux_lemma => kernel_rfl, fun j t ht => by
        have hm := Array.mem_of_getElem? ht
        exact (show Tryd.prog.wantsStandIn t = false by simpa using List.all_eq_true.1 standIns t (Array.mem_toList_iff.2 hm))⟩)
    (by as_aux_lemma => kernel_rfl)

end Go.Proofs.YtcmhpdhcpkhejaaDoor.lawFormatVector
