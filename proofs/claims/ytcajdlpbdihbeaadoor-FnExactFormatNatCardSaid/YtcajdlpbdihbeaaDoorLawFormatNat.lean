/- FnExactFormatNat: the program's FormatNat answers what the reference's FormatNat answers, for every input; no condition. -/
import Derived.Test.YtcajdlpbdihbeaaDoorLaid
import Derived.Test.YtcajdlpbdihbeaaDoorFmtN
import Derived.Test.YtcajdlpbdihbeaaDoorStrOpen
import Derived.Test.YtcajdlpbdihbeaaDoorOpen
import Derived.Test.YtcajdlpbdihbeaaDoorLawZ
namespace Go.Proofs.YtcajdlpbdihbeaaDoor.lawFormatNat
open Go.ChangeShapes Go.WideShapes Go.ChangeAt Go.RowKit Lm Go.Proofs.YtcajdlpbdihbeaaDoor

set_option maxHeartbeats 4000000 in
set_option maxRecDepth 100000 in
theorem walk (w : World) (a0 : Value) (x0 : List Int) (h0 : Rd w a0 x0) (st0 : ByteArray) (ht : Tabs w)
    (C1 : ∀ (w : World) (b0 : Nat) (u0 : Value), Own w b0 u0 x0 → Tabs w → Calls Tryd.prog 14 #[u0] w (RetT w st0))
    (C2 : ∀ (w : World) (b0 : Nat) (u0 : Value), Own w b0 u0 x0 → Tabs w → Calls Tryd.prog 16 #[u0] w (RetT w st0)) :
    Calls Tryd.prog 4 #[a0] w (RetB w true) := by
  obtain ⟨p0, q0, hv0, hc0⟩ := id h0
  subst hv0
  clear hc0
  have R0 := Lib.hid h0
  have K1 := Lib.hid C1
  have K2 := Lib.hid C2
  clear h0 C1 C2
  have HT := Lib.hid ht
  clear ht
  by_cases hl0 : x0.length ≤ 1048576
  case neg =>
    have d0 : decide ((1048576 : Int) < x0.length) = true := decide_eq_true (by omega)
    go_enter Tryd.func4, Tryd.ntmps4
    go_wp2
    go_ret
    exact retB rfl (Below.refl _ _)
  case pos =>
    have BW : Below w.heap.size w w := (Below.refl w.heap.size w)
    have d0 : decide ((1048576 : Int) < x0.length) = false := decide_eq_false (by omega)
    go_enter Tryd.func4, Tryd.ntmps4
    go_wp2_with fail
    have hw0 : ∃ w0 : World, w0 = w := ⟨_, rfl⟩
    clear hw0
    generalize w = w0 at *
    have B0 := Below.refl w0.heap.size w0
    refine (toIntS_c _ _ x0 (R0.out.below (BW.trans (B0.mono BW.size))) (by omega)).mono ?_
    rintro e w1 ⟨vy0, rfl, ho1, hb⟩
    have Hy0 := Lib.hid (ho1.mono B0.size)
    clear ho1
    replace B0 := B0.trans (hb.mono B0.size)
    clear hb
    go_wp2_with fail
    refine (K1.out _ _ _ Hy0.out (HT.out.below (BW.trans (B0.mono BW.size)) (Nat.le_refl _))).mono ?_
    rintro e w2 ⟨rfl, hb⟩
    replace Hy0 := Lib.hid (Hy0.out.below hb (Nat.le_refl _))
    replace B0 := B0.trans (hb.mono B0.size)
    clear hb
    clear Hy0
    go_wp2_with fail
    refine (toIntS_c _ _ x0 (R0.out.below (BW.trans (B0.mono BW.size))) (by omega)).mono ?_
    rintro e w3 ⟨vz0, rfl, ho1, hb⟩
    have Hz0 := Lib.hid (ho1.mono B0.size)
    clear ho1
    replace B0 := B0.trans (hb.mono B0.size)
    clear hb
    go_wp2_with fail
    refine (K2.out _ _ _ Hz0.out (HT.out.below (BW.trans (B0.mono BW.size)) (Nat.le_refl _))).mono ?_
    rintro e w4 ⟨rfl, hb⟩
    replace Hz0 := Lib.hid (Hz0.out.below hb (Nat.le_refl _))
    replace B0 := B0.trans (hb.mono B0.size)
    clear hb
    go_wp2_with fail
    refine (toIntS_c _ _ x0 (R0.out.below (BW.trans (B0.mono BW.size))) (by omega)).mono ?_
    rintro e w5 ⟨vq0, rfl, ho1, hb⟩
    replace Hz0 := Lib.hid (Hz0.out.below hb (Nat.le_refl _))
    have Hq0 := Lib.hid (ho1.mono B0.size)
    clear ho1
    replace B0 := B0.trans (hb.mono B0.size)
    clear hb
    go_wp2_with fail
    refine (eqIntS_c _ _ _ _ _ x0 Hz0.out Hq0.out).mono ?_
    rintro e w6 ⟨rfl, hb⟩
    replace Hz0 := Lib.hid (Hz0.out.below hb (Nat.le_refl _))
    replace Hq0 := Lib.hid (Hq0.out.below hb (Nat.le_refl _))
    replace B0 := B0.trans (hb.mono B0.size)
    clear hb
    clear Hq0
    go_wp2
    go_ret
    exact retB rfl (BW.trans (B0.mono BW.size))

theorem allPlain : (Rows.fnExactFormatNatRow.laid.all fun x => x.2.handleName?.isNone) = true := by kernel_rfl
set_option maxRecDepth 100000 in
theorem lifted (os : Os) (started : os.Started) (H : Type) (enc : TypeId × Value → H) :
    ReturnsInHanded {} Tryd.checked os 4 .any (fun w args => (Rows.fnExactFormatNatSpec.pre enc Tryd.prog Tryd.f4 Rows.fnExactFormatNatRow.domain false w args ∧ laidMetH Tryd.prog Rows.fnExactFormatNatRow.laid w) ∧ sizedMet enc Tryd.prog Tryd.f4 (OpenSpec.ofChange Rows.fnExactFormatNatSpec) false w args) (Rows.fnExactFormatNatSpec.post enc Tryd.prog Tryd.f4 false true false false) := by
  refine returnsInHanded_of_change_and (C := Tryd.checked) (X := (fun w _ => laidMetH Tryd.prog Rows.fnExactFormatNatRow.laid w)) (fun _ _ _ hh h => h.of_heap hh) Tryd.own started (by as_aux_lemma => kernel_rfl) Tryd.func4
    (ChangeSpec.witness_shaped (enc := enc) (C := Tryd.checked) (os := os) (X := (fun w _ => laidMetH Tryd.prog Rows.fnExactFormatNatRow.laid w)) false (World.laidAll Tryd.prog os Rows.fnExactFormatNatRow.laid) #[.slice none 0 0] 8 (World.laidAll_os _ _ _)
      (World.shaped_of_ZipB (by as_aux_lemma => kernel_rfl) (by as_aux_lemma => kernel_rfl)) (by as_aux_lemma => kernel_rfl) (by as_aux_lemma => kernel_rfl) (by as_aux_lemma => kernel_rfl)
      (by rw [MakeChecks.laidMetH_plain _ _ _ allPlain]; exact laidMet_laidAll _ (by as_aux_lemma => kernel_rfl) (by as_aux_lemma => kernel_rfl))) ?_
  intro W base args ds gs before hval0 hW hcnd _ hL _
  have hval : ∀ (j : Nat) t v, Tryd.f4.params[j]? = some t → args[j]? = some v → Value.okWide Tryd.prog W .any base t v := hval0
  have hW' := hW
  obtain ⟨p, q, hA0, hV, rfl, hfz, hnd⟩ := hW
  have hA : DataW.TrodAll enc Tryd.prog W 0 (fun _ => true) true Tryd.f4.params.toList args.toList ds p := hA0
  rw [Tryd.params4] at hA hval
  have HT : Tabs W := tabs_of_laid (l := Rows.fnExactFormatNatRow.laid) hL allPlain (r := []) rfl
  obtain ⟨v0, vs0, d0, ds0, p0, q0, hargs, rfl, rfl, h0, r0⟩ := trodAll_cons hA
  obtain ⟨rfl, rfl, rfl⟩ := trodAll_nil r0
  obtain rfl : args = #[v0] := by cases args; simp_all
  obtain ⟨rfl, rfl⟩ := trodVars_none hV
  have lt0 : ∀ x ∈ p0, x.block < W.heap.size := by obtain ⟨m, hm⟩ := h0; exact DataW.trod_lt m _ _ _ hm
  obtain ⟨x0, w0⟩ := rd_of_trod (hval 0 24 v0 rfl rfl) h0
  clear hA0 hval0
  refine (walk W v0 x0 w0 (fNs x0) HT
    (fun w b u h _ => sFormatNat_c w b u x0 h)
    (fun w b u h ht => formatNat_top_c w b u x0 h ht)).mono fun e W' ⟨he, bel⟩ => ?_
  subst he
  exact ⟨_, rfl, _, _, _, [], _, [], hW', trodAll_mk1 (shut_bool Tryd.underlying4 _), (trodAll_cons_mk (Below.trod Tryd.laidOut (by as_aux_lemma => kernel_rfl) (of_decide_eq_true (by as_aux_lemma => kernel_rfl)) h0 bel lt0) trodAll_mk0), rfl, bel.frame _, fun h => by cases h⟩

theorem facts : joinedFacts Tryd.pinned.checked.prog 4 Tryd.f4 Rows.fnExactFormatNatSpec Rows.fnExactFormatNatRow = true := by
  unfold joinedFacts
  refine and_mk (and_mk (and_mk (and_mk (and_mk (and_mk (and_mk ?_ Tryd.mayEnter) ?_) ?_) ?_) ?_) ?_) ?_
  · kernel_rfl
  · rw [Tryd.liftsNone]; rfl
  · rw [Tryd.makeCut]; rfl
  · kernel_rfl
  · kernel_rfl
  · kernel_rfl
  · kernel_rfl

theorem row : Rows.FnExactFormatNatSaid :=
  OpenClaim.holds_of_wide 4 Tryd.f4 rfl rfl rfl rfl rfl rfl rfl ⟨rfl, rfl, rfl, rfl, rfl⟩ rfl rfl rfl rfl rfl (by as_aux_lemma => kernel_rfl) Tryd.func4 facts
    (of_decide_eq_true (by as_aux_lemma => kernel_rfl)) (by unfold Func.isWrapper; rw [if_neg (of_decide_eq_false (by as_aux_lemma => kernel_rfl))]; exact ⟨rfl, rfl⟩)
    (fun os started H enc _ => lifted os started H enc)

theorem funcIs : Tryd.prog.funcNamed Rows.fnExactFormatNatRow.func = some 4 := by kernel_rfl
theorem standIns : (Tryd.f4.params.toList.all fun u => !Tryd.prog.wantsStandIn u) = true := by kernel_rfl
theorem proved : Rows.FnExactFormatNatCardSaid :=
  Claim7.holds_tied_plain_at .later [] [.data, .data, .data] true (true, "2978b016b207b88b1804fb102e08707596e0d0ac81c3d2f257335ffafde41d9b") true
    row (fun _ h => by cases h) (by as_aux_lemma => kernel_rfl) (fun _ h => by cases h) fnExactFormatNat_row_tie rfl ⟨rfl, rfl⟩ (by as_aux_lemma => kernel_rfl) rfl
    (fun f fn hf hfn => by
      obtain rfl : f = 4 := (Option.some.inj (funcIs.symm.trans hf)).symm
      obtain rfl : fn = Tryd.f4 := (Option.some.inj (Tryd.func4.symm.trans hfn)).symm
      exact ⟨by as_aux_lemma => kernel_rfl, fun j t ht => by
        have hm := Array.mem_of_getElem? ht
        exact (show Tryd.prog.wantsStandIn t = false by simpa using List.all_eq_true.1 standIns t (Array.mem_toList_iff.2 hm))⟩)
    (by as_aux_lemma => kernel_rfl)

end Go.Proofs.YtcajdlpbdihbeaaDoor.lawFormatNat
