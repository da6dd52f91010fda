/- FnExactParseNat: the program's ParseNat answers what the reference's ParseNat answers, for every input; no condition. -/
import Derived.Test.YtcajdlpbdihbeaaDoorLaid
import Derived.Test.YtcajdlpbdihbeaaDoorParN
import Derived.Test.YtcajdlpbdihbeaaDoorStrOpen
import Derived.Test.YtcajdlpbdihbeaaDoorLawZ
import Derived.Test.YtcajdlpbdihbeaaDoorLawK
namespace Go.Proofs.YtcajdlpbdihbeaaDoor.lawParseNat
open Go.ChangeShapes Go.WideShapes Go.ChangeAt Go.RowKit Lm Go.Proofs.YtcajdlpbdihbeaaDoor

set_option maxHeartbeats 4000000 in
set_option maxRecDepth 100000 in
theorem walk (w : World) (s0 : ByteArray) (hs0 : s0.size ≤ 9223372036854775807) (r0 : List Int) (hr0 : r0.length ≤ 1000) (c1 : Bool) (ht : Tabs w) (he : Errs w)
    (C1 : ∀ (w : World), s0.size ≤ 1048576 → Tabs w → Errs w → Calls Tryd.prog 25 #[.string s0] w (RetSB w r0 c1))
    (C2 : ∀ (w : World), s0.size ≤ 1048576 → Tabs w → Errs w → Calls Tryd.prog 26 #[.string s0] w (RetSB w r0 c1)) :
    Calls Tryd.prog 7 #[.string s0] w (RetB w true) := by
  have K1 := Lib.hid C1
  have K2 := Lib.hid C2
  clear C1 C2
  have HT := Lib.hid ht
  clear ht
  have HE := Lib.hid he
  clear he
  by_cases hl0 : s0.size ≤ 1048576
  case neg =>
    have d0 : decide ((1048576 : Int) < s0.size) = true := decide_eq_true (by omega)
    go_enter Tryd.func7, Tryd.ntmps7
    go_wp2
    go_ret
    exact retB rfl (Below.refl _ _)
  case pos =>
    have BW : Below w.heap.size w w := (Below.refl w.heap.size w)
    have d0 : decide ((1048576 : Int) < s0.size) = false := decide_eq_false (by omega)
    go_enter Tryd.func7, Tryd.ntmps7
    go_wp2_with fail
    have hw0 : ∃ w0 : World, w0 = w := ⟨_, rfl⟩
    clear hw0
    generalize w = w0 at *
    have B0 := Below.refl w0.heap.size w0
    refine (K1.out _ hl0 (HT.out.below (BW.trans (B0.mono BW.size)) (Nat.le_refl _)) (HE.out.below (BW.trans (B0.mono BW.size)) (Nat.le_refl _))).mono ?_
    rintro e w1 ⟨vw0, rfl, ho1, hb⟩
    have Hw0 := Lib.hid (ho1.mono B0.size)
    clear ho1
    replace B0 := B0.trans (hb.mono B0.size)
    clear hb
    go_wp2_with fail
    refine (K2.out _ hl0 (HT.out.below (BW.trans (B0.mono BW.size)) (Nat.le_refl _)) (HE.out.below (BW.trans (B0.mono BW.size)) (Nat.le_refl _))).mono ?_
    rintro e w2 ⟨vg0, rfl, ho1, hb⟩
    have HA_w0_g0 := Lib.hid (apart_new Hw0.out (.inr rfl) ho1)
    replace Hw0 := Lib.hid (Hw0.out.below hb (Nat.le_refl _))
    have Hg0 := Lib.hid (ho1.mono B0.size)
    clear ho1
    replace B0 := B0.trans (hb.mono B0.size)
    clear hb
    go_wp2_with fail
    refine (eqIntS_c _ _ _ _ _ r0 Hg0.out Hw0.out).mono ?_
    rintro e w3 ⟨rfl, hb⟩
    replace Hw0 := Lib.hid (Hw0.out.below hb (Nat.le_refl _))
    replace Hg0 := Lib.hid (Hg0.out.below hb (Nat.le_refl _))
    replace B0 := B0.trans (hb.mono B0.size)
    clear hb
    go_wp2_with fail
    refine (markI_c _ _ _ r0 1 Hg0.out (by omega) (by omega) (by omega)).mono ?_
    rintro e w4 ⟨m0, hm, rfl, ho1, hg⟩
    have HMm0 := Lib.hid hm
    have m00 : 0 ≤ m0 := by omega
    have m01 : m0 ≤ 10000000 := by omega
    clear hm
    replace Hw0 := Lib.hid (Hw0.out.marked hg HA_w0_g0.out)
    replace B0 := Hg0.out.grownBelow B0 hg (Nat.le_refl _) B0.size
    clear hg
    replace Hg0 := Lib.hid ho1
    clear ho1
    have dm0 : decide (m0 < 0) = false := decide_eq_false (by omega)
    go_wp2_with fail
    refine (heldI_c _ _ _ r0.length 1 m0 Hg0.out (by omega) (by omega) (by omega) HMm0.out).mono ?_
    rintro e w5 ⟨rfl, hb⟩
    replace Hw0 := Lib.hid (Hw0.out.below hb (Nat.le_refl _))
    replace Hg0 := Lib.hid (Hg0.out.below hb (Nat.le_refl _))
    replace B0 := B0.trans (hb.mono B0.size)
    clear hb
    go_wp2_with fail
    refine (K2.out _ hl0 (HT.out.below (BW.trans (B0.mono BW.size)) (Nat.le_refl _)) (HE.out.below (BW.trans (B0.mono BW.size)) (Nat.le_refl _))).mono ?_
    rintro e w6 ⟨vf0, rfl, ho1, hb⟩
    replace Hw0 := Lib.hid (Hw0.out.below hb (Nat.le_refl _))
    replace Hg0 := Lib.hid (Hg0.out.below hb (Nat.le_refl _))
    have Hf0 := Lib.hid (ho1.mono B0.size)
    clear ho1
    replace B0 := B0.trans (hb.mono B0.size)
    clear hb
    go_wp2_with fail
    refine (eqIntS_c _ _ _ _ _ r0 Hf0.out Hw0.out).mono ?_
    rintro e w7 ⟨rfl, hb⟩
    replace Hw0 := Lib.hid (Hw0.out.below hb (Nat.le_refl _))
    replace Hg0 := Lib.hid (Hg0.out.below hb (Nat.le_refl _))
    replace Hf0 := Lib.hid (Hf0.out.below hb (Nat.le_refl _))
    replace B0 := B0.trans (hb.mono B0.size)
    clear hb
    go_wp2_with fail
    refine (heldI_c _ _ _ r0.length 1 m0 Hg0.out (by omega) (by omega) (by omega) HMm0.out).mono ?_
    rintro e w8 ⟨rfl, hb⟩
    replace Hw0 := Lib.hid (Hw0.out.below hb (Nat.le_refl _))
    replace Hg0 := Lib.hid (Hg0.out.below hb (Nat.le_refl _))
    replace Hf0 := Lib.hid (Hf0.out.below hb (Nat.le_refl _))
    replace B0 := B0.trans (hb.mono B0.size)
    clear hb
    go_wp2
    go_ret
    exact retB rfl (BW.trans (B0.mono BW.size))

theorem allPlain : (Rows.fnExactParseNatRow.laid.all fun x => x.2.handleName?.isNone) = true := by kernel_rfl
set_option maxRecDepth 100000 in
theorem lifted (os : Os) (started : os.Started) (H : Type) (enc : TypeId × Value → H) :
    ReturnsInHanded {} Tryd.checked os 7 .any (fun w args => (Rows.fnExactParseNatSpec.pre enc Tryd.prog Tryd.f7 Rows.fnExactParseNatRow.domain false w args ∧ laidMetH Tryd.prog Rows.fnExactParseNatRow.laid w) ∧ sizedMet enc Tryd.prog Tryd.f7 (OpenSpec.ofChange Rows.fnExactParseNatSpec) false w args) (Rows.fnExactParseNatSpec.post enc Tryd.prog Tryd.f7 false true false false) := by
  refine returnsInHanded_of_change_and (C := Tryd.checked) (X := (fun w _ => laidMetH Tryd.prog Rows.fnExactParseNatRow.laid w)) (fun _ _ _ hh h => h.of_heap hh) Tryd.own started (by as_aux_lemma => kernel_rfl) Tryd.func7
    (ChangeSpec.witness_shaped (enc := enc) (C := Tryd.checked) (os := os) (X := (fun w _ => laidMetH Tryd.prog Rows.fnExactParseNatRow.laid w)) false (World.laidAll Tryd.prog os Rows.fnExactParseNatRow.laid) #[.string ByteArray.empty] 8 (World.laidAll_os _ _ _)
      (World.shaped_of_ZipB (by as_aux_lemma => kernel_rfl) (by as_aux_lemma => kernel_rfl)) (by as_aux_lemma => kernel_rfl) (by as_aux_lemma => kernel_rfl) (by as_aux_lemma => kernel_rfl)
      (by rw [MakeChecks.laidMetH_plain _ _ _ allPlain]; exact laidMet_laidAll _ (by as_aux_lemma => kernel_rfl) (by as_aux_lemma => kernel_rfl))) ?_
  intro W base args ds gs before hval0 hW hcnd _ hL _
  have hval : ∀ (j : Nat) t v, Tryd.f7.params[j]? = some t → args[j]? = some v → Value.okWide Tryd.prog W .any base t v := hval0
  have hW' := hW
  obtain ⟨p, q, hA0, hV, rfl, hfz, hnd⟩ := hW
  have hA : DataW.TrodAll enc Tryd.prog W 0 (fun _ => true) true Tryd.f7.params.toList args.toList ds p := hA0
  rw [Tryd.params7] at hA hval
  have HT : Tabs W := tabs_of_laid (l := Rows.fnExactParseNatRow.laid) hL allPlain (r := [("strconv.ErrRange", Rows.laid_strconv_ErrRange), ("strconv.ErrSyntax", Rows.laid_strconv_ErrSyntax)]) rfl
  have HE : Errs W := errs_of_laid (l := Rows.fnExactParseNatRow.laid) hL allPlain rfl
  obtain ⟨v0, vs0, d0, ds0, p0, q0, hargs, rfl, rfl, h0, r0⟩ := trodAll_cons hA
  obtain ⟨rfl, rfl, rfl⟩ := trodAll_nil r0
  obtain rfl : args = #[v0] := by cases args; simp_all
  obtain ⟨rfl, rfl⟩ := trodVars_none hV
  have lt0 : ∀ x ∈ p0, x.block < W.heap.size := by obtain ⟨m, hm⟩ := h0; exact DataW.trod_lt m _ _ _ hm
  obtain ⟨s0, rfl, hs0⟩ := str_of_trod (hval 0 9 v0 rfl rfl) h0
  clear hA0 hval0
  refine (walk W s0 hs0 (pNs s0) (Nat.le_trans (pNs_len s0) (by omega)) (pNb s0) HT HE
    (fun w h _ _ => sParseNat_c w s0 h)
    (fun w h _ _ => parseNat_c w s0 h)).mono fun e W' ⟨he, bel⟩ => ?_
  subst he
  exact ⟨_, rfl, _, _, _, [], _, [], hW', trodAll_mk1 (shut_bool Tryd.underlying4 _), (trodAll_cons_mk (Below.trod Tryd.laidOut (by as_aux_lemma => kernel_rfl) (of_decide_eq_true (by as_aux_lemma => kernel_rfl)) h0 bel lt0) trodAll_mk0), rfl, bel.frame _, fun h => by cases h⟩

theorem facts : joinedFacts Tryd.pinned.checked.prog 7 Tryd.f7 Rows.fnExactParseNatSpec Rows.fnExactParseNatRow = true := by
  unfold joinedFacts
  refine and_mk (and_mk (and_mk (and_mk (and_mk (and_mk (and_mk ?_ Tryd.mayEnter) ?_) ?_) ?_) ?_) ?_) ?_
  · kernel_rfl
  · rw [Tryd.liftsNone]; rfl
  · rw [Tryd.makeCut]; rfl
  · kernel_rfl
  · kernel_rfl
  · kernel_rfl
  · kernel_rfl

theorem row : Rows.FnExactParseNatSaid :=
  OpenClaim.holds_of_wide 7 Tryd.f7 rfl rfl rfl rfl rfl rfl rfl ⟨rfl, rfl, rfl, rfl, rfl⟩ rfl rfl rfl rfl rfl (by as_aux_lemma => kernel_rfl) Tryd.func7 facts
    (of_decide_eq_true (by as_aux_lemma => kernel_rfl)) (by unfold Func.isWrapper; rw [if_neg (of_decide_eq_false (by as_aux_lemma => kernel_rfl))]; exact ⟨rfl, rfl⟩)
    (fun os started H enc _ => lifted os started H enc)

theorem funcIs : Tryd.prog.funcNamed Rows.fnExactParseNatRow.func = some 7 := by kernel_rfl
theorem standIns : (Tryd.f7.params.toList.all fun u => !Tryd.prog.wantsStandIn u) = true := by kernel_rfl
theorem proved : Rows.FnExactParseNatCardSaid :=
  Claim7.holds_tied_plain_at .later [] [.data, .data, .data, .sentinel, .sentinel] true (true, "2978b016b207b88b1804fb102e08707596e0d0ac81c3d2f257335ffafde41d9b") true
    row (fun _ h => by cases h) (by as_aux_lemma => kernel_rfl) (fun _ h => by cases h) fnExactParseNat_row_tie rfl ⟨rfl, rfl⟩ (by as_aux_lemma => kernel_rfl) rfl
    (fun f fn hf hfn => by
      obtain rfl : f = 7 := (Option.some.inj (funcIs.symm.trans hf)).symm
      obtain rfl : fn = Tryd.f7 := (Option.some.inj (Tryd.func7.symm.trans hfn)).symm
      exact ⟨by as_aux_lemma => kernel_rfl, fun j t ht => by
        have hm := Array.mem_of_getElem? ht
        exact (show Tryd.prog.wantsStandIn t = false by simpa using List.all_eq_true.1 standIns t (Array.mem_toList_iff.2 hm))⟩)
    (by as_aux_lemma => kernel_rfl)

end Go.Proofs.YtcajdlpbdihbeaaDoor.lawParseNat
