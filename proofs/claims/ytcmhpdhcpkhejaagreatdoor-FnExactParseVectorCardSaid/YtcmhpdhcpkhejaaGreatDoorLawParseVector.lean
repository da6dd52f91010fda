/- FnExactParseVector: the program's ParseVector answers what the reference's ParseVector answers, for every input; no condition. -/
import Derived.Test.YtcmhpdhcpkhejaaGreatDoorVecZ
import Derived.Test.YtcmhpdhcpkhejaaGreatDoorVecY
import Derived.Test.YtcmhpdhcpkhejaaGreatDoorShp
import Derived.Test.YtcmhpdhcpkhejaaGreatDoorStrG
namespace Go.Proofs.YtcmhpdhcpkhejaaGreatDoor.lawParseVector
open Go.ChangeShapes Go.WideShapes Go.ChangeAt Go.RowKit Lm Go.Proofs.YtcmhpdhcpkhejaaGreatDoor

theorem pv_sum (s : ByteArray) : sumK (pvR s) 0 (pvN s) ≤ 100000 := by
  rcases hE : s.toList.isEmpty with _ | _
  · rcases hb : pvB s with _ | _
    · rw [pv_no hE hb]; simp [sumK]
    · have h : (pvS s).length ≤ 24 ∧ (pvS s).all pRb = true := by
        unfold pvB at hb
        rw [hE, Bool.false_or, Bool.and_eq_true, decide_eq_true_eq] at hb
        exact hb
      have hn : pvN s = (pvS s).length := by unfold pvN; rw [hE, hb]; rfl
      have h2 := sumK_le (pvR s) (pvN s) 48 fun i hi => by
        rw [hn] at hi
        have hp : pRb (sat (pvS s) i) = true := by
          rw [sat_of_lt hi]
          exact List.all_eq_true.1 h.2 _ (List.getElem_mem hi)
        have := (pRc_ok hp).1
        exact Nat.add_le_add this.2.2.2.1 this.2.2.2.2.1
      omega
  · rw [(pv_empty hE).2]; simp [sumK]

set_option maxHeartbeats 4000000 in
set_option maxRecDepth 100000 in
theorem walk (w : World) (s0 : ByteArray) (hs0 : s0.size ≤ 9223372036854775807) (m0 : Nat) (R0 : Nat → Rc) (hr0 : sumK R0 0 m0 ≤ 100000) (c1 : Bool) (ht : Tabs w) (_he : Errs w) (hsh : Shp w)
    (C1 : ∀ (w : World), s0.size ≤ 1048576 → Tabs w → Shp w → Calls Tryz.prog 17 #[.string s0] w (RetVB w m0 R0 c1))
    (C2 : ∀ (w : World), s0.size ≤ 1048576 → Tabs w → Shp w → Calls Tryz.prog 18 #[.string s0] w (RetVB w m0 R0 c1)) :
    Calls Tryz.prog 4 #[.string s0] w (RetB w true) := by
  have K1 := Lib.hid C1
  have K2 := Lib.hid C2
  have HT := Lib.hid ht
  have HS := Lib.hid hsh
  clear C1 C2 ht hsh
  by_cases hl : s0.size ≤ 1048576
  case neg =>
    have d0 : decide ((1048576 : Int) < s0.size) = true := decide_eq_true (by omega)
    go_enter Tryz.func4, Tryz.ntmps4
    go_wp2
    go_ret
    exact retB rfl (Below.refl _ _)
  case pos =>
    have d0 : decide ((1048576 : Int) < s0.size) = false := decide_eq_false (by omega)
    have B := Below.refl w.heap.size w
    go_enter Tryz.func4, Tryz.ntmps4
    go_wp2_with fail
    refine (K1.out _ hl (HT.out.below B (Nat.le_refl _)) (HS.out.below B (Nat.le_refl _))).mono ?_
    rintro e w1 ⟨vws, rfl, ho, hb⟩
    have hs1 := hb.size
    replace B := B.trans (hb.mono B.size)
    clear hb
    have Hws := Lib.hid ho
    clear ho
    go_wp2_with fail
    refine (K2.out _ hl (HT.out.below B (Nat.le_refl _)) (HS.out.below B (Nat.le_refl _))).mono ?_
    rintro e w2 ⟨vgs, rfl, ho, hb⟩
    replace Hws := Lib.hid (Hws.out.bel hb)
    have hs2 := hb.size
    replace B := B.trans (hb.mono B.size)
    clear hb
    have Hgs := Lib.hid ho
    clear ho
    go_wp2_with fail
    refine (eqRatS_c _ m0 R0 Hgs.out Hws.out).mono ?_
    rintro e w3 ⟨rfl, hb⟩
    replace Hws := Lib.hid (Hws.out.bel hb)
    replace Hgs := Lib.hid (Hgs.out.bel hb)
    have hs3 := hb.size
    replace B := B.trans (hb.mono B.size)
    clear hb
    go_wp2_with fail
    refine (markV_c _ w1.heap.size w2.heap.size _ m0 R0 1 100000 Hgs.out (by omega) hr0 (by omega)).mono ?_
    rintro e w4 ⟨q0, rfl, q00, q01, hm, ho, hw⟩
    have hs4 := hw.size
    have HMq0 := Lib.hid hm
    replace Hws := Lib.hid (Hws.out.within hw (by omega))
    replace Hgs := Lib.hid ho
    replace B := hw.below B (by omega) (by omega)
    clear hm ho hw
    have dq0 : decide (q0 < 0) = false := decide_eq_false (by omega)
    go_wp2_with fail
    refine (heldRatS_c _ w1.heap.size w2.heap.size _ m0 R0 1 q0 Hgs.out (by omega) (by omega) HMq0.out).mono ?_
    rintro e w5 ⟨rfl, hb⟩
    replace Hws := Lib.hid (Hws.out.bel hb)
    replace Hgs := Lib.hid (Hgs.out.bel hb)
    have hs5 := hb.size
    replace B := B.trans (hb.mono B.size)
    clear hb
    go_wp2_with fail
    refine (K2.out _ hl (HT.out.below B (Nat.le_refl _)) (HS.out.below B (Nat.le_refl _))).mono ?_
    rintro e w6 ⟨vfs, rfl, ho, hb⟩
    replace Hws := Lib.hid (Hws.out.bel hb)
    replace Hgs := Lib.hid (Hgs.out.bel hb)
    have hs6 := hb.size
    replace B := B.trans (hb.mono B.size)
    clear hb
    have Hfs := Lib.hid ho
    clear ho
    go_wp2_with fail
    refine (eqRatS_c _ m0 R0 Hfs.out Hws.out).mono ?_
    rintro e w7 ⟨rfl, hb⟩
    replace Hws := Lib.hid (Hws.out.bel hb)
    replace Hgs := Lib.hid (Hgs.out.bel hb)
    replace Hfs := Lib.hid (Hfs.out.bel hb)
    have hs7 := hb.size
    replace B := B.trans (hb.mono B.size)
    clear hb
    go_wp2_with fail
    refine (heldRatS_c _ w1.heap.size w2.heap.size _ m0 R0 1 q0 Hgs.out (by omega) (by omega) HMq0.out).mono ?_
    rintro e w8 ⟨rfl, hb⟩
    replace Hws := Lib.hid (Hws.out.bel hb)
    replace Hgs := Lib.hid (Hgs.out.bel hb)
    replace Hfs := Lib.hid (Hfs.out.bel hb)
    have hs8 := hb.size
    replace B := B.trans (hb.mono B.size)
    clear hb
    go_wp2
    go_ret
    exact retB rfl B

theorem allPlain : (Rows.fnExactParseVectorRow.laid.all fun x => x.2.handleName?.isNone) = true := by kernel_rfl
set_option maxRecDepth 100000 in
theorem lifted (os : Os) (started : os.Started) (H : Type) (enc : TypeId × Value → H) :
    ReturnsInHanded {} Tryz.checked os 4 .any (fun w args => (Rows.fnExactParseVectorSpec.pre enc Tryz.prog Tryz.f4 Rows.fnExactParseVectorRow.domain false w args ∧ laidMetH Tryz.prog Rows.fnExactParseVectorRow.laid w) ∧ sizedMet enc Tryz.prog Tryz.f4 (OpenSpec.ofChange Rows.fnExactParseVectorSpec) false w args) (Rows.fnExactParseVectorSpec.post enc Tryz.prog Tryz.f4 false true false false) := by
  refine handed_of (C := Tryz.checked) (X := (fun w _ => laidMetH Tryz.prog Rows.fnExactParseVectorRow.laid w)) (fun _ _ _ hh h => h.of_heap hh) Tryz.own started (by as_aux_lemma => kernel_rfl) Tryz.func4
    (ChangeSpec.witness_shaped (enc := enc) (C := Tryz.checked) (os := os) (X := (fun w _ => laidMetH Tryz.prog Rows.fnExactParseVectorRow.laid w)) false (World.laidAll Tryz.prog os Rows.fnExactParseVectorRow.laid) #[.string ByteArray.empty] 8 (World.laidAll_os _ _ _)
      (World.shaped_of_ZipB (by as_aux_lemma => kernel_rfl) (by as_aux_lemma => kernel_rfl)) (by as_aux_lemma => kernel_rfl) (by as_aux_lemma => kernel_rfl) (by as_aux_lemma => kernel_rfl)
      (by rw [MakeChecks.laidMetH_plain _ _ _ allPlain]; exact laidMet_laidAll _ (by as_aux_lemma => kernel_rfl) (by as_aux_lemma => kernel_rfl))) ?_
  intro W base args ds gs before hval0 hW hL hsh
  have hval : ∀ (j : Nat) t v, Tryz.f4.params[j]? = some t → args[j]? = some v → Value.okWide Tryz.prog W .any base t v := hval0
  have hW' := hW
  obtain ⟨p, q, hA0, hV, rfl, hfz, hnd⟩ := hW
  have hA : DataW.TrodAll enc Tryz.prog W 0 (fun _ => true) true Tryz.f4.params.toList args.toList ds p := hA0
  rw [Tryz.params4] at hA hval
  have HT : Tabs W := tabs_of_laid (l := Rows.fnExactParseVectorRow.laid) hL allPlain (r := [("strconv.ErrRange", Rows.laid_strconv_ErrRange), ("strconv.ErrSyntax", Rows.laid_strconv_ErrSyntax)]) rfl
  have HS : Shp W := shp_of hsh
  have HE : Errs W := errs_of_laid (l := Rows.fnExactParseVectorRow.laid) hL allPlain rfl
  obtain ⟨v0, vs0, d0, ds0, p0, q0, hargs, rfl, rfl, h0, r0⟩ := trodAll_cons hA
  obtain ⟨rfl, rfl, rfl⟩ := trodAll_nil r0
  obtain rfl : args = #[v0] := by cases args; simp_all
  obtain ⟨rfl, rfl⟩ := trodVars_none hV
  have lt0 : ∀ x ∈ p0, x.block < W.heap.size := by obtain ⟨m, hm⟩ := h0; exact DataW.trod_lt m _ _ _ hm
  obtain ⟨s0, rfl, hs0⟩ := str_of_trod (hval 0 9 v0 rfl rfl) h0
  clear hA0 hval0
  refine (walk W s0 hs0 (pvN s0) (pvR s0) (pv_sum s0) (pvB s0) HT HE HS
    (fun w h _ _ => sParseVector_c w s0 h)
    (fun w h ht hs => ParseVector_c w s0 h ht hs)).mono fun e W' ⟨he, bel⟩ => ?_
  subst he
  exact ⟨_, rfl, _, _, _, [], _, [], hW', trodAll_mk1 (shut_bool Tryz.underlying4 _), (trodAll_cons_mk (Below.trod Tryz.laidOut (by as_aux_lemma => kernel_rfl) (of_decide_eq_true (by as_aux_lemma => kernel_rfl)) h0 bel lt0) trodAll_mk0), rfl, bel.frame _, fun h => by cases h⟩

theorem facts : joinedFacts Tryz.pinned.checked.prog 4 Tryz.f4 Rows.fnExactParseVectorSpec Rows.fnExactParseVectorRow = true := by
  unfold joinedFacts
  refine and_mk (and_mk (and_mk (and_mk (and_mk (and_mk (and_mk ?_ Tryz.mayEnter) ?_) ?_) ?_) ?_) ?_) ?_
  · kernel_rfl
  · rw [Tryz.liftsNone]; rfl
  · rw [Tryz.makeCut]; rfl
  · kernel_rfl
  · kernel_rfl
  · kernel_rfl
  · kernel_rfl

theorem row : Rows.FnExactParseVectorSaid :=
  OpenClaim.holds_of_wide 4 Tryz.f4 rfl rfl rfl rfl rfl rfl rfl ⟨rfl, rfl, rfl, rfl, rfl⟩ rfl rfl rfl rfl rfl (by as_aux_lemma => kernel_rfl) Tryz.func4 facts
    (of_decide_eq_true (by as_aux_lemma => kernel_rfl)) (by unfold Func.isWrapper; rw [if_neg (of_decide_eq_false (by as_aux_lemma => kernel_rfl))]; exact ⟨rfl, rfl⟩)
    (fun os started H enc _ => lifted os started H enc)

theorem funcIs : Tryz.prog.funcNamed Rows.fnExactParseVectorRow.func = some 4 := by kernel_rfl
theorem standIns : (Tryz.f4.params.toList.all fun u => !Tryz.prog.wantsStandIn u) = true := by kernel_rfl
theorem proved : Rows.FnExactParseVectorCardSaid :=
  Claim7.holds_tied_plain_at .later [] _ _ _ _
    row (fun _ h => by cases h) (by as_aux_lemma => kernel_rfl) (fun _ h => by cases h) fnExactParseVector_row_tie rfl ⟨rfl, rfl⟩ (by as_aux_lemma => kernel_rfl) rfl
    (fun f fn hf hfn => by
      obtain rfl : f = 4 := (Option.some.inj (funcIs.symm.trans hf)).symm
      obtain rfl : fn = Tryz.f4 := (Option.some.inj (Tryz.func4.symm.trans hfn)).symm
      exact ⟨by as_aux_lemma => kernel_rfl, fun j t ht => by
        have hm := Array.mem_of_getElem? ht
        exact (show Tryz.prog.wantsStandIn t = false by simpa using List.all_eq_true.1 standIns t (Array.mem_toList_iff.2 hm))⟩)
    (by as_aux_lemma => kernel_rfl)

end Go.Proofs.YtcmhpdhcpkhejaaGreatDoor.lawParseVector
