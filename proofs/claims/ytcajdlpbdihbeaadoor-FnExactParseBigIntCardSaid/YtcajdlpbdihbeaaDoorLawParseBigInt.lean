/- FnExactParseBigInt: the program's ParseBigInt answers what the reference's ParseBigInt answers, for every input; no condition. -/
import Derived.Test.YtcajdlpbdihbeaaDoorLaid
import Derived.Test.YtcajdlpbdihbeaaDoorParZ
import Derived.Test.YtcajdlpbdihbeaaDoorStrOpen
import Derived.Test.YtcajdlpbdihbeaaDoorLawZ
import Derived.Test.YtcajdlpbdihbeaaDoorLawK
namespace Go.Proofs.YtcajdlpbdihbeaaDoor.lawParseBigInt
open Go.ChangeShapes Go.WideShapes Go.ChangeAt Go.RowKit Lm Go.Proofs.YtcajdlpbdihbeaaDoor

set_option maxHeartbeats 4000000 in
set_option maxRecDepth 100000 in
theorem walk (w : World) (s0 : ByteArray) (hs0 : s0.size ≤ 9223372036854775807) (t0 : Bool) (r0 : List Int) (hr0 : r0.length ≤ 1000) (c1 : Bool) (ht : Tabs w) (he : Errs w)
    (C1 : ∀ (w : World), s0.size ≤ 1048576 → Tabs w → Errs w → Calls Tryd.prog 29 #[.string s0] w (RetGB w t0 r0 c1))
    (C2 : ∀ (w : World), s0.size ≤ 1048576 → Tabs w → Errs w → Calls Tryd.prog 30 #[.string s0] w (RetGB w t0 r0 c1)) :
    Calls Tryd.prog 8 #[.string s0] w (RetB w true) := by
  have K1 := Lib.hid C1
  have K2 := Lib.hid C2
  clear C1 C2
  have HT := Lib.hid ht
  clear ht
  have HE := Lib.hid he
  clear he
  by_cases hl0 : s0.size ≤ 1048576
  case neg =>
    have d0 : decide ((1048576 : Int) < s0.size) = true := decide_eq_true (by omega)
    go_enter Tryd.func8, Tryd.ntmps8
    go_wp2
    go_ret
    exact retB rfl (Below.refl _ _)
  case pos =>
    have BW : Below w.heap.size w w := (Below.refl w.heap.size w)
    have d0 : decide ((1048576 : Int) < s0.size) = false := decide_eq_false (by omega)
    go_enter Tryd.func8, Tryd.ntmps8
    go_wp2_with fail
    have hw0 : ∃ w0 : World, w0 = w := ⟨_, rfl⟩
    clear hw0
    generalize w = w0 at *
    have B0 := Below.refl w0.heap.size w0
    refine (K1.out _ hl0 (HT.out.below (BW.trans (B0.mono BW.size)) (Nat.le_refl _)) (HE.out.below (BW.trans (B0.mono BW.size)) (Nat.le_refl _))).mono ?_
    rintro e w1 ⟨vw0m, rfl, ho1, hb⟩
    have Hw0m := Lib.hid (ho1.mono B0.size)
    clear ho1
    obtain ⟨aw0m, cw0m, rfl, -, -, -, -, -⟩ := Hw0m.out.form
    replace B0 := B0.trans (hb.mono B0.size)
    clear hb
    have hb := alloc_bel w1 (.cells #[.bool t0, .slice aw0m r0.length cw0m] 33)
    replace Hw0m := Lib.hid (Hw0m.out.below hb (Nat.le_refl _))
    obtain ⟨bw0_0, bw0_1⟩ : World.cell? (w1.alloc (.cells #[.bool t0, .slice aw0m r0.length cw0m] 33)) ⟨w1.heap.size, 0, none⟩ = some (.bool t0) ∧ World.cell? (w1.alloc (.cells #[.bool t0, .slice aw0m r0.length cw0m] 33)) ⟨w1.heap.size, 1, none⟩ = some (.slice aw0m r0.length cw0m) := by simp [go_sem]
    replace B0 := B0.trans (hb.mono B0.size)
    clear hb
    go_wp2_with fail
    generalize w1.alloc (.cells #[.bool t0, .slice aw0m r0.length cw0m] 33) = w2 at *
    refine (K2.out _ hl0 (HT.out.below (BW.trans (B0.mono BW.size)) (Nat.le_refl _)) (HE.out.below (BW.trans (B0.mono BW.size)) (Nat.le_refl _))).mono ?_
    rintro e w3 ⟨vg0m, rfl, ho1, hb⟩
    have HN_g0m_bw0 := Lib.hid (own_ne_old bw0_0 ho1)
    have HA_w0m_g0m := Lib.hid (apart_new Hw0m.out (.inr rfl) ho1)
    replace bw0_0 := keep_cell hb bw0_0
    replace bw0_1 := keep_cell hb bw0_1
    replace Hw0m := Lib.hid (Hw0m.out.below hb (Nat.le_refl _))
    have Hg0m := Lib.hid (ho1.mono B0.size)
    clear ho1
    obtain ⟨ag0m, cg0m, rfl, -, -, -, -, -⟩ := Hg0m.out.form
    replace B0 := B0.trans (hb.mono B0.size)
    clear hb
    have HN_g0m_bg0 := Lib.hid (own_ne_new Hg0m.out)
    have hb := alloc_bel w3 (.cells #[.bool t0, .slice ag0m r0.length cg0m] 33)
    replace bw0_0 := keep_cell hb bw0_0
    replace bw0_1 := keep_cell hb bw0_1
    replace Hw0m := Lib.hid (Hw0m.out.below hb (Nat.le_refl _))
    replace Hg0m := Lib.hid (Hg0m.out.below hb (Nat.le_refl _))
    obtain ⟨bg0_0, bg0_1⟩ : World.cell? (w3.alloc (.cells #[.bool t0, .slice ag0m r0.length cg0m] 33)) ⟨w3.heap.size, 0, none⟩ = some (.bool t0) ∧ World.cell? (w3.alloc (.cells #[.bool t0, .slice ag0m r0.length cg0m] 33)) ⟨w3.heap.size, 1, none⟩ = some (.slice ag0m r0.length cg0m) := by simp [go_sem]
    replace B0 := B0.trans (hb.mono B0.size)
    clear hb
    go_wp2_with fail
    generalize w3.alloc (.cells #[.bool t0, .slice ag0m r0.length cg0m] 33) = w4 at *
    refine (eqBigInt_c _ _ _ t0 _ _ r0 Hg0m.out Hw0m.out).mono ?_
    rintro e w5 ⟨rfl, hb⟩
    replace bw0_0 := keep_cell hb bw0_0
    replace bw0_1 := keep_cell hb bw0_1
    replace bg0_0 := keep_cell hb bg0_0
    replace bg0_1 := keep_cell hb bg0_1
    replace Hw0m := Lib.hid (Hw0m.out.below hb (Nat.le_refl _))
    replace Hg0m := Lib.hid (Hg0m.out.below hb (Nat.le_refl _))
    replace B0 := B0.trans (hb.mono B0.size)
    clear hb
    go_wp2_with fail
    refine (markZ_c _ _ _ t0 r0 1 Hg0m.out (by omega) (by omega) (by omega)).mono ?_
    rintro e w6 ⟨m0, hm, rfl, ho1, hg⟩
    have HMm0 := Lib.hid hm
    have m00 : 0 ≤ m0 := by omega
    have m01 : m0 ≤ 10000000 := by omega
    clear hm
    replace bw0_0 := keep_grown hg bw0_0 HN_g0m_bw0.out
    replace bw0_1 := keep_grown hg bw0_1 HN_g0m_bw0.out
    replace bg0_0 := keep_grown hg bg0_0 HN_g0m_bg0.out
    replace bg0_1 := keep_grown hg bg0_1 HN_g0m_bg0.out
    replace Hw0m := Lib.hid (Hw0m.out.marked hg HA_w0m_g0m.out)
    replace B0 := Hg0m.out.grownBelow B0 hg (Nat.le_refl _) B0.size
    clear hg
    replace Hg0m := Lib.hid ho1
    clear ho1
    have dm0 : decide (m0 < 0) = false := decide_eq_false (by omega)
    go_wp2_with fail
    refine (heldZ_c _ _ t0 _ r0.length 1 m0 Hg0m.out (by omega) (by omega) (by omega) HMm0.out).mono ?_
    rintro e w7 ⟨rfl, hb⟩
    replace bw0_0 := keep_cell hb bw0_0
    replace bw0_1 := keep_cell hb bw0_1
    replace bg0_0 := keep_cell hb bg0_0
    replace bg0_1 := keep_cell hb bg0_1
    replace Hw0m := Lib.hid (Hw0m.out.below hb (Nat.le_refl _))
    replace Hg0m := Lib.hid (Hg0m.out.below hb (Nat.le_refl _))
    replace B0 := B0.trans (hb.mono B0.size)
    clear hb
    go_wp2_with fail
    refine (K2.out _ hl0 (HT.out.below (BW.trans (B0.mono BW.size)) (Nat.le_refl _)) (HE.out.below (BW.trans (B0.mono BW.size)) (Nat.le_refl _))).mono ?_
    rintro e w8 ⟨vf0m, rfl, ho1, hb⟩
    replace bw0_0 := keep_cell hb bw0_0
    replace bw0_1 := keep_cell hb bw0_1
    replace bg0_0 := keep_cell hb bg0_0
    replace bg0_1 := keep_cell hb bg0_1
    replace Hw0m := Lib.hid (Hw0m.out.below hb (Nat.le_refl _))
    replace Hg0m := Lib.hid (Hg0m.out.below hb (Nat.le_refl _))
    have Hf0m := Lib.hid (ho1.mono B0.size)
    clear ho1
    obtain ⟨af0m, cf0m, rfl, -, -, -, -, -⟩ := Hf0m.out.form
    replace B0 := B0.trans (hb.mono B0.size)
    clear hb
    have hb := alloc_bel w8 (.cells #[.bool t0, .slice af0m r0.length cf0m] 33)
    replace bw0_0 := keep_cell hb bw0_0
    replace bw0_1 := keep_cell hb bw0_1
    replace bg0_0 := keep_cell hb bg0_0
    replace bg0_1 := keep_cell hb bg0_1
    replace Hw0m := Lib.hid (Hw0m.out.below hb (Nat.le_refl _))
    replace Hg0m := Lib.hid (Hg0m.out.below hb (Nat.le_refl _))
    replace Hf0m := Lib.hid (Hf0m.out.below hb (Nat.le_refl _))
    obtain ⟨bf0_0, bf0_1⟩ : World.cell? (w8.alloc (.cells #[.bool t0, .slice af0m r0.length cf0m] 33)) ⟨w8.heap.size, 0, none⟩ = some (.bool t0) ∧ World.cell? (w8.alloc (.cells #[.bool t0, .slice af0m r0.length cf0m] 33)) ⟨w8.heap.size, 1, none⟩ = some (.slice af0m r0.length cf0m) := by simp [go_sem]
    replace B0 := B0.trans (hb.mono B0.size)
    clear hb
    go_wp2_with fail
    generalize w8.alloc (.cells #[.bool t0, .slice af0m r0.length cf0m] 33) = w9 at *
    refine (eqBigInt_c _ _ _ t0 _ _ r0 Hf0m.out Hw0m.out).mono ?_
    rintro e w10 ⟨rfl, hb⟩
    replace bw0_0 := keep_cell hb bw0_0
    replace bw0_1 := keep_cell hb bw0_1
    replace bg0_0 := keep_cell hb bg0_0
    replace bg0_1 := keep_cell hb bg0_1
    replace bf0_0 := keep_cell hb bf0_0
    replace bf0_1 := keep_cell hb bf0_1
    replace Hw0m := Lib.hid (Hw0m.out.below hb (Nat.le_refl _))
    replace Hg0m := Lib.hid (Hg0m.out.below hb (Nat.le_refl _))
    replace Hf0m := Lib.hid (Hf0m.out.below hb (Nat.le_refl _))
    replace B0 := B0.trans (hb.mono B0.size)
    clear hb
    go_wp2_with fail
    refine (heldZ_c _ _ t0 _ r0.length 1 m0 Hg0m.out (by omega) (by omega) (by omega) HMm0.out).mono ?_
    rintro e w11 ⟨rfl, hb⟩
    replace bw0_0 := keep_cell hb bw0_0
    replace bw0_1 := keep_cell hb bw0_1
    replace bg0_0 := keep_cell hb bg0_0
    replace bg0_1 := keep_cell hb bg0_1
    replace bf0_0 := keep_cell hb bf0_0
    replace bf0_1 := keep_cell hb bf0_1
    replace Hw0m := Lib.hid (Hw0m.out.below hb (Nat.le_refl _))
    replace Hg0m := Lib.hid (Hg0m.out.below hb (Nat.le_refl _))
    replace Hf0m := Lib.hid (Hf0m.out.below hb (Nat.le_refl _))
    replace B0 := B0.trans (hb.mono B0.size)
    clear hb
    go_wp2
    go_ret
    exact retB rfl (BW.trans (B0.mono BW.size))

theorem allPlain : (Rows.fnExactParseBigIntRow.laid.all fun x => x.2.handleName?.isNone) = true := by kernel_rfl
set_option maxRecDepth 100000 in
theorem lifted (os : Os) (started : os.Started) (H : Type) (enc : TypeId × Value → H) :
    ReturnsInHanded {} Tryd.checked os 8 .any (fun w args => (Rows.fnExactParseBigIntSpec.pre enc Tryd.prog Tryd.f8 Rows.fnExactParseBigIntRow.domain false w args ∧ laidMetH Tryd.prog Rows.fnExactParseBigIntRow.laid w) ∧ sizedMet enc Tryd.prog Tryd.f8 (OpenSpec.ofChange Rows.fnExactParseBigIntSpec) false w args) (Rows.fnExactParseBigIntSpec.post enc Tryd.prog Tryd.f8 false true false false) := by
  refine returnsInHanded_of_change_and (C := Tryd.checked) (X := (fun w _ => laidMetH Tryd.prog Rows.fnExactParseBigIntRow.laid w)) (fun _ _ _ hh h => h.of_heap hh) Tryd.own started (by as_aux_lemma => kernel_rfl) Tryd.func8
    (ChangeSpec.witness_shaped (enc := enc) (C := Tryd.checked) (os := os) (X := (fun w _ => laidMetH Tryd.prog Rows.fnExactParseBigIntRow.laid w)) false (World.laidAll Tryd.prog os Rows.fnExactParseBigIntRow.laid) #[.string ByteArray.empty] 8 (World.laidAll_os _ _ _)
      (World.shaped_of_ZipB (by as_aux_lemma => kernel_rfl) (by as_aux_lemma => kernel_rfl)) (by as_aux_lemma => kernel_rfl) (by as_aux_lemma => kernel_rfl) (by as_aux_lemma => kernel_rfl)
      (by rw [MakeChecks.laidMetH_plain _ _ _ allPlain]; exact laidMet_laidAll _ (by as_aux_lemma => kernel_rfl) (by as_aux_lemma => kernel_rfl))) ?_
  intro W base args ds gs before hval0 hW hcnd _ hL _
  have hval : ∀ (j : Nat) t v, Tryd.f8.params[j]? = some t → args[j]? = some v → Value.okWide Tryd.prog W .any base t v := hval0
  have hW' := hW
  obtain ⟨p, q, hA0, hV, rfl, hfz, hnd⟩ := hW
  have hA : DataW.TrodAll enc Tryd.prog W 0 (fun _ => true) true Tryd.f8.params.toList args.toList ds p := hA0
  rw [Tryd.params8] at hA hval
  have HT : Tabs W := tabs_of_laid (l := Rows.fnExactParseBigIntRow.laid) hL allPlain (r := [("strconv.ErrRange", Rows.laid_strconv_ErrRange), ("strconv.ErrSyntax", Rows.laid_strconv_ErrSyntax)]) rfl
  have HE : Errs W := errs_of_laid (l := Rows.fnExactParseBigIntRow.laid) hL allPlain rfl
  obtain ⟨v0, vs0, d0, ds0, p0, q0, hargs, rfl, rfl, h0, r0⟩ := trodAll_cons hA
  obtain ⟨rfl, rfl, rfl⟩ := trodAll_nil r0
  obtain rfl : args = #[v0] := by cases args; simp_all
  obtain ⟨rfl, rfl⟩ := trodVars_none hV
  have lt0 : ∀ x ∈ p0, x.block < W.heap.size := by obtain ⟨m, hm⟩ := h0; exact DataW.trod_lt m _ _ _ hm
  obtain ⟨s0, rfl, hs0⟩ := str_of_trod (hval 0 9 v0 rfl rfl) h0
  clear hA0 hval0
  refine (walk W s0 hs0 (pZg s0) (pZs s0) (Nat.le_trans (pZs_len s0) (by omega)) (pZb s0) HT HE
    (fun w h _ _ => sParseBigInt_c w s0 h)
    (fun w h _ _ => ParseBigInt_c w s0 h)).mono fun e W' ⟨he, bel⟩ => ?_
  subst he
  exact ⟨_, rfl, _, _, _, [], _, [], hW', trodAll_mk1 (shut_bool Tryd.underlying4 _), (trodAll_cons_mk (Below.trod Tryd.laidOut (by as_aux_lemma => kernel_rfl) (of_decide_eq_true (by as_aux_lemma => kernel_rfl)) h0 bel lt0) trodAll_mk0), rfl, bel.frame _, fun h => by cases h⟩

theorem facts : joinedFacts Tryd.pinned.checked.prog 8 Tryd.f8 Rows.fnExactParseBigIntSpec Rows.fnExactParseBigIntRow = true := by
  unfold joinedFacts
  refine and_mk (and_mk (and_mk (and_mk (and_mk (and_mk (and_mk ?_ Tryd.mayEnter) ?_) ?_) ?_) ?_) ?_) ?_
  · kernel_rfl
  · rw [Tryd.liftsNone]; rfl
  · rw [Tryd.makeCut]; rfl
  · kernel_rfl
  · kernel_rfl
  · kernel_rfl
  · kernel_rfl

theorem row : Rows.FnExactParseBigIntSaid :=
  OpenClaim.holds_of_wide 8 Tryd.f8 rfl rfl rfl rfl rfl rfl rfl ⟨rfl, rfl, rfl, rfl, rfl⟩ rfl rfl rfl rfl rfl (by as_aux_lemma => kernel_rfl) Tryd.func8 facts
    (of_decide_eq_true (by as_aux_lemma => kernel_rfl)) (by unfold Func.isWrapper; rw [if_neg (of_decide_eq_false (by as_aux_lemma => kernel_rfl))]; exact ⟨rfl, rfl⟩)
    (fun os started H enc _ => lifted os started H enc)

theorem funcIs : Tryd.prog.funcNamed Rows.fnExactParseBigIntRow.func = some 8 := by kernel_rfl
theorem standIns : (Tryd.f8.params.toList.all fun u => !Tryd.prog.wantsStandIn u) = true := by kernel_rfl
theorem proved : Rows.FnExactParseBigIntCardSaid :=
  Claim7.holds_tied_plain_at .later [] [.data, .data, .data, .sentinel, .sentinel] true (true, "2978b016b207b88b1804fb102e08707596e0d0ac81c3d2f257335ffafde41d9b") true
    row (fun _ h => by cases h) (by as_aux_lemma => kernel_rfl) (fun _ h => by cases h) fnExactParseBigInt_row_tie rfl ⟨rfl, rfl⟩ (by as_aux_lemma => kernel_rfl) rfl
    (fun f fn hf hfn => by
      obtain rfl : f = 8 := (Option.some.inj (funcIs.symm.trans hf)).symm
      obtain rfl : fn = Tryd.f8 := (Option.some.inj (Tryd.func8.symm.trans hfn)).symm
      exact ⟨by as_aux_lemma => kernel_rfl, fun j t ht => by
        have hm := Array.mem_of_getElem? ht
        exact (show Tryd.prog.wantsStandIn t = false by simpa using List.all_eq_true.1 standIns t (Array.mem_toList_iff.2 hm))⟩)
    (by as_aux_lemma => kernel_rfl)

end Go.Proofs.YtcajdlpbdihbeaaDoor.lawParseBigInt
