/- FnExactParseRat: the program's ParseRat answers what the reference's ParseRat answers, for every input; no condition. -/
import Derived.Test.YtcajdlpbdihbeaaGreatDoorShp
import Derived.Test.YtcajdlpbdihbeaaGreatDoorStrOpen
import Derived.Test.YtcajdlpbdihbeaaGreatDoorLawR
namespace Go.Proofs.YtcajdlpbdihbeaaGreatDoor.lawParseRat
open Go.ChangeShapes Go.WideShapes Go.ChangeAt Go.RowKit Lm Go.Proofs.YtcajdlpbdihbeaaGreatDoor

set_option maxHeartbeats 4000000 in
set_option maxRecDepth 100000 in
theorem walk (w : World) (s0 : ByteArray) (hs0 : s0.size ≤ 9223372036854775807) (t0 : Bool) (r0n r0d : List Int) (hr0 : r0n.length ≤ 1000 ∧ r0d.length ≤ 1000) (c1 : Bool) (ht : Tabs w) (he : Errs w) (hsh : Shp w)
    (C1 : ∀ (w : World), s0.size ≤ 1048576 → Tabs w → Errs w → Shp w → Calls Tryz.prog 4 #[.string s0] w (RetRB w t0 r0n r0d c1))
    (C2 : ∀ (w : World), s0.size ≤ 1048576 → Tabs w → Errs w → Shp w → Calls Tryz.prog 5 #[.string s0] w (RetRB w t0 r0n r0d c1)) :
    Calls Tryz.prog 3 #[.string s0] w (RetB w true) := by
  obtain ⟨hr0n, hr0d⟩ := hr0
  have K1 := Lib.hid C1
  have K2 := Lib.hid C2
  clear C1 C2
  have HT := Lib.hid ht
  clear ht
  have HE := Lib.hid he
  clear he
  have HSH := Lib.hid hsh
  clear hsh
  by_cases hl0 : s0.size ≤ 1048576
  case neg =>
    have d0 : decide ((1048576 : Int) < s0.size) = true := decide_eq_true (by omega)
    go_enter Tryz.func3, Tryz.ntmps3
    go_wp2
    go_ret
    exact retB rfl (Below.refl _ _)
  case pos =>
    have BW : Below w.heap.size w w := (Below.refl w.heap.size w)
    have d0 : decide ((1048576 : Int) < s0.size) = false := decide_eq_false (by omega)
    go_enter Tryz.func3, Tryz.ntmps3
    go_wp2_with fail
    have hw0 : ∃ w0 : World, w0 = w := ⟨_, rfl⟩
    clear hw0
    generalize w = w0 at *
    have B0 := Below.refl w0.heap.size w0
    refine (K1.out _ hl0 (HT.out.below (BW.trans (B0.mono BW.size)) (Nat.le_refl _)) (HE.out.below (BW.trans (B0.mono BW.size)) (Nat.le_refl _)) (HSH.out.below (BW.trans (B0.mono BW.size)) (Nat.le_refl _))).mono ?_
    rintro e w1 ⟨vw0n, vw0d, rfl, ho1, ho2, ha, hb⟩
    have Hw0n := Lib.hid (ho1.mono B0.size)
    clear ho1
    have Hw0d := Lib.hid (ho2.mono B0.size)
    clear ho2
    have HA_w0n_w0d := Lib.hid ha
    clear ha
    obtain ⟨aw0n, cw0n, rfl, -, -, -, -, -⟩ := Hw0n.out.form
    obtain ⟨aw0d, cw0d, rfl, -, -, -, -, -⟩ := Hw0d.out.form
    replace B0 := B0.trans (hb.mono B0.size)
    clear hb
    have hb := alloc_bel w1 (.cells #[.bool t0, .slice aw0n r0n.length cw0n, .slice aw0d r0d.length cw0d] 26)
    replace Hw0n := Lib.hid (Hw0n.out.below hb (Nat.le_refl _))
    replace Hw0d := Lib.hid (Hw0d.out.below hb (Nat.le_refl _))
    obtain ⟨bw0_0, bw0_1, bw0_2⟩ : World.cell? (w1.alloc (.cells #[.bool t0, .slice aw0n r0n.length cw0n, .slice aw0d r0d.length cw0d] 26)) ⟨w1.heap.size, 0, none⟩ = some (.bool t0) ∧ World.cell? (w1.alloc (.cells #[.bool t0, .slice aw0n r0n.length cw0n, .slice aw0d r0d.length cw0d] 26)) ⟨w1.heap.size, 1, none⟩ = some (.slice aw0n r0n.length cw0n) ∧ World.cell? (w1.alloc (.cells #[.bool t0, .slice aw0n r0n.length cw0n, .slice aw0d r0d.length cw0d] 26)) ⟨w1.heap.size, 2, none⟩ = some (.slice aw0d r0d.length cw0d) := by simp [go_sem]
    replace B0 := B0.trans (hb.mono B0.size)
    clear hb
    go_wp2_with fail
    generalize w1.alloc (.cells #[.bool t0, .slice aw0n r0n.length cw0n, .slice aw0d r0d.length cw0d] 26) = w2 at *
    refine (K2.out _ hl0 (HT.out.below (BW.trans (B0.mono BW.size)) (Nat.le_refl _)) (HE.out.below (BW.trans (B0.mono BW.size)) (Nat.le_refl _)) (HSH.out.below (BW.trans (B0.mono BW.size)) (Nat.le_refl _))).mono ?_
    rintro e w3 ⟨vg0n, vg0d, rfl, ho1, ho2, ha, hb⟩
    have HN_g0n_bw0 := Lib.hid (own_ne_old bw0_0 ho1)
    have HA_w0n_g0n := Lib.hid (apart_new Hw0n.out (.inr rfl) ho1)
    have HA_w0d_g0n := Lib.hid (apart_new Hw0d.out (.inr rfl) ho1)
    have HN_g0d_bw0 := Lib.hid (own_ne_old bw0_0 ho2)
    have HA_w0n_g0d := Lib.hid (apart_new Hw0n.out (.inr rfl) ho2)
    have HA_w0d_g0d := Lib.hid (apart_new Hw0d.out (.inr rfl) ho2)
    replace bw0_0 := keep_cell hb bw0_0
    replace bw0_1 := keep_cell hb bw0_1
    replace bw0_2 := keep_cell hb bw0_2
    replace Hw0n := Lib.hid (Hw0n.out.below hb (Nat.le_refl _))
    replace Hw0d := Lib.hid (Hw0d.out.below hb (Nat.le_refl _))
    have Hg0n := Lib.hid (ho1.mono B0.size)
    clear ho1
    have Hg0d := Lib.hid (ho2.mono B0.size)
    clear ho2
    have HA_g0n_g0d := Lib.hid ha
    clear ha
    obtain ⟨ag0n, cg0n, rfl, -, -, -, -, -⟩ := Hg0n.out.form
    obtain ⟨ag0d, cg0d, rfl, -, -, -, -, -⟩ := Hg0d.out.form
    replace B0 := B0.trans (hb.mono B0.size)
    clear hb
    have HN_g0n_bg0 := Lib.hid (own_ne_new Hg0n.out)
    have HN_g0d_bg0 := Lib.hid (own_ne_new Hg0d.out)
    have hb := alloc_bel w3 (.cells #[.bool t0, .slice ag0n r0n.length cg0n, .slice ag0d r0d.length cg0d] 26)
    replace bw0_0 := keep_cell hb bw0_0
    replace bw0_1 := keep_cell hb bw0_1
    replace bw0_2 := keep_cell hb bw0_2
    replace Hw0n := Lib.hid (Hw0n.out.below hb (Nat.le_refl _))
    replace Hw0d := Lib.hid (Hw0d.out.below hb (Nat.le_refl _))
    replace Hg0n := Lib.hid (Hg0n.out.below hb (Nat.le_refl _))
    replace Hg0d := Lib.hid (Hg0d.out.below hb (Nat.le_refl _))
    obtain ⟨bg0_0, bg0_1, bg0_2⟩ : World.cell? (w3.alloc (.cells #[.bool t0, .slice ag0n r0n.length cg0n, .slice ag0d r0d.length cg0d] 26)) ⟨w3.heap.size, 0, none⟩ = some (.bool t0) ∧ World.cell? (w3.alloc (.cells #[.bool t0, .slice ag0n r0n.length cg0n, .slice ag0d r0d.length cg0d] 26)) ⟨w3.heap.size, 1, none⟩ = some (.slice ag0n r0n.length cg0n) ∧ World.cell? (w3.alloc (.cells #[.bool t0, .slice ag0n r0n.length cg0n, .slice ag0d r0d.length cg0d] 26)) ⟨w3.heap.size, 2, none⟩ = some (.slice ag0d r0d.length cg0d) := by simp [go_sem]
    replace B0 := B0.trans (hb.mono B0.size)
    clear hb
    go_wp2_with fail
    generalize w3.alloc (.cells #[.bool t0, .slice ag0n r0n.length cg0n, .slice ag0d r0d.length cg0d] 26) = w4 at *
    refine (eqRat_c _ t0 r0n r0d Hg0n.out Hg0d.out Hw0n.out Hw0d.out).mono ?_
    rintro e w5 ⟨rfl, hb⟩
    replace bw0_0 := keep_cell hb bw0_0
    replace bw0_1 := keep_cell hb bw0_1
    replace bw0_2 := keep_cell hb bw0_2
    replace bg0_0 := keep_cell hb bg0_0
    replace bg0_1 := keep_cell hb bg0_1
    replace bg0_2 := keep_cell hb bg0_2
    replace Hw0n := Lib.hid (Hw0n.out.below hb (Nat.le_refl _))
    replace Hw0d := Lib.hid (Hw0d.out.below hb (Nat.le_refl _))
    replace Hg0n := Lib.hid (Hg0n.out.below hb (Nat.le_refl _))
    replace Hg0d := Lib.hid (Hg0d.out.below hb (Nat.le_refl _))
    replace B0 := B0.trans (hb.mono B0.size)
    clear hb
    go_wp2_with fail
    refine (markR_c _ t0 r0n r0d 1 Hg0n.out Hg0d.out HA_g0n_g0d.out (by omega) (by omega) (by omega) (by omega)).mono ?_
    rintro e w6 ⟨m0, hm, rfl, ho1, ho2, wm, hg, hg2⟩
    have HMm0 := Lib.hid hm
    have m00 : 0 ≤ m0 := by omega
    have m01 : m0 ≤ 10000000 := by omega
    clear hm
    replace bw0_0 := keep_grown hg2 (keep_grown hg bw0_0 HN_g0n_bw0.out) HN_g0d_bw0.out
    replace bw0_1 := keep_grown hg2 (keep_grown hg bw0_1 HN_g0n_bw0.out) HN_g0d_bw0.out
    replace bw0_2 := keep_grown hg2 (keep_grown hg bw0_2 HN_g0n_bw0.out) HN_g0d_bw0.out
    replace bg0_0 := keep_grown hg2 (keep_grown hg bg0_0 HN_g0n_bg0.out) HN_g0d_bg0.out
    replace bg0_1 := keep_grown hg2 (keep_grown hg bg0_1 HN_g0n_bg0.out) HN_g0d_bg0.out
    replace bg0_2 := keep_grown hg2 (keep_grown hg bg0_2 HN_g0n_bg0.out) HN_g0d_bg0.out
    replace Hw0n := Lib.hid ((Hw0n.out.marked hg HA_w0n_g0n.out).marked hg2 HA_w0n_g0d.out)
    replace Hw0d := Lib.hid ((Hw0d.out.marked hg HA_w0d_g0n.out).marked hg2 HA_w0d_g0d.out)
    replace B0 := mark2Below Hg0n.out Hg0d.out B0 hg hg2 (Nat.le_refl _) (Nat.le_refl _)
    clear hg hg2
    replace Hg0n := Lib.hid ho1
    clear ho1
    replace Hg0d := Lib.hid ho2
    clear ho2
    have dm0 : decide (m0 < 0) = false := decide_eq_false (by omega)
    go_wp2_with fail
    refine (heldR_c _ t0 r0n.length r0d.length 1 m0 Hg0n.out Hg0d.out (by omega) (by omega) (by omega) (by omega) HMm0.out).mono ?_
    rintro e w7 ⟨rfl, hb⟩
    replace bw0_0 := keep_cell hb bw0_0
    replace bw0_1 := keep_cell hb bw0_1
    replace bw0_2 := keep_cell hb bw0_2
    replace bg0_0 := keep_cell hb bg0_0
    replace bg0_1 := keep_cell hb bg0_1
    replace bg0_2 := keep_cell hb bg0_2
    replace Hw0n := Lib.hid (Hw0n.out.below hb (Nat.le_refl _))
    replace Hw0d := Lib.hid (Hw0d.out.below hb (Nat.le_refl _))
    replace Hg0n := Lib.hid (Hg0n.out.below hb (Nat.le_refl _))
    replace Hg0d := Lib.hid (Hg0d.out.below hb (Nat.le_refl _))
    replace B0 := B0.trans (hb.mono B0.size)
    clear hb
    go_wp2_with fail
    refine (K2.out _ hl0 (HT.out.below (BW.trans (B0.mono BW.size)) (Nat.le_refl _)) (HE.out.below (BW.trans (B0.mono BW.size)) (Nat.le_refl _)) (HSH.out.below (BW.trans (B0.mono BW.size)) (Nat.le_refl _))).mono ?_
    rintro e w8 ⟨vf0n, vf0d, rfl, ho1, ho2, ha, hb⟩
    replace bw0_0 := keep_cell hb bw0_0
    replace bw0_1 := keep_cell hb bw0_1
    replace bw0_2 := keep_cell hb bw0_2
    replace bg0_0 := keep_cell hb bg0_0
    replace bg0_1 := keep_cell hb bg0_1
    replace bg0_2 := keep_cell hb bg0_2
    replace Hw0n := Lib.hid (Hw0n.out.below hb (Nat.le_refl _))
    replace Hw0d := Lib.hid (Hw0d.out.below hb (Nat.le_refl _))
    replace Hg0n := Lib.hid (Hg0n.out.below hb (Nat.le_refl _))
    replace Hg0d := Lib.hid (Hg0d.out.below hb (Nat.le_refl _))
    have Hf0n := Lib.hid (ho1.mono B0.size)
    clear ho1
    have Hf0d := Lib.hid (ho2.mono B0.size)
    clear ho2
    have HA_f0n_f0d := Lib.hid ha
    clear ha
    obtain ⟨af0n, cf0n, rfl, -, -, -, -, -⟩ := Hf0n.out.form
    obtain ⟨af0d, cf0d, rfl, -, -, -, -, -⟩ := Hf0d.out.form
    replace B0 := B0.trans (hb.mono B0.size)
    clear hb
    have hb := alloc_bel w8 (.cells #[.bool t0, .slice af0n r0n.length cf0n, .slice af0d r0d.length cf0d] 26)
    replace bw0_0 := keep_cell hb bw0_0
    replace bw0_1 := keep_cell hb bw0_1
    replace bw0_2 := keep_cell hb bw0_2
    replace bg0_0 := keep_cell hb bg0_0
    replace bg0_1 := keep_cell hb bg0_1
    replace bg0_2 := keep_cell hb bg0_2
    replace Hw0n := Lib.hid (Hw0n.out.below hb (Nat.le_refl _))
    replace Hw0d := Lib.hid (Hw0d.out.below hb (Nat.le_refl _))
    replace Hg0n := Lib.hid (Hg0n.out.below hb (Nat.le_refl _))
    replace Hg0d := Lib.hid (Hg0d.out.below hb (Nat.le_refl _))
    replace Hf0n := Lib.hid (Hf0n.out.below hb (Nat.le_refl _))
    replace Hf0d := Lib.hid (Hf0d.out.below hb (Nat.le_refl _))
    obtain ⟨bf0_0, bf0_1, bf0_2⟩ : World.cell? (w8.alloc (.cells #[.bool t0, .slice af0n r0n.length cf0n, .slice af0d r0d.length cf0d] 26)) ⟨w8.heap.size, 0, none⟩ = some (.bool t0) ∧ World.cell? (w8.alloc (.cells #[.bool t0, .slice af0n r0n.length cf0n, .slice af0d r0d.length cf0d] 26)) ⟨w8.heap.size, 1, none⟩ = some (.slice af0n r0n.length cf0n) ∧ World.cell? (w8.alloc (.cells #[.bool t0, .slice af0n r0n.length cf0n, .slice af0d r0d.length cf0d] 26)) ⟨w8.heap.size, 2, none⟩ = some (.slice af0d r0d.length cf0d) := by simp [go_sem]
    replace B0 := B0.trans (hb.mono B0.size)
    clear hb
    go_wp2_with fail
    generalize w8.alloc (.cells #[.bool t0, .slice af0n r0n.length cf0n, .slice af0d r0d.length cf0d] 26) = w9 at *
    refine (eqRat_c _ t0 r0n r0d Hf0n.out Hf0d.out Hw0n.out Hw0d.out).mono ?_
    rintro e w10 ⟨rfl, hb⟩
    replace bw0_0 := keep_cell hb bw0_0
    replace bw0_1 := keep_cell hb bw0_1
    replace bw0_2 := keep_cell hb bw0_2
    replace bg0_0 := keep_cell hb bg0_0
    replace bg0_1 := keep_cell hb bg0_1
    replace bg0_2 := keep_cell hb bg0_2
    replace bf0_0 := keep_cell hb bf0_0
    replace bf0_1 := keep_cell hb bf0_1
    replace bf0_2 := keep_cell hb bf0_2
    replace Hw0n := Lib.hid (Hw0n.out.below hb (Nat.le_refl _))
    replace Hw0d := Lib.hid (Hw0d.out.below hb (Nat.le_refl _))
    replace Hg0n := Lib.hid (Hg0n.out.below hb (Nat.le_refl _))
    replace Hg0d := Lib.hid (Hg0d.out.below hb (Nat.le_refl _))
    replace Hf0n := Lib.hid (Hf0n.out.below hb (Nat.le_refl _))
    replace Hf0d := Lib.hid (Hf0d.out.below hb (Nat.le_refl _))
    replace B0 := B0.trans (hb.mono B0.size)
    clear hb
    go_wp2_with fail
    refine (heldR_c _ t0 r0n.length r0d.length 1 m0 Hg0n.out Hg0d.out (by omega) (by omega) (by omega) (by omega) HMm0.out).mono ?_
    rintro e w11 ⟨rfl, hb⟩
    replace bw0_0 := keep_cell hb bw0_0
    replace bw0_1 := keep_cell hb bw0_1
    replace bw0_2 := keep_cell hb bw0_2
    replace bg0_0 := keep_cell hb bg0_0
    replace bg0_1 := keep_cell hb bg0_1
    replace bg0_2 := keep_cell hb bg0_2
    replace bf0_0 := keep_cell hb bf0_0
    replace bf0_1 := keep_cell hb bf0_1
    replace bf0_2 := keep_cell hb bf0_2
    replace Hw0n := Lib.hid (Hw0n.out.below hb (Nat.le_refl _))
    replace Hw0d := Lib.hid (Hw0d.out.below hb (Nat.le_refl _))
    replace Hg0n := Lib.hid (Hg0n.out.below hb (Nat.le_refl _))
    replace Hg0d := Lib.hid (Hg0d.out.below hb (Nat.le_refl _))
    replace Hf0n := Lib.hid (Hf0n.out.below hb (Nat.le_refl _))
    replace Hf0d := Lib.hid (Hf0d.out.below hb (Nat.le_refl _))
    replace B0 := B0.trans (hb.mono B0.size)
    clear hb
    go_wp2
    go_ret
    exact retB rfl (BW.trans (B0.mono BW.size))

theorem allPlain : (Rows.fnExactParseRatRow.laid.all fun x => x.2.handleName?.isNone) = true := by kernel_rfl
set_option maxRecDepth 100000 in
theorem lifted (os : Os) (started : os.Started) (H : Type) (enc : TypeId × Value → H) :
    ReturnsInHanded {} Tryz.checked os 3 .any (fun w args => (Rows.fnExactParseRatSpec.pre enc Tryz.prog Tryz.f3 Rows.fnExactParseRatRow.domain false w args ∧ laidMetH Tryz.prog Rows.fnExactParseRatRow.laid w) ∧ sizedMet enc Tryz.prog Tryz.f3 (OpenSpec.ofChange Rows.fnExactParseRatSpec) false w args) (Rows.fnExactParseRatSpec.post enc Tryz.prog Tryz.f3 false true false false) := by
  refine handed_of (C := Tryz.checked) (X := (fun w _ => laidMetH Tryz.prog Rows.fnExactParseRatRow.laid w)) (fun _ _ _ hh h => h.of_heap hh) Tryz.own started (by as_aux_lemma => kernel_rfl) Tryz.func3
    (ChangeSpec.witness_shaped (enc := enc) (C := Tryz.checked) (os := os) (X := (fun w _ => laidMetH Tryz.prog Rows.fnExactParseRatRow.laid w)) false (World.laidAll Tryz.prog os Rows.fnExactParseRatRow.laid) #[.string ByteArray.empty] 8 (World.laidAll_os _ _ _)
      (World.shaped_of_ZipB (by as_aux_lemma => kernel_rfl) (by as_aux_lemma => kernel_rfl)) (by as_aux_lemma => kernel_rfl) (by as_aux_lemma => kernel_rfl) (by as_aux_lemma => kernel_rfl)
      (by rw [MakeChecks.laidMetH_plain _ _ _ allPlain]; exact laidMet_laidAll _ (by as_aux_lemma => kernel_rfl) (by as_aux_lemma => kernel_rfl))) ?_
  intro W base args ds gs before hval0 hW hL hsh
  have hval : ∀ (j : Nat) t v, Tryz.f3.params[j]? = some t → args[j]? = some v → Value.okWide Tryz.prog W .any base t v := hval0
  have hW' := hW
  obtain ⟨p, q, hA0, hV, rfl, hfz, hnd⟩ := hW
  have hA : DataW.TrodAll enc Tryz.prog W 0 (fun _ => true) true Tryz.f3.params.toList args.toList ds p := hA0
  rw [Tryz.params3] at hA hval
  have HT : Tabs W := tabs_of_laid (l := Rows.fnExactParseRatRow.laid) hL allPlain (r := [("strconv.ErrRange", Rows.laid_strconv_ErrRange), ("strconv.ErrSyntax", Rows.laid_strconv_ErrSyntax)]) rfl
  have HS : Shp W := shp_of hsh
  have HE : Errs W := errs_of_laid (l := Rows.fnExactParseRatRow.laid) hL allPlain rfl
  obtain ⟨v0, vs0, d0, ds0, p0, q0, hargs, rfl, rfl, h0, r0⟩ := trodAll_cons hA
  obtain ⟨rfl, rfl, rfl⟩ := trodAll_nil r0
  obtain rfl : args = #[v0] := by cases args; simp_all
  obtain ⟨rfl, rfl⟩ := trodVars_none hV
  have lt0 : ∀ x ∈ p0, x.block < W.heap.size := by obtain ⟨m, hm⟩ := h0; exact DataW.trod_lt m _ _ _ hm
  obtain ⟨s0, rfl, hs0⟩ := str_of_trod (hval 0 9 v0 rfl rfl) h0
  clear hA0 hval0
  refine (walk W s0 hs0 (pRg s0) (pRn s0) (pRd s0) (pR_len s0) (pRb s0) HT HE HS
    (fun w h _ _ _ => sParseRat_c w s0 h)
    (fun w h ht _ hs => ParseRat_c w s0 h ht hs)).mono fun e W' ⟨he, bel⟩ => ?_
  subst he
  exact ⟨_, rfl, _, _, _, [], _, [], hW', trodAll_mk1 (shut_bool Tryz.underlying4 _), (trodAll_cons_mk (Below.trod Tryz.laidOut (by as_aux_lemma => kernel_rfl) (of_decide_eq_true (by as_aux_lemma => kernel_rfl)) h0 bel lt0) trodAll_mk0), rfl, bel.frame _, fun h => by cases h⟩

theorem facts : joinedFacts Tryz.pinned.checked.prog 3 Tryz.f3 Rows.fnExactParseRatSpec Rows.fnExactParseRatRow = true := by
  unfold joinedFacts
  refine and_mk (and_mk (and_mk (and_mk (and_mk (and_mk (and_mk ?_ Tryz.mayEnter) ?_) ?_) ?_) ?_) ?_) ?_
  · kernel_rfl
  · rw [Tryz.liftsNone]; rfl
  · rw [Tryz.makeCut]; rfl
  · kernel_rfl
  · kernel_rfl
  · kernel_rfl
  · kernel_rfl

theorem row : Rows.FnExactParseRatSaid :=
  OpenClaim.holds_of_wide 3 Tryz.f3 rfl rfl rfl rfl rfl rfl rfl ⟨rfl, rfl, rfl, rfl, rfl⟩ rfl rfl rfl rfl rfl (by as_aux_lemma => kernel_rfl) Tryz.func3 facts
    (of_decide_eq_true (by as_aux_lemma => kernel_rfl)) (by unfold Func.isWrapper; rw [if_neg (of_decide_eq_false (by as_aux_lemma => kernel_rfl))]; exact ⟨rfl, rfl⟩)
    (fun os started H enc _ => lifted os started H enc)

theorem funcIs : Tryz.prog.funcNamed Rows.fnExactParseRatRow.func = some 3 := by kernel_rfl
theorem standIns : (Tryz.f3.params.toList.all fun u => !Tryz.prog.wantsStandIn u) = true := by kernel_rfl
theorem proved : Rows.FnExactParseRatCardSaid :=
  Claim7.holds_tied_plain_at .later [] [.data, .data, .data, .sentinel, .sentinel] true (true, "d707f45a7875af89e8dbacf0482eb27485e8f574fd9d318903b2b5faf73c6e5b") true
    row (fun _ h => by cases h) (by as_aux_lemma => kernel_rfl) (fun _ h => by cases h) fnExactParseRat_row_tie rfl ⟨rfl, rfl⟩ (by as_aux_lemma => kernel_rfl) rfl
    (fun f fn hf hfn => by
      obtain rfl : f = 3 := (Option.some.inj (funcIs.symm.trans hf)).symm
      obtain rfl : fn = Tryz.f3 := (Option.some.inj (Tryz.func3.symm.trans hfn)).symm
      exact ⟨by as_aux_lemma => kernel_rfl, fun j t ht => by
        have hm := Array.mem_of_getElem? ht
        exact (show Tryz.prog.wantsStandIn t = false by simpa using List.all_eq_true.1 standIns t (Array.mem_toList_iff.2 hm))⟩)
    (by as_aux_lemma => kernel_rfl)

end Go.Proofs.YtcajdlpbdihbeaaGreatDoor.lawParseRat
