/- FnWords: integers are recovered from their text, and strings from their parts; for every input. -/
import Derived.Test.YtijeplcjbhkkoaaDoorMake
import Derived.Test.YtijeplcjbhkkoaaDoorMakeT
import Derived.Test.YtijeplcjbhkkoaaDoorFwP
import Derived.Test.YtijeplcjbhkkoaaDoorOpenY
namespace Go.Proofs.YtijeplcjbhkkoaaDoor.lawFnWords
open Go.ChangeShapes Go.WideShapes Go.ChangeAt Go.RowKit Lm Go.Proofs.YtijeplcjbhkkoaaDoor

set_option maxHeartbeats 4000000 in
set_option maxRecDepth 100000 in
theorem walk (w : World) (v0 : Value) (x0 : List UInt8) (h0 : RdY0 w v0 x0) (ht : Tabs w) (he : Errs w) :
    Calls Tryd.prog 3 #[v0] w (RetB w true) := by
  have HT := Lib.hid ht
  obtain ⟨ao, cap, rfl, hr⟩ := h0
  have HE := Lib.hid he
  clear ht he
  by_cases hl : x0.length ≤ 1048576
  case neg =>
    have d0 : decide ((1048576 : Int) < x0.length) = true := decide_eq_true (by omega)
    go_enter Tryd.func3, Tryd.ntmps3
    go_wp2
    go_ret
    exact retB rfl (Below.refl _ _)
  case pos =>
    have d0 : decide ((1048576 : Int) < x0.length) = false := decide_eq_false (by omega)
    have HR := Lib.hid (hr hl)
    have B := Below.refl w.heap.size w
    clear hr
    go_enter Tryd.func3, Tryd.ntmps3
    go_wp2_with fail
    refine (makeNum_c _ _ x0 1 (HR.out.top B.size B) (by omega)).mono ?_
    rintro e w1 ⟨x, rfl, x0_, x1_, hb⟩
    replace B := B.trans (hb.mono B.size)
    clear hb
    obtain ⟨t, hT⟩ : ∃ t, t = bs (Go.Lib.itoa (x - 30000)) := ⟨_, rfl⟩
    have PT := Lib.hid hT
    clear hT
    go_wp2_with fail
    refine (formatInt_c _ (x - 30000) (by omega) (by omega) (HT.out.below B (Nat.le_refl _)) t PT).mono ?_
    rintro e w2 ⟨rfl, hb⟩
    replace B := B.trans (hb.mono B.size)
    clear hb
    go_wp2_with fail
    refine (parse_i _ (x - 30000) (by omega) (by omega) t PT.out (HT.out.below B (Nat.le_refl _)) (HE.out.below B (Nat.le_refl _))).mono ?_
    rintro e w3 ⟨rfl, hb⟩
    replace B := B.trans (hb.mono B.size)
    clear hb
    go_wp2_with fail
    refine (makeText_c _ _ x0 (HR.out.top B.size B)).mono ?_
    rintro e w4 ⟨s, hs, rfl, hb⟩
    replace B := B.trans (hb.mono B.size)
    clear hb
    obtain ⟨xs, hxs⟩ : ∃ xs, xs = pcs s spc := ⟨_, rfl⟩
    have PX := Lib.hid hxs
    clear hxs
    go_wp2_with fail
    refine (split_w _ s xs PX hs).mono ?_
    rintro e w5 ⟨vx, rfl, ho, hb⟩
    have HX := Lib.hid ho
    clear ho
    replace B := B.trans (hb.mono B.size)
    clear hb
    go_wp2_with fail
    refine (join_w _ _ _ s xs PX.out hs HX.out).mono ?_
    rintro e w6 ⟨rfl, hb⟩
    replace B := B.trans (hb.mono B.size)
    clear hb
    go_wp2_with fail
    refine (name_w _).mono ?_
    rintro e w7 ⟨rfl, hb⟩
    replace B := B.trans (hb.mono B.size)
    clear hb
    go_wp2_with fail
    refine (lines_w _).mono ?_
    rintro e w8 ⟨vl, rfl, ho, hb⟩
    obtain ⟨lo, lc, rfl, -, -, -, -, -⟩ := ho.form
    clear ho
    replace B := B.trans (hb.mono B.size)
    clear hb
    go_wp2
    go_ret
    exact retB rfl B

theorem allPlain : (Rows.fnWordsRow.laid.all fun x => x.2.handleName?.isNone) = true := by kernel_rfl
set_option maxRecDepth 100000 in
theorem lifted (os : Os) (started : os.Started) (H : Type) (enc : TypeId × Value → H) :
    ReturnsInHanded {} Tryd.checked os 3 .any (fun w args => (Rows.fnWordsSpec.pre enc Tryd.prog Tryd.f3 Rows.fnWordsRow.domain false w args ∧ laidMetH Tryd.prog Rows.fnWordsRow.laid w) ∧ sizedMet enc Tryd.prog Tryd.f3 (OpenSpec.ofChange Rows.fnWordsSpec) false w args) (Rows.fnWordsSpec.post enc Tryd.prog Tryd.f3 false true false false) := by
  refine returnsInHanded_of_change_and (C := Tryd.checked) (X := (fun w _ => laidMetH Tryd.prog Rows.fnWordsRow.laid w)) (fun _ _ _ hh h => h.of_heap hh) Tryd.own started (by as_aux_lemma => kernel_rfl) Tryd.func3
    (ChangeSpec.witness_shaped (enc := enc) (C := Tryd.checked) (os := os) (X := (fun w _ => laidMetH Tryd.prog Rows.fnWordsRow.laid w)) false (World.laidAll Tryd.prog os Rows.fnWordsRow.laid) #[.slice none 0 0] 8 (World.laidAll_os _ _ _)
      (World.shaped_of_ZipB (by as_aux_lemma => kernel_rfl) (by as_aux_lemma => kernel_rfl)) (by as_aux_lemma => kernel_rfl) (by as_aux_lemma => kernel_rfl) (by as_aux_lemma => kernel_rfl)
      (by rw [MakeChecks.laidMetH_plain _ _ _ allPlain]; exact laidMet_laidAll _ (by as_aux_lemma => kernel_rfl) (by as_aux_lemma => kernel_rfl))) ?_
  intro W base args ds gs before hval0 hW hcnd _ hL _
  have hval : ∀ (j : Nat) t v, Tryd.f3.params[j]? = some t → args[j]? = some v → Value.okWide Tryd.prog W .any base t v := hval0
  have hW' := hW
  obtain ⟨p, q, hA0, hV, rfl, hfz, hnd⟩ := hW
  have hA : DataW.TrodAll enc Tryd.prog W 0 (fun _ => true) true Tryd.f3.params.toList args.toList ds p := hA0
  rw [Tryd.params3] at hA hval
  have HT : Tabs W := tabs_of_laid (l := Rows.fnWordsRow.laid) hL allPlain (r := [("strconv.ErrRange", Rows.laid_strconv_ErrRange), ("strconv.ErrSyntax", Rows.laid_strconv_ErrSyntax)]) rfl
  have HE : Errs W := errs_of_laid (l := Rows.fnWordsRow.laid) hL allPlain rfl
  obtain ⟨v0, vs0, d0, ds0, p0, q0, hargs, rfl, rfl, h0, r0⟩ := trodAll_cons hA
  obtain ⟨rfl, rfl, rfl⟩ := trodAll_nil r0
  obtain rfl : args = #[v0] := by cases args; simp_all
  obtain ⟨rfl, rfl⟩ := trodVars_none hV
  have lt0 : ∀ x ∈ p0, x.block < W.heap.size := by obtain ⟨m, hm⟩ := h0; exact DataW.trod_lt m _ _ _ hm
  obtain ⟨x0, w0⟩ := rdY_of_trod (hval 0 22 v0 rfl rfl) h0
  clear hA0 hval0
  refine (walk W v0 x0 w0 
    HT HE).mono fun e W' ⟨he, bel⟩ => ?_
  subst he
  exact ⟨_, rfl, _, _, _, [], _, [], hW', trodAll_mk1 (shut_bool Tryd.underlying4 _), (trodAll_cons_mk (Below.trod Tryd.laidOut (by as_aux_lemma => kernel_rfl) (of_decide_eq_true (by as_aux_lemma => kernel_rfl)) h0 bel lt0) trodAll_mk0), rfl, bel.frame _, fun h => by cases h⟩

theorem facts : joinedFacts Tryd.pinned.checked.prog 3 Tryd.f3 Rows.fnWordsSpec Rows.fnWordsRow = true := by
  unfold joinedFacts
  refine and_mk (and_mk (and_mk (and_mk (and_mk (and_mk (and_mk ?_ Tryd.mayEnter) ?_) ?_) ?_) ?_) ?_) ?_
  · kernel_rfl
  · rw [Tryd.liftsNone]; rfl
  · rw [Tryd.makeCut]; rfl
  · kernel_rfl
  · kernel_rfl
  · kernel_rfl
  · kernel_rfl

theorem row : Rows.FnWordsSaid :=
  OpenClaim.holds_of_wide 3 Tryd.f3 rfl rfl rfl rfl rfl rfl rfl ⟨rfl, rfl, rfl, rfl, rfl⟩ rfl rfl rfl rfl rfl (by as_aux_lemma => kernel_rfl) Tryd.func3 facts
    (of_decide_eq_true (by as_aux_lemma => kernel_rfl)) (by unfold Func.isWrapper; rw [if_neg (of_decide_eq_false (by as_aux_lemma => kernel_rfl))]; exact ⟨rfl, rfl⟩)
    (fun os started H enc _ => lifted os started H enc)

theorem funcIs : Tryd.prog.funcNamed Rows.fnWordsRow.func = some 3 := by kernel_rfl
theorem standIns : (Tryd.f3.params.toList.all fun u => !Tryd.prog.wantsStandIn u) = true := by kernel_rfl
theorem proved : Rows.FnWordsCardSaid :=
  Claim7.holds_tied_plain_at .later [] _ _ _ _
    row (fun _ h => by cases h) (by as_aux_lemma => kernel_rfl) (fun _ h => by cases h) fnWords_row_tie rfl ⟨rfl, rfl⟩ (by as_aux_lemma => kernel_rfl) rfl
    (fun f fn hf hfn => by
      obtain rfl : f = 3 := (Option.some.inj (funcIs.symm.trans hf)).symm
      obtain rfl : fn = Tryd.f3 := (Option.some.inj (Tryd.func3.symm.trans hfn)).symm
      exact ⟨by as_aux_lemma => kernel_rfl, fun j t ht => by
        have hm := Array.mem_of_getElem? ht
        exact (show Tryd.prog.wantsStandIn t = false by simpa using List.all_eq_true.1 standIns t (Array.mem_toList_iff.2 hm))⟩)
    (by as_aux_lemma => kernel_rfl)

end Go.Proofs.YtijeplcjbhkkoaaDoor.lawFnWords
