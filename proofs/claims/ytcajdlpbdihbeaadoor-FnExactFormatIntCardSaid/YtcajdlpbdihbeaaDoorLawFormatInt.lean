/- FnExactFormatInt: the program's FormatInt answers what the reference's FormatInt answers, for every input; no condition. -/
import Derived.Test.YtcajdlpbdihbeaaDoorLaid
import Derived.Test.YtcajdlpbdihbeaaDoorFmtI
import Derived.Test.YtcajdlpbdihbeaaDoorStrOpen
import Derived.Test.YtcajdlpbdihbeaaDoorLawI
namespace Go.Proofs.YtcajdlpbdihbeaaDoor.lawFormatInt
open Go.ChangeShapes Go.WideShapes Go.ChangeAt Go.RowKit Lm Go.Proofs.YtcajdlpbdihbeaaDoor

set_option maxHeartbeats 4000000 in
set_option maxRecDepth 100000 in
theorem walk (w : World) (n0 : Int) (st0 : ByteArray) (ht : Tabs w)
    (C1 : ∀ (w : World), Tabs w → Calls Tryd.prog 12 #[.int .i64 n0] w (RetT w st0))
    (C2 : ∀ (w : World), Tabs w → Calls Tryd.prog 13 #[.int .i64 n0] w (RetT w st0)) :
    Calls Tryd.prog 3 #[.int .i64 n0] w (RetB w true) := by
  have K1 := Lib.hid C1
  have K2 := Lib.hid C2
  clear C1 C2
  have HT := Lib.hid ht
  clear ht
  have BW : Below w.heap.size w w := (Below.refl w.heap.size w)
  go_enter Tryd.func3, Tryd.ntmps3
  go_wp2_with fail
  have hw0 : ∃ w0 : World, w0 = w := ⟨_, rfl⟩
  clear hw0
  generalize w = w0 at *
  have B0 := Below.refl w0.heap.size w0
  refine (K1.out _ (HT.out.below (BW.trans (B0.mono BW.size)) (Nat.le_refl _))).mono ?_
  rintro e w1 ⟨rfl, hb⟩
  replace B0 := B0.trans (hb.mono B0.size)
  clear hb
  go_wp2_with fail
  refine (K2.out _ (HT.out.below (BW.trans (B0.mono BW.size)) (Nat.le_refl _))).mono ?_
  rintro e w2 ⟨rfl, hb⟩
  replace B0 := B0.trans (hb.mono B0.size)
  clear hb
  go_wp2
  go_ret
  exact retB rfl (BW.trans (B0.mono BW.size))

theorem allPlain : (Rows.fnExactFormatIntRow.laid.all fun x => x.2.handleName?.isNone) = true := by kernel_rfl
set_option maxRecDepth 100000 in
theorem lifted (os : Os) (started : os.Started) (H : Type) (enc : TypeId × Value → H) :
    ReturnsInHanded {} Tryd.checked os 3 .any (fun w args => (Rows.fnExactFormatIntSpec.pre enc Tryd.prog Tryd.f3 Rows.fnExactFormatIntRow.domain false w args ∧ laidMetH Tryd.prog Rows.fnExactFormatIntRow.laid w) ∧ sizedMet enc Tryd.prog Tryd.f3 (OpenSpec.ofChange Rows.fnExactFormatIntSpec) false w args) (Rows.fnExactFormatIntSpec.post enc Tryd.prog Tryd.f3 false true false false) := by
  refine returnsInHanded_of_change_and (C := Tryd.checked) (X := (fun w _ => laidMetH Tryd.prog Rows.fnExactFormatIntRow.laid w)) (fun _ _ _ hh h => h.of_heap hh) Tryd.own started (by as_aux_lemma => kernel_rfl) Tryd.func3
    (ChangeSpec.witness_shaped (enc := enc) (C := Tryd.checked) (os := os) (X := (fun w _ => laidMetH Tryd.prog Rows.fnExactFormatIntRow.laid w)) false (World.laidAll Tryd.prog os Rows.fnExactFormatIntRow.laid) #[.int .i64 0] 8 (World.laidAll_os _ _ _)
      (World.shaped_of_ZipB (by as_aux_lemma => kernel_rfl) (by as_aux_lemma => kernel_rfl)) (by as_aux_lemma => kernel_rfl) (by as_aux_lemma => kernel_rfl) (by as_aux_lemma => kernel_rfl)
      (by rw [MakeChecks.laidMetH_plain _ _ _ allPlain]; exact laidMet_laidAll _ (by as_aux_lemma => kernel_rfl) (by as_aux_lemma => kernel_rfl))) ?_
  intro W base args ds gs before hval0 hW hcnd _ hL _
  have hval : ∀ (j : Nat) t v, Tryd.f3.params[j]? = some t → args[j]? = some v → Value.okWide Tryd.prog W .any base t v := hval0
  have hW' := hW
  obtain ⟨p, q, hA0, hV, rfl, hfz, hnd⟩ := hW
  have hA : DataW.TrodAll enc Tryd.prog W 0 (fun _ => true) true Tryd.f3.params.toList args.toList ds p := hA0
  rw [Tryd.params3] at hA hval
  have HT : Tabs W := tabs_of_laid (l := Rows.fnExactFormatIntRow.laid) hL allPlain (r := []) rfl
  obtain ⟨v0, vs0, d0, ds0, p0, q0, hargs, rfl, rfl, h0, r0⟩ := trodAll_cons hA
  obtain ⟨rfl, rfl, rfl⟩ := trodAll_nil r0
  obtain rfl : args = #[v0] := by cases args; simp_all
  obtain ⟨rfl, rfl⟩ := trodVars_none hV
  have lt0 : ∀ x ∈ p0, x.block < W.heap.size := by obtain ⟨m, hm⟩ := h0; exact DataW.trod_lt m _ _ _ hm
  obtain ⟨n0, rfl, lo0, hi0⟩ := intS_of_trod (hval 0 3 v0 rfl rfl) h0
  clear hA0 hval0
  refine (walk W n0 (bs (Lib.itoa n0)) HT
    (fun w _ => sFormatInt_c w n0 lo0 hi0 _ rfl)
    (fun w ht => formatInt_c w n0 lo0 hi0 ht _ rfl)).mono fun e W' ⟨he, bel⟩ => ?_
  subst he
  exact ⟨_, rfl, _, _, _, [], _, [], hW', trodAll_mk1 (shut_bool Tryd.underlying4 _), (trodAll_cons_mk (Below.trod Tryd.laidOut (by as_aux_lemma => kernel_rfl) (of_decide_eq_true (by as_aux_lemma => kernel_rfl)) h0 bel lt0) trodAll_mk0), rfl, bel.frame _, fun h => by cases h⟩

theorem facts : joinedFacts Tryd.pinned.checked.prog 3 Tryd.f3 Rows.fnExactFormatIntSpec Rows.fnExactFormatIntRow = true := by
  unfold joinedFacts
  refine and_mk (and_mk (and_mk (and_mk (and_mk (and_mk (and_mk ?_ Tryd.mayEnter) ?_) ?_) ?_) ?_) ?_) ?_
  · kernel_rfl
  · rw [Tryd.liftsNone]; rfl
  · rw [Tryd.makeCut]; rfl
  · kernel_rfl
  · kernel_rfl
  · kernel_rfl
  · kernel_rfl

theorem row : Rows.FnExactFormatIntSaid :=
  OpenClaim.holds_of_wide 3 Tryd.f3 rfl rfl rfl rfl rfl rfl rfl ⟨rfl, rfl, rfl, rfl, rfl⟩ rfl rfl rfl rfl rfl (by as_aux_lemma => kernel_rfl) Tryd.func3 facts
    (of_decide_eq_true (by as_aux_lemma => kernel_rfl)) (by unfold Func.isWrapper; rw [if_neg (of_decide_eq_false (by as_aux_lemma => kernel_rfl))]; exact ⟨rfl, rfl⟩)
    (fun os started H enc _ => lifted os started H enc)

theorem funcIs : Tryd.prog.funcNamed Rows.fnExactFormatIntRow.func = some 3 := by kernel_rfl
theorem standIns : (Tryd.f3.params.toList.all fun u => !Tryd.prog.wantsStandIn u) = true := by kernel_rfl
theorem proved : Rows.FnExactFormatIntCardSaid :=
  Claim7.holds_tied_plain_at .later [] [.data, .data, .data] true (true, "2978b016b207b88b1804fb102e08707596e0d0ac81c3d2f257335ffafde41d9b") true
    row (fun _ h => by cases h) (by as_aux_lemma => kernel_rfl) (fun _ h => by cases h) fnExactFormatInt_row_tie rfl ⟨rfl, rfl⟩ (by as_aux_lemma => kernel_rfl) rfl
    (fun f fn hf hfn => by
      obtain rfl : f = 3 := (Option.some.inj (funcIs.symm.trans hf)).symm
      obtain rfl : fn = Tryd.f3 := (Option.some.inj (Tryd.func3.symm.trans hfn)).symm
      exact ⟨by as_aux_lemma => kernel_rfl, fun j t ht => by
        have hm := Array.mem_of_getElem? ht
        exact (show Tryd.prog.wantsStandIn t = false by simpa using List.all_eq_true.1 standIns t (Array.mem_toList_iff.2 hm))⟩)
    (by as_aux_lemma => kernel_rfl)

end Go.Proofs.YtcajdlpbdihbeaaDoor.lawFormatInt
