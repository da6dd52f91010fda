/- FnExactFormatBigInt: the program's FormatBigInt answers what the reference's FormatBigInt answers, for every input; no condition. -/
import Derived.Test.YtcajdlpbdihbeaaDoorLaid
import Derived.Test.YtcajdlpbdihbeaaDoorFmtZ
import Derived.Test.YtcajdlpbdihbeaaDoorStrOpen
import Derived.Test.YtcajdlpbdihbeaaDoorLawZ
namespace Go.Proofs.YtcajdlpbdihbeaaDoor.lawFormatBigInt
open Go.ChangeShapes Go.WideShapes Go.ChangeAt Go.RowKit Lm Go.Proofs.YtcajdlpbdihbeaaDoor

set_option maxHeartbeats 4000000 in
set_option maxRecDepth 100000 in
theorem walk (w : World) (s0 : Bool) (a0 : Value) (x0 : List Int) (h0 : Rd w a0 x0) (hm0 : x0.length ≤ 9223372036854775807) (st0 : ByteArray) (ht : Tabs w)
    (C1 : ∀ (w : World) (b0 : Nat) (u0 : Value), Own w b0 u0 x0 → Tabs w → Calls Tryd.prog 19 #[.agg #[.bool s0, u0]] w (RetT w st0))
    (C2 : ∀ (w : World) (b0 : Nat) (u0 : Value), Own w b0 u0 x0 → Tabs w → Calls Tryd.prog 21 #[.agg #[.bool s0, u0]] w (RetT w st0)) :
    Calls Tryd.prog 5 #[.agg #[.bool s0, a0]] w (RetB w true) := by
  obtain ⟨p0, q0, hv0, hc0⟩ := id h0
  subst hv0
  clear hc0
  have R0 := Lib.hid h0
  have K1 := Lib.hid C1
  have K2 := Lib.hid C2
  clear h0 C1 C2
  have HT := Lib.hid ht
  clear ht
  by_cases hlx0 : (0 : Int) ≤ 1048576 - (x0.length : Int)
  case neg =>
    have HL : Hid (1048576 - (x0.length : Int) < 0) := by unfold Hid; omega
    have BW : Below w.heap.size w (w.alloc (.cells #[.bool s0, .slice p0 x0.length q0] 30)) := ((Below.refl w.heap.size w).alloc (Nat.le_refl _) _)
    obtain ⟨c0_0, c0_1⟩ : World.cell? (w.alloc (.cells #[.bool s0, .slice p0 x0.length q0] 30)) ⟨w.heap.size, 0, none⟩ = some (.bool s0) ∧ World.cell? (w.alloc (.cells #[.bool s0, .slice p0 x0.length q0] 30)) ⟨w.heap.size, 1, none⟩ = some (.slice p0 x0.length q0) := by simp [go_sem]
    go_enter Tryd.func5, Tryd.ntmps5
    go_wp2_with fail
    generalize (w.alloc (.cells #[.bool s0, .slice p0 x0.length q0] 30)) = w0 at *
    have B0 := Below.refl w0.heap.size w0
    refine (szBigInt_x _ s0 x0.length _ _ (1048576) HL.out (by omega) hm0 (by omega)).mono ?_
    rintro e w1 ⟨rfl, hb⟩
    replace c0_0 := keep_cell hb c0_0
    replace c0_1 := keep_cell hb c0_1
    replace B0 := B0.trans (hb.mono B0.size)
    clear hb
    go_wp2
    go_ret
    exact retB rfl (BW.trans (B0.mono BW.size))
  case pos =>
    have hx0 : x0.length ≤ 17592186044415 := by omega
    have BW : Below w.heap.size w (w.alloc (.cells #[.bool s0, .slice p0 x0.length q0] 30)) := ((Below.refl w.heap.size w).alloc (Nat.le_refl _) _)
    obtain ⟨c0_0, c0_1⟩ : World.cell? (w.alloc (.cells #[.bool s0, .slice p0 x0.length q0] 30)) ⟨w.heap.size, 0, none⟩ = some (.bool s0) ∧ World.cell? (w.alloc (.cells #[.bool s0, .slice p0 x0.length q0] 30)) ⟨w.heap.size, 1, none⟩ = some (.slice p0 x0.length q0) := by simp [go_sem]
    go_enter Tryd.func5, Tryd.ntmps5
    go_wp2_with fail
    generalize (w.alloc (.cells #[.bool s0, .slice p0 x0.length q0] 30)) = w0 at *
    have B0 := Below.refl w0.heap.size w0
    refine (szBigInt_ok _ s0 x0.length _ _ (1048576) hlx0 (by omega)).mono ?_
    rintro e w1 ⟨rfl, hb⟩
    replace c0_0 := keep_cell hb c0_0
    replace c0_1 := keep_cell hb c0_1
    replace B0 := B0.trans (hb.mono B0.size)
    clear hb
    have dl0 : decide (1048576 - (x0.length : Int) < 0) = false := decide_eq_false (by omega)
    go_wp2_with fail
    refine (toBigInt_c _ _ s0 x0 (R0.out.below (BW.trans (B0.mono BW.size))) hx0).mono ?_
    rintro e w2 ⟨vy0m, rfl, ho1, hb⟩
    replace c0_0 := keep_cell hb c0_0
    replace c0_1 := keep_cell hb c0_1
    have Hy0m := Lib.hid (ho1.mono B0.size)
    clear ho1
    obtain ⟨ay0m, cy0m, rfl, -, -, -, -, -⟩ := Hy0m.out.form
    replace B0 := B0.trans (hb.mono B0.size)
    clear hb
    go_wp2_with fail
    refine (K1.out _ _ _ Hy0m.out (HT.out.below (BW.trans (B0.mono BW.size)) (Nat.le_refl _))).mono ?_
    rintro e w3 ⟨rfl, hb⟩
    replace c0_0 := keep_cell hb c0_0
    replace c0_1 := keep_cell hb c0_1
    replace Hy0m := Lib.hid (Hy0m.out.below hb (Nat.le_refl _))
    replace B0 := B0.trans (hb.mono B0.size)
    clear hb
    clear Hy0m
    go_wp2_with fail
    refine (toBigInt_c _ _ s0 x0 (R0.out.below (BW.trans (B0.mono BW.size))) hx0).mono ?_
    rintro e w4 ⟨vz0m, rfl, ho1, hb⟩
    replace c0_0 := keep_cell hb c0_0
    replace c0_1 := keep_cell hb c0_1
    have Hz0m := Lib.hid (ho1.mono B0.size)
    clear ho1
    obtain ⟨az0m, cz0m, rfl, -, -, -, -, -⟩ := Hz0m.out.form
    replace B0 := B0.trans (hb.mono B0.size)
    clear hb
    have hb := alloc_bel w4 (.cells #[.bool s0, .slice az0m x0.length cz0m] 33)
    replace c0_0 := keep_cell hb c0_0
    replace c0_1 := keep_cell hb c0_1
    replace Hz0m := Lib.hid (Hz0m.out.below hb (Nat.le_refl _))
    obtain ⟨bx0_0, bx0_1⟩ : World.cell? (w4.alloc (.cells #[.bool s0, .slice az0m x0.length cz0m] 33)) ⟨w4.heap.size, 0, none⟩ = some (.bool s0) ∧ World.cell? (w4.alloc (.cells #[.bool s0, .slice az0m x0.length cz0m] 33)) ⟨w4.heap.size, 1, none⟩ = some (.slice az0m x0.length cz0m) := by simp [go_sem]
    replace B0 := B0.trans (hb.mono B0.size)
    clear hb
    go_wp2_with fail
    generalize w4.alloc (.cells #[.bool s0, .slice az0m x0.length cz0m] 33) = w5 at *
    refine (K2.out _ _ _ Hz0m.out (HT.out.below (BW.trans (B0.mono BW.size)) (Nat.le_refl _))).mono ?_
    rintro e w6 ⟨rfl, hb⟩
    replace c0_0 := keep_cell hb c0_0
    replace c0_1 := keep_cell hb c0_1
    replace bx0_0 := keep_cell hb bx0_0
    replace bx0_1 := keep_cell hb bx0_1
    replace Hz0m := Lib.hid (Hz0m.out.below hb (Nat.le_refl _))
    replace B0 := B0.trans (hb.mono B0.size)
    clear hb
    go_wp2_with fail
    replace Hz0m := Lib.hid Hz0m.out.drew
    replace B0 := below_drew B0
    replace c0_0 := cell_drew c0_0
    replace c0_1 := cell_drew c0_1
    replace bx0_0 := cell_drew bx0_0
    replace bx0_1 := cell_drew bx0_1
    go_region_held3 (fun w' => w'.cell? ⟨w.heap.size, 0, none⟩ = some (.bool s0) ∧ w'.cell? ⟨w.heap.size, 1, none⟩ = some (.slice p0 x0.length q0) ∧ w'.cell? ⟨w4.heap.size, 0, none⟩ = some (.bool s0) ∧ w'.cell? ⟨w4.heap.size, 1, none⟩ = some (.slice az0m x0.length cz0m)) (first | exact ⟨c0_0, c0_1, bx0_0, bx0_1⟩ | exact ⟨keep_cell (alloc_bel _ _) c0_0, keep_cell (alloc_bel _ _) c0_1, keep_cell (alloc_bel _ _) bx0_0, keep_cell (alloc_bel _ _) bx0_1⟩ | (go_split_ands; exact ⟨(set_far (set_far ‹_› (by dsimp only; omega)) (by dsimp only; omega)), (set_far (set_far ‹_› (by dsimp only; omega)) (by dsimp only; omega)), (set_far (set_far ‹_› (by dsimp only; omega)) (by dsimp only; omega)), (set_far (set_far ‹_› (by dsimp only; omega)) (by dsimp only; omega))⟩) | (go_split_ands; exact ⟨(set_far (set_far (set_far ‹_› (by dsimp only; omega)) (by dsimp only; omega)) (by dsimp only; omega)), (set_far (set_far (set_far ‹_› (by dsimp only; omega)) (by dsimp only; omega)) (by dsimp only; omega)), (set_far (set_far (set_far ‹_› (by dsimp only; omega)) (by dsimp only; omega)) (by dsimp only; omega)), (set_far (set_far (set_far ‹_› (by dsimp only; omega)) (by dsimp only; omega)) (by dsimp only; omega))⟩) | (go_split_ands; exact ⟨(set_far ‹_› (by dsimp only; omega)), (set_far ‹_› (by dsimp only; omega)), (set_far ‹_› (by dsimp only; omega)), (set_far ‹_› (by dsimp only; omega))⟩) | go_keep)
      (first | (go_at_call 20; refine (toBigInt_c _ _ s0 x0 (R0.out.below (BW.trans (B0.mono BW.size))) hx0).mono ?_; rintro e w7 ⟨vq0m, rfl, ho1, hb7⟩; replace c0_0 := keep_cell (w1 := w7) hb7 c0_0; replace c0_1 := keep_cell (w1 := w7) hb7 c0_1; replace bx0_0 := keep_cell (w1 := w7) hb7 bx0_0; replace bx0_1 := keep_cell (w1 := w7) hb7 bx0_1; replace Hz0m := Lib.hid (Hz0m.out.below hb7 (Nat.le_refl _)); have Hq0m := Lib.hid (ho1.mono B0.size); clear ho1; obtain ⟨aq0m, cq0m, rfl, -, -, -, -, -⟩ := Hq0m.out.form; replace B0 := B0.trans (hb7.mono B0.size); clear hb7) | (go_at_call 22; refine (eqBigInt_c _ _ _ s0 _ _ x0 Hz0m.out Hq0m.out).mono ?_; rintro e w8 ⟨rfl, hb8⟩; replace c0_0 := keep_cell (w1 := w8) hb8 c0_0; replace c0_1 := keep_cell (w1 := w8) hb8 c0_1; replace bx0_0 := keep_cell (w1 := w8) hb8 bx0_0; replace bx0_1 := keep_cell (w1 := w8) hb8 bx0_1; replace Hz0m := Lib.hid (Hz0m.out.below hb8 (Nat.le_refl _)); (try (replace Hq0m := Lib.hid (Hq0m.out.below hb8 (Nat.le_refl _)))); replace B0 := B0.trans (hb8.mono B0.size); clear hb8))
    clear Hq0m
    go_wp2
    go_ret
    exact retB rfl (BW.trans (B0.mono BW.size))

theorem allPlain : (Rows.fnExactFormatBigIntRow.laid.all fun x => x.2.handleName?.isNone) = true := by kernel_rfl
set_option maxRecDepth 100000 in
theorem lifted (os : Os) (started : os.Started) (H : Type) (enc : TypeId × Value → H) :
    ReturnsInHanded {} Tryd.checked os 5 .any (fun w args => (Rows.fnExactFormatBigIntSpec.pre enc Tryd.prog Tryd.f5 Rows.fnExactFormatBigIntRow.domain false w args ∧ laidMetH Tryd.prog Rows.fnExactFormatBigIntRow.laid w) ∧ sizedMet enc Tryd.prog Tryd.f5 (OpenSpec.ofChange Rows.fnExactFormatBigIntSpec) false w args) (Rows.fnExactFormatBigIntSpec.post enc Tryd.prog Tryd.f5 false true false false) := by
  refine returnsInHanded_of_change_and (C := Tryd.checked) (X := (fun w _ => laidMetH Tryd.prog Rows.fnExactFormatBigIntRow.laid w)) (fun _ _ _ hh h => h.of_heap hh) Tryd.own started (by as_aux_lemma => kernel_rfl) Tryd.func5
    (ChangeSpec.witness_shaped (enc := enc) (C := Tryd.checked) (os := os) (X := (fun w _ => laidMetH Tryd.prog Rows.fnExactFormatBigIntRow.laid w)) false (World.laidAll Tryd.prog os Rows.fnExactFormatBigIntRow.laid) #[.agg #[.bool false, .slice none 0 0]] 8 (World.laidAll_os _ _ _)
      (World.shaped_of_ZipB (by as_aux_lemma => kernel_rfl) (by as_aux_lemma => kernel_rfl)) (by as_aux_lemma => kernel_rfl) (by as_aux_lemma => kernel_rfl) (by as_aux_lemma => kernel_rfl)
      (by rw [MakeChecks.laidMetH_plain _ _ _ allPlain]; exact laidMet_laidAll _ (by as_aux_lemma => kernel_rfl) (by as_aux_lemma => kernel_rfl))) ?_
  intro W base args ds gs before hval0 hW hcnd _ hL _
  have hval : ∀ (j : Nat) t v, Tryd.f5.params[j]? = some t → args[j]? = some v → Value.okWide Tryd.prog W .any base t v := hval0
  have hW' := hW
  obtain ⟨p, q, hA0, hV, rfl, hfz, hnd⟩ := hW
  have hA : DataW.TrodAll enc Tryd.prog W 0 (fun _ => true) true Tryd.f5.params.toList args.toList ds p := hA0
  rw [Tryd.params5] at hA hval
  have HT : Tabs W := tabs_of_laid (l := Rows.fnExactFormatBigIntRow.laid) hL allPlain (r := []) rfl
  obtain ⟨v0, vs0, d0, ds0, p0, q0, hargs, rfl, rfl, h0, r0⟩ := trodAll_cons hA
  obtain ⟨rfl, rfl, rfl⟩ := trodAll_nil r0
  obtain rfl : args = #[v0] := by cases args; simp_all
  obtain ⟨rfl, rfl⟩ := trodVars_none hV
  have lt0 : ∀ x ∈ p0, x.block < W.heap.size := by obtain ⟨m, hm⟩ := h0; exact DataW.trod_lt m _ _ _ hm
  obtain ⟨s0, u0, x0, rfl, w0, hm0⟩ := big_of_trod (hval 0 30 v0 rfl rfl) h0
  clear hA0 hval0
  refine (walk W s0 u0 x0 w0 hm0 (fZs s0 x0) HT
    (fun w b u h _ => sFormatBigInt_c w b s0 u x0 h)
    (fun w b u h ht => FormatBigInt_c w b s0 u x0 h ht)).mono fun e W' ⟨he, bel⟩ => ?_
  subst he
  exact ⟨_, rfl, _, _, _, [], _, [], hW', trodAll_mk1 (shut_bool Tryd.underlying4 _), (trodAll_cons_mk (Below.trod Tryd.laidOut (by as_aux_lemma => kernel_rfl) (of_decide_eq_true (by as_aux_lemma => kernel_rfl)) h0 bel lt0) trodAll_mk0), rfl, bel.frame _, fun h => by cases h⟩

theorem facts : joinedFacts Tryd.pinned.checked.prog 5 Tryd.f5 Rows.fnExactFormatBigIntSpec Rows.fnExactFormatBigIntRow = true := by
  unfold joinedFacts
  refine and_mk (and_mk (and_mk (and_mk (and_mk (and_mk (and_mk ?_ Tryd.mayEnter) ?_) ?_) ?_) ?_) ?_) ?_
  · kernel_rfl
  · rw [Tryd.liftsNone]; rfl
  · rw [Tryd.makeCut]; rfl
  · kernel_rfl
  · kernel_rfl
  · kernel_rfl
  · kernel_rfl

theorem row : Rows.FnExactFormatBigIntSaid :=
  OpenClaim.holds_of_wide 5 Tryd.f5 rfl rfl rfl rfl rfl rfl rfl ⟨rfl, rfl, rfl, rfl, rfl⟩ rfl rfl rfl rfl rfl (by as_aux_lemma => kernel_rfl) Tryd.func5 facts
    (of_decide_eq_true (by as_aux_lemma => kernel_rfl)) (by unfold Func.isWrapper; rw [if_neg (of_decide_eq_false (by as_aux_lemma => kernel_rfl))]; exact ⟨rfl, rfl⟩)
    (fun os started H enc _ => lifted os started H enc)

theorem funcIs : Tryd.prog.funcNamed Rows.fnExactFormatBigIntRow.func = some 5 := by kernel_rfl
theorem standIns : (Tryd.f5.params.toList.all fun u => !Tryd.prog.wantsStandIn u) = true := by kernel_rfl
theorem proved : Rows.FnExactFormatBigIntCardSaid :=
  Claim7.holds_tied_plain_at .later [] [.data, .data, .data] true (true, "2978b016b207b88b1804fb102e08707596e0d0ac81c3d2f257335ffafde41d9b") true
    row (fun _ h => by cases h) (by as_aux_lemma => kernel_rfl) (fun _ h => by cases h) fnExactFormatBigInt_row_tie rfl ⟨rfl, rfl⟩ (by as_aux_lemma => kernel_rfl) rfl
    (fun f fn hf hfn => by
      obtain rfl : f = 5 := (Option.some.inj (funcIs.symm.trans hf)).symm
      obtain rfl : fn = Tryd.f5 := (Option.some.inj (Tryd.func5.symm.trans hfn)).symm
      exact ⟨by as_aux_lemma => kernel_rfl, fun j t ht => by
        have hm := Array.mem_of_getElem? ht
        exact (show Tryd.prog.wantsStandIn t = false by simpa using List.all_eq_true.1 standIns t (Array.mem_toList_iff.2 hm))⟩)
    (by as_aux_lemma => kernel_rfl)

end Go.Proofs.YtcajdlpbdihbeaaDoor.lawFormatBigInt
