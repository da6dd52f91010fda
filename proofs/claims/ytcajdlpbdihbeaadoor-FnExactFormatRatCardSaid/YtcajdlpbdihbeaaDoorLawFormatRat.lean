/- FnExactFormatRat: the program's FormatRat answers what the reference's FormatRat answers, for every input; no condition. -/
import Derived.Test.YtcajdlpbdihbeaaDoorLaid
import Derived.Test.YtcajdlpbdihbeaaDoorFmtR
import Derived.Test.YtcajdlpbdihbeaaDoorStrOpen
import Derived.Test.YtcajdlpbdihbeaaDoorLawR
namespace Go.Proofs.YtcajdlpbdihbeaaDoor.lawFormatRat
open Go.ChangeShapes Go.WideShapes Go.ChangeAt Go.RowKit Lm Go.Proofs.YtcajdlpbdihbeaaDoor

set_option maxHeartbeats 4000000 in
set_option maxRecDepth 100000 in
theorem walk (w : World) (s0 : Bool) (a0 d0 : Value) (x0n x0d : List Int) (h0 : Rd2 w a0 d0 x0n x0d) (hm0 : x0n.length ≤ 9223372036854775807 ∧ x0d.length ≤ 9223372036854775807) (st0 : ByteArray) (ht : Tabs w)
    (C1 : ∀ (w : World) (b0 : Nat) (u0 : Value) (e0 : Nat) (f0 : Value), Own w b0 u0 x0n → Own w e0 f0 x0d → Tabs w → Calls Tryd.prog 40 #[.agg #[.bool s0, u0, f0]] w (RetT w st0))
    (C2 : ∀ (w : World) (b0 : Nat) (u0 : Value) (e0 : Nat) (f0 : Value), Own w b0 u0 x0n → Own w e0 f0 x0d → Tabs w → Calls Tryd.prog 42 #[.agg #[.bool s0, u0, f0]] w (RetT w st0)) :
    Calls Tryd.prog 10 #[.agg #[.bool s0, a0, d0]] w (RetB w true) := by
  obtain ⟨⟨p0, q0, hv0, hc0⟩, ⟨pd0, qd0, hw0, hd0⟩⟩ := id h0
  subst hv0
  subst hw0
  clear hc0 hd0
  obtain ⟨hm0n, hm0d⟩ := hm0
  have R0 := Lib.hid h0
  have K1 := Lib.hid C1
  have K2 := Lib.hid C2
  clear h0 C1 C2
  have HT := Lib.hid ht
  clear ht
  by_cases hlx0n : (0 : Int) ≤ 1048576 - (x0n.length : Int)
  case neg =>
    have HL : Hid (1048576 - (x0n.length : Int) < 0) := by unfold Hid; omega
    have BW : Below w.heap.size w (w.alloc (.cells #[.bool s0, .slice p0 x0n.length q0, .slice pd0 x0d.length qd0] 55)) := ((Below.refl w.heap.size w).alloc (Nat.le_refl _) _)
    obtain ⟨c0_0, c0_1, c0_2⟩ : World.cell? (w.alloc (.cells #[.bool s0, .slice p0 x0n.length q0, .slice pd0 x0d.length qd0] 55)) ⟨w.heap.size, 0, none⟩ = some (.bool s0) ∧ World.cell? (w.alloc (.cells #[.bool s0, .slice p0 x0n.length q0, .slice pd0 x0d.length qd0] 55)) ⟨w.heap.size, 1, none⟩ = some (.slice p0 x0n.length q0) ∧ World.cell? (w.alloc (.cells #[.bool s0, .slice p0 x0n.length q0, .slice pd0 x0d.length qd0] 55)) ⟨w.heap.size, 2, none⟩ = some (.slice pd0 x0d.length qd0) := by simp [go_sem]
    go_enter Tryd.func10, Tryd.ntmps10
    go_wp2_with fail
    generalize (w.alloc (.cells #[.bool s0, .slice p0 x0n.length q0, .slice pd0 x0d.length qd0] 55)) = w0 at *
    have B0 := Below.refl w0.heap.size w0
    refine (szRat_x1 _ s0 x0n.length x0d.length _ _ _ _ (1048576) HL.out (by omega) hm0n (by omega)).mono ?_
    rintro e w1 ⟨rfl, hb⟩
    replace c0_0 := keep_cell hb c0_0
    replace c0_1 := keep_cell hb c0_1
    replace c0_2 := keep_cell hb c0_2
    replace B0 := B0.trans (hb.mono B0.size)
    clear hb
    go_wp2
    go_ret
    exact retB rfl (BW.trans (B0.mono BW.size))
  case pos =>
    by_cases hlx0d : (0 : Int) ≤ 1048576 - (x0n.length : Int) - (x0d.length : Int)
    case neg =>
      have HL : Hid (1048576 - (x0n.length : Int) - (x0d.length : Int) < 0) := by unfold Hid; omega
      have BW : Below w.heap.size w (w.alloc (.cells #[.bool s0, .slice p0 x0n.length q0, .slice pd0 x0d.length qd0] 55)) := ((Below.refl w.heap.size w).alloc (Nat.le_refl _) _)
      obtain ⟨c0_0, c0_1, c0_2⟩ : World.cell? (w.alloc (.cells #[.bool s0, .slice p0 x0n.length q0, .slice pd0 x0d.length qd0] 55)) ⟨w.heap.size, 0, none⟩ = some (.bool s0) ∧ World.cell? (w.alloc (.cells #[.bool s0, .slice p0 x0n.length q0, .slice pd0 x0d.length qd0] 55)) ⟨w.heap.size, 1, none⟩ = some (.slice p0 x0n.length q0) ∧ World.cell? (w.alloc (.cells #[.bool s0, .slice p0 x0n.length q0, .slice pd0 x0d.length qd0] 55)) ⟨w.heap.size, 2, none⟩ = some (.slice pd0 x0d.length qd0) := by simp [go_sem]
      go_enter Tryd.func10, Tryd.ntmps10
      go_wp2_with fail
      generalize (w.alloc (.cells #[.bool s0, .slice p0 x0n.length q0, .slice pd0 x0d.length qd0] 55)) = w0 at *
      have B0 := Below.refl w0.heap.size w0
      refine (szRat_x2 _ s0 x0n.length x0d.length _ _ _ _ (1048576) hlx0n HL.out (by omega) hm0d (by omega)).mono ?_
      rintro e w1 ⟨rfl, hb⟩
      replace c0_0 := keep_cell hb c0_0
      replace c0_1 := keep_cell hb c0_1
      replace c0_2 := keep_cell hb c0_2
      replace B0 := B0.trans (hb.mono B0.size)
      clear hb
      go_wp2
      go_ret
      exact retB rfl (BW.trans (B0.mono BW.size))
    case pos =>
      have hx0n : x0n.length ≤ 17592186044415 := by omega
      have hx0d : x0d.length ≤ 17592186044415 := by omega
      have BW : Below w.heap.size w (w.alloc (.cells #[.bool s0, .slice p0 x0n.length q0, .slice pd0 x0d.length qd0] 55)) := ((Below.refl w.heap.size w).alloc (Nat.le_refl _) _)
      obtain ⟨c0_0, c0_1, c0_2⟩ : World.cell? (w.alloc (.cells #[.bool s0, .slice p0 x0n.length q0, .slice pd0 x0d.length qd0] 55)) ⟨w.heap.size, 0, none⟩ = some (.bool s0) ∧ World.cell? (w.alloc (.cells #[.bool s0, .slice p0 x0n.length q0, .slice pd0 x0d.length qd0] 55)) ⟨w.heap.size, 1, none⟩ = some (.slice p0 x0n.length q0) ∧ World.cell? (w.alloc (.cells #[.bool s0, .slice p0 x0n.length q0, .slice pd0 x0d.length qd0] 55)) ⟨w.heap.size, 2, none⟩ = some (.slice pd0 x0d.length qd0) := by simp [go_sem]
      go_enter Tryd.func10, Tryd.ntmps10
      go_wp2_with fail
      generalize (w.alloc (.cells #[.bool s0, .slice p0 x0n.length q0, .slice pd0 x0d.length qd0] 55)) = w0 at *
      have B0 := Below.refl w0.heap.size w0
      refine (szRat_ok _ s0 x0n.length x0d.length _ _ _ _ (1048576) hlx0n hlx0d (by omega)).mono ?_
      rintro e w1 ⟨rfl, hb⟩
      replace c0_0 := keep_cell hb c0_0
      replace c0_1 := keep_cell hb c0_1
      replace c0_2 := keep_cell hb c0_2
      replace B0 := B0.trans (hb.mono B0.size)
      clear hb
      have dl0 : decide (1048576 - (x0n.length : Int) - (x0d.length : Int) < 0) = false := decide_eq_false (by omega)
      go_wp2_with fail
      refine (toRat_c _ _ _ s0 x0n x0d (R0.out.below (BW.trans (B0.mono BW.size))) hx0n hx0d).mono ?_
      rintro e w2 ⟨vy0n, vy0d, rfl, ho1, ho2, ha, hb⟩
      replace c0_0 := keep_cell hb c0_0
      replace c0_1 := keep_cell hb c0_1
      replace c0_2 := keep_cell hb c0_2
      have Hy0n := Lib.hid (ho1.mono B0.size)
      clear ho1
      have Hy0d := Lib.hid (ho2.mono B0.size)
      clear ho2
      have HA_y0n_y0d := Lib.hid ha
      clear ha
      obtain ⟨ay0n, cy0n, rfl, -, -, -, -, -⟩ := Hy0n.out.form
      obtain ⟨ay0d, cy0d, rfl, -, -, -, -, -⟩ := Hy0d.out.form
      replace B0 := B0.trans (hb.mono B0.size)
      clear hb
      go_wp2_with fail
      refine (K1.out _ _ _ _ _ Hy0n.out Hy0d.out (HT.out.below (BW.trans (B0.mono BW.size)) (Nat.le_refl _))).mono ?_
      rintro e w3 ⟨rfl, hb⟩
      replace c0_0 := keep_cell hb c0_0
      replace c0_1 := keep_cell hb c0_1
      replace c0_2 := keep_cell hb c0_2
      replace Hy0n := Lib.hid (Hy0n.out.below hb (Nat.le_refl _))
      replace Hy0d := Lib.hid (Hy0d.out.below hb (Nat.le_refl _))
      replace B0 := B0.trans (hb.mono B0.size)
      clear hb
      clear Hy0n
      clear Hy0d
      go_wp2_with fail
      refine (toRat_c _ _ _ s0 x0n x0d (R0.out.below (BW.trans (B0.mono BW.size))) hx0n hx0d).mono ?_
      rintro e w4 ⟨vz0n, vz0d, rfl, ho1, ho2, ha, hb⟩
      replace c0_0 := keep_cell hb c0_0
      replace c0_1 := keep_cell hb c0_1
      replace c0_2 := keep_cell hb c0_2
      have Hz0n := Lib.hid (ho1.mono B0.size)
      clear ho1
      have Hz0d := Lib.hid (ho2.mono B0.size)
      clear ho2
      have HA_z0n_z0d := Lib.hid ha
      clear ha
      obtain ⟨az0n, cz0n, rfl, -, -, -, -, -⟩ := Hz0n.out.form
      obtain ⟨az0d, cz0d, rfl, -, -, -, -, -⟩ := Hz0d.out.form
      replace B0 := B0.trans (hb.mono B0.size)
      clear hb
      have hb := alloc_bel w4 (.cells #[.bool s0, .slice az0n x0n.length cz0n, .slice az0d x0d.length cz0d] 59)
      replace c0_0 := keep_cell hb c0_0
      replace c0_1 := keep_cell hb c0_1
      replace c0_2 := keep_cell hb c0_2
      replace Hz0n := Lib.hid (Hz0n.out.below hb (Nat.le_refl _))
      replace Hz0d := Lib.hid (Hz0d.out.below hb (Nat.le_refl _))
      obtain ⟨bx0_0, bx0_1, bx0_2⟩ : World.cell? (w4.alloc (.cells #[.bool s0, .slice az0n x0n.length cz0n, .slice az0d x0d.length cz0d] 59)) ⟨w4.heap.size, 0, none⟩ = some (.bool s0) ∧ World.cell? (w4.alloc (.cells #[.bool s0, .slice az0n x0n.length cz0n, .slice az0d x0d.length cz0d] 59)) ⟨w4.heap.size, 1, none⟩ = some (.slice az0n x0n.length cz0n) ∧ World.cell? (w4.alloc (.cells #[.bool s0, .slice az0n x0n.length cz0n, .slice az0d x0d.length cz0d] 59)) ⟨w4.heap.size, 2, none⟩ = some (.slice az0d x0d.length cz0d) := by simp [go_sem]
      replace B0 := B0.trans (hb.mono B0.size)
      clear hb
      go_wp2_with fail
      generalize w4.alloc (.cells #[.bool s0, .slice az0n x0n.length cz0n, .slice az0d x0d.length cz0d] 59) = w5 at *
      refine (K2.out _ _ _ _ _ Hz0n.out Hz0d.out (HT.out.below (BW.trans (B0.mono BW.size)) (Nat.le_refl _))).mono ?_
      rintro e w6 ⟨rfl, hb⟩
      replace c0_0 := keep_cell hb c0_0
      replace c0_1 := keep_cell hb c0_1
      replace c0_2 := keep_cell hb c0_2
      replace bx0_0 := keep_cell hb bx0_0
      replace bx0_1 := keep_cell hb bx0_1
      replace bx0_2 := keep_cell hb bx0_2
      replace Hz0n := Lib.hid (Hz0n.out.below hb (Nat.le_refl _))
      replace Hz0d := Lib.hid (Hz0d.out.below hb (Nat.le_refl _))
      replace B0 := B0.trans (hb.mono B0.size)
      clear hb
      go_wp2_with fail
      replace Hz0n := Lib.hid Hz0n.out.drew
      replace Hz0d := Lib.hid Hz0d.out.drew
      replace B0 := below_drew B0
      replace c0_0 := cell_drew c0_0
      replace c0_1 := cell_drew c0_1
      replace c0_2 := cell_drew c0_2
      replace bx0_0 := cell_drew bx0_0
      replace bx0_1 := cell_drew bx0_1
      replace bx0_2 := cell_drew bx0_2
      go_region_held3 (fun w' => w'.cell? ⟨w.heap.size, 0, none⟩ = some (.bool s0) ∧ w'.cell? ⟨w.heap.size, 1, none⟩ = some (.slice p0 x0n.length q0) ∧ w'.cell? ⟨w.heap.size, 2, none⟩ = some (.slice pd0 x0d.length qd0) ∧ w'.cell? ⟨w4.heap.size, 0, none⟩ = some (.bool s0) ∧ w'.cell? ⟨w4.heap.size, 1, none⟩ = some (.slice az0n x0n.length cz0n) ∧ w'.cell? ⟨w4.heap.size, 2, none⟩ = some (.slice az0d x0d.length cz0d)) (first | exact ⟨c0_0, c0_1, c0_2, bx0_0, bx0_1, bx0_2⟩ | exact ⟨keep_cell (alloc_bel _ _) c0_0, keep_cell (alloc_bel _ _) c0_1, keep_cell (alloc_bel _ _) c0_2, keep_cell (alloc_bel _ _) bx0_0, keep_cell (alloc_bel _ _) bx0_1, keep_cell (alloc_bel _ _) bx0_2⟩ | (go_split_ands; exact ⟨(set_far (set_far ‹_› (by dsimp only; omega)) (by dsimp only; omega)), (set_far (set_far ‹_› (by dsimp only; omega)) (by dsimp only; omega)), (set_far (set_far ‹_› (by dsimp only; omega)) (by dsimp only; omega)), (set_far (set_far ‹_› (by dsimp only; omega)) (by dsimp only; omega)), (set_far (set_far ‹_› (by dsimp only; omega)) (by dsimp only; omega)), (set_far (set_far ‹_› (by dsimp only; omega)) (by dsimp only; omega))⟩) | (go_split_ands; exact ⟨(set_far (set_far (set_far ‹_› (by dsimp only; omega)) (by dsimp only; omega)) (by dsimp only; omega)), (set_far (set_far (set_far ‹_› (by dsimp only; omega)) (by dsimp only; omega)) (by dsimp only; omega)), (set_far (set_far (set_far ‹_› (by dsimp only; omega)) (by dsimp only; omega)) (by dsimp only; omega)), (set_far (set_far (set_far ‹_› (by dsimp only; omega)) (by dsimp only; omega)) (by dsimp only; omega)), (set_far (set_far (set_far ‹_› (by dsimp only; omega)) (by dsimp only; omega)) (by dsimp only; omega)), (set_far (set_far (set_far ‹_› (by dsimp only; omega)) (by dsimp only; omega)) (by dsimp only; omega))⟩) | (go_split_ands; exact ⟨(set_far ‹_› (by dsimp only; omega)), (set_far ‹_› (by dsimp only; omega)), (set_far ‹_› (by dsimp only; omega)), (set_far ‹_› (by dsimp only; omega)), (set_far ‹_› (by dsimp only; omega)), (set_far ‹_› (by dsimp only; omega))⟩) | go_keep)
        (first | (go_at_call 41; refine (toRat_c _ _ _ s0 x0n x0d (R0.out.below (BW.trans (B0.mono BW.size))) hx0n hx0d).mono ?_; rintro e w7 ⟨vq0n, vq0d, rfl, ho1, ho2, ha, hb7⟩; replace c0_0 := keep_cell (w1 := w7) hb7 c0_0; replace c0_1 := keep_cell (w1 := w7) hb7 c0_1; replace c0_2 := keep_cell (w1 := w7) hb7 c0_2; replace bx0_0 := keep_cell (w1 := w7) hb7 bx0_0; replace bx0_1 := keep_cell (w1 := w7) hb7 bx0_1; replace bx0_2 := keep_cell (w1 := w7) hb7 bx0_2; replace Hz0n := Lib.hid (Hz0n.out.below hb7 (Nat.le_refl _)); replace Hz0d := Lib.hid (Hz0d.out.below hb7 (Nat.le_refl _)); have Hq0n := Lib.hid (ho1.mono B0.size); clear ho1; have Hq0d := Lib.hid (ho2.mono B0.size); clear ho2; have HA_q0n_q0d := Lib.hid ha; clear ha; obtain ⟨aq0n, cq0n, rfl, -, -, -, -, -⟩ := Hq0n.out.form; obtain ⟨aq0d, cq0d, rfl, -, -, -, -, -⟩ := Hq0d.out.form; replace B0 := B0.trans (hb7.mono B0.size); clear hb7) | (go_at_call 43; refine (eqRat_c _ s0 x0n x0d Hz0n.out Hz0d.out Hq0n.out Hq0d.out).mono ?_; rintro e w8 ⟨rfl, hb8⟩; replace c0_0 := keep_cell (w1 := w8) hb8 c0_0; replace c0_1 := keep_cell (w1 := w8) hb8 c0_1; replace c0_2 := keep_cell (w1 := w8) hb8 c0_2; replace bx0_0 := keep_cell (w1 := w8) hb8 bx0_0; replace bx0_1 := keep_cell (w1 := w8) hb8 bx0_1; replace bx0_2 := keep_cell (w1 := w8) hb8 bx0_2; replace Hz0n := Lib.hid (Hz0n.out.below hb8 (Nat.le_refl _)); replace Hz0d := Lib.hid (Hz0d.out.below hb8 (Nat.le_refl _)); (try (replace Hq0n := Lib.hid (Hq0n.out.below hb8 (Nat.le_refl _)))); (try (replace Hq0d := Lib.hid (Hq0d.out.below hb8 (Nat.le_refl _)))); replace B0 := B0.trans (hb8.mono B0.size); clear hb8))
      clear Hq0n
      clear Hq0d
      go_wp2
      go_ret
      exact retB rfl (BW.trans (B0.mono BW.size))

theorem allPlain : (Rows.fnExactFormatRatRow.laid.all fun x => x.2.handleName?.isNone) = true := by kernel_rfl
set_option maxRecDepth 100000 in
theorem lifted (os : Os) (started : os.Started) (H : Type) (enc : TypeId × Value → H) :
    ReturnsInHanded {} Tryd.checked os 10 .any (fun w args => (Rows.fnExactFormatRatSpec.pre enc Tryd.prog Tryd.f10 Rows.fnExactFormatRatRow.domain false w args ∧ laidMetH Tryd.prog Rows.fnExactFormatRatRow.laid w) ∧ sizedMet enc Tryd.prog Tryd.f10 (OpenSpec.ofChange Rows.fnExactFormatRatSpec) false w args) (Rows.fnExactFormatRatSpec.post enc Tryd.prog Tryd.f10 false true false false) := by
  refine returnsInHanded_of_change_and (C := Tryd.checked) (X := (fun w _ => laidMetH Tryd.prog Rows.fnExactFormatRatRow.laid w)) (fun _ _ _ hh h => h.of_heap hh) Tryd.own started (by as_aux_lemma => kernel_rfl) Tryd.func10
    (ChangeSpec.witness_shaped (enc := enc) (C := Tryd.checked) (os := os) (X := (fun w _ => laidMetH Tryd.prog Rows.fnExactFormatRatRow.laid w)) false (World.laidAll Tryd.prog os Rows.fnExactFormatRatRow.laid) #[.agg #[.bool false, .slice none 0 0, .slice none 0 0]] 8 (World.laidAll_os _ _ _)
      (World.shaped_of_ZipB (by as_aux_lemma => kernel_rfl) (by as_aux_lemma => kernel_rfl)) (by as_aux_lemma => kernel_rfl) (by as_aux_lemma => kernel_rfl) (by as_aux_lemma => kernel_rfl)
      (by rw [MakeChecks.laidMetH_plain _ _ _ allPlain]; exact laidMet_laidAll _ (by as_aux_lemma => kernel_rfl) (by as_aux_lemma => kernel_rfl))) ?_
  intro W base args ds gs before hval0 hW hcnd _ hL _
  have hval : ∀ (j : Nat) t v, Tryd.f10.params[j]? = some t → args[j]? = some v → Value.okWide Tryd.prog W .any base t v := hval0
  have hW' := hW
  obtain ⟨p, q, hA0, hV, rfl, hfz, hnd⟩ := hW
  have hA : DataW.TrodAll enc Tryd.prog W 0 (fun _ => true) true Tryd.f10.params.toList args.toList ds p := hA0
  rw [Tryd.params10] at hA hval
  have HT : Tabs W := tabs_of_laid (l := Rows.fnExactFormatRatRow.laid) hL allPlain (r := []) rfl
  obtain ⟨v0, vs0, d0, ds0, p0, q0, hargs, rfl, rfl, h0, r0⟩ := trodAll_cons hA
  obtain ⟨rfl, rfl, rfl⟩ := trodAll_nil r0
  obtain rfl : args = #[v0] := by cases args; simp_all
  obtain ⟨rfl, rfl⟩ := trodVars_none hV
  have lt0 : ∀ x ∈ p0, x.block < W.heap.size := by obtain ⟨m, hm⟩ := h0; exact DataW.trod_lt m _ _ _ hm
  obtain ⟨s0, u0, e0, x0n, x0d, rfl, w0, hm0⟩ := rat_of_trod (hval 0 55 v0 rfl rfl) h0
  clear hA0 hval0
  refine (walk W s0 u0 e0 x0n x0d w0 hm0 (fRs s0 x0n x0d) HT
    (fun w b u e f h k _ => sFormatRat_c w b e s0 u f x0n x0d h k)
    (fun w b u e f h k ht => FormatRat_c w b e s0 u f x0n x0d h k ht)).mono fun e W' ⟨he, bel⟩ => ?_
  subst he
  exact ⟨_, rfl, _, _, _, [], _, [], hW', trodAll_mk1 (shut_bool Tryd.underlying4 _), (trodAll_cons_mk (Below.trod Tryd.laidOut (by as_aux_lemma => kernel_rfl) (of_decide_eq_true (by as_aux_lemma => kernel_rfl)) h0 bel lt0) trodAll_mk0), rfl, bel.frame _, fun h => by cases h⟩

theorem facts : joinedFacts Tryd.pinned.checked.prog 10 Tryd.f10 Rows.fnExactFormatRatSpec Rows.fnExactFormatRatRow = true := by
  unfold joinedFacts
  refine and_mk (and_mk (and_mk (and_mk (and_mk (and_mk (and_mk ?_ Tryd.mayEnter) ?_) ?_) ?_) ?_) ?_) ?_
  · kernel_rfl
  · rw [Tryd.liftsNone]; rfl
  · rw [Tryd.makeCut]; rfl
  · kernel_rfl
  · kernel_rfl
  · kernel_rfl
  · kernel_rfl

theorem row : Rows.FnExactFormatRatSaid :=
  OpenClaim.holds_of_wide 10 Tryd.f10 rfl rfl rfl rfl rfl rfl rfl ⟨rfl, rfl, rfl, rfl, rfl⟩ rfl rfl rfl rfl rfl (by as_aux_lemma => kernel_rfl) Tryd.func10 facts
    (of_decide_eq_true (by as_aux_lemma => kernel_rfl)) (by unfold Func.isWrapper; rw [if_neg (of_decide_eq_false (by as_aux_lemma => kernel_rfl))]; exact ⟨rfl, rfl⟩)
    (fun os started H enc _ => lifted os started H enc)

theorem funcIs : Tryd.prog.funcNamed Rows.fnExactFormatRatRow.func = some 10 := by kernel_rfl
theorem standIns : (Tryd.f10.params.toList.all fun u => !Tryd.prog.wantsStandIn u) = true := by kernel_rfl
theorem proved : Rows.FnExactFormatRatCardSaid :=
  Claim7.holds_tied_plain_at .later [] [.data, .data, .data] true (true, "2978b016b207b88b1804fb102e08707596e0d0ac81c3d2f257335ffafde41d9b") true
    row (fun _ h => by cases h) (by as_aux_lemma => kernel_rfl) (fun _ h => by cases h) fnExactFormatRat_row_tie rfl ⟨rfl, rfl⟩ (by as_aux_lemma => kernel_rfl) rfl
    (fun f fn hf hfn => by
      obtain rfl : f = 10 := (Option.some.inj (funcIs.symm.trans hf)).symm
      obtain rfl : fn = Tryd.f10 := (Option.some.inj (Tryd.func10.symm.trans hfn)).symm
      exact ⟨by as_aux_lemma => kernel_rfl, fun j t ht => by
        have hm := Array.mem_of_getElem? ht
        exact (show Tryd.prog.wantsStandIn t = false by simpa using List.all_eq_true.1 standIns t (Array.mem_toList_iff.2 hm))⟩)
    (by as_aux_lemma => kernel_rfl)

end Go.Proofs.YtcajdlpbdihbeaaDoor.lawFormatRat
