/- FnExactRatSign: the program's RatSign answers what the reference's RatSign answers, for every input; no condition. -/
import Derived.Test.YtlideggpdailkaaRatT
import Derived.Test.YtlideggpdailkaaLawR
import Derived.Test.YtlideggpdailkaaLawK
namespace Go.Proofs.Ytlideggpdailkaa.lawRatSign
open Go.ChangeShapes Go.WideShapes Go.ChangeAt Go.RowKit Lm Go.Proofs.Ytlideggpdailkaa

set_option maxHeartbeats 4000000 in
set_option maxRecDepth 100000 in
theorem walk (w : World) (s0 : Bool) (a0 d0 : Value) (x0n x0d : List Int) (h0 : Rd2 w a0 d0 x0n x0d) (hm0 : x0n.length ≤ 9223372036854775807 ∧ x0d.length ≤ 9223372036854775807) (k0 : Int)
    (C1 : ∀ (w : World) (b0 : Nat) (u0 : Value) (e0 : Nat) (f0 : Value), Own w b0 u0 x0n → Own w e0 f0 x0d → Calls Try.prog 28 #[.agg #[.bool s0, u0, f0]] w (RetI w k0))
    (C2 : ∀ (w : World) (b0 : Nat) (u0 : Value) (e0 : Nat) (f0 : Value), Own w b0 u0 x0n → Own w e0 f0 x0d → Calls Try.prog 29 #[.agg #[.bool s0, u0, f0]] w (RetI w k0)) :
    Calls Try.prog 6 #[.agg #[.bool s0, a0, d0]] w (RetB w true) := by
  obtain ⟨⟨p0, q0, hv0, hc0⟩, ⟨pd0, qd0, hw0, hd0⟩⟩ := id h0
  subst hv0
  subst hw0
  clear hc0 hd0
  obtain ⟨hm0n, hm0d⟩ := hm0
  have R0 := Lib.hid h0
  have K1 := Lib.hid C1
  have K2 := Lib.hid C2
  clear h0 C1 C2
  by_cases hlx0n : (0 : Int) ≤ 1048576 - (x0n.length : Int)
  case neg =>
    have HL : Hid (1048576 - (x0n.length : Int) < 0) := by unfold Hid; omega
    have BW : Below w.heap.size w (w.alloc (.cells #[.bool s0, .slice p0 x0n.length q0, .slice pd0 x0d.length qd0] 26)) := ((Below.refl w.heap.size w).alloc (Nat.le_refl _) _)
    obtain ⟨c0_0, c0_1, c0_2⟩ : World.cell? (w.alloc (.cells #[.bool s0, .slice p0 x0n.length q0, .slice pd0 x0d.length qd0] 26)) ⟨w.heap.size, 0, none⟩ = some (.bool s0) ∧ World.cell? (w.alloc (.cells #[.bool s0, .slice p0 x0n.length q0, .slice pd0 x0d.length qd0] 26)) ⟨w.heap.size, 1, none⟩ = some (.slice p0 x0n.length q0) ∧ World.cell? (w.alloc (.cells #[.bool s0, .slice p0 x0n.length q0, .slice pd0 x0d.length qd0] 26)) ⟨w.heap.size, 2, none⟩ = some (.slice pd0 x0d.length qd0) := by simp [go_sem]
    go_enter Try.func6, Try.ntmps6
    go_wp2_with fail
    generalize (w.alloc (.cells #[.bool s0, .slice p0 x0n.length q0, .slice pd0 x0d.length qd0] 26)) = w0 at *
    have B0 := Below.refl w0.heap.size w0
    refine (szRat_x1 _ s0 x0n.length x0d.length _ _ _ _ (1048576) HL.out (by omega) hm0n (by omega)).mono ?_
    rintro e w1 ⟨rfl, hb⟩
    replace c0_0 := keep_cell hb c0_0
    replace c0_1 := keep_cell hb c0_1
    replace c0_2 := keep_cell hb c0_2
    replace B0 := B0.trans (hb.mono B0.size)
    clear hb
    go_wp2
    go_ret
    exact retB rfl (BW.trans (B0.mono BW.size))
  case pos =>
    by_cases hlx0d : (0 : Int) ≤ 1048576 - (x0n.length : Int) - (x0d.length : Int)
    case neg =>
      have HL : Hid (1048576 - (x0n.length : Int) - (x0d.length : Int) < 0) := by unfold Hid; omega
      have BW : Below w.heap.size w (w.alloc (.cells #[.bool s0, .slice p0 x0n.length q0, .slice pd0 x0d.length qd0] 26)) := ((Below.refl w.heap.size w).alloc (Nat.le_refl _) _)
      obtain ⟨c0_0, c0_1, c0_2⟩ : World.cell? (w.alloc (.cells #[.bool s0, .slice p0 x0n.length q0, .slice pd0 x0d.length qd0] 26)) ⟨w.heap.size, 0, none⟩ = some (.bool s0) ∧ World.cell? (w.alloc (.cells #[.bool s0, .slice p0 x0n.length q0, .slice pd0 x0d.length qd0] 26)) ⟨w.heap.size, 1, none⟩ = some (.slice p0 x0n.length q0) ∧ World.cell? (w.alloc (.cells #[.bool s0, .slice p0 x0n.length q0, .slice pd0 x0d.length qd0] 26)) ⟨w.heap.size, 2, none⟩ = some (.slice pd0 x0d.length qd0) := by simp [go_sem]
      go_enter Try.func6, Try.ntmps6
      go_wp2_with fail
      generalize (w.alloc (.cells #[.bool s0, .slice p0 x0n.length q0, .slice pd0 x0d.length qd0] 26)) = w0 at *
      have B0 := Below.refl w0.heap.size w0
      refine (szRat_x2 _ s0 x0n.length x0d.length _ _ _ _ (1048576) hlx0n HL.out (by omega) hm0d (by omega)).mono ?_
      rintro e w1 ⟨rfl, hb⟩
      replace c0_0 := keep_cell hb c0_0
      replace c0_1 := keep_cell hb c0_1
      replace c0_2 := keep_cell hb c0_2
      replace B0 := B0.trans (hb.mono B0.size)
      clear hb
      go_wp2
      go_ret
      exact retB rfl (BW.trans (B0.mono BW.size))
    case pos =>
      have hx0n : x0n.length ≤ 17592186044415 := by omega
      have hx0d : x0d.length ≤ 17592186044415 := by omega
      have BW : Below w.heap.size w (w.alloc (.cells #[.bool s0, .slice p0 x0n.length q0, .slice pd0 x0d.length qd0] 26)) := ((Below.refl w.heap.size w).alloc (Nat.le_refl _) _)
      obtain ⟨c0_0, c0_1, c0_2⟩ : World.cell? (w.alloc (.cells #[.bool s0, .slice p0 x0n.length q0, .slice pd0 x0d.length qd0] 26)) ⟨w.heap.size, 0, none⟩ = some (.bool s0) ∧ World.cell? (w.alloc (.cells #[.bool s0, .slice p0 x0n.length q0, .slice pd0 x0d.length qd0] 26)) ⟨w.heap.size, 1, none⟩ = some (.slice p0 x0n.length q0) ∧ World.cell? (w.alloc (.cells #[.bool s0, .slice p0 x0n.length q0, .slice pd0 x0d.length qd0] 26)) ⟨w.heap.size, 2, none⟩ = some (.slice pd0 x0d.length qd0) := by simp [go_sem]
      go_enter Try.func6, Try.ntmps6
      go_wp2_with fail
      generalize (w.alloc (.cells #[.bool s0, .slice p0 x0n.length q0, .slice pd0 x0d.length qd0] 26)) = w0 at *
      have B0 := Below.refl w0.heap.size w0
      refine (szRat_ok _ s0 x0n.length x0d.length _ _ _ _ (1048576) hlx0n hlx0d (by omega)).mono ?_
      rintro e w1 ⟨rfl, hb⟩
      replace c0_0 := keep_cell hb c0_0
      replace c0_1 := keep_cell hb c0_1
      replace c0_2 := keep_cell hb c0_2
      replace B0 := B0.trans (hb.mono B0.size)
      clear hb
      have dl0 : decide (1048576 - (x0n.length : Int) - (x0d.length : Int) < 0) = false := decide_eq_false (by omega)
      go_wp2_with fail
      refine (toRat_c _ _ _ s0 x0n x0d (R0.out.below (BW.trans (B0.mono BW.size))) hx0n hx0d).mono ?_
      rintro e w2 ⟨vy0n, vy0d, rfl, ho1, ho2, ha, hb⟩
      replace c0_0 := keep_cell hb c0_0
      replace c0_1 := keep_cell hb c0_1
      replace c0_2 := keep_cell hb c0_2
      have Hy0n := Lib.hid (ho1.mono B0.size)
      clear ho1
      have Hy0d := Lib.hid (ho2.mono B0.size)
      clear ho2
      have HA_y0n_y0d := Lib.hid ha
      clear ha
      obtain ⟨ay0n, cy0n, rfl, -, -, -, -, -⟩ := Hy0n.out.form
      obtain ⟨ay0d, cy0d, rfl, -, -, -, -, -⟩ := Hy0d.out.form
      replace B0 := B0.trans (hb.mono B0.size)
      clear hb
      go_wp2_with fail
      refine (K1.out _ _ _ _ _ Hy0n.out Hy0d.out).mono ?_
      rintro e w3 ⟨rfl, hb⟩
      replace c0_0 := keep_cell hb c0_0
      replace c0_1 := keep_cell hb c0_1
      replace c0_2 := keep_cell hb c0_2
      replace Hy0n := Lib.hid (Hy0n.out.below hb (Nat.le_refl _))
      replace Hy0d := Lib.hid (Hy0d.out.below hb (Nat.le_refl _))
      replace B0 := B0.trans (hb.mono B0.size)
      clear hb
      clear Hy0n
      clear Hy0d
      go_wp2_with fail
      refine (toRat_c _ _ _ s0 x0n x0d (R0.out.below (BW.trans (B0.mono BW.size))) hx0n hx0d).mono ?_
      rintro e w4 ⟨vz0n, vz0d, rfl, ho1, ho2, ha, hb⟩
      replace c0_0 := keep_cell hb c0_0
      replace c0_1 := keep_cell hb c0_1
      replace c0_2 := keep_cell hb c0_2
      have Hz0n := Lib.hid (ho1.mono B0.size)
      clear ho1
      have Hz0d := Lib.hid (ho2.mono B0.size)
      clear ho2
      have HA_z0n_z0d := Lib.hid ha
      clear ha
      obtain ⟨az0n, cz0n, rfl, -, -, -, -, -⟩ := Hz0n.out.form
      obtain ⟨az0d, cz0d, rfl, -, -, -, -, -⟩ := Hz0d.out.form
      replace B0 := B0.trans (hb.mono B0.size)
      clear hb
      have hb := alloc_bel w4 (.cells #[.bool s0, .slice az0n x0n.length cz0n, .slice az0d x0d.length cz0d] 31)
      replace c0_0 := keep_cell hb c0_0
      replace c0_1 := keep_cell hb c0_1
      replace c0_2 := keep_cell hb c0_2
      replace Hz0n := Lib.hid (Hz0n.out.below hb (Nat.le_refl _))
      replace Hz0d := Lib.hid (Hz0d.out.below hb (Nat.le_refl _))
      obtain ⟨bx0_0, bx0_1, bx0_2⟩ : World.cell? (w4.alloc (.cells #[.bool s0, .slice az0n x0n.length cz0n, .slice az0d x0d.length cz0d] 31)) ⟨w4.heap.size, 0, none⟩ = some (.bool s0) ∧ World.cell? (w4.alloc (.cells #[.bool s0, .slice az0n x0n.length cz0n, .slice az0d x0d.length cz0d] 31)) ⟨w4.heap.size, 1, none⟩ = some (.slice az0n x0n.length cz0n) ∧ World.cell? (w4.alloc (.cells #[.bool s0, .slice az0n x0n.length cz0n, .slice az0d x0d.length cz0d] 31)) ⟨w4.heap.size, 2, none⟩ = some (.slice az0d x0d.length cz0d) := by simp [go_sem]
      replace B0 := B0.trans (hb.mono B0.size)
      clear hb
      go_wp2_with fail
      generalize w4.alloc (.cells #[.bool s0, .slice az0n x0n.length cz0n, .slice az0d x0d.length cz0d] 31) = w5 at *
      refine (K2.out _ _ _ _ _ Hz0n.out Hz0d.out).mono ?_
      rintro e w6 ⟨rfl, hb⟩
      replace c0_0 := keep_cell hb c0_0
      replace c0_1 := keep_cell hb c0_1
      replace c0_2 := keep_cell hb c0_2
      replace bx0_0 := keep_cell hb bx0_0
      replace bx0_1 := keep_cell hb bx0_1
      replace bx0_2 := keep_cell hb bx0_2
      replace Hz0n := Lib.hid (Hz0n.out.below hb (Nat.le_refl _))
      replace Hz0d := Lib.hid (Hz0d.out.below hb (Nat.le_refl _))
      replace B0 := B0.trans (hb.mono B0.size)
      clear hb
      go_wp2_with fail
      replace Hz0n := Lib.hid Hz0n.out.drew
      replace Hz0d := Lib.hid Hz0d.out.drew
      replace B0 := below_drew B0
      replace c0_0 := cell_drew c0_0
      replace c0_1 := cell_drew c0_1
      replace c0_2 := cell_drew c0_2
      replace bx0_0 := cell_drew bx0_0
      replace bx0_1 := cell_drew bx0_1
      replace bx0_2 := cell_drew bx0_2
      go_region_held3 (fun w' => w'.cell? ⟨w.heap.size, 0, none⟩ = some (.bool s0) ∧ w'.cell? ⟨w.heap.size, 1, none⟩ = some (.slice p0 x0n.length q0) ∧ w'.cell? ⟨w.heap.size, 2, none⟩ = some (.slice pd0 x0d.length qd0) ∧ w'.cell? ⟨w4.heap.size, 0, none⟩ = some (.bool s0) ∧ w'.cell? ⟨w4.heap.size, 1, none⟩ = some (.slice az0n x0n.length cz0n) ∧ w'.cell? ⟨w4.heap.size, 2, none⟩ = some (.slice az0d x0d.length cz0d)) (first | exact ⟨c0_0, c0_1, c0_2, bx0_0, bx0_1, bx0_2⟩ | exact ⟨keep_cell (alloc_bel _ _) c0_0, keep_cell (alloc_bel _ _) c0_1, keep_cell (alloc_bel _ _) c0_2, keep_cell (alloc_bel _ _) bx0_0, keep_cell (alloc_bel _ _) bx0_1, keep_cell (alloc_bel _ _) bx0_2⟩ | (go_split_ands; exact ⟨(set_far (set_far ‹_› (by dsimp only; omega)) (by dsimp only; omega)), (set_far (set_far ‹_› (by dsimp only; omega)) (by dsimp only; omega)), (set_far (set_far ‹_› (by dsimp only; omega)) (by dsimp only; omega)), (set_far (set_far ‹_› (by dsimp only; omega)) (by dsimp only; omega)), (set_far (set_far ‹_› (by dsimp only; omega)) (by dsimp only; omega)), (set_far (set_far ‹_› (by dsimp only; omega)) (by dsimp only; omega))⟩) | (go_split_ands; exact ⟨(set_far (set_far (set_far ‹_› (by dsimp only; omega)) (by dsimp only; omega)) (by dsimp only; omega)), (set_far (set_far (set_far ‹_› (by dsimp only; omega)) (by dsimp only; omega)) (by dsimp only; omega)), (set_far (set_far (set_far ‹_› (by dsimp only; omega)) (by dsimp only; omega)) (by dsimp only; omega)), (set_far (set_far (set_far ‹_› (by dsimp only; omega)) (by dsimp only; omega)) (by dsimp only; omega)), (set_far (set_far (set_far ‹_› (by dsimp only; omega)) (by dsimp only; omega)) (by dsimp only; omega)), (set_far (set_far (set_far ‹_› (by dsimp only; omega)) (by dsimp only; omega)) (by dsimp only; omega))⟩) | (go_split_ands; exact ⟨(set_far ‹_› (by dsimp only; omega)), (set_far ‹_› (by dsimp only; omega)), (set_far ‹_› (by dsimp only; omega)), (set_far ‹_› (by dsimp only; omega)), (set_far ‹_› (by dsimp only; omega)), (set_far ‹_› (by dsimp only; omega))⟩) | go_keep)
        (first | (go_at_call 19; refine (toRat_c _ _ _ s0 x0n x0d (R0.out.below (BW.trans (B0.mono BW.size))) hx0n hx0d).mono ?_; rintro e w7 ⟨vq0n, vq0d, rfl, ho1, ho2, ha, hb7⟩; replace c0_0 := keep_cell (w1 := w7) hb7 c0_0; replace c0_1 := keep_cell (w1 := w7) hb7 c0_1; replace c0_2 := keep_cell (w1 := w7) hb7 c0_2; replace bx0_0 := keep_cell (w1 := w7) hb7 bx0_0; replace bx0_1 := keep_cell (w1 := w7) hb7 bx0_1; replace bx0_2 := keep_cell (w1 := w7) hb7 bx0_2; replace Hz0n := Lib.hid (Hz0n.out.below hb7 (Nat.le_refl _)); replace Hz0d := Lib.hid (Hz0d.out.below hb7 (Nat.le_refl _)); have Hq0n := Lib.hid (ho1.mono B0.size); clear ho1; have Hq0d := Lib.hid (ho2.mono B0.size); clear ho2; have HA_q0n_q0d := Lib.hid ha; clear ha; obtain ⟨aq0n, cq0n, rfl, -, -, -, -, -⟩ := Hq0n.out.form; obtain ⟨aq0d, cq0d, rfl, -, -, -, -, -⟩ := Hq0d.out.form; replace B0 := B0.trans (hb7.mono B0.size); clear hb7) | (go_at_call 21; refine (eqRat_c _ s0 x0n x0d Hz0n.out Hz0d.out Hq0n.out Hq0d.out).mono ?_; rintro e w8 ⟨rfl, hb8⟩; replace c0_0 := keep_cell (w1 := w8) hb8 c0_0; replace c0_1 := keep_cell (w1 := w8) hb8 c0_1; replace c0_2 := keep_cell (w1 := w8) hb8 c0_2; replace bx0_0 := keep_cell (w1 := w8) hb8 bx0_0; replace bx0_1 := keep_cell (w1 := w8) hb8 bx0_1; replace bx0_2 := keep_cell (w1 := w8) hb8 bx0_2; replace Hz0n := Lib.hid (Hz0n.out.below hb8 (Nat.le_refl _)); replace Hz0d := Lib.hid (Hz0d.out.below hb8 (Nat.le_refl _)); (try (replace Hq0n := Lib.hid (Hq0n.out.below hb8 (Nat.le_refl _)))); (try (replace Hq0d := Lib.hid (Hq0d.out.below hb8 (Nat.le_refl _)))); replace B0 := B0.trans (hb8.mono B0.size); clear hb8))
      clear Hq0n
      clear Hq0d
      go_wp2
      go_ret
      exact retB rfl (BW.trans (B0.mono BW.size))

set_option maxRecDepth 100000 in
theorem lifted (os : Os) (started : os.Started) (H : Type) (enc : TypeId × Value → H) :
    ReturnsInHanded {} Try.checked os 6 .any (Rows.fnExactRatSignSpec.pre6 enc Try.prog Try.f6 Rows.fnExactRatSignRow.domain false) (Rows.fnExactRatSignSpec.post enc Try.prog Try.f6 false true false false) := by
  refine returnsInHanded_of_change (C := Try.checked) Try.own started (by kernel_rfl) Try.func6
    (ChangeSpec.witness6 (enc := enc) (C := Try.checked) false ⟨#[], #[.agg #[.bool false, .slice none 0 0, .slice none 0 0]], []⟩ 8 (by kernel_rfl) (by kernel_rfl) (by kernel_rfl) (by kernel_rfl)) ?_
  intro W base args ds gs before hval0 hW hcnd _
  have hval : ∀ (j : Nat) t v, Try.f6.params[j]? = some t → args[j]? = some v → Value.okWide Try.prog W .any base t v := hval0
  have hW' := hW
  obtain ⟨p, q, hA0, hV, rfl, hfz, hnd⟩ := hW
  have hA : DataW.TrodAll enc Try.prog W 0 (fun _ => true) true Try.f6.params.toList args.toList ds p := hA0
  rw [Try.params6] at hA hval
  obtain ⟨v0, vs0, d0, ds0, p0, q0, hargs, rfl, rfl, h0, r0⟩ := trodAll_cons hA
  obtain ⟨rfl, rfl, rfl⟩ := trodAll_nil r0
  obtain rfl : args = #[v0] := by cases args; simp_all
  obtain ⟨rfl, rfl⟩ := trodVars_none hV
  have lt0 : ∀ x ∈ p0, x.block < W.heap.size := by obtain ⟨m, hm⟩ := h0; exact DataW.trod_lt m _ _ _ hm
  obtain ⟨s0, u0, e0, x0n, x0d, rfl, w0, hm0⟩ := rat_of_trod (hval 0 26 v0 rfl rfl) h0
  clear hA0 hval0
  refine (walk W s0 u0 e0 x0n x0d w0 hm0 (rsgn s0 x0n x0d)
    (fun w b0 u0 e0 f0 k0 k1 => sRatSign_c w b0 e0 s0 u0 f0 x0n x0d k0 k1)
    (fun w b0 u0 e0 f0 k0 k1 => RatSign_c w b0 e0 s0 u0 f0 x0n x0d k0 k1)).mono fun e W' ⟨he, bel⟩ => ?_
  subst he
  exact ⟨_, rfl, _, _, _, [], _, [], hW', trodAll_mk1 (shut_bool Try.underlying4 _), (trodAll_cons_mk (Below.trod Try.laidOut (by kernel_rfl) (of_decide_eq_true (by kernel_rfl)) h0 bel lt0) trodAll_mk0), rfl, bel.frame _, fun h => by cases h⟩

theorem facts : joinedFacts Try.pinned.checked.prog 6 Try.f6 Rows.fnExactRatSignSpec Rows.fnExactRatSignRow = true := by
  unfold joinedFacts
  refine and_mk (and_mk (and_mk (and_mk (and_mk (and_mk (and_mk ?_ Try.mayEnter) ?_) ?_) ?_) ?_) ?_) ?_
  · kernel_rfl
  · rw [Try.liftsNone]; rfl
  · rw [Try.makeCut]; rfl
  · kernel_rfl
  · kernel_rfl
  · kernel_rfl
  · kernel_rfl

theorem proved : Rows.FnExactRatSignSaid :=
  OpenClaim.holds_of_wide 6 Try.f6 rfl rfl rfl rfl rfl rfl rfl ⟨rfl, rfl, rfl, rfl, rfl⟩ rfl rfl rfl rfl rfl (by as_aux_lemma => kernel_rfl) Try.func6 facts
    (of_decide_eq_true (by as_aux_lemma => kernel_rfl)) (by unfold Func.isWrapper; rw [if_neg (of_decide_eq_false (by as_aux_lemma => kernel_rfl))]; exact ⟨rfl, rfl⟩)
    (fun os started H enc _ => lifted os started H enc)

end Go.Proofs.Ytlideggpdailkaa.lawRatSign
