/- FnExactBigIntOf: the program's BigIntOf answers what the reference's BigIntOf answers, for every input; no condition. -/
import Derived.Test.YtjhgomdfbljgdaaBigS
import Derived.Test.YtjhgomdfbljgdaaLawZ
import Derived.Test.YtjhgomdfbljgdaaLawK
namespace Go.Proofs.Ytjhgomdfbljgdaa.lawBigIntOf
open Go.ChangeShapes Go.WideShapes Go.ChangeAt Go.RowKit Lm Go.Proofs.Ytjhgomdfbljgdaa

set_option maxHeartbeats 4000000 in
set_option maxRecDepth 100000 in
theorem walk (w : World) (n0 : Int) (t0 : Bool) (r0 : List Int) (hr0 : r0.length ≤ 1000)
    (C1 : ∀ (w : World), Calls Try.prog 40 #[.int .i64 n0] w (RetG w t0 r0))
    (C2 : ∀ (w : World), Calls Try.prog 41 #[.int .i64 n0] w (RetG w t0 r0)) :
    Calls Try.prog 9 #[.int .i64 n0] w (RetB w true) := by
  have K1 := Lib.hid C1
  have K2 := Lib.hid C2
  clear C1 C2
  have BW : Below w.heap.size w w := (Below.refl w.heap.size w)
  go_enter Try.func9, Try.ntmps9
  go_wp2_with fail
  have hw0 : ∃ w0 : World, w0 = w := ⟨_, rfl⟩
  clear hw0
  generalize w = w0 at *
  have B0 := Below.refl w0.heap.size w0
  refine (K1.out _).mono ?_
  rintro e w1 ⟨vw0m, rfl, ho1, hb⟩
  have Hw0m := Lib.hid (ho1.mono B0.size)
  clear ho1
  obtain ⟨aw0m, cw0m, rfl, -, -, -, -, -⟩ := Hw0m.out.form
  replace B0 := B0.trans (hb.mono B0.size)
  clear hb
  have hb := alloc_bel w1 (.cells #[.bool t0, .slice aw0m r0.length cw0m] 33)
  replace Hw0m := Lib.hid (Hw0m.out.below hb (Nat.le_refl _))
  obtain ⟨bw0_0, bw0_1⟩ : World.cell? (w1.alloc (.cells #[.bool t0, .slice aw0m r0.length cw0m] 33)) ⟨w1.heap.size, 0, none⟩ = some (.bool t0) ∧ World.cell? (w1.alloc (.cells #[.bool t0, .slice aw0m r0.length cw0m] 33)) ⟨w1.heap.size, 1, none⟩ = some (.slice aw0m r0.length cw0m) := by simp [go_sem]
  replace B0 := B0.trans (hb.mono B0.size)
  clear hb
  go_wp2_with fail
  generalize w1.alloc (.cells #[.bool t0, .slice aw0m r0.length cw0m] 33) = w2 at *
  refine (K2.out _).mono ?_
  rintro e w3 ⟨vg0m, rfl, ho1, hb⟩
  have HN_g0m_bw0 := Lib.hid (own_ne_old bw0_0 ho1)
  have HA_w0m_g0m := Lib.hid (apart_new Hw0m.out (.inr rfl) ho1)
  replace bw0_0 := keep_cell hb bw0_0
  replace bw0_1 := keep_cell hb bw0_1
  replace Hw0m := Lib.hid (Hw0m.out.below hb (Nat.le_refl _))
  have Hg0m := Lib.hid (ho1.mono B0.size)
  clear ho1
  obtain ⟨ag0m, cg0m, rfl, -, -, -, -, -⟩ := Hg0m.out.form
  replace B0 := B0.trans (hb.mono B0.size)
  clear hb
  have HN_g0m_bg0 := Lib.hid (own_ne_new Hg0m.out)
  have hb := alloc_bel w3 (.cells #[.bool t0, .slice ag0m r0.length cg0m] 33)
  replace bw0_0 := keep_cell hb bw0_0
  replace bw0_1 := keep_cell hb bw0_1
  replace Hw0m := Lib.hid (Hw0m.out.below hb (Nat.le_refl _))
  replace Hg0m := Lib.hid (Hg0m.out.below hb (Nat.le_refl _))
  obtain ⟨bg0_0, bg0_1⟩ : World.cell? (w3.alloc (.cells #[.bool t0, .slice ag0m r0.length cg0m] 33)) ⟨w3.heap.size, 0, none⟩ = some (.bool t0) ∧ World.cell? (w3.alloc (.cells #[.bool t0, .slice ag0m r0.length cg0m] 33)) ⟨w3.heap.size, 1, none⟩ = some (.slice ag0m r0.length cg0m) := by simp [go_sem]
  replace B0 := B0.trans (hb.mono B0.size)
  clear hb
  go_wp2_with fail
  generalize w3.alloc (.cells #[.bool t0, .slice ag0m r0.length cg0m] 33) = w4 at *
  refine (eqBigInt_c _ _ _ t0 _ _ r0 Hg0m.out Hw0m.out).mono ?_
  rintro e w5 ⟨rfl, hb⟩
  replace bw0_0 := keep_cell hb bw0_0
  replace bw0_1 := keep_cell hb bw0_1
  replace bg0_0 := keep_cell hb bg0_0
  replace bg0_1 := keep_cell hb bg0_1
  replace Hw0m := Lib.hid (Hw0m.out.below hb (Nat.le_refl _))
  replace Hg0m := Lib.hid (Hg0m.out.below hb (Nat.le_refl _))
  replace B0 := B0.trans (hb.mono B0.size)
  clear hb
  go_wp2_with fail
  refine (markZ_c _ _ _ t0 r0 1 Hg0m.out (by omega) (by omega) (by omega)).mono ?_
  rintro e w6 ⟨m0, hm, rfl, ho1, hg⟩
  have HMm0 := Lib.hid hm
  have m00 : 0 ≤ m0 := by omega
  have m01 : m0 ≤ 10000000 := by omega
  clear hm
  replace bw0_0 := keep_grown hg bw0_0 HN_g0m_bw0.out
  replace bw0_1 := keep_grown hg bw0_1 HN_g0m_bw0.out
  replace bg0_0 := keep_grown hg bg0_0 HN_g0m_bg0.out
  replace bg0_1 := keep_grown hg bg0_1 HN_g0m_bg0.out
  replace Hw0m := Lib.hid (Hw0m.out.marked hg HA_w0m_g0m.out)
  replace B0 := Hg0m.out.grownBelow B0 hg (Nat.le_refl _) B0.size
  clear hg
  replace Hg0m := Lib.hid ho1
  clear ho1
  have dm0 : decide (m0 < 0) = false := decide_eq_false (by omega)
  go_wp2_with fail
  refine (heldZ_c _ _ t0 _ r0.length 1 m0 Hg0m.out (by omega) (by omega) (by omega) HMm0.out).mono ?_
  rintro e w7 ⟨rfl, hb⟩
  replace bw0_0 := keep_cell hb bw0_0
  replace bw0_1 := keep_cell hb bw0_1
  replace bg0_0 := keep_cell hb bg0_0
  replace bg0_1 := keep_cell hb bg0_1
  replace Hw0m := Lib.hid (Hw0m.out.below hb (Nat.le_refl _))
  replace Hg0m := Lib.hid (Hg0m.out.below hb (Nat.le_refl _))
  replace B0 := B0.trans (hb.mono B0.size)
  clear hb
  go_wp2_with fail
  refine (K2.out _).mono ?_
  rintro e w8 ⟨vf0m, rfl, ho1, hb⟩
  replace bw0_0 := keep_cell hb bw0_0
  replace bw0_1 := keep_cell hb bw0_1
  replace bg0_0 := keep_cell hb bg0_0
  replace bg0_1 := keep_cell hb bg0_1
  replace Hw0m := Lib.hid (Hw0m.out.below hb (Nat.le_refl _))
  replace Hg0m := Lib.hid (Hg0m.out.below hb (Nat.le_refl _))
  have Hf0m := Lib.hid (ho1.mono B0.size)
  clear ho1
  obtain ⟨af0m, cf0m, rfl, -, -, -, -, -⟩ := Hf0m.out.form
  replace B0 := B0.trans (hb.mono B0.size)
  clear hb
  have hb := alloc_bel w8 (.cells #[.bool t0, .slice af0m r0.length cf0m] 33)
  replace bw0_0 := keep_cell hb bw0_0
  replace bw0_1 := keep_cell hb bw0_1
  replace bg0_0 := keep_cell hb bg0_0
  replace bg0_1 := keep_cell hb bg0_1
  replace Hw0m := Lib.hid (Hw0m.out.below hb (Nat.le_refl _))
  replace Hg0m := Lib.hid (Hg0m.out.below hb (Nat.le_refl _))
  replace Hf0m := Lib.hid (Hf0m.out.below hb (Nat.le_refl _))
  obtain ⟨bf0_0, bf0_1⟩ : World.cell? (w8.alloc (.cells #[.bool t0, .slice af0m r0.length cf0m] 33)) ⟨w8.heap.size, 0, none⟩ = some (.bool t0) ∧ World.cell? (w8.alloc (.cells #[.bool t0, .slice af0m r0.length cf0m] 33)) ⟨w8.heap.size, 1, none⟩ = some (.slice af0m r0.length cf0m) := by simp [go_sem]
  replace B0 := B0.trans (hb.mono B0.size)
  clear hb
  go_wp2_with fail
  generalize w8.alloc (.cells #[.bool t0, .slice af0m r0.length cf0m] 33) = w9 at *
  refine (eqBigInt_c _ _ _ t0 _ _ r0 Hf0m.out Hw0m.out).mono ?_
  rintro e w10 ⟨rfl, hb⟩
  replace bw0_0 := keep_cell hb bw0_0
  replace bw0_1 := keep_cell hb bw0_1
  replace bg0_0 := keep_cell hb bg0_0
  replace bg0_1 := keep_cell hb bg0_1
  replace bf0_0 := keep_cell hb bf0_0
  replace bf0_1 := keep_cell hb bf0_1
  replace Hw0m := Lib.hid (Hw0m.out.below hb (Nat.le_refl _))
  replace Hg0m := Lib.hid (Hg0m.out.below hb (Nat.le_refl _))
  replace Hf0m := Lib.hid (Hf0m.out.below hb (Nat.le_refl _))
  replace B0 := B0.trans (hb.mono B0.size)
  clear hb
  go_wp2_with fail
  refine (heldZ_c _ _ t0 _ r0.length 1 m0 Hg0m.out (by omega) (by omega) (by omega) HMm0.out).mono ?_
  rintro e w11 ⟨rfl, hb⟩
  replace bw0_0 := keep_cell hb bw0_0
  replace bw0_1 := keep_cell hb bw0_1
  replace bg0_0 := keep_cell hb bg0_0
  replace bg0_1 := keep_cell hb bg0_1
  replace bf0_0 := keep_cell hb bf0_0
  replace bf0_1 := keep_cell hb bf0_1
  replace Hw0m := Lib.hid (Hw0m.out.below hb (Nat.le_refl _))
  replace Hg0m := Lib.hid (Hg0m.out.below hb (Nat.le_refl _))
  replace Hf0m := Lib.hid (Hf0m.out.below hb (Nat.le_refl _))
  replace B0 := B0.trans (hb.mono B0.size)
  clear hb
  go_wp2
  go_ret
  exact retB rfl (BW.trans (B0.mono BW.size))

set_option maxRecDepth 100000 in
theorem lifted (os : Os) (started : os.Started) (H : Type) (enc : TypeId × Value → H) :
    ReturnsInHanded {} Try.checked os 9 .any (Rows.fnExactBigIntOfSpec.pre6 enc Try.prog Try.f9 Rows.fnExactBigIntOfRow.domain false) (Rows.fnExactBigIntOfSpec.post enc Try.prog Try.f9 false true false false) := by
  refine returnsInHanded_of_change (C := Try.checked) Try.own started (by kernel_rfl) Try.func9
    (ChangeSpec.witness6 (enc := enc) (C := Try.checked) false ⟨#[], #[.int .i64 0], []⟩ 8 (by kernel_rfl) (by kernel_rfl) (by kernel_rfl) (by kernel_rfl)) ?_
  intro W base args ds gs before hval0 hW hcnd _
  have hval : ∀ (j : Nat) t v, Try.f9.params[j]? = some t → args[j]? = some v → Value.okWide Try.prog W .any base t v := hval0
  have hW' := hW
  obtain ⟨p, q, hA0, hV, rfl, hfz, hnd⟩ := hW
  have hA : DataW.TrodAll enc Try.prog W 0 (fun _ => true) true Try.f9.params.toList args.toList ds p := hA0
  rw [Try.params9] at hA hval
  obtain ⟨v0, vs0, d0, ds0, p0, q0, hargs, rfl, rfl, h0, r0⟩ := trodAll_cons hA
  obtain ⟨rfl, rfl, rfl⟩ := trodAll_nil r0
  obtain rfl : args = #[v0] := by cases args; simp_all
  obtain ⟨rfl, rfl⟩ := trodVars_none hV
  have lt0 : ∀ x ∈ p0, x.block < W.heap.size := by obtain ⟨m, hm⟩ := h0; exact DataW.trod_lt m _ _ _ hm
  obtain ⟨n0, rfl, lo0, hi0⟩ := int_of_trod (hval 0 3 v0 rfl rfl) h0
  clear hA0 hval0
  refine (walk W n0 (ng n0) (limbs n0.natAbs) (Nat.le_trans (limbs_len_small (by omega)) (by omega))
    (fun w => sBigIntOf_c w n0 lo0 hi0)
    (fun w => BigIntOf_c w n0 lo0 hi0)).mono fun e W' ⟨he, bel⟩ => ?_
  subst he
  exact ⟨_, rfl, _, _, _, [], _, [], hW', trodAll_mk1 (shut_bool Try.underlying4 _), (trodAll_cons_mk (Below.trod Try.laidOut (by kernel_rfl) (of_decide_eq_true (by kernel_rfl)) h0 bel lt0) trodAll_mk0), rfl, bel.frame _, fun h => by cases h⟩

theorem facts : joinedFacts Try.pinned.checked.prog 9 Try.f9 Rows.fnExactBigIntOfSpec Rows.fnExactBigIntOfRow = true := by
  unfold joinedFacts
  refine and_mk (and_mk (and_mk (and_mk (and_mk (and_mk (and_mk ?_ Try.mayEnter) ?_) ?_) ?_) ?_) ?_) ?_
  · kernel_rfl
  · rw [Try.liftsNone]; rfl
  · rw [Try.makeCut]; rfl
  · kernel_rfl
  · kernel_rfl
  · kernel_rfl
  · kernel_rfl

theorem proved : Rows.FnExactBigIntOfSaid :=
  OpenClaim.holds_of_wide 9 Try.f9 rfl rfl rfl rfl rfl rfl rfl ⟨rfl, rfl, rfl, rfl, rfl⟩ rfl rfl rfl rfl rfl (by as_aux_lemma => kernel_rfl) Try.func9 facts
    (of_decide_eq_true (by as_aux_lemma => kernel_rfl)) (by unfold Func.isWrapper; rw [if_neg (of_decide_eq_false (by as_aux_lemma => kernel_rfl))]; exact ⟨rfl, rfl⟩)
    (fun os started H enc _ => lifted os started H enc)

end Go.Proofs.Ytjhgomdfbljgdaa.lawBigIntOf
