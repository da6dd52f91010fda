/- FnExactNatOf: the program's NatOf answers what the reference's NatOf answers, for every input; no condition. -/
import Derived.Test.YtjhgomdfbljgdaaNatTop
import Derived.Test.YtjhgomdfbljgdaaLawK
import Derived.Test.YtjhgomdfbljgdaaOpen
namespace Go.Proofs.Ytjhgomdfbljgdaa.lawNatOf
open Go.ChangeShapes Go.WideShapes Go.ChangeAt Go.RowKit Lm Go.Proofs.Ytjhgomdfbljgdaa

set_option maxHeartbeats 2000000 in
theorem walk (W : World) (n0 : Int) (r0 : List Int) (hr0 : r0.length ≤ 1000)
    (C1 : ∀ (w : World) , Calls Try.prog 25 #[.int .i64 n0] w (RetS w r0))
    (C2 : ∀ (w : World) , Calls Try.prog 26 #[.int .i64 n0] w (RetS w r0)) :
    Calls Try.prog 4 #[.int .i64 n0] W (RetB W true) := by
  have K1 := Lib.hid C1
  have K2 := Lib.hid C2
  clear C1 C2
  go_enter Try.func4, Try.ntmps4
  go_wp2_with fail
  refine (K1.out W  ).mono ?_
  rintro e w1 ⟨vw0, rfl, ho1, hb⟩
  have Hw01 := Lib.hid ho1
  clear ho1
  have B1 := hb
  clear hb
  go_wp2_with fail
  refine (K2.out w1  ).mono ?_
  rintro e w2 ⟨vg0, rfl, ho1, hb⟩
  have HA_w0_g0 := Lib.hid (apart_new Hw01.out (.inr rfl) ho1)
  have Hw02 := Lib.hid (Hw01.out.below hb (Nat.le_refl _))
  clear Hw01
  have Hg02 := Lib.hid (ho1.mono B1.size)
  clear ho1
  have B2 := B1.trans (hb.mono B1.size)
  clear B1 hb
  go_wp2_with fail
  refine (eqIntS_c w2 _ _ _ _ r0 Hg02.out Hw02.out).mono ?_
  rintro e w3 ⟨rfl, hb⟩
  have Hw03 := Lib.hid (Hw02.out.below hb (Nat.le_refl _))
  clear Hw02
  have Hg03 := Lib.hid (Hg02.out.below hb (Nat.le_refl _))
  clear Hg02
  have B3 := B2.trans (hb.mono B2.size)
  clear B2 hb
  go_wp2_with fail
  refine (markI_c w3 _ _ r0 1 Hg03.out (by omega) (by omega) (by omega)).mono ?_
  rintro e w4 ⟨m0, hm, rfl, ho1, hg⟩
  have HMm0 := Lib.hid hm
  have m00 : 0 ≤ m0 := by omega
  have m01 : m0 ≤ 10000000 := by omega
  clear hm
  have Hw04 := Lib.hid (Hw03.out.marked hg HA_w0_g0.out)
  clear Hw03
  have B4 := Hg03.out.grownBelow B3 hg (Nat.le_refl _) B3.size
  clear B3 hg
  have Hg04 := Lib.hid ho1
  clear Hg03 ho1
  have dm0 : decide (m0 < 0) = false := decide_eq_false (by omega)
  go_wp2_with fail
  refine (heldI_c w4 _ _ r0.length 1 m0 Hg04.out (by omega) (by omega) (by omega) HMm0.out).mono ?_
  rintro e w5 ⟨rfl, hb⟩
  have Hw05 := Lib.hid (Hw04.out.below hb (Nat.le_refl _))
  clear Hw04
  have Hg05 := Lib.hid (Hg04.out.below hb (Nat.le_refl _))
  clear Hg04
  have B5 := B4.trans (hb.mono B4.size)
  clear B4 hb
  go_wp2_with fail
  refine (K2.out w5  ).mono ?_
  rintro e w6 ⟨vf0, rfl, ho1, hb⟩
  have Hw06 := Lib.hid (Hw05.out.below hb (Nat.le_refl _))
  clear Hw05
  have Hg06 := Lib.hid (Hg05.out.below hb (Nat.le_refl _))
  clear Hg05
  have Hf06 := Lib.hid (ho1.mono B5.size)
  clear ho1
  have B6 := B5.trans (hb.mono B5.size)
  clear B5 hb
  go_wp2_with fail
  refine (eqIntS_c w6 _ _ _ _ r0 Hf06.out Hw06.out).mono ?_
  rintro e w7 ⟨rfl, hb⟩
  have Hw07 := Lib.hid (Hw06.out.below hb (Nat.le_refl _))
  clear Hw06
  have Hg07 := Lib.hid (Hg06.out.below hb (Nat.le_refl _))
  clear Hg06
  have Hf07 := Lib.hid (Hf06.out.below hb (Nat.le_refl _))
  clear Hf06
  have B7 := B6.trans (hb.mono B6.size)
  clear B6 hb
  go_wp2_with fail
  refine (heldI_c w7 _ _ r0.length 1 m0 Hg07.out (by omega) (by omega) (by omega) HMm0.out).mono ?_
  rintro e w8 ⟨rfl, hb⟩
  have Hw08 := Lib.hid (Hw07.out.below hb (Nat.le_refl _))
  clear Hw07
  have Hg08 := Lib.hid (Hg07.out.below hb (Nat.le_refl _))
  clear Hg07
  have Hf08 := Lib.hid (Hf07.out.below hb (Nat.le_refl _))
  clear Hf07
  have B8 := B7.trans (hb.mono B7.size)
  clear B7 hb
  go_wp2
  go_ret
  exact retB rfl B8

set_option maxRecDepth 100000 in
theorem lifted (os : Os) (started : os.Started) (H : Type) (enc : TypeId × Value → H) :
    ReturnsInHanded {} Try.checked os 4 .any (Rows.fnExactNatOfSpec.pre6 enc Try.prog Try.f4 Rows.fnExactNatOfRow.domain false) (Rows.fnExactNatOfSpec.post enc Try.prog Try.f4 false true false false) := by
  refine returnsInHanded_of_change (C := Try.checked) Try.own started (by kernel_rfl) Try.func4
    (ChangeSpec.witness6 (enc := enc) (C := Try.checked) false ⟨#[], #[.int .i64 0], []⟩ 8 (by kernel_rfl) (by kernel_rfl) (by kernel_rfl) (by kernel_rfl)) ?_
  intro W base args ds gs before hval0 hW hcnd _
  have hval : ∀ (j : Nat) t v, Try.f4.params[j]? = some t → args[j]? = some v → Value.okWide Try.prog W .any base t v := hval0
  have hW' := hW
  obtain ⟨p, q, hA0, hV, rfl, hfz, hnd⟩ := hW
  have hA : DataW.TrodAll enc Try.prog W 0 (fun _ => true) true Try.f4.params.toList args.toList ds p := hA0
  rw [Try.params4] at hA hval
  obtain ⟨v0, vs0, d0, ds0, p0, q0, hargs, rfl, rfl, h0, r0⟩ := trodAll_cons hA
  obtain ⟨rfl, rfl, rfl⟩ := trodAll_nil r0
  obtain rfl : args = #[v0] := by cases args; simp_all
  obtain ⟨rfl, rfl⟩ := trodVars_none hV
  have lt0 : ∀ x ∈ p0, x.block < W.heap.size := by obtain ⟨m, hm⟩ := h0; exact DataW.trod_lt m _ _ _ hm
  obtain ⟨n0, rfl, lo0, hi0⟩ := int_of_trod (hval 0 3 v0 rfl rfl) h0
  clear hA0 hval0
  refine (walk W n0 (limbs n0.toNat) (by have := limbs_len_le (n := n0.toNat) (k := 3); have h := this.2 (by simp only [pw]; omega); omega)
    (fun w => specNatOf_c w n0 hi0)
    (fun w => natOf_c w n0 hi0)).mono fun e W' ⟨he, bel⟩ => ?_
  subst he
  exact ⟨_, rfl, _, _, _, [], _, [], hW', trodAll_mk1 (shut_bool Try.underlying4 _), (trodAll_cons_mk (Below.trod Try.laidOut (by kernel_rfl) (of_decide_eq_true (by kernel_rfl)) h0 bel lt0) trodAll_mk0), rfl, bel.frame _, fun h => by cases h⟩

theorem facts : joinedFacts Try.pinned.checked.prog 4 Try.f4 Rows.fnExactNatOfSpec Rows.fnExactNatOfRow = true := by
  unfold joinedFacts
  refine and_mk (and_mk (and_mk (and_mk (and_mk (and_mk (and_mk ?_ Try.mayEnter) ?_) ?_) ?_) ?_) ?_) ?_
  · kernel_rfl
  · rw [Try.liftsNone]; rfl
  · rw [Try.makeCut]; rfl
  · kernel_rfl
  · kernel_rfl
  · kernel_rfl
  · kernel_rfl

theorem proved : Rows.FnExactNatOfSaid :=
  OpenClaim.holds_of_wide 4 Try.f4 rfl rfl rfl rfl rfl rfl rfl ⟨rfl, rfl, rfl, rfl, rfl⟩ rfl rfl rfl rfl rfl (by as_aux_lemma => kernel_rfl) Try.func4 facts
    (of_decide_eq_true (by as_aux_lemma => kernel_rfl)) (by unfold Func.isWrapper; rw [if_neg (of_decide_eq_false (by as_aux_lemma => kernel_rfl))]; exact ⟨rfl, rfl⟩)
    (fun os started H enc _ => lifted os started H enc)

end Go.Proofs.Ytjhgomdfbljgdaa.lawNatOf
