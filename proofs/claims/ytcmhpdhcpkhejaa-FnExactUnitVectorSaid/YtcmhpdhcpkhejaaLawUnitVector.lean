/- FnExactUnitVector: the program's UnitVector answers what the reference's UnitVector answers, for every input; no condition. -/
import Derived.Test.YtcmhpdhcpkhejaaVecL
import Derived.Test.YtcmhpdhcpkhejaaVecP
namespace Go.Proofs.Ytcmhpdhcpkhejaa.lawUnitVector
open Go.ChangeShapes Go.WideShapes Go.ChangeAt Go.RowKit Lm Go.Proofs.Ytcmhpdhcpkhejaa

theorem uv_sum (n k : Int) : sumK (uvR k) 0 (uvN n k) ≤ 100000 := by
  have h1 : uvN n k ≤ 24 := by unfold uvN; split <;> omega
  have h2 := sumK_le (uvR k) (uvN n k) 2 fun i _ => by
    unfold uvR
    split
    · show (limbs (Int.natAbs 1)).length + (limbs 1).length ≤ 2
      rw [show Int.natAbs 1 = 1 from rfl, limbs_one]; simp
    · show (limbs (Int.natAbs 0)).length + (limbs 1).length ≤ 2
      rw [show Int.natAbs 0 = 0 from rfl, limbs_zero, limbs_one]; simp
  omega

set_option maxHeartbeats 4000000 in
set_option maxRecDepth 100000 in
theorem walk (w : World) (n0 : Int) (n1 : Int) (m0 : Nat) (R0 : Nat → Rc) (hr0 : sumK R0 0 m0 ≤ 100000)
    (C1 : ∀ (w : World), Calls Try.prog 20 #[.int .i64 n0, .int .i64 n1] w (RetVec w m0 R0))
    (C2 : ∀ (w : World), Calls Try.prog 21 #[.int .i64 n0, .int .i64 n1] w (RetVec w m0 R0)) :
    Calls Try.prog 5 #[.int .i64 n0, .int .i64 n1] w (RetB w true) := by
  have K1 := Lib.hid C1
  have K2 := Lib.hid C2
  clear C1 C2
  have B := Below.refl w.heap.size w
  go_enter Try.func5, Try.ntmps5
  go_wp2_with fail
  refine (K1.out _).mono ?_
  rintro e w1 ⟨vws, rfl, ho, hb⟩
  have hs1 := hb.size
  replace B := B.trans (hb.mono B.size)
  clear hb
  have Hws := Lib.hid ho
  clear ho
  go_wp2_with fail
  refine (K2.out _).mono ?_
  rintro e w2 ⟨vgs, rfl, ho, hb⟩
  replace Hws := Lib.hid (Hws.out.bel hb)
  have hs2 := hb.size
  replace B := B.trans (hb.mono B.size)
  clear hb
  have Hgs := Lib.hid ho
  clear ho
  go_wp2_with fail
  refine (eqRatS_c _ m0 R0 Hgs.out Hws.out).mono ?_
  rintro e w3 ⟨rfl, hb⟩
  replace Hws := Lib.hid (Hws.out.bel hb)
  replace Hgs := Lib.hid (Hgs.out.bel hb)
  have hs3 := hb.size
  replace B := B.trans (hb.mono B.size)
  clear hb
  go_wp2_with fail
  refine (markV_c _ w1.heap.size w2.heap.size _ m0 R0 1 100000 Hgs.out (by omega) hr0 (by omega)).mono ?_
  rintro e w4 ⟨q0, rfl, q00, q01, hm, ho, hw⟩
  have hs4 := hw.size
  have HMq0 := Lib.hid hm
  replace Hws := Lib.hid (Hws.out.within hw (by omega))
  replace Hgs := Lib.hid ho
  replace B := hw.below B (by omega) (by omega)
  clear hm ho hw
  have dq0 : decide (q0 < 0) = false := decide_eq_false (by omega)
  go_wp2_with fail
  refine (heldRatS_c _ w1.heap.size w2.heap.size _ m0 R0 1 q0 Hgs.out (by omega) (by omega) HMq0.out).mono ?_
  rintro e w5 ⟨rfl, hb⟩
  replace Hws := Lib.hid (Hws.out.bel hb)
  replace Hgs := Lib.hid (Hgs.out.bel hb)
  have hs5 := hb.size
  replace B := B.trans (hb.mono B.size)
  clear hb
  go_wp2_with fail
  refine (K2.out _).mono ?_
  rintro e w6 ⟨vfs, rfl, ho, hb⟩
  replace Hws := Lib.hid (Hws.out.bel hb)
  replace Hgs := Lib.hid (Hgs.out.bel hb)
  have hs6 := hb.size
  replace B := B.trans (hb.mono B.size)
  clear hb
  have Hfs := Lib.hid ho
  clear ho
  go_wp2_with fail
  refine (eqRatS_c _ m0 R0 Hfs.out Hws.out).mono ?_
  rintro e w7 ⟨rfl, hb⟩
  replace Hws := Lib.hid (Hws.out.bel hb)
  replace Hgs := Lib.hid (Hgs.out.bel hb)
  replace Hfs := Lib.hid (Hfs.out.bel hb)
  have hs7 := hb.size
  replace B := B.trans (hb.mono B.size)
  clear hb
  go_wp2_with fail
  refine (heldRatS_c _ w1.heap.size w2.heap.size _ m0 R0 1 q0 Hgs.out (by omega) (by omega) HMq0.out).mono ?_
  rintro e w8 ⟨rfl, hb⟩
  replace Hws := Lib.hid (Hws.out.bel hb)
  replace Hgs := Lib.hid (Hgs.out.bel hb)
  replace Hfs := Lib.hid (Hfs.out.bel hb)
  have hs8 := hb.size
  replace B := B.trans (hb.mono B.size)
  clear hb
  go_wp2
  go_ret
  exact retB rfl B

set_option maxRecDepth 100000 in
theorem lifted (os : Os) (started : os.Started) (H : Type) (enc : TypeId × Value → H) :
    ReturnsInHanded {} Try.checked os 5 .any (Rows.fnExactUnitVectorSpec.pre6 enc Try.prog Try.f5 Rows.fnExactUnitVectorRow.domain false) (Rows.fnExactUnitVectorSpec.post enc Try.prog Try.f5 false true false false) := by
  refine returnsInHanded_of_change (C := Try.checked) Try.own started (by kernel_rfl) Try.func5
    (ChangeSpec.witness6 (enc := enc) (C := Try.checked) false ⟨#[], #[.int .i64 0, .int .i64 0], []⟩ 8 (by kernel_rfl) (by kernel_rfl) (by kernel_rfl) (by kernel_rfl)) ?_
  intro W base args ds gs before hval0 hW hcnd _
  have hval : ∀ (j : Nat) t v, Try.f5.params[j]? = some t → args[j]? = some v → Value.okWide Try.prog W .any base t v := hval0
  have hW' := hW
  obtain ⟨p, q, hA0, hV, rfl, hfz, hnd⟩ := hW
  have hA : DataW.TrodAll enc Try.prog W 0 (fun _ => true) true Try.f5.params.toList args.toList ds p := hA0
  rw [Try.params5] at hA hval
  obtain ⟨v0, vs0, d0, ds0, p0, q0, hargs, rfl, rfl, h0, r0⟩ := trodAll_cons hA
  obtain ⟨v1, vs1, d1, ds1, p1, q1, rfl, rfl, rfl, h1, r1⟩ := trodAll_cons r0
  obtain ⟨rfl, rfl, rfl⟩ := trodAll_nil r1
  obtain rfl : args = #[v0, v1] := by cases args; simp_all
  obtain ⟨rfl, rfl⟩ := trodVars_none hV
  have lt0 : ∀ x ∈ p0, x.block < W.heap.size := by obtain ⟨m, hm⟩ := h0; exact DataW.trod_lt m _ _ _ hm
  have lt1 : ∀ x ∈ p1, x.block < W.heap.size := by obtain ⟨m, hm⟩ := h1; exact DataW.trod_lt m _ _ _ hm
  obtain ⟨n0, rfl, lo0, hi0⟩ := int_of_trod (hval 0 3 v0 rfl rfl) h0
  obtain ⟨n1, rfl, lo1, hi1⟩ := int_of_trod (hval 1 3 v1 rfl rfl) h1
  clear hA0 hval0
  refine (walk W n0 n1 (uvN n0 n1) (uvR n1) (uv_sum n0 n1)
    (fun w => sUnitVector_c w n0 n1)
    (fun w => UnitVector_c w n0 n1)).mono fun e W' ⟨he, bel⟩ => ?_
  subst he
  exact ⟨_, rfl, _, _, _, [], _, [], hW', trodAll_mk1 (shut_bool Try.underlying4 _), (trodAll_cons_mk (Below.trod Try.laidOut (by kernel_rfl) (of_decide_eq_true (by kernel_rfl)) h0 bel lt0) (trodAll_cons_mk (Below.trod Try.laidOut (by kernel_rfl) (of_decide_eq_true (by kernel_rfl)) h1 bel lt1) trodAll_mk0)), rfl, bel.frame _, fun h => by cases h⟩

theorem facts : joinedFacts Try.pinned.checked.prog 5 Try.f5 Rows.fnExactUnitVectorSpec Rows.fnExactUnitVectorRow = true := by
  unfold joinedFacts
  refine and_mk (and_mk (and_mk (and_mk (and_mk (and_mk (and_mk ?_ Try.mayEnter) ?_) ?_) ?_) ?_) ?_) ?_
  · kernel_rfl
  · rw [Try.liftsNone]; rfl
  · rw [Try.makeCut]; rfl
  · kernel_rfl
  · kernel_rfl
  · kernel_rfl
  · kernel_rfl

theorem proved : Rows.FnExactUnitVectorSaid :=
  OpenClaim.holds_of_wide 5 Try.f5 rfl rfl rfl rfl rfl rfl rfl ⟨rfl, rfl, rfl, rfl, rfl⟩ rfl rfl rfl rfl rfl (by as_aux_lemma => kernel_rfl) Try.func5 facts
    (of_decide_eq_true (by as_aux_lemma => kernel_rfl)) (by unfold Func.isWrapper; rw [if_neg (of_decide_eq_false (by as_aux_lemma => kernel_rfl))]; exact ⟨rfl, rfl⟩)
    (fun os started H enc _ => lifted os started H enc)

end Go.Proofs.Ytcmhpdhcpkhejaa.lawUnitVector
