/- FnExactSubtractVectors: the program's SubtractVectors answers what the reference's SubtractVectors answers, for every input; no condition. -/
import Derived.Test.YtcmhpdhcpkhejaaVecL
import Derived.Test.YtcmhpdhcpkhejaaVecR
namespace Go.Proofs.Ytcmhpdhcpkhejaa.lawSubtractVectors
open Go.ChangeShapes Go.WideShapes Go.ChangeAt Go.RowKit Lm Go.Proofs.Ytcmhpdhcpkhejaa

theorem v2_sum (n : Nat) (A : Nat → Rc) (m : Nat) (B : Nat → Rc) : sumK (v2R qsub A B) 0 (v2N qsub n A m B) ≤ 100000 := by
  have h1 : v2N qsub n A m B ≤ 24 := by
    unfold v2N
    split
    · next h =>
      by_cases hh : OkV n A ∧ OkV m B ∧ n = m
      · exact hh.1.1
      · rw [v2c_no hh] at h; simp at h
    · omega
  have h2 := sumK_le (v2R qsub A B) (v2N qsub n A m B) 48 fun i _ => by
    show (limbs (Int.natAbs (vop qsub A B i).1)).length + (limbs (vop qsub A B i).2).length ≤ 48
    have := (low_isQ0 (numR (A i) * (denR (B i) : Int) + -numR (B i) * (denR (A i) : Int)) (denR (A i) * denR (B i))).len
    exact Nat.add_le_add this.1 this.2
  omega

set_option maxHeartbeats 4000000 in
set_option maxRecDepth 100000 in
theorem walk (w : World) (v0 : Value) (n0 : Nat) (E0 : Nat → Ent) (A0 : Nat → Rc) (h0 : RdV w v0 n0 E0 A0) (v1 : Value) (n1 : Nat) (E1 : Nat → Ent) (A1 : Nat → Rc) (h1 : RdV w v1 n1 E1 A1) (m0 : Nat) (R0 : Nat → Rc) (hr0 : sumK R0 0 m0 ≤ 100000) (c1 : Bool)
    (C1 : ∀ (w : World) (lo0 hi0 : Nat) (u0 : Value) (lo1 hi1 : Nat) (u1 : Value), Vec w lo0 hi0 u0 n0 A0 → Vec w lo1 hi1 u1 n1 A1 → Calls Try.prog 32 #[u0, u1] w (RetVB w m0 R0 c1))
    (C2 : ∀ (w : World) (lo0 hi0 : Nat) (u0 : Value) (lo1 hi1 : Nat) (u1 : Value), Vec w lo0 hi0 u0 n0 A0 → Vec w lo1 hi1 u1 n1 A1 → Calls Try.prog 33 #[u0, u1] w (RetVB w m0 R0 c1)) :
    Calls Try.prog 9 #[v0, v1] w (RetB w true) := by
  have G0 := Lib.hid h0
  have G1 := Lib.hid h1
  have K1 := Lib.hid C1
  have K2 := Lib.hid C2
  clear h0 h1 C1 C2
  have B := Below.refl w.heap.size w
  go_enter Try.func9, Try.ntmps9
  go_wp2_with fail
  refine (szRatS_c _ _ n0 E0 A0 1048576 (G0.out.below B) (by omega) (by omega)).mono ?_
  rintro e w1 ⟨l0, rfl, hl0, hm, hb⟩
  have HL0 := Lib.hid hm
  clear hm
  have hs1 := hb.size
  replace B := B.trans (hb.mono B.size)
  clear hb
  by_cases hz0 : l0 < 0
  case pos =>
    go_wp2
    go_ret
    exact retB rfl B
  case neg =>
    have dl0 : decide (l0 < 0) = false := decide_eq_false hz0
    have hk0 : sumK A0 0 n0 ≤ 1048576 := by have := HL0.out (by omega); omega
    have hl00 : 0 ≤ l0 := by omega
    clear hz0
    go_wp2_with fail
    refine (szRatS_c _ _ n1 E1 A1 l0 (G1.out.below B) (by omega) (by omega)).mono ?_
    rintro e w2 ⟨l1, rfl, hl1, hm, hb⟩
    have HL1 := Lib.hid hm
    clear hm
    have hs2 := hb.size
    replace B := B.trans (hb.mono B.size)
    clear hb
    by_cases hz1 : l1 < 0
    case pos =>
      go_wp2
      go_ret
      exact retB rfl B
    case neg =>
      have dl1 : decide (l1 < 0) = false := decide_eq_false hz1
      have hk1 : sumK A1 0 n1 ≤ 1048576 := by have := HL1.out (by omega); omega
      have hl01 : 0 ≤ l1 := by omega
      clear hz1
      go_wp2_with fail
      refine (toRatS_c _ _ n0 E0 A0 (G0.out.below B) hk0).mono ?_
      rintro e w3 ⟨vy0, rfl, ho, hb⟩
      have hs3 := hb.size
      replace B := B.trans (hb.mono B.size)
      clear hb
      have Hy0 := Lib.hid ho
      clear ho
      go_wp2_with fail
      refine (toRatS_c _ _ n1 E1 A1 (G1.out.below B) hk1).mono ?_
      rintro e w4 ⟨vy1, rfl, ho, hb⟩
      replace Hy0 := Lib.hid (Hy0.out.bel hb)
      have hs4 := hb.size
      replace B := B.trans (hb.mono B.size)
      clear hb
      have Hy1 := Lib.hid ho
      clear ho
      go_wp2_with fail
      refine (K1.out _ _ _ _ _ _ _ Hy0.out Hy1.out).mono ?_
      rintro e w5 ⟨vws, rfl, ho, hb⟩
      replace Hy0 := Lib.hid (Hy0.out.bel hb)
      replace Hy1 := Lib.hid (Hy1.out.bel hb)
      have hs5 := hb.size
      replace B := B.trans (hb.mono B.size)
      clear hb
      have Hws := Lib.hid ho
      clear ho
      clear Hy0
      clear Hy1
      go_wp2_with fail
      refine (toRatS_c _ _ n0 E0 A0 (G0.out.below B) hk0).mono ?_
      rintro e w6 ⟨vx0, rfl, ho, hb⟩
      replace Hws := Lib.hid (Hws.out.bel hb)
      have hs6 := hb.size
      replace B := B.trans (hb.mono B.size)
      clear hb
      have Hx0 := Lib.hid ho
      clear ho
      go_wp2_with fail
      refine (toRatS_c _ _ n1 E1 A1 (G1.out.below B) hk1).mono ?_
      rintro e w7 ⟨vx1, rfl, ho, hb⟩
      replace Hws := Lib.hid (Hws.out.bel hb)
      replace Hx0 := Lib.hid (Hx0.out.bel hb)
      have hs7 := hb.size
      replace B := B.trans (hb.mono B.size)
      clear hb
      have Hx1 := Lib.hid ho
      clear ho
      go_wp2_with fail
      refine (K2.out _ _ _ _ _ _ _ Hx0.out Hx1.out).mono ?_
      rintro e w8 ⟨vgs, rfl, ho, hb⟩
      replace Hws := Lib.hid (Hws.out.bel hb)
      replace Hx0 := Lib.hid (Hx0.out.bel hb)
      replace Hx1 := Lib.hid (Hx1.out.bel hb)
      have hs8 := hb.size
      replace B := B.trans (hb.mono B.size)
      clear hb
      have Hgs := Lib.hid ho
      clear ho
      go_wp2_with fail
      refine (eqRatS_c _ m0 R0 Hgs.out Hws.out).mono ?_
      rintro e w9 ⟨rfl, hb⟩
      replace Hws := Lib.hid (Hws.out.bel hb)
      replace Hx0 := Lib.hid (Hx0.out.bel hb)
      replace Hx1 := Lib.hid (Hx1.out.bel hb)
      replace Hgs := Lib.hid (Hgs.out.bel hb)
      have hs9 := hb.size
      replace B := B.trans (hb.mono B.size)
      clear hb
      go_wp2_with fail
      refine (toRatS_c _ _ n0 E0 A0 (G0.out.below B) hk0).mono ?_
      rintro e w10 ⟨vq0, rfl, ho, hb⟩
      replace Hws := Lib.hid (Hws.out.bel hb)
      replace Hx0 := Lib.hid (Hx0.out.bel hb)
      replace Hx1 := Lib.hid (Hx1.out.bel hb)
      replace Hgs := Lib.hid (Hgs.out.bel hb)
      have hs10 := hb.size
      replace B := B.trans (hb.mono B.size)
      clear hb
      have Hq0 := Lib.hid ho
      clear ho
      go_wp2_with fail
      refine (eqRatS_c _ n0 A0 Hx0.out Hq0.out).mono ?_
      rintro e w11 ⟨rfl, hb⟩
      replace Hws := Lib.hid (Hws.out.bel hb)
      replace Hx0 := Lib.hid (Hx0.out.bel hb)
      replace Hx1 := Lib.hid (Hx1.out.bel hb)
      replace Hgs := Lib.hid (Hgs.out.bel hb)
      replace Hq0 := Lib.hid (Hq0.out.bel hb)
      have hs11 := hb.size
      replace B := B.trans (hb.mono B.size)
      clear hb
      clear Hq0
      go_wp2_with fail
      refine (toRatS_c _ _ n1 E1 A1 (G1.out.below B) hk1).mono ?_
      rintro e w12 ⟨vq1, rfl, ho, hb⟩
      replace Hws := Lib.hid (Hws.out.bel hb)
      replace Hx0 := Lib.hid (Hx0.out.bel hb)
      replace Hx1 := Lib.hid (Hx1.out.bel hb)
      replace Hgs := Lib.hid (Hgs.out.bel hb)
      have hs12 := hb.size
      replace B := B.trans (hb.mono B.size)
      clear hb
      have Hq1 := Lib.hid ho
      clear ho
      go_wp2_with fail
      refine (eqRatS_c _ n1 A1 Hx1.out Hq1.out).mono ?_
      rintro e w13 ⟨rfl, hb⟩
      replace Hws := Lib.hid (Hws.out.bel hb)
      replace Hx0 := Lib.hid (Hx0.out.bel hb)
      replace Hx1 := Lib.hid (Hx1.out.bel hb)
      replace Hgs := Lib.hid (Hgs.out.bel hb)
      replace Hq1 := Lib.hid (Hq1.out.bel hb)
      have hs13 := hb.size
      replace B := B.trans (hb.mono B.size)
      clear hb
      clear Hq1
      go_wp2_with fail
      refine (markV_c _ w5.heap.size w6.heap.size _ n0 A0 1 1048576 Hx0.out (by omega) hk0 (by omega)).mono ?_
      rintro e w14 ⟨k0, rfl, k00, k01, hm, ho, hw⟩
      have hs14 := hw.size
      have HMk0 := Lib.hid hm
      replace Hws := Lib.hid (Hws.out.within hw (by omega))
      replace Hx1 := Lib.hid (Hx1.out.within hw (by omega))
      replace Hgs := Lib.hid (Hgs.out.within hw (by omega))
      replace Hx0 := Lib.hid ho
      replace B := hw.below B (by omega) (by omega)
      clear hm ho hw
      have dk0 : decide (k0 < 0) = false := decide_eq_false (by omega)
      clear Hx0
      go_wp2_with fail
      refine (markV_c _ w6.heap.size w7.heap.size _ n1 A1 k0 1048576 Hx1.out (by omega) hk1 (by omega)).mono ?_
      rintro e w15 ⟨k1, rfl, k10, k11, hm, ho, hw⟩
      have hs15 := hw.size
      have HMk1 := Lib.hid hm
      replace Hws := Lib.hid (Hws.out.within hw (by omega))
      replace Hgs := Lib.hid (Hgs.out.within hw (by omega))
      replace Hx1 := Lib.hid ho
      replace B := hw.below B (by omega) (by omega)
      clear hm ho hw
      have dk1 : decide (k1 < 0) = false := decide_eq_false (by omega)
      clear Hx1
      go_wp2_with fail
      refine (eqRatS_c _ m0 R0 Hgs.out Hws.out).mono ?_
      rintro e w16 ⟨rfl, hb⟩
      replace Hws := Lib.hid (Hws.out.bel hb)
      replace Hgs := Lib.hid (Hgs.out.bel hb)
      have hs16 := hb.size
      replace B := B.trans (hb.mono B.size)
      clear hb
      go_wp2_with fail
      refine (markV_c _ w7.heap.size w8.heap.size _ m0 R0 1 100000 Hgs.out (by omega) hr0 (by omega)).mono ?_
      rintro e w17 ⟨q0, rfl, q00, q01, hm, ho, hw⟩
      have hs17 := hw.size
      have HMq0 := Lib.hid hm
      replace Hws := Lib.hid (Hws.out.within hw (by omega))
      replace Hgs := Lib.hid ho
      replace B := hw.below B (by omega) (by omega)
      clear hm ho hw
      have dq0 : decide (q0 < 0) = false := decide_eq_false (by omega)
      go_wp2_with fail
      refine (heldRatS_c _ w7.heap.size w8.heap.size _ m0 R0 1 q0 Hgs.out (by omega) (by omega) HMq0.out).mono ?_
      rintro e w18 ⟨rfl, hb⟩
      replace Hws := Lib.hid (Hws.out.bel hb)
      replace Hgs := Lib.hid (Hgs.out.bel hb)
      have hs18 := hb.size
      replace B := B.trans (hb.mono B.size)
      clear hb
      go_wp2_with fail
      refine (toRatS_c _ _ n0 E0 A0 (G0.out.below B) hk0).mono ?_
      rintro e w19 ⟨vz0, rfl, ho, hb⟩
      replace Hws := Lib.hid (Hws.out.bel hb)
      replace Hgs := Lib.hid (Hgs.out.bel hb)
      have hs19 := hb.size
      replace B := B.trans (hb.mono B.size)
      clear hb
      have Hz0 := Lib.hid ho
      clear ho
      go_wp2_with fail
      refine (toRatS_c _ _ n1 E1 A1 (G1.out.below B) hk1).mono ?_
      rintro e w20 ⟨vz1, rfl, ho, hb⟩
      replace Hws := Lib.hid (Hws.out.bel hb)
      replace Hgs := Lib.hid (Hgs.out.bel hb)
      replace Hz0 := Lib.hid (Hz0.out.bel hb)
      have hs20 := hb.size
      replace B := B.trans (hb.mono B.size)
      clear hb
      have Hz1 := Lib.hid ho
      clear ho
      go_wp2_with fail
      refine (K2.out _ _ _ _ _ _ _ Hz0.out Hz1.out).mono ?_
      rintro e w21 ⟨vfs, rfl, ho, hb⟩
      replace Hws := Lib.hid (Hws.out.bel hb)
      replace Hgs := Lib.hid (Hgs.out.bel hb)
      replace Hz0 := Lib.hid (Hz0.out.bel hb)
      replace Hz1 := Lib.hid (Hz1.out.bel hb)
      have hs21 := hb.size
      replace B := B.trans (hb.mono B.size)
      clear hb
      have Hfs := Lib.hid ho
      clear ho
      clear Hz0
      clear Hz1
      go_wp2_with fail
      refine (eqRatS_c _ m0 R0 Hfs.out Hws.out).mono ?_
      rintro e w22 ⟨rfl, hb⟩
      replace Hws := Lib.hid (Hws.out.bel hb)
      replace Hgs := Lib.hid (Hgs.out.bel hb)
      replace Hfs := Lib.hid (Hfs.out.bel hb)
      have hs22 := hb.size
      replace B := B.trans (hb.mono B.size)
      clear hb
      go_wp2_with fail
      refine (heldRatS_c _ w7.heap.size w8.heap.size _ m0 R0 1 q0 Hgs.out (by omega) (by omega) HMq0.out).mono ?_
      rintro e w23 ⟨rfl, hb⟩
      replace Hws := Lib.hid (Hws.out.bel hb)
      replace Hgs := Lib.hid (Hgs.out.bel hb)
      replace Hfs := Lib.hid (Hfs.out.bel hb)
      have hs23 := hb.size
      replace B := B.trans (hb.mono B.size)
      clear hb
      go_wp2
      go_ret
      exact retB rfl B

set_option maxRecDepth 100000 in
theorem lifted (os : Os) (started : os.Started) (H : Type) (enc : TypeId × Value → H) :
    ReturnsInHanded {} Try.checked os 9 .any (Rows.fnExactSubtractVectorsSpec.pre6 enc Try.prog Try.f9 Rows.fnExactSubtractVectorsRow.domain false) (Rows.fnExactSubtractVectorsSpec.post enc Try.prog Try.f9 false true false false) := by
  refine returnsInHanded_of_change (C := Try.checked) Try.own started (by kernel_rfl) Try.func9
    (ChangeSpec.witness6 (enc := enc) (C := Try.checked) false ⟨#[], #[.slice none 0 0, .slice none 0 0], []⟩ 8 (by kernel_rfl) (by kernel_rfl) (by kernel_rfl) (by kernel_rfl)) ?_
  intro W base args ds gs before hval0 hW hcnd _
  have hval : ∀ (j : Nat) t v, Try.f9.params[j]? = some t → args[j]? = some v → Value.okWide Try.prog W .any base t v := hval0
  have hW' := hW
  obtain ⟨p, q, hA0, hV, rfl, hfz, hnd⟩ := hW
  have hA : DataW.TrodAll enc Try.prog W 0 (fun _ => true) true Try.f9.params.toList args.toList ds p := hA0
  rw [Try.params9] at hA hval
  obtain ⟨v0, vs0, d0, ds0, p0, q0, hargs, rfl, rfl, h0, r0⟩ := trodAll_cons hA
  obtain ⟨v1, vs1, d1, ds1, p1, q1, rfl, rfl, rfl, h1, r1⟩ := trodAll_cons r0
  obtain ⟨rfl, rfl, rfl⟩ := trodAll_nil r1
  obtain rfl : args = #[v0, v1] := by cases args; simp_all
  obtain ⟨rfl, rfl⟩ := trodVars_none hV
  have lt0 : ∀ x ∈ p0, x.block < W.heap.size := by obtain ⟨m, hm⟩ := h0; exact DataW.trod_lt m _ _ _ hm
  have lt1 : ∀ x ∈ p1, x.block < W.heap.size := by obtain ⟨m, hm⟩ := h1; exact DataW.trod_lt m _ _ _ hm
  obtain ⟨n0, E0, A0, w0⟩ := rdV_of_trod (hval 0 22 v0 rfl rfl) h0
  obtain ⟨n1, E1, A1, w1⟩ := rdV_of_trod (hval 1 22 v1 rfl rfl) h1
  clear hA0 hval0
  refine (walk W v0 n0 E0 A0 w0 v1 n1 E1 A1 w1 (v2N qsub n0 A0 n1 A1) (v2R qsub A0 A1) (v2_sum n0 A0 n1 A1) (v2c qsub n0 A0 n1 A1)
    (fun w _ _ _ _ _ _ h k => sSubtractVectors_c w n0 A0 n1 A1 h k)
    (fun w _ _ _ _ _ _ h k => SubtractVectors_c w n0 A0 n1 A1 h k)).mono fun e W' ⟨he, bel⟩ => ?_
  subst he
  exact ⟨_, rfl, _, _, _, [], _, [], hW', trodAll_mk1 (shut_bool Try.underlying4 _), (trodAll_cons_mk (Below.trod Try.laidOut (by kernel_rfl) (of_decide_eq_true (by kernel_rfl)) h0 bel lt0) (trodAll_cons_mk (Below.trod Try.laidOut (by kernel_rfl) (of_decide_eq_true (by kernel_rfl)) h1 bel lt1) trodAll_mk0)), rfl, bel.frame _, fun h => by cases h⟩

theorem facts : joinedFacts Try.pinned.checked.prog 9 Try.f9 Rows.fnExactSubtractVectorsSpec Rows.fnExactSubtractVectorsRow = true := by
  unfold joinedFacts
  refine and_mk (and_mk (and_mk (and_mk (and_mk (and_mk (and_mk ?_ Try.mayEnter) ?_) ?_) ?_) ?_) ?_) ?_
  · kernel_rfl
  · rw [Try.liftsNone]; rfl
  · rw [Try.makeCut]; rfl
  · kernel_rfl
  · kernel_rfl
  · kernel_rfl
  · kernel_rfl

theorem proved : Rows.FnExactSubtractVectorsSaid :=
  OpenClaim.holds_of_wide 9 Try.f9 rfl rfl rfl rfl rfl rfl rfl ⟨rfl, rfl, rfl, rfl, rfl⟩ rfl rfl rfl rfl rfl (by as_aux_lemma => kernel_rfl) Try.func9 facts
    (of_decide_eq_true (by as_aux_lemma => kernel_rfl)) (by unfold Func.isWrapper; rw [if_neg (of_decide_eq_false (by as_aux_lemma => kernel_rfl))]; exact ⟨rfl, rfl⟩)
    (fun os started H enc _ => lifted os started H enc)

end Go.Proofs.Ytcmhpdhcpkhejaa.lawSubtractVectors
