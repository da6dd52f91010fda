/- FnExactEqualVectors: the program's EqualVectors answers what the reference's EqualVectors answers, for every input; no condition. -/
import Derived.Test.YtcmhpdhcpkhejaaVecL
import Derived.Test.YtcmhpdhcpkhejaaVecO
namespace Go.Proofs.Ytcmhpdhcpkhejaa.lawEqualVectors
open Go.ChangeShapes Go.WideShapes Go.ChangeAt Go.RowKit Lm Go.Proofs.Ytcmhpdhcpkhejaa

set_option maxHeartbeats 4000000 in
set_option maxRecDepth 100000 in
theorem walk (w : World) (v0 : Value) (n0 : Nat) (E0 : Nat → Ent) (A0 : Nat → Rc) (h0 : RdV w v0 n0 E0 A0) (v1 : Value) (n1 : Nat) (E1 : Nat → Ent) (A1 : Nat → Rc) (h1 : RdV w v1 n1 E1 A1) (c0 : Bool)
    (C1 : ∀ (w : World) (lo0 hi0 : Nat) (u0 : Value) (lo1 hi1 : Nat) (u1 : Value), Vec w lo0 hi0 u0 n0 A0 → Vec w lo1 hi1 u1 n1 A1 → Calls Try.prog 12 #[u0, u1] w (RetB w c0))
    (C2 : ∀ (w : World) (lo0 hi0 : Nat) (u0 : Value) (lo1 hi1 : Nat) (u1 : Value), Vec w lo0 hi0 u0 n0 A0 → Vec w lo1 hi1 u1 n1 A1 → Calls Try.prog 14 #[u0, u1] w (RetB w c0)) :
    Calls Try.prog 3 #[v0, v1] w (RetB w true) := by
  have G0 := Lib.hid h0
  have G1 := Lib.hid h1
  have K1 := Lib.hid C1
  have K2 := Lib.hid C2
  clear h0 h1 C1 C2
  have B := Below.refl w.heap.size w
  go_enter Try.func3, Try.ntmps3
  go_wp2_with fail
  refine (szRatS_c _ _ n0 E0 A0 1048576 (G0.out.below B) (by omega) (by omega)).mono ?_
  rintro e w1 ⟨l0, rfl, hl0, hm, hb⟩
  have HL0 := Lib.hid hm
  clear hm
  have hs1 := hb.size
  replace B := B.trans (hb.mono B.size)
  clear hb
  by_cases hz0 : l0 < 0
  case pos =>
    go_wp2
    go_ret
    exact retB rfl B
  case neg =>
    have dl0 : decide (l0 < 0) = false := decide_eq_false hz0
    have hk0 : sumK A0 0 n0 ≤ 1048576 := by have := HL0.out (by omega); omega
    have hl00 : 0 ≤ l0 := by omega
    clear hz0
    go_wp2_with fail
    refine (szRatS_c _ _ n1 E1 A1 l0 (G1.out.below B) (by omega) (by omega)).mono ?_
    rintro e w2 ⟨l1, rfl, hl1, hm, hb⟩
    have HL1 := Lib.hid hm
    clear hm
    have hs2 := hb.size
    replace B := B.trans (hb.mono B.size)
    clear hb
    by_cases hz1 : l1 < 0
    case pos =>
      go_wp2
      go_ret
      exact retB rfl B
    case neg =>
      have dl1 : decide (l1 < 0) = false := decide_eq_false hz1
      have hk1 : sumK A1 0 n1 ≤ 1048576 := by have := HL1.out (by omega); omega
      have hl01 : 0 ≤ l1 := by omega
      clear hz1
      go_wp2_with fail
      refine (toRatS_c _ _ n0 E0 A0 (G0.out.below B) hk0).mono ?_
      rintro e w3 ⟨vy0, rfl, ho, hb⟩
      have hs3 := hb.size
      replace B := B.trans (hb.mono B.size)
      clear hb
      have Hy0 := Lib.hid ho
      clear ho
      go_wp2_with fail
      refine (toRatS_c _ _ n1 E1 A1 (G1.out.below B) hk1).mono ?_
      rintro e w4 ⟨vy1, rfl, ho, hb⟩
      replace Hy0 := Lib.hid (Hy0.out.bel hb)
      have hs4 := hb.size
      replace B := B.trans (hb.mono B.size)
      clear hb
      have Hy1 := Lib.hid ho
      clear ho
      go_wp2_with fail
      refine (K1.out _ _ _ _ _ _ _ Hy0.out Hy1.out).mono ?_
      rintro e w5 ⟨rfl, hb⟩
      replace Hy0 := Lib.hid (Hy0.out.bel hb)
      replace Hy1 := Lib.hid (Hy1.out.bel hb)
      have hs5 := hb.size
      replace B := B.trans (hb.mono B.size)
      clear hb
      clear Hy0
      clear Hy1
      go_wp2_with fail
      refine (toRatS_c _ _ n0 E0 A0 (G0.out.below B) hk0).mono ?_
      rintro e w6 ⟨vx0, rfl, ho, hb⟩
      have hs6 := hb.size
      replace B := B.trans (hb.mono B.size)
      clear hb
      have Hx0 := Lib.hid ho
      clear ho
      go_wp2_with fail
      refine (toRatS_c _ _ n1 E1 A1 (G1.out.below B) hk1).mono ?_
      rintro e w7 ⟨vx1, rfl, ho, hb⟩
      replace Hx0 := Lib.hid (Hx0.out.bel hb)
      have hs7 := hb.size
      replace B := B.trans (hb.mono B.size)
      clear hb
      have Hx1 := Lib.hid ho
      clear ho
      go_wp2_with fail
      refine (K2.out _ _ _ _ _ _ _ Hx0.out Hx1.out).mono ?_
      rintro e w8 ⟨rfl, hb⟩
      replace Hx0 := Lib.hid (Hx0.out.bel hb)
      replace Hx1 := Lib.hid (Hx1.out.bel hb)
      have hs8 := hb.size
      replace B := B.trans (hb.mono B.size)
      clear hb
      go_wp2_with fail
      refine (toRatS_c _ _ n0 E0 A0 (G0.out.below B) hk0).mono ?_
      rintro e w9 ⟨vq0, rfl, ho, hb⟩
      replace Hx0 := Lib.hid (Hx0.out.bel hb)
      replace Hx1 := Lib.hid (Hx1.out.bel hb)
      have hs9 := hb.size
      replace B := B.trans (hb.mono B.size)
      clear hb
      have Hq0 := Lib.hid ho
      clear ho
      go_wp2_with fail
      refine (eqRatS_c _ n0 A0 Hx0.out Hq0.out).mono ?_
      rintro e w10 ⟨rfl, hb⟩
      replace Hx0 := Lib.hid (Hx0.out.bel hb)
      replace Hx1 := Lib.hid (Hx1.out.bel hb)
      replace Hq0 := Lib.hid (Hq0.out.bel hb)
      have hs10 := hb.size
      replace B := B.trans (hb.mono B.size)
      clear hb
      clear Hq0
      go_wp2_with fail
      refine (toRatS_c _ _ n1 E1 A1 (G1.out.below B) hk1).mono ?_
      rintro e w11 ⟨vq1, rfl, ho, hb⟩
      replace Hx0 := Lib.hid (Hx0.out.bel hb)
      replace Hx1 := Lib.hid (Hx1.out.bel hb)
      have hs11 := hb.size
      replace B := B.trans (hb.mono B.size)
      clear hb
      have Hq1 := Lib.hid ho
      clear ho
      go_wp2_with fail
      refine (eqRatS_c _ n1 A1 Hx1.out Hq1.out).mono ?_
      rintro e w12 ⟨rfl, hb⟩
      replace Hx0 := Lib.hid (Hx0.out.bel hb)
      replace Hx1 := Lib.hid (Hx1.out.bel hb)
      replace Hq1 := Lib.hid (Hq1.out.bel hb)
      have hs12 := hb.size
      replace B := B.trans (hb.mono B.size)
      clear hb
      clear Hq1
      go_wp2
      go_ret
      exact retB rfl B

set_option maxRecDepth 100000 in
theorem lifted (os : Os) (started : os.Started) (H : Type) (enc : TypeId × Value → H) :
    ReturnsInHanded {} Try.checked os 3 .any (Rows.fnExactEqualVectorsSpec.pre6 enc Try.prog Try.f3 Rows.fnExactEqualVectorsRow.domain false) (Rows.fnExactEqualVectorsSpec.post enc Try.prog Try.f3 false true false false) := by
  refine returnsInHanded_of_change (C := Try.checked) Try.own started (by kernel_rfl) Try.func3
    (ChangeSpec.witness6 (enc := enc) (C := Try.checked) false ⟨#[], #[.slice none 0 0, .slice none 0 0], []⟩ 8 (by kernel_rfl) (by kernel_rfl) (by kernel_rfl) (by kernel_rfl)) ?_
  intro W base args ds gs before hval0 hW hcnd _
  have hval : ∀ (j : Nat) t v, Try.f3.params[j]? = some t → args[j]? = some v → Value.okWide Try.prog W .any base t v := hval0
  have hW' := hW
  obtain ⟨p, q, hA0, hV, rfl, hfz, hnd⟩ := hW
  have hA : DataW.TrodAll enc Try.prog W 0 (fun _ => true) true Try.f3.params.toList args.toList ds p := hA0
  rw [Try.params3] at hA hval
  obtain ⟨v0, vs0, d0, ds0, p0, q0, hargs, rfl, rfl, h0, r0⟩ := trodAll_cons hA
  obtain ⟨v1, vs1, d1, ds1, p1, q1, rfl, rfl, rfl, h1, r1⟩ := trodAll_cons r0
  obtain ⟨rfl, rfl, rfl⟩ := trodAll_nil r1
  obtain rfl : args = #[v0, v1] := by cases args; simp_all
  obtain ⟨rfl, rfl⟩ := trodVars_none hV
  have lt0 : ∀ x ∈ p0, x.block < W.heap.size := by obtain ⟨m, hm⟩ := h0; exact DataW.trod_lt m _ _ _ hm
  have lt1 : ∀ x ∈ p1, x.block < W.heap.size := by obtain ⟨m, hm⟩ := h1; exact DataW.trod_lt m _ _ _ hm
  obtain ⟨n0, E0, A0, w0⟩ := rdV_of_trod (hval 0 22 v0 rfl rfl) h0
  obtain ⟨n1, E1, A1, w1⟩ := rdV_of_trod (hval 1 22 v1 rfl rfl) h1
  clear hA0 hval0
  refine (walk W v0 n0 E0 A0 w0 v1 n1 E1 A1 w1 (eqVB n0 A0 n1 A1)
    (fun w _ _ _ _ _ _ h k => sEqualVectors_c w n0 A0 n1 A1 h k)
    (fun w _ _ _ _ _ _ h k => EqualVectors_c w n0 A0 n1 A1 h k)).mono fun e W' ⟨he, bel⟩ => ?_
  subst he
  exact ⟨_, rfl, _, _, _, [], _, [], hW', trodAll_mk1 (shut_bool Try.underlying4 _), (trodAll_cons_mk (Below.trod Try.laidOut (by kernel_rfl) (of_decide_eq_true (by kernel_rfl)) h0 bel lt0) (trodAll_cons_mk (Below.trod Try.laidOut (by kernel_rfl) (of_decide_eq_true (by kernel_rfl)) h1 bel lt1) trodAll_mk0)), rfl, bel.frame _, fun h => by cases h⟩

theorem facts : joinedFacts Try.pinned.checked.prog 3 Try.f3 Rows.fnExactEqualVectorsSpec Rows.fnExactEqualVectorsRow = true := by
  unfold joinedFacts
  refine and_mk (and_mk (and_mk (and_mk (and_mk (and_mk (and_mk ?_ Try.mayEnter) ?_) ?_) ?_) ?_) ?_) ?_
  · kernel_rfl
  · rw [Try.liftsNone]; rfl
  · rw [Try.makeCut]; rfl
  · kernel_rfl
  · kernel_rfl
  · kernel_rfl
  · kernel_rfl

theorem proved : Rows.FnExactEqualVectorsSaid :=
  OpenClaim.holds_of_wide 3 Try.f3 rfl rfl rfl rfl rfl rfl rfl ⟨rfl, rfl, rfl, rfl, rfl⟩ rfl rfl rfl rfl rfl (by as_aux_lemma => kernel_rfl) Try.func3 facts
    (of_decide_eq_true (by as_aux_lemma => kernel_rfl)) (by unfold Func.isWrapper; rw [if_neg (of_decide_eq_false (by as_aux_lemma => kernel_rfl))]; exact ⟨rfl, rfl⟩)
    (fun os started H enc _ => lifted os started H enc)

end Go.Proofs.Ytcmhpdhcpkhejaa.lawEqualVectors
