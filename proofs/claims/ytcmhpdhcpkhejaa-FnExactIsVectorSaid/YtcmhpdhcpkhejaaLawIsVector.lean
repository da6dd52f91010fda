/- FnExactIsVector: the program's IsVector answers what the reference's IsVector answers, for every input; no condition. -/
import Derived.Test.YtcmhpdhcpkhejaaVecL
import Derived.Test.YtcmhpdhcpkhejaaVecO
namespace Go.Proofs.Ytcmhpdhcpkhejaa.lawIsVector
open Go.ChangeShapes Go.WideShapes Go.ChangeAt Go.RowKit Lm Go.Proofs.Ytcmhpdhcpkhejaa

set_option maxHeartbeats 4000000 in
set_option maxRecDepth 100000 in
theorem walk (w : World) (v0 : Value) (n0 : Nat) (E0 : Nat → Ent) (A0 : Nat → Rc) (h0 : RdV w v0 n0 E0 A0) (c0 : Bool)
    (C1 : ∀ (w : World) (lo0 hi0 : Nat) (u0 : Value), Vec w lo0 hi0 u0 n0 A0 → Calls Try.prog 22 #[u0] w (RetB w c0))
    (C2 : ∀ (w : World) (lo0 hi0 : Nat) (u0 : Value), Vec w lo0 hi0 u0 n0 A0 → Calls Try.prog 23 #[u0] w (RetB w c0)) :
    Calls Try.prog 6 #[v0] w (RetB w true) := by
  have G0 := Lib.hid h0
  have K1 := Lib.hid C1
  have K2 := Lib.hid C2
  clear h0 C1 C2
  have B := Below.refl w.heap.size w
  go_enter Try.func6, Try.ntmps6
  go_wp2_with fail
  refine (szRatS_c _ _ n0 E0 A0 1048576 (G0.out.below B) (by omega) (by omega)).mono ?_
  rintro e w1 ⟨l0, rfl, hl0, hm, hb⟩
  have HL0 := Lib.hid hm
  clear hm
  have hs1 := hb.size
  replace B := B.trans (hb.mono B.size)
  clear hb
  by_cases hz0 : l0 < 0
  case pos =>
    go_wp2
    go_ret
    exact retB rfl B
  case neg =>
    have dl0 : decide (l0 < 0) = false := decide_eq_false hz0
    have hk0 : sumK A0 0 n0 ≤ 1048576 := by have := HL0.out (by omega); omega
    have hl00 : 0 ≤ l0 := by omega
    clear hz0
    go_wp2_with fail
    refine (toRatS_c _ _ n0 E0 A0 (G0.out.below B) hk0).mono ?_
    rintro e w2 ⟨vy0, rfl, ho, hb⟩
    have hs2 := hb.size
    replace B := B.trans (hb.mono B.size)
    clear hb
    have Hy0 := Lib.hid ho
    clear ho
    go_wp2_with fail
    refine (K1.out _ _ _ _ Hy0.out).mono ?_
    rintro e w3 ⟨rfl, hb⟩
    replace Hy0 := Lib.hid (Hy0.out.bel hb)
    have hs3 := hb.size
    replace B := B.trans (hb.mono B.size)
    clear hb
    clear Hy0
    go_wp2_with fail
    refine (toRatS_c _ _ n0 E0 A0 (G0.out.below B) hk0).mono ?_
    rintro e w4 ⟨vx0, rfl, ho, hb⟩
    have hs4 := hb.size
    replace B := B.trans (hb.mono B.size)
    clear hb
    have Hx0 := Lib.hid ho
    clear ho
    go_wp2_with fail
    refine (K2.out _ _ _ _ Hx0.out).mono ?_
    rintro e w5 ⟨rfl, hb⟩
    replace Hx0 := Lib.hid (Hx0.out.bel hb)
    have hs5 := hb.size
    replace B := B.trans (hb.mono B.size)
    clear hb
    go_wp2_with fail
    refine (toRatS_c _ _ n0 E0 A0 (G0.out.below B) hk0).mono ?_
    rintro e w6 ⟨vq0, rfl, ho, hb⟩
    replace Hx0 := Lib.hid (Hx0.out.bel hb)
    have hs6 := hb.size
    replace B := B.trans (hb.mono B.size)
    clear hb
    have Hq0 := Lib.hid ho
    clear ho
    go_wp2_with fail
    refine (eqRatS_c _ n0 A0 Hx0.out Hq0.out).mono ?_
    rintro e w7 ⟨rfl, hb⟩
    replace Hx0 := Lib.hid (Hx0.out.bel hb)
    replace Hq0 := Lib.hid (Hq0.out.bel hb)
    have hs7 := hb.size
    replace B := B.trans (hb.mono B.size)
    clear hb
    clear Hq0
    go_wp2
    go_ret
    exact retB rfl B

set_option maxRecDepth 100000 in
theorem lifted (os : Os) (started : os.Started) (H : Type) (enc : TypeId × Value → H) :
    ReturnsInHanded {} Try.checked os 6 .any (Rows.fnExactIsVectorSpec.pre6 enc Try.prog Try.f6 Rows.fnExactIsVectorRow.domain false) (Rows.fnExactIsVectorSpec.post enc Try.prog Try.f6 false true false false) := by
  refine returnsInHanded_of_change (C := Try.checked) Try.own started (by kernel_rfl) Try.func6
    (ChangeSpec.witness6 (enc := enc) (C := Try.checked) false ⟨#[], #[.slice none 0 0], []⟩ 8 (by kernel_rfl) (by kernel_rfl) (by kernel_rfl) (by kernel_rfl)) ?_
  intro W base args ds gs before hval0 hW hcnd _
  have hval : ∀ (j : Nat) t v, Try.f6.params[j]? = some t → args[j]? = some v → Value.okWide Try.prog W .any base t v := hval0
  have hW' := hW
  obtain ⟨p, q, hA0, hV, rfl, hfz, hnd⟩ := hW
  have hA : DataW.TrodAll enc Try.prog W 0 (fun _ => true) true Try.f6.params.toList args.toList ds p := hA0
  rw [Try.params6] at hA hval
  obtain ⟨v0, vs0, d0, ds0, p0, q0, hargs, rfl, rfl, h0, r0⟩ := trodAll_cons hA
  obtain ⟨rfl, rfl, rfl⟩ := trodAll_nil r0
  obtain rfl : args = #[v0] := by cases args; simp_all
  obtain ⟨rfl, rfl⟩ := trodVars_none hV
  have lt0 : ∀ x ∈ p0, x.block < W.heap.size := by obtain ⟨m, hm⟩ := h0; exact DataW.trod_lt m _ _ _ hm
  obtain ⟨n0, E0, A0, w0⟩ := rdV_of_trod (hval 0 22 v0 rfl rfl) h0
  clear hA0 hval0
  refine (walk W v0 n0 E0 A0 w0 (okVB n0 A0)
    (fun w lo hi u h => sIsVector_c w n0 A0 h)
    (fun w lo hi u h => IsVector_c w n0 A0 h)).mono fun e W' ⟨he, bel⟩ => ?_
  subst he
  exact ⟨_, rfl, _, _, _, [], _, [], hW', trodAll_mk1 (shut_bool Try.underlying4 _), (trodAll_cons_mk (Below.trod Try.laidOut (by kernel_rfl) (of_decide_eq_true (by kernel_rfl)) h0 bel lt0) trodAll_mk0), rfl, bel.frame _, fun h => by cases h⟩

theorem facts : joinedFacts Try.pinned.checked.prog 6 Try.f6 Rows.fnExactIsVectorSpec Rows.fnExactIsVectorRow = true := by
  unfold joinedFacts
  refine and_mk (and_mk (and_mk (and_mk (and_mk (and_mk (and_mk ?_ Try.mayEnter) ?_) ?_) ?_) ?_) ?_) ?_
  · kernel_rfl
  · rw [Try.liftsNone]; rfl
  · rw [Try.makeCut]; rfl
  · kernel_rfl
  · kernel_rfl
  · kernel_rfl
  · kernel_rfl

theorem proved : Rows.FnExactIsVectorSaid :=
  OpenClaim.holds_of_wide 6 Try.f6 rfl rfl rfl rfl rfl rfl rfl ⟨rfl, rfl, rfl, rfl, rfl⟩ rfl rfl rfl rfl rfl (by as_aux_lemma => kernel_rfl) Try.func6 facts
    (of_decide_eq_true (by as_aux_lemma => kernel_rfl)) (by unfold Func.isWrapper; rw [if_neg (of_decide_eq_false (by as_aux_lemma => kernel_rfl))]; exact ⟨rfl, rfl⟩)
    (fun os started H enc _ => lifted os started H enc)

end Go.Proofs.Ytcmhpdhcpkhejaa.lawIsVector
