/- FnExactSplitLines: the program's SplitLines answers what the reference's SplitLines answers, for every input; no condition. -/
import Derived.Test.YtfchcpahaapgdaaMarkS
import Derived.Test.YtfchcpahaapgdaaLines
import Derived.Test.YtfchcpahaapgdaaStrOpen
namespace Go.Proofs.Ytfchcpahaapgdaa.lawSplitLines
open Go.ChangeShapes Go.WideShapes Go.ChangeAt Go.RowKit Go.Proofs.Ytfchcpahaapgdaa

theorem apartS {w w' : World} {b : Nat} {v u : Value} {xs ys : List ByteArray} (h : OwnS w b v xs) (k : OwnS w' w.heap.size u ys) : v.ownBlock = none ∨ v.ownBlock ≠ u.ownBlock := by
  cases hv : v.ownBlock with
  | none => exact .inl rfl
  | some j =>
    refine .inr fun e => ?_
    have h1 := (h.lt j hv).2
    have h2 := (k.lt j e.symm).1
    omega

set_option maxHeartbeats 1000000 in
theorem walk (w : World) (s0 : ByteArray) (hs0 : s0.size ≤ 9223372036854775807) (xs : List ByteArray) (hx : s0.size ≤ 1048576 → xs.length ≤ 1048577)
    (C1 : ∀ (w : World), s0.size ≤ 1048576 → Calls Try.prog 19 #[.string s0] w (RetLS w xs))
    (C2 : ∀ (w : World), s0.size ≤ 1048576 → Calls Try.prog 20 #[.string s0] w (RetLS w xs)) :
    Calls Try.prog 7 #[.string s0] w (RetB w true) := by
  have K1 := Lib.hid C1
  have K2 := Lib.hid C2
  clear C1 C2
  by_cases hl0 : s0.size ≤ 1048576
  case neg =>
    have d0 : decide ((1048576 : Int) < s0.size) = true := decide_eq_true (by omega)
    go_enter Try.func7, Try.ntmps7
    go_wp2
    go_ret
    exact retB rfl (Below.refl _ _)
  case pos =>
    have d0 : decide ((1048576 : Int) < s0.size) = false := decide_eq_false (by omega)
    have hxl := hx hl0
    clear hx
    go_enter Try.func7, Try.ntmps7
    go_wp2_with fail
    refine (K1.out _ hl0).mono ?_
    rintro e w1 ⟨vw, rfl, ho, hb⟩
    have HW := Lib.hid ho
    have B := hb
    clear ho hb
    go_wp2_with fail
    refine (K2.out _ hl0).mono ?_
    rintro e w2 ⟨vg, rfl, ho, hb⟩
    have HAP := Lib.hid (apartS HW.out ho)
    replace HW := Lib.hid (HW.out.below hb (Nat.le_refl _))
    have HG := Lib.hid (ho.mono B.size)
    replace B := B.trans (hb.mono B.size)
    clear ho hb
    go_wp2_with fail
    refine (eqStringS_c _ _ _ vg vw xs HG.out HW.out).mono ?_
    rintro e w3 ⟨rfl, hb⟩
    replace HW := Lib.hid (HW.out.below hb (Nat.le_refl _))
    replace HG := Lib.hid (HG.out.below hb (Nat.le_refl _))
    replace B := B.trans (hb.mono B.size)
    clear hb
    go_wp2_with fail
    refine (markStringS_c _ _ vg xs 1 HG.out (by omega) (by omega) (by omega)).mono ?_
    rintro e w4 ⟨rfl, ho, hg⟩
    replace HW := Lib.hid (HW.out.grown hg HAP.out)
    replace B := HG.out.grownBelow B hg (Nat.le_refl _) B.size
    replace HG := Lib.hid ho
    clear ho hg
    go_wp2_with fail
    refine (heldStringS_c _ _ vg xs.length 1 HG.out (by omega) (by omega) (by omega)).mono ?_
    rintro e w5 ⟨rfl, hb⟩
    replace HW := Lib.hid (HW.out.below hb (Nat.le_refl _))
    replace HG := Lib.hid (HG.out.below hb (Nat.le_refl _))
    replace B := B.trans (hb.mono B.size)
    clear hb
    go_wp2_with fail
    refine (K2.out _ hl0).mono ?_
    rintro e w6 ⟨vh, rfl, ho, hb⟩
    replace HW := Lib.hid (HW.out.below hb (Nat.le_refl _))
    replace HG := Lib.hid (HG.out.below hb (Nat.le_refl _))
    have HH := Lib.hid ho
    replace B := B.trans (hb.mono B.size)
    clear ho hb
    go_wp2_with fail
    refine (eqStringS_c _ _ _ vh vw xs HH.out HW.out).mono ?_
    rintro e w7 ⟨rfl, hb⟩
    replace HG := Lib.hid (HG.out.below hb (Nat.le_refl _))
    replace B := B.trans (hb.mono B.size)
    clear hb HH HW
    go_wp2_with fail
    refine (heldStringS_c _ _ vg xs.length 1 HG.out (by omega) (by omega) (by omega)).mono ?_
    rintro e w8 ⟨rfl, hb⟩
    replace B := B.trans (hb.mono B.size)
    clear hb
    go_wp2
    go_ret
    exact retB rfl B

set_option maxRecDepth 100000 in
theorem lifted (os : Os) (started : os.Started) (H : Type) (enc : TypeId × Value → H) :
    ReturnsInHanded {} Try.checked os 7 .any (Rows.fnExactSplitLinesSpec.pre6 enc Try.prog Try.f7 Rows.fnExactSplitLinesRow.domain false) (Rows.fnExactSplitLinesSpec.post enc Try.prog Try.f7 false true false false) := by
  refine returnsInHanded_of_change (C := Try.checked) Try.own started (by kernel_rfl) Try.func7
    (ChangeSpec.witness6 (enc := enc) (C := Try.checked) false ⟨#[], #[.string ByteArray.empty], []⟩ 8 (by kernel_rfl) (by kernel_rfl) (by kernel_rfl) (by kernel_rfl)) ?_
  intro W base args ds gs before hval0 hW hcnd _
  have hval : ∀ (j : Nat) t v, Try.f7.params[j]? = some t → args[j]? = some v → Value.okWide Try.prog W .any base t v := hval0
  have hW' := hW
  obtain ⟨p, q, hA0, hV, rfl, hfz, hnd⟩ := hW
  have hA : DataW.TrodAll enc Try.prog W 0 (fun _ => true) true Try.f7.params.toList args.toList ds p := hA0
  rw [Try.params7] at hA hval
  obtain ⟨v0, vs0, d0, ds0, p0, q0, hargs, rfl, rfl, h0, r0⟩ := trodAll_cons hA
  obtain ⟨rfl, rfl, rfl⟩ := trodAll_nil r0
  obtain rfl : args = #[v0] := by cases args; simp_all
  obtain ⟨rfl, rfl⟩ := trodVars_none hV
  have lt0 : ∀ x ∈ p0, x.block < W.heap.size := by obtain ⟨m, hm⟩ := h0; exact DataW.trod_lt m _ _ _ hm
  obtain ⟨s0, rfl, hs0⟩ := str_of_trod (hval 0 9 v0 rfl rfl) h0
  clear hA0 hval0
  refine (walk W s0 hs0 (lns s0) (fun h0 => Nat.le_trans (lns_len s0) (by omega))
    (fun w h0 => sSplitLines_c w s0 _ rfl h0)
    (fun w h0 => splitLines_c w s0 _ rfl h0)).mono fun e W' ⟨he, bel⟩ => ?_
  subst he
  exact ⟨_, rfl, _, _, _, [], _, [], hW', trodAll_mk1 (shut_bool Try.underlying4 _), (trodAll_cons_mk (Below.trod Try.laidOut (by kernel_rfl) (of_decide_eq_true (by kernel_rfl)) h0 bel lt0) trodAll_mk0), rfl, bel.frame _, fun h => by cases h⟩

theorem facts : joinedFacts Try.pinned.checked.prog 7 Try.f7 Rows.fnExactSplitLinesSpec Rows.fnExactSplitLinesRow = true := by
  unfold joinedFacts
  refine and_mk (and_mk (and_mk (and_mk (and_mk (and_mk (and_mk ?_ Try.mayEnter) ?_) ?_) ?_) ?_) ?_) ?_
  · kernel_rfl
  · rw [Try.liftsNone]; rfl
  · rw [Try.makeCut]; rfl
  · kernel_rfl
  · kernel_rfl
  · kernel_rfl
  · kernel_rfl

theorem proved : Rows.FnExactSplitLinesSaid :=
  OpenClaim.holds_of_wide 7 Try.f7 rfl rfl rfl rfl rfl rfl rfl ⟨rfl, rfl, rfl, rfl, rfl⟩ rfl rfl rfl rfl rfl (by as_aux_lemma => kernel_rfl) Try.func7 facts
    (of_decide_eq_true (by as_aux_lemma => kernel_rfl)) (by unfold Func.isWrapper; rw [if_neg (of_decide_eq_false (by as_aux_lemma => kernel_rfl))]; exact ⟨rfl, rfl⟩)
    (fun os started H enc _ => lifted os started H enc)

end Go.Proofs.Ytfchcpahaapgdaa.lawSplitLines
