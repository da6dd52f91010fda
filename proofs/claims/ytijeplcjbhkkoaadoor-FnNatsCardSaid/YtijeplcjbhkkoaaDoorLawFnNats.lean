/- FnNats: division with remainder and greatest common divisors of natural numbers are exact; for every input. -/
import Derived.Test.YtijeplcjbhkkoaaDoorMakeW
import Derived.Test.YtijeplcjbhkkoaaDoorFnP
import Derived.Test.YtijeplcjbhkkoaaDoorOpenY
namespace Go.Proofs.YtijeplcjbhkkoaaDoor.lawFnNats
open Go.ChangeShapes Go.WideShapes Go.ChangeAt Go.RowKit Lm Go.Proofs.YtijeplcjbhkkoaaDoor

set_option maxHeartbeats 4000000 in
set_option maxRecDepth 100000 in
theorem walk (w : World) (v0 : Value) (x0 : List UInt8) (h0 : RdY0 w v0 x0) (ht : Tabs w) (_he : Errs w) :
    Calls Tryd.prog 4 #[v0] w (RetB w true) := by
  have HT := Lib.hid ht
  obtain ⟨ao, cap, rfl, hr⟩ := h0
  clear ht _he
  by_cases hl : x0.length ≤ 1048576
  case neg =>
    have d0 : decide ((1048576 : Int) < x0.length) = true := decide_eq_true (by omega)
    go_enter Tryd.func4, Tryd.ntmps4
    go_wp2
    go_ret
    exact retB rfl (Below.refl _ _)
  case pos =>
    have d0 : decide ((1048576 : Int) < x0.length) = false := decide_eq_false (by omega)
    have HR := Lib.hid (hr hl)
    have B := Below.refl w.heap.size w
    clear hr
    go_enter Tryd.func4, Tryd.ntmps4
    go_wp2_with fail
    refine (makeNat_c _ _ x0 1 (HR.out.top B.size B) (by omega)).mono ?_
    rintro e w1 ⟨a, ha3, va, rfl, ho, hb⟩
    have Ha := Lib.hid ho
    clear ho
    replace B := B.trans (hb.mono B.size)
    clear hb
    go_wp2_with fail
    refine (makeNat_c _ _ x0 9 (HR.out.top B.size B) (by omega)).mono ?_
    rintro e w2 ⟨b, hb3, vb, rfl, ho, hb⟩
    replace Ha := Lib.hid (Ha.out.below hb (Nat.le_refl _))
    have Hb := Lib.hid ho
    clear ho
    replace B := B.trans (hb.mono B.size)
    clear hb
    have ka := lg60 ha3
    have kb := lg60 hb3
    clear ha3 hb3
    obtain ⟨bo, bc, hvb, -, -, -, -, -⟩ := Hb.out.form
    obtain ⟨t, hT⟩ : ∃ t, t = fNs (limbs a) := ⟨_, rfl⟩
    have PT := Lib.hid hT
    clear hT
    obtain ⟨k, hk⟩ : ∃ k : Nat, k = 12 := ⟨_, rfl⟩
    have PK := Lib.hid hk
    clear hk
    obtain ⟨g, hg⟩ : ∃ g, g = Nat.gcd a b := ⟨_, rfl⟩
    have PG := Lib.hid hg
    clear hg
    by_cases hb0 : b = 0
    case pos =>
      rw [show (limbs b).length = 0 by rw [hb0, limbs_zero]; rfl] at hvb
      subst hvb
      have P0 := Lib.hid hb0
      clear hb0
      go_wp2_with fail
      refine (div_0 _ _ _ _ _ a b Ha.out Hb.out P0.out).mono ?_
      rintro e w3 ⟨vq, vr, rfl, ho1, ho2, -, hb⟩
      replace Ha := Lib.hid (Ha.out.below hb (Nat.le_refl _))
      replace Hb := Lib.hid (Hb.out.below hb (Nat.le_refl _))
      obtain ⟨qo, qc, rfl, -, -, -, -, -⟩ := ho1.form
      obtain ⟨ro, rc, rfl, -, -, -, -, -⟩ := ho2.form
      clear ho1 ho2
      replace B := B.trans (hb.mono B.size)
      clear hb
      go_wp2_with fail
      refine (gcd_n _ _ _ _ _ a b Ha.out Hb.out ka kb g PG.out).mono ?_
      rintro e w4 ⟨vg, rfl, ho, hb⟩
      replace Ha := Lib.hid (Ha.out.below hb (Nat.le_refl _))
      replace Hb := Lib.hid (Hb.out.below hb (Nat.le_refl _))
      have Hg := Lib.hid ho
      clear ho
      replace B := B.trans (hb.mono B.size)
      clear hb
      go_wp2_with fail
      refine (format_n _ _ _ a Ha.out (HT.out.below B (Nat.le_refl _)) t PT.out).mono ?_
      rintro e w5 ⟨rfl, hb⟩
      replace Ha := Lib.hid (Ha.out.below hb (Nat.le_refl _))
      replace Hb := Lib.hid (Hb.out.below hb (Nat.le_refl _))
      replace Hg := Lib.hid (Hg.out.below hb (Nat.le_refl _))
      replace B := B.trans (hb.mono B.size)
      clear hb
      go_wp2_with fail
      refine (parse_n _ a ka t PT.out).mono ?_
      rintro e w6 ⟨vx, rfl, ho, hb⟩
      replace Ha := Lib.hid (Ha.out.below hb (Nat.le_refl _))
      replace Hb := Lib.hid (Hb.out.below hb (Nat.le_refl _))
      replace Hg := Lib.hid (Hg.out.below hb (Nat.le_refl _))
      have Hx := Lib.hid ho
      clear ho
      replace B := B.trans (hb.mono B.size)
      clear hb
      go_wp2_with fail
      refine (cmp_same _ _ _ _ _ a Hx.out Ha.out).mono ?_
      rintro e w7 ⟨rfl, hb⟩
      replace Ha := Lib.hid (Ha.out.below hb (Nat.le_refl _))
      replace Hb := Lib.hid (Hb.out.below hb (Nat.le_refl _))
      replace Hg := Lib.hid (Hg.out.below hb (Nat.le_refl _))
      replace Hx := Lib.hid (Hx.out.below hb (Nat.le_refl _))
      replace B := B.trans (hb.mono B.size)
      clear hb
      go_wp2_with fail
      refine (of_12 _ k PK.out).mono ?_
      rintro e w8 ⟨vk, rfl, ho, hb⟩
      replace Ha := Lib.hid (Ha.out.below hb (Nat.le_refl _))
      replace Hb := Lib.hid (Hb.out.below hb (Nat.le_refl _))
      replace Hg := Lib.hid (Hg.out.below hb (Nat.le_refl _))
      replace Hx := Lib.hid (Hx.out.below hb (Nat.le_refl _))
      have Hk := Lib.hid ho
      clear ho
      replace B := B.trans (hb.mono B.size)
      clear hb
      go_wp2_with fail
      refine (format_12 _ _ _ k PK.out Hk.out (HT.out.below B (Nat.le_refl _))).mono ?_
      rintro e w9 ⟨rfl, hb⟩
      replace Ha := Lib.hid (Ha.out.below hb (Nat.le_refl _))
      replace Hb := Lib.hid (Hb.out.below hb (Nat.le_refl _))
      replace Hg := Lib.hid (Hg.out.below hb (Nat.le_refl _))
      replace Hx := Lib.hid (Hx.out.below hb (Nat.le_refl _))
      replace Hk := Lib.hid (Hk.out.below hb (Nat.le_refl _))
      replace B := B.trans (hb.mono B.size)
      clear hb
      go_wp2
      go_ret
      exact retB rfl B
    case neg =>
      have hbp : 0 < b := by omega
      have hl0 : 0 < (limbs b).length := by rcases Nat.eq_zero_or_pos (limbs b).length with h | h; (have h2 := nv_limbs b; rw [List.length_eq_zero_iff.1 h, nv_nil] at h2; omega); exact h
      obtain ⟨n, hn⟩ : ∃ n, n = (limbs b).length := ⟨_, rfl⟩
      rw [← hn] at hvb hl0
      subst hvb
      have hn0 : ((n : Int) == 0) = false := beq_false_of_ne (by omega)
      clear hn hl0 hb0
      obtain ⟨n1, n2, n3, n4, n5⟩ := nlaw (a := a) hbp
      obtain ⟨q, hq⟩ : ∃ q, q = a / b := ⟨_, rfl⟩
      obtain ⟨r, hr⟩ : ∃ r, r = a % b := ⟨_, rfl⟩
      obtain ⟨p, hp⟩ : ∃ p, p = q * b := ⟨_, rfl⟩
      rw [← hq] at n1 n5
      rw [← hr] at n1 n2
      rw [← hp] at n1 n5
      rw [← PG.out] at n3 n4
      have kp : (limbs p).length ≤ 60 := len_mono ka n5
      have kr : (limbs r).length ≤ 60 := len_mono kb (by omega)
      have kq : (limbs q).length ≤ 60 := len_mono ka (by rw [hq]; exact Nat.div_le_self a b)
      have kg : (limbs g).length ≤ 60 := len_mono kb (Nat.le_of_dvd hbp (by rw [PG.out]; exact Nat.gcd_dvd_right a b))
      have Phq := Lib.hid hq
      have Phr := Lib.hid hr
      have Php := Lib.hid hp
      have Pn1 := Lib.hid n1
      have Pn2 := Lib.hid n2
      have Pn3 := Lib.hid n3
      have Pn4 := Lib.hid n4
      have Phbp := Lib.hid hbp
      clear hq hr hp n1 n2 n3 n4 n5 hbp
      go_wp2_with fail
      refine (div_n _ _ _ _ _ a b Ha.out Hb.out ka kb Phbp.out q r Phq.out Phr.out).mono ?_
      rintro e w3 ⟨vq, vr, rfl, ho1, ho2, -, hb⟩
      replace Ha := Lib.hid (Ha.out.below hb (Nat.le_refl _))
      replace Hb := Lib.hid (Hb.out.below hb (Nat.le_refl _))
      have Hq := Lib.hid ho1
      clear ho1
      have Hr := Lib.hid ho2
      clear ho2
      replace B := B.trans (hb.mono B.size)
      clear hb
      go_wp2_with fail
      refine (gcd_n _ _ _ _ _ a b Ha.out Hb.out ka kb g PG.out).mono ?_
      rintro e w4 ⟨vg, rfl, ho, hb⟩
      replace Ha := Lib.hid (Ha.out.below hb (Nat.le_refl _))
      replace Hb := Lib.hid (Hb.out.below hb (Nat.le_refl _))
      replace Hq := Lib.hid (Hq.out.below hb (Nat.le_refl _))
      replace Hr := Lib.hid (Hr.out.below hb (Nat.le_refl _))
      have Hg := Lib.hid ho
      clear ho
      replace B := B.trans (hb.mono B.size)
      clear hb
      go_wp2_with fail
      refine (format_n _ _ _ a Ha.out (HT.out.below B (Nat.le_refl _)) t PT.out).mono ?_
      rintro e w5 ⟨rfl, hb⟩
      replace Ha := Lib.hid (Ha.out.below hb (Nat.le_refl _))
      replace Hb := Lib.hid (Hb.out.below hb (Nat.le_refl _))
      replace Hq := Lib.hid (Hq.out.below hb (Nat.le_refl _))
      replace Hr := Lib.hid (Hr.out.below hb (Nat.le_refl _))
      replace Hg := Lib.hid (Hg.out.below hb (Nat.le_refl _))
      replace B := B.trans (hb.mono B.size)
      clear hb
      go_wp2_with fail
      refine (parse_n _ a ka t PT.out).mono ?_
      rintro e w6 ⟨vx, rfl, ho, hb⟩
      replace Ha := Lib.hid (Ha.out.below hb (Nat.le_refl _))
      replace Hb := Lib.hid (Hb.out.below hb (Nat.le_refl _))
      replace Hq := Lib.hid (Hq.out.below hb (Nat.le_refl _))
      replace Hr := Lib.hid (Hr.out.below hb (Nat.le_refl _))
      replace Hg := Lib.hid (Hg.out.below hb (Nat.le_refl _))
      have Hx := Lib.hid ho
      clear ho
      replace B := B.trans (hb.mono B.size)
      clear hb
      go_wp2_with fail
      refine (cmp_same _ _ _ _ _ a Hx.out Ha.out).mono ?_
      rintro e w7 ⟨rfl, hb⟩
      replace Ha := Lib.hid (Ha.out.below hb (Nat.le_refl _))
      replace Hb := Lib.hid (Hb.out.below hb (Nat.le_refl _))
      replace Hq := Lib.hid (Hq.out.below hb (Nat.le_refl _))
      replace Hr := Lib.hid (Hr.out.below hb (Nat.le_refl _))
      replace Hg := Lib.hid (Hg.out.below hb (Nat.le_refl _))
      replace Hx := Lib.hid (Hx.out.below hb (Nat.le_refl _))
      replace B := B.trans (hb.mono B.size)
      clear hb
      go_wp2_with fail
      refine (of_12 _ k PK.out).mono ?_
      rintro e w8 ⟨vk, rfl, ho, hb⟩
      replace Ha := Lib.hid (Ha.out.below hb (Nat.le_refl _))
      replace Hb := Lib.hid (Hb.out.below hb (Nat.le_refl _))
      replace Hq := Lib.hid (Hq.out.below hb (Nat.le_refl _))
      replace Hr := Lib.hid (Hr.out.below hb (Nat.le_refl _))
      replace Hg := Lib.hid (Hg.out.below hb (Nat.le_refl _))
      replace Hx := Lib.hid (Hx.out.below hb (Nat.le_refl _))
      have Hk := Lib.hid ho
      clear ho
      replace B := B.trans (hb.mono B.size)
      clear hb
      go_wp2_with fail
      refine (format_12 _ _ _ k PK.out Hk.out (HT.out.below B (Nat.le_refl _))).mono ?_
      rintro e w9 ⟨rfl, hb⟩
      replace Ha := Lib.hid (Ha.out.below hb (Nat.le_refl _))
      replace Hb := Lib.hid (Hb.out.below hb (Nat.le_refl _))
      replace Hq := Lib.hid (Hq.out.below hb (Nat.le_refl _))
      replace Hr := Lib.hid (Hr.out.below hb (Nat.le_refl _))
      replace Hg := Lib.hid (Hg.out.below hb (Nat.le_refl _))
      replace Hx := Lib.hid (Hx.out.below hb (Nat.le_refl _))
      replace Hk := Lib.hid (Hk.out.below hb (Nat.le_refl _))
      replace B := B.trans (hb.mono B.size)
      clear hb
      go_wp2_with fail
      refine (div_g _ _ _ _ _ a g Ha.out Hg.out ka kg Pn3.out Pn4.out).mono ?_
      rintro e w10 ⟨vs, vt, rfl, ho1, ho2, -, hb⟩
      replace Ha := Lib.hid (Ha.out.below hb (Nat.le_refl _))
      replace Hb := Lib.hid (Hb.out.below hb (Nat.le_refl _))
      replace Hq := Lib.hid (Hq.out.below hb (Nat.le_refl _))
      replace Hr := Lib.hid (Hr.out.below hb (Nat.le_refl _))
      replace Hg := Lib.hid (Hg.out.below hb (Nat.le_refl _))
      replace Hx := Lib.hid (Hx.out.below hb (Nat.le_refl _))
      replace Hk := Lib.hid (Hk.out.below hb (Nat.le_refl _))
      obtain ⟨tto, ttc, rfl, -, -, -, -, -⟩ := ho2.form
      clear ho1 ho2
      replace B := B.trans (hb.mono B.size)
      clear hb
      go_wp2_with fail
      refine (mul_n _ _ _ _ _ q b Hq.out Hb.out kq kb p Php.out kp).mono ?_
      rintro e w11 ⟨vp, rfl, ho, hb⟩
      replace Ha := Lib.hid (Ha.out.below hb (Nat.le_refl _))
      replace Hb := Lib.hid (Hb.out.below hb (Nat.le_refl _))
      replace Hq := Lib.hid (Hq.out.below hb (Nat.le_refl _))
      replace Hr := Lib.hid (Hr.out.below hb (Nat.le_refl _))
      replace Hg := Lib.hid (Hg.out.below hb (Nat.le_refl _))
      replace Hx := Lib.hid (Hx.out.below hb (Nat.le_refl _))
      replace Hk := Lib.hid (Hk.out.below hb (Nat.le_refl _))
      have Hp := Lib.hid ho
      clear ho
      replace B := B.trans (hb.mono B.size)
      clear hb
      go_wp2_with fail
      refine (add_n _ _ _ _ _ p r Hp.out Hr.out kp kr a Pn1.out.symm ka).mono ?_
      rintro e w12 ⟨vy, rfl, ho, hb⟩
      replace Ha := Lib.hid (Ha.out.below hb (Nat.le_refl _))
      replace Hb := Lib.hid (Hb.out.below hb (Nat.le_refl _))
      replace Hq := Lib.hid (Hq.out.below hb (Nat.le_refl _))
      replace Hr := Lib.hid (Hr.out.below hb (Nat.le_refl _))
      replace Hg := Lib.hid (Hg.out.below hb (Nat.le_refl _))
      replace Hx := Lib.hid (Hx.out.below hb (Nat.le_refl _))
      replace Hk := Lib.hid (Hk.out.below hb (Nat.le_refl _))
      replace Hp := Lib.hid (Hp.out.below hb (Nat.le_refl _))
      have Hy := Lib.hid ho
      clear ho
      replace B := B.trans (hb.mono B.size)
      clear hb
      go_wp2_with fail
      refine (cmp_same _ _ _ _ _ a Hy.out Ha.out).mono ?_
      rintro e w13 ⟨rfl, hb⟩
      replace Ha := Lib.hid (Ha.out.below hb (Nat.le_refl _))
      replace Hb := Lib.hid (Hb.out.below hb (Nat.le_refl _))
      replace Hq := Lib.hid (Hq.out.below hb (Nat.le_refl _))
      replace Hr := Lib.hid (Hr.out.below hb (Nat.le_refl _))
      replace Hg := Lib.hid (Hg.out.below hb (Nat.le_refl _))
      replace Hx := Lib.hid (Hx.out.below hb (Nat.le_refl _))
      replace Hk := Lib.hid (Hk.out.below hb (Nat.le_refl _))
      replace Hp := Lib.hid (Hp.out.below hb (Nat.le_refl _))
      replace Hy := Lib.hid (Hy.out.below hb (Nat.le_refl _))
      replace B := B.trans (hb.mono B.size)
      clear hb
      go_wp2_with fail
      refine (cmp_less _ _ _ _ _ r b Hr.out Hb.out kr kb Pn2.out).mono ?_
      rintro e w14 ⟨rfl, hb⟩
      replace Ha := Lib.hid (Ha.out.below hb (Nat.le_refl _))
      replace Hb := Lib.hid (Hb.out.below hb (Nat.le_refl _))
      replace Hq := Lib.hid (Hq.out.below hb (Nat.le_refl _))
      replace Hr := Lib.hid (Hr.out.below hb (Nat.le_refl _))
      replace Hg := Lib.hid (Hg.out.below hb (Nat.le_refl _))
      replace Hx := Lib.hid (Hx.out.below hb (Nat.le_refl _))
      replace Hk := Lib.hid (Hk.out.below hb (Nat.le_refl _))
      replace Hp := Lib.hid (Hp.out.below hb (Nat.le_refl _))
      replace Hy := Lib.hid (Hy.out.below hb (Nat.le_refl _))
      replace B := B.trans (hb.mono B.size)
      clear hb
      go_wp2
      go_ret
      exact retB rfl B

theorem allPlain : (Rows.fnNatsRow.laid.all fun x => x.2.handleName?.isNone) = true := by kernel_rfl
set_option maxRecDepth 100000 in
theorem lifted (os : Os) (started : os.Started) (H : Type) (enc : TypeId × Value → H) :
    ReturnsInHanded {} Tryd.checked os 4 .any (fun w args => (Rows.fnNatsSpec.pre enc Tryd.prog Tryd.f4 Rows.fnNatsRow.domain false w args ∧ laidMetH Tryd.prog Rows.fnNatsRow.laid w) ∧ sizedMet enc Tryd.prog Tryd.f4 (OpenSpec.ofChange Rows.fnNatsSpec) false w args) (Rows.fnNatsSpec.post enc Tryd.prog Tryd.f4 false true false false) := by
  refine returnsInHanded_of_change_and (C := Tryd.checked) (X := (fun w _ => laidMetH Tryd.prog Rows.fnNatsRow.laid w)) (fun _ _ _ hh h => h.of_heap hh) Tryd.own started (by as_aux_lemma => kernel_rfl) Tryd.func4
    (ChangeSpec.witness_shaped (enc := enc) (C := Tryd.checked) (os := os) (X := (fun w _ => laidMetH Tryd.prog Rows.fnNatsRow.laid w)) false (World.laidAll Tryd.prog os Rows.fnNatsRow.laid) #[.slice none 0 0] 8 (World.laidAll_os _ _ _)
      (World.shaped_of_ZipB (by as_aux_lemma => kernel_rfl) (by as_aux_lemma => kernel_rfl)) (by as_aux_lemma => kernel_rfl) (by as_aux_lemma => kernel_rfl) (by as_aux_lemma => kernel_rfl)
      (by rw [MakeChecks.laidMetH_plain _ _ _ allPlain]; exact laidMet_laidAll _ (by as_aux_lemma => kernel_rfl) (by as_aux_lemma => kernel_rfl))) ?_
  intro W base args ds gs before hval0 hW hcnd _ hL _
  have hval : ∀ (j : Nat) t v, Tryd.f4.params[j]? = some t → args[j]? = some v → Value.okWide Tryd.prog W .any base t v := hval0
  have hW' := hW
  obtain ⟨p, q, hA0, hV, rfl, hfz, hnd⟩ := hW
  have hA : DataW.TrodAll enc Tryd.prog W 0 (fun _ => true) true Tryd.f4.params.toList args.toList ds p := hA0
  rw [Tryd.params4] at hA hval
  have HT : Tabs W := tabs_of_laid (l := Rows.fnNatsRow.laid) hL allPlain (r := [("strconv.ErrRange", Rows.laid_strconv_ErrRange), ("strconv.ErrSyntax", Rows.laid_strconv_ErrSyntax)]) rfl
  have HE : Errs W := errs_of_laid (l := Rows.fnNatsRow.laid) hL allPlain rfl
  obtain ⟨v0, vs0, d0, ds0, p0, q0, hargs, rfl, rfl, h0, r0⟩ := trodAll_cons hA
  obtain ⟨rfl, rfl, rfl⟩ := trodAll_nil r0
  obtain rfl : args = #[v0] := by cases args; simp_all
  obtain ⟨rfl, rfl⟩ := trodVars_none hV
  have lt0 : ∀ x ∈ p0, x.block < W.heap.size := by obtain ⟨m, hm⟩ := h0; exact DataW.trod_lt m _ _ _ hm
  obtain ⟨x0, w0⟩ := rdY_of_trod (hval 0 22 v0 rfl rfl) h0
  clear hA0 hval0
  refine (walk W v0 x0 w0 
    HT HE).mono fun e W' ⟨he, bel⟩ => ?_
  subst he
  exact ⟨_, rfl, _, _, _, [], _, [], hW', trodAll_mk1 (shut_bool Tryd.underlying4 _), (trodAll_cons_mk (Below.trod Tryd.laidOut (by as_aux_lemma => kernel_rfl) (of_decide_eq_true (by as_aux_lemma => kernel_rfl)) h0 bel lt0) trodAll_mk0), rfl, bel.frame _, fun h => by cases h⟩

theorem facts : joinedFacts Tryd.pinned.checked.prog 4 Tryd.f4 Rows.fnNatsSpec Rows.fnNatsRow = true := by
  unfold joinedFacts
  refine and_mk (and_mk (and_mk (and_mk (and_mk (and_mk (and_mk ?_ Tryd.mayEnter) ?_) ?_) ?_) ?_) ?_) ?_
  · kernel_rfl
  · rw [Tryd.liftsNone]; rfl
  · rw [Tryd.makeCut]; rfl
  · kernel_rfl
  · kernel_rfl
  · kernel_rfl
  · kernel_rfl

theorem row : Rows.FnNatsSaid :=
  OpenClaim.holds_of_wide 4 Tryd.f4 rfl rfl rfl rfl rfl rfl rfl ⟨rfl, rfl, rfl, rfl, rfl⟩ rfl rfl rfl rfl rfl (by as_aux_lemma => kernel_rfl) Tryd.func4 facts
    (of_decide_eq_true (by as_aux_lemma => kernel_rfl)) (by unfold Func.isWrapper; rw [if_neg (of_decide_eq_false (by as_aux_lemma => kernel_rfl))]; exact ⟨rfl, rfl⟩)
    (fun os started H enc _ => lifted os started H enc)

theorem funcIs : Tryd.prog.funcNamed Rows.fnNatsRow.func = some 4 := by kernel_rfl
theorem standIns : (Tryd.f4.params.toList.all fun u => !Tryd.prog.wantsStandIn u) = true := by kernel_rfl
theorem proved : Rows.FnNatsCardSaid :=
  Claim7.holds_tied_plain_at .later [] _ _ _ _
    row (fun _ h => by cases h) (by as_aux_lemma => kernel_rfl) (fun _ h => by cases h) fnNats_row_tie rfl ⟨rfl, rfl⟩ (by as_aux_lemma => kernel_rfl) rfl
    (fun f fn hf hfn => by
      obtain rfl : f = 4 := (Option.some.inj (funcIs.symm.trans hf)).symm
      obtain rfl : fn = Tryd.f4 := (Option.some.inj (Tryd.func4.symm.trans hfn)).symm
      exact ⟨by as_aux_lemma => kernel_rfl, fun j t ht => by
        have hm := Array.mem_of_getElem? ht
        exact (show Tryd.prog.wantsStandIn t = false by simpa using List.all_eq_true.1 standIns t (Array.mem_toList_iff.2 hm))⟩)
    (by as_aux_lemma => kernel_rfl)

end Go.Proofs.YtijeplcjbhkkoaaDoor.lawFnNats
