/- The reference's greatest common divisor: l02Gcd. -/
import Derived.Test.YtcmhpdhcpkhejaaDoorSpecM
import Derived.Test.YtcmhpdhcpkhejaaDoorToInt
namespace Go.Proofs.YtcmhpdhcpkhejaaDoor
open Go.RowKit Lm

set_option maxHeartbeats 1000000 in
theorem l02Gcd_c (w : World) (b1 b2 : Nat) (v1 v2 : Value) (a b : Nat) (h1 : Own w b1 v1 (limbs a)) (h2 : Own w b2 v2 (limbs b)) (hs1 : (limbs a).length ≤ 900) (hs2 : (limbs b).length ≤ 900) :
    Calls Tryd.prog 35 #[v1, v2] w (RetS w (limbs (Nat.gcd a b))) := by
  have H1 := Lib.hid h1; have H2 := Lib.hid h2
  have HL := Lib.hid (Own.lit0 w)
  clear h1 h2
  go_enter Tryd.func35, Tryd.ntmps35
  go_wp2_with (at_builtin; refine app_own rfl _ _ rfl _ _ w.heap.size b1 [] (limbs a) rfl rfl HL.out (H1.out.alloc _) (by simp; omega) (by simp) ?_)
  intro vx w1 hx hg1 _
  try rw [List.nil_append] at hx
  have B1 := HL.out.grownBelow ((Below.refl _ _).alloc (Nat.le_refl _) _) hg1 (Nat.le_refl _) (by simp)
  have HX := Lib.hid hx
  have hsz1 := B1.size
  have HL2 := Lib.hid (Own.lit0 w1)
  clear hx hg1
  go_wp2_with (at_builtin; refine app_own rfl _ _ rfl _ _ w1.heap.size b2 [] (limbs b) rfl rfl HL2.out ((H2.out.below B1 (Nat.le_refl _)).alloc _) (by simp; omega) (by simp) ?_)
  intro vy w2 hy hg2 _
  try rw [List.nil_append] at hy
  have hb2 := HL2.out.grownBelow ((Below.refl _ _).alloc (Nat.le_refl _) _) hg2 (Nat.le_refl _) (by simp)
  have B2 := B1.trans (hb2.mono hsz1)
  have HX2 := Lib.hid (HX.out.below hb2 (Nat.le_refl _))
  have HY2 := Lib.hid (hy.mono hsz1)
  clear hy hg2 HX hb2
  go_wp2_with fail
  go_loopg [5, 6] b (fun y v0 v1 wr => ∃ (x : Nat) (a1 a2 : Option Addr) (c1 c2 : Nat), v0 = .slice a1 (limbs x).length c1 ∧ v1 = .slice a2 (limbs y).length c2 ∧ (limbs x).length ≤ 900 ∧ (limbs y).length ≤ 900 ∧ Hid (Own wr w.heap.size (.slice a1 (limbs x).length c1) (limbs x)) ∧ Hid (Own wr w.heap.size (.slice a2 (limbs y).length c2) (limbs y)) ∧ Hid (Nat.gcd x y = Nat.gcd a b) ∧ Below w.heap.size w wr)
  case atStart =>
    obtain ⟨a1, c1, rfl, -, -, -, -, -⟩ := HX2.out.form
    obtain ⟨a2, c2, rfl, -, -, -, -, -⟩ := HY2.out.form
    exact ⟨a, a1, a2, c1, c2, rfl, rfl, hs1, hs2, HX2.out, HY2.out, rfl, B2⟩
  case round =>
    clear HX2 HY2 B2
    obtain ⟨x, a1, a2, c1, c2, rfl, rfl, hl1, hl2, HX, HY, HG, hb⟩ := hrel
    have hsz := hb.size
    by_cases hy0 : gk = 0
    · subst hy0
      have HE : Hid (x = Nat.gcd a b) := by have := HG.out; rw [Nat.gcd_zero_right] at this; exact this
      have d1 : decide ((0 : Int) < (limbs 0).length) = false := rfl
      have d2 : decide (0 < (limbs 0).length) = false := rfl
      go_wp2
      go_ret
      exact retS HX.out (by rw [← HE.out]) hb
    · have hy : 0 < gk := by omega
      have hlp := limbs_len_pos.2 hy
      have d1 : decide ((0 : Int) < (limbs gk).length) = true := decide_eq_true (by omega)
      have d2 : decide (0 < (limbs gk).length) = true := decide_eq_true (by omega)
      by_cases hsm : (limbs x).length < 3 ∧ (limbs gk).length < 3
      · have d3 : decide (((limbs x).length : Int) < 3) = true := decide_eq_true (by omega)
        have d4 : decide (((limbs gk).length : Int) < 3) = true := decide_eq_true (by omega)
        have hx2 : x ≤ 9223372036854775807 := by
          have := (limbs_len_le (n := x) (k := 2)).1 (by omega)
          simp only [pw] at this; omega
        have hg2 : gk ≤ 9223372036854775807 := by
          have := (limbs_len_le (n := gk) (k := 2)).1 (by omega)
          simp only [pw] at this; omega
        clear hsm hy0
        go_wp2_with fail
        refine (specNatToInt_ok wr _ _ x HX.out hx2).mono ?_
        rintro e w3 ⟨rfl, hb3⟩
        go_wp2_with fail
        refine (specNatToInt_ok w3 _ _ gk (HY.out.below hb3 (Nat.le_refl _)) hg2).mono ?_
        rintro e w4 ⟨rfl, hb4⟩
        have B4 := (hb.trans (hb3.mono hb.size)).trans (hb4.mono (Nat.le_trans hb.size hb3.size))
        go_wp2_with fail
        refine (l02Plain_c w4 x gk (.inr hy) hx2 hg2).mono ?_
        rintro e w5 ⟨v, rfl, ho, hb5⟩
        have HO := Lib.hid ho
        clear ho
        go_wp2
        go_ret
        exact retS (HO.out.mono B4.size) (by rw [HG.out]) (B4.trans (hb5.mono B4.size))
      · have hl3 : (limbs (x % gk)).length ≤ 900 := Nat.le_trans (limbs_len_mono (Nat.le_of_lt (Nat.mod_lt _ hy))) hl2
        have HD := Lib.hid (l02Div_c wr _ _ _ _ x gk HX.out HY.out (by omega) hl2 hy)
        by_cases hx3 : (limbs x).length < 3
        · have d3 : decide (((limbs x).length : Int) < 3) = true := decide_eq_true (by omega)
          have d4 : decide (((limbs gk).length : Int) < 3) = false := decide_eq_false (by omega)
          clear hsm hy0
          go_wp2_with fail
          refine HD.out.mono ?_
          rintro e w3 ⟨q, r, rfl, hq, hr, -, hb3⟩
          obtain ⟨ar, cr, rfl, -, -, -, -, -⟩ := hr.form
          have HR := Lib.hid (hr.mono hsz)
          clear hq hr
          go_wp2_with fail
          go_roundg (x % gk)
          case rel => exact ⟨gk, a2, ar, c2, cr, rfl, rfl, hl2, hl3, HY.out.below hb3 (Nat.le_refl _), HR.out, by have := HG.out; unfold Hid; rw [← this, Nat.gcd_comm x gk, Nat.gcd_comm gk (x % gk)]; exact (Nat.gcd_rec gk x).symm, hb.trans (hb3.mono hsz)⟩
          case measure => exact Nat.mod_lt _ hy
        · have d3 : decide (((limbs x).length : Int) < 3) = false := decide_eq_false (by omega)
          clear hsm hy0
          go_wp2_with fail
          refine HD.out.mono ?_
          rintro e w3 ⟨q, r, rfl, hq, hr, -, hb3⟩
          obtain ⟨ar, cr, rfl, -, -, -, -, -⟩ := hr.form
          have HR := Lib.hid (hr.mono hsz)
          clear hq hr
          go_wp2_with fail
          go_roundg (x % gk)
          case rel => exact ⟨gk, a2, ar, c2, cr, rfl, rfl, hl2, hl3, HY.out.below hb3 (Nat.le_refl _), HR.out, by have := HG.out; unfold Hid; rw [← this, Nat.gcd_comm x gk, Nat.gcd_comm gk (x % gk)]; exact (Nat.gcd_rec gk x).symm, hb.trans (hb3.mono hsz)⟩
          case measure => exact Nat.mod_lt _ hy

end Go.Proofs.YtcmhpdhcpkhejaaDoor
