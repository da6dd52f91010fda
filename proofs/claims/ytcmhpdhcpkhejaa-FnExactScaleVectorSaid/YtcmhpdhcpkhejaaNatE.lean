/- The program's greatest common divisor: natGcd. -/
import Derived.Test.YtcmhpdhcpkhejaaNatD
import Derived.Deep.LoopGhost
namespace Go.Proofs.Ytcmhpdhcpkhejaa
open Go.RowKit Lm

set_option maxHeartbeats 1000000 in
theorem natGcd_c (w : World) (b1 b2 : Nat) (v1 v2 : Value) (a b : Nat) (h1 : Own w b1 v1 (limbs a)) (h2 : Own w b2 v2 (limbs b)) (hs1 : (limbs a).length ≤ 1000) (hs2 : (limbs b).length ≤ 1000) (ha : 0 < a) :
    Calls Try.prog 80 #[v1, v2] w (RetS w (limbs (Nat.gcd a b))) := by
  obtain ⟨a1, c1, rfl, -, -, -, -, -⟩ := h1.form
  obtain ⟨a2, c2, rfl, -, -, -, -, -⟩ := h2.form
  have H1 := Lib.hid (h1.mono (Nat.zero_le _)); have H2 := Lib.hid (h2.mono (Nat.zero_le _))
  clear h1 h2
  go_enter Try.func80, Try.ntmps80
  go_wp2
  go_loopg [0, 1] b (fun y v0 v1 wr => ∃ (x : Nat) (a1 a2 : Option Addr) (c1 c2 : Nat), v0 = .slice a1 (limbs x).length c1 ∧ v1 = .slice a2 (limbs y).length c2 ∧ 0 < x ∧ (limbs x).length ≤ 1000 ∧ (limbs y).length ≤ 1000 ∧ Hid (Own wr 0 (.slice a1 (limbs x).length c1) (limbs x)) ∧ Hid (Own wr 0 (.slice a2 (limbs y).length c2) (limbs y)) ∧ Hid (Nat.gcd x y = Nat.gcd a b) ∧ Below w.heap.size w wr)
  case atStart => exact ⟨a, a1, a2, c1, c2, rfl, rfl, ha, hs1, hs2, H1.out, H2.out, rfl, Below.refl _ _⟩
  case round =>
    clear H1 H2
    obtain ⟨x, a1, a2, c1, c2, rfl, rfl, hx, hl1, hl2, H1, H2, HG, hb⟩ := hrel
    have hsz := hb.size
    by_cases hgo : 1 < (limbs gk).length ∨ 1 < (limbs x).length ∧ 0 < (limbs gk).length
    · have hy : 0 < gk := by
        rw [← limbs_len_pos]; omega
      have HD := Lib.hid (natDiv_c wr 0 0 _ _ x gk H1.out H2.out hl1 hy)
      have hl3 : (limbs (x % gk)).length ≤ 1000 := Nat.le_trans (limbs_len_mono (Nat.le_of_lt (Nat.mod_lt _ hy))) hl2
      by_cases hb1 : 1 < (limbs gk).length
      · have d1 : decide ((1 : Int) < (limbs gk).length) = true := decide_eq_true (by omega)
        have d1' : decide (1 < (limbs gk).length) = true := decide_eq_true (by omega)
        clear hgo
        go_wp2_with fail
        refine HD.out.mono ?_
        rintro e w2 ⟨q, r, rfl, hq, hr, -, hb2⟩
        obtain ⟨ar, cr, rfl, -, -, -, -, -⟩ := hr.form
        have HR := Lib.hid (hr.mono (Nat.zero_le _))
        clear hq hr
        go_wp2_with fail
        go_roundg (x % gk)
        case rel => exact ⟨gk, a2, ar, c2, cr, rfl, rfl, hy, hl2, hl3, H2.out.below hb2 (Nat.le_refl _), HR.out, by have := HG.out; unfold Hid; rw [← this, Nat.gcd_comm x gk, Nat.gcd_comm gk (x % gk)]; exact (Nat.gcd_rec gk x).symm, hb.trans (hb2.mono hsz)⟩
        case measure => exact Nat.mod_lt _ hy
      · have d1 : decide ((1 : Int) < (limbs gk).length) = false := decide_eq_false (by omega)
        have d1' : decide (1 < (limbs gk).length) = false := decide_eq_false (by omega)
        have d2 : decide ((1 : Int) < (limbs x).length) = true := decide_eq_true (by omega)
        have d2' : decide (1 < (limbs x).length) = true := decide_eq_true (by omega)
        have d3 : decide ((0 : Int) < (limbs gk).length) = true := decide_eq_true (by omega)
        have d3' : decide (0 < (limbs gk).length) = true := decide_eq_true (by omega)
        clear hgo
        go_wp2_with fail
        refine HD.out.mono ?_
        rintro e w2 ⟨q, r, rfl, hq, hr, -, hb2⟩
        obtain ⟨ar, cr, rfl, -, -, -, -, -⟩ := hr.form
        have HR := Lib.hid (hr.mono (Nat.zero_le _))
        clear hq hr
        go_wp2_with fail
        go_roundg (x % gk)
        case rel => exact ⟨gk, a2, ar, c2, cr, rfl, rfl, hy, hl2, hl3, H2.out.below hb2 (Nat.le_refl _), HR.out, by have := HG.out; unfold Hid; rw [← this, Nat.gcd_comm x gk, Nat.gcd_comm gk (x % gk)]; exact (Nat.gcd_rec gk x).symm, hb.trans (hb2.mono hsz)⟩
        case measure => exact Nat.mod_lt _ hy
    · have d1 : decide ((1 : Int) < (limbs gk).length) = false := decide_eq_false (by omega)
      have d1' : decide (1 < (limbs gk).length) = false := decide_eq_false (by omega)
      by_cases hb0 : (limbs gk).length = 0
      · have hg0 : gk = 0 := limbs_nil.1 (List.length_eq_zero_iff.1 hb0)
        subst hg0
        have HE : Hid (x = Nat.gcd a b) := by have := HG.out; rw [Nat.gcd_zero_right] at this; exact this
        have HC := Lib.hid (copyInts_c wr 0 _ (limbs x) H1.out (by omega))
        have d3 : ((limbs 0).length == 0) = true := rfl
        by_cases hx1 : 1 < (limbs x).length
        · have d2 : decide ((1 : Int) < (limbs x).length) = true := decide_eq_true (by omega)
          have d2' : decide (1 < (limbs x).length) = true := decide_eq_true (by omega)
          clear hgo hb0
          go_wp2_with fail
          refine HC.out.mono ?_
          rintro e w2 ⟨v, rfl, ho, hb2⟩
          have HO := Lib.hid ho
          clear ho
          go_wp2
          go_ret
          exact retS (HO.out.mono hsz) (by rw [← HE.out]) (hb.trans (hb2.mono hsz))
        · have d2 : decide ((1 : Int) < (limbs x).length) = false := decide_eq_false (by omega)
          have d2' : decide (1 < (limbs x).length) = false := decide_eq_false (by omega)
          clear hgo hb0
          go_wp2_with fail
          refine HC.out.mono ?_
          rintro e w2 ⟨v, rfl, ho, hb2⟩
          have HO := Lib.hid ho
          clear ho
          go_wp2
          go_ret
          exact retS (HO.out.mono hsz) (by rw [← HE.out]) (hb.trans (hb2.mono hsz))
      · have d2 : decide ((1 : Int) < (limbs x).length) = false := decide_eq_false (by omega)
        have d2' : decide (1 < (limbs x).length) = false := decide_eq_false (by omega)
        have d3 : ((limbs gk).length == 0) = false := beq_eq_false_iff_ne.2 hb0
        have d3' : (((limbs gk).length : Int) == 0) = false := beq_eq_false_iff_ne.2 (by omega)
        have hx2 : x < 1000000000 := by
          have := (limbs_len_le (n := x) (k := 1)).1 (by omega)
          simp only [pw] at this; omega
        have hy2 : gk < 1000000000 := by
          have := (limbs_len_le (n := gk) (k := 1)).1 (by omega)
          simp only [pw] at this; omega
        have hy1 : 0 < gk := limbs_len_pos.1 (by omega)
        obtain ⟨g1, rfl, -, -⟩ := H1.out.addr (i := 0) (limbs_len_pos.2 hx)
        obtain ⟨g2, rfl, -, -⟩ := H2.out.addr (i := 0) (limbs_len_pos.2 hy1)
        have k1 := H1.out.cell 0 (limbs_len_pos.2 hx)
        have k2 := H2.out.cell 0 (limbs_len_pos.2 hy1)
        rw [show lat (limbs x) 0 = (x : Int) by rw [limbs_small hx hx2]; rfl] at k1
        rw [show lat (limbs gk) 0 = (gk : Int) by rw [limbs_small hy1 hy2]; rfl] at k2
        have t1 : (0 : Int) < (limbs x).length := by have := limbs_len_pos.2 hx; omega
        have t2 : (0 : Int) < (limbs gk).length := by have := limbs_len_pos.2 hy1; omega
        have t1' : 0 < (limbs x).length := by omega
        have t2' : 0 < (limbs gk).length := by omega
        clear hgo hb0
        go_wp2_with fail
        go_quiet (fail)
        go_wp2_with fail
        clear k1 k2
        have hdw : Below w.heap.size w (wr.drewN nq) := below_dr hb nq
        generalize wr.drewN nq = wo at *
        go_loopw [7, 8] (fun s t wr => ∃ (p q : Nat), s = .int .i64 p ∧ t = .int .i64 q ∧ 0 < p ∧ p < 1000000000 ∧ q < 1000000000 ∧ Hid (Nat.gcd p q = Nat.gcd a b) ∧ Below w.heap.size w wr) (fun _ t _ => (intOf t).toNat)
        case atStart => exact ⟨x, gk, rfl, rfl, hx, hx2, hy2, HG.out, hdw⟩
        case round =>
          obtain ⟨p, q, rfl, rfl, hp, hp2, hq2, HG2, hb2⟩ := hrel
          by_cases hq : q = 0
          · subst hq
            have HE : Hid (p = Nat.gcd a b) := by have := HG2.out; rw [Nat.gcd_zero_right] at this; exact this
            have HL := Lib.hid (Own.lit1 wr p)
            have hs2 := hb2.size
            go_wp2
            go_ret
            exact retS (HL.out.mono hs2) (by rw [← HE.out, limbs_small hp hp2]) (hb2.alloc hs2 _)
          · have hz : ((q : Int) == 0) = false := beq_eq_false_iff_ne.2 (by omega)
            have hz' : ((q : Int) != 0) = true := by rw [bne_iff_ne]; omega
            have hq0 : 0 < q := by omega
            have t1 : (1 : Int) ≤ q := by omega
            clear hq
            go_wp2_with fail
            go_quiet (fail)
            go_wp2_with fail
            go_roundw
            case rel => exact ⟨q, p % q, rfl, by congr 1, hq0, hq2, by have := Nat.mod_lt p hq0; omega, by have := HG2.out; unfold Hid; rw [← this, Nat.gcd_comm p q, Nat.gcd_comm q (p % q)]; exact (Nat.gcd_rec q p).symm, below_dr hb2 _⟩
            case measure => have := Nat.mod_lt p hq0; simp [intOf]; omega

end Go.Proofs.Ytcmhpdhcpkhejaa
