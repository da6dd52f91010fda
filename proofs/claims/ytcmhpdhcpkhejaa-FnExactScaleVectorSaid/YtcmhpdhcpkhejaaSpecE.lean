/- The reference's functions on natural numbers: l02Digit. -/
import Derived.Test.YtcmhpdhcpkhejaaSpecD
namespace Go.Proofs.Ytcmhpdhcpkhejaa
open Go.RowKit Lm

set_option maxHeartbeats 1000000 in
theorem l02Digit_c (w : World) (b1 b2 : Nat) (v1 v2 : Value) (r b : Nat) (h1 : Own w b1 v1 (limbs r)) (h2 : Own w b2 v2 (limbs b)) (hs2 : (limbs b).length ≤ 1000) (hr : r < b * 1000000000) :
    Calls Try.prog 118 #[v1, v2] w (RetI w ((r / b : Nat) : Int)) := by
  have hr' : (r : Int) < b * 1000000000 := by
    have : (r : Int) < ((b * 1000000000 : Nat) : Int) := by omega
    rwa [Int.natCast_mul] at this
  have HS := Lib.hid (DigI.start hr')
  have H1 := Lib.hid h1; have H2 := Lib.hid h2
  clear h1 h2 hr hr'
  go_enter Try.func118, Try.ntmps118
  go_wp2
  go_loopw [5, 6] (fun s t wr => ∃ (lo hi : Int), s = .int .i64 lo ∧ t = .int .i64 hi ∧ 0 ≤ lo ∧ lo ≤ hi ∧ hi ≤ 999999999 ∧ Hid (DigI b r lo hi) ∧ Below w.heap.size w wr) (fun s t _ => (intOf t - intOf s).toNat)
  case atStart => exact ⟨0, 999999999, rfl, rfl, by omega, by omega, by omega, HS.out, Below.refl _ _⟩
  case round =>
    obtain ⟨lo, hi, rfl, rfl, l0, l1, l2, HD, hb⟩ := hrel
    by_cases hlt : lo < hi
    · obtain ⟨m1, m2, m3⟩ := HD.out.mid hlt
      obtain ⟨q, hq⟩ := Int.eq_ofNat_of_zero_le m3
      have hq2 : q ≤ 999999999 := by omega
      have HQ := Lib.hid hq
      rw [hq] at m1 m2
      clear hq m3
      go_wp2_with fail
      rw [HQ.out]
      refine (specNatOf_c wr q (by omega)).mono ?_
      rintro e w2 ⟨v, rfl, ho, hb2⟩
      rw [Int.toNat_natCast] at ho
      have B2 := hb.trans (hb2.mono hb.size)
      have HO := Lib.hid ho
      clear ho
      go_wp2_with fail
      refine (l02Mul_c w2 b2 _ v2 v b q (H2.out.below B2 (Nat.le_refl _)) HO.out hs2 (by have := (limbs_len_le (n := q) (k := 2)).2 (by simp only [pw]; omega); omega)).mono ?_
      rintro e w3 ⟨v3, rfl, ho, hb3⟩
      have B3 := B2.trans (hb3.mono B2.size)
      have HO3 := Lib.hid ho
      clear ho
      go_wp2_with fail
      refine (l02Cmp_n w3 _ b1 v3 v1 (b * q) r HO3.out (H1.out.below B3 (Nat.le_refl _))).mono ?_
      rintro e w4 ⟨rfl, hb4⟩
      have B4 := B3.trans (hb4.mono B3.size)
      have hcc := cmp3_cases ((b * q : Nat) : Int) r
      generalize cmp3 ((b * q : Nat) : Int) r = c at *
      by_cases hc : c ≤ 0
      · have HL : Hid ((b : Int) * q ≤ r) := by
          have h1 : ((b * q : Nat) : Int) ≤ r := by rcases hcc with ⟨h, e⟩ | ⟨h, e⟩ | ⟨h, e⟩ <;> omega
          rwa [Int.natCast_mul] at h1
        clear hcc
        go_wp2_with fail
        go_roundw
        case rel => exact ⟨q, hi, rfl, rfl, by omega, by omega, by omega, HD.out.up (by omega) (by omega) HL.out, B4⟩
        case measure => (simp [intOf]) <;> omega
      · have HL : Hid ((r : Int) < b * q) := by
          have h1 : (r : Int) < ((b * q : Nat) : Int) := by rcases hcc with ⟨h, e⟩ | ⟨h, e⟩ | ⟨h, e⟩ <;> omega
          rwa [Int.natCast_mul] at h1
        clear hcc
        go_wp2_with fail
        go_roundw
        case rel => exact ⟨lo, (q : Int) - 1, rfl, rfl, by omega, by omega, by omega, HD.out.down (by omega) (by omega) HL.out, B4⟩
        case measure => (simp [intOf]) <;> omega
    · have HE := Lib.hid (HD.out.done hlt)
      go_wp2
      go_ret
      exact retI HE.out hb

end Go.Proofs.Ytcmhpdhcpkhejaa
