/- The reference's functions on natural numbers: l02Sub, l02Add, l02Plain. -/
import Derived.Test.YtcmhpdhcpkhejaaSpecB
import Derived.Deep.LoopGhost
namespace Go.Proofs.Ytcmhpdhcpkhejaa
open Go.RowKit Lm

set_option maxHeartbeats 1000000 in
theorem l02Sub_c (w : World) (b1 b2 : Nat) (v1 v2 : Value) (a b : Nat) (h1 : Own w b1 v1 (limbs a)) (h2 : Own w b2 v2 (limbs b)) (hs1 : (limbs a).length ≤ 1000) (hab : b ≤ a) :
    Calls Try.prog 107 #[v1, v2] w (RetS w (limbs (a - b))) := by
  obtain ⟨a1, c1, rfl, -, f2, f3, -, -⟩ := h1.form
  obtain ⟨a2, c2, rfl, -, g2, g3, -, -⟩ := h2.form
  unfold maxLen at f3 g3
  have i1 := limbs_inR a
  have i2 := limbs_inR b
  generalize hX : limbs a = xs at *
  generalize hY : limbs b = ys at *
  have HX := Lib.hid hX; have HY := Lib.hid hY; have H1 := Lib.hid h1; have H2 := Lib.hid h2; have I1 := Lib.hid i1; have I2 := Lib.hid i2
  have HO := Lib.hid (Own.lit0 w)
  clear hX hY h1 h2 i1 i2
  go_enter Try.func107, Try.ntmps107
  go_wp2_with fail
  go_loopw [5, 6, 12] (fun v c k wr => ∃ (i : Nat) (o : List Int) (br : Int), i ≤ xs.length ∧ k = .int .i64 i ∧ c = .int .i64 br ∧ 0 ≤ br ∧ br ≤ 1 ∧ Hid (Own wr w.heap.size v o) ∧ Hid (SubI xs ys i o br) ∧ Below w.heap.size w wr) (fun _ _ k _ => xs.length - (intOf k).toNat)
  case atStart => exact ⟨0, [], 0, by omega, rfl, rfl, by omega, by omega, HO.out, SubI.start _ _, (Below.refl _ _).alloc (Nat.le_refl _) _⟩
  case round =>
    obtain ⟨i, o, br, hi, rfl, rfl, hc0, hc1, HO', HA, hb⟩ := hrel
    have hsz := hb.size
    have hol := HA.out.len
    have HOL : o.length ≤ i := by omega
    clear hol
    by_cases hlt : i < xs.length
    · obtain ⟨g, rfl, -, -⟩ := H1.out.addr hlt
      have k1 := (H1.out.below hb (Nat.le_refl _)).cell i hlt
      have t1 : (i : Int) < xs.length := by omega
      obtain ⟨r11, r12⟩ := I1.out.lat i
      obtain ⟨r21, r22⟩ := I2.out.lat i
      by_cases hlb : i < ys.length
      · obtain ⟨g', rfl, -, -⟩ := H2.out.addr hlb
        have k2 := (H2.out.below hb (Nat.le_refl _)).cell i hlb
        have t2 : (i : Int) < ys.length := by omega
        by_cases hneg : lat xs i - br - lat ys i < 0
        · go_wp2_with (at_builtin; refine app_own rfl _ _ rfl _ _ w.heap.size wr.heap.size o [_] rfl rfl (HO'.out.alloc _) (Own.lit1 _ _) (by simp; omega) (by simp; omega) ?_)
          intro v' w' ho hg _
          have hb' := (HO'.out.alloc _).grownBelow (hb.alloc hsz _) hg (Nat.le_refl _) (by simp; omega)
          have HO2 := Lib.hid ho
          clear hg ho
          go_wp2
          go_roundw
          case rel => exact ⟨i + 1, _, 1, by omega, by go_num, rfl, by omega, by omega, HO2.out, HA.out.step (by omega) (by omega) (by omega) (by omega), hb'⟩
          case measure => (simp [intOf]) <;> omega
        · go_wp2_with (at_builtin; refine app_own rfl _ _ rfl _ _ w.heap.size wr.heap.size o [_] rfl rfl (HO'.out.alloc _) (Own.lit1 _ _) (by simp; omega) (by simp; omega) ?_)
          intro v' w' ho hg _
          have hb' := (HO'.out.alloc _).grownBelow (hb.alloc hsz _) hg (Nat.le_refl _) (by simp; omega)
          have HO2 := Lib.hid ho
          clear hg ho
          go_wp2
          go_roundw
          case rel => exact ⟨i + 1, _, 0, by omega, by go_num, rfl, by omega, by omega, HO2.out, HA.out.step (by omega) (by omega) (by omega) (by omega), hb'⟩
          case measure => (simp [intOf]) <;> omega
      · have HZ : Hid (lat ys i = 0) := lat_ge (by omega)
        have t2 : (ys.length : Int) ≤ (i : Int) := by omega
        by_cases hneg : lat xs i - br < 0
        · go_wp2_with (at_builtin; refine app_own rfl _ _ rfl _ _ w.heap.size wr.heap.size o [_] rfl rfl (HO'.out.alloc _) (Own.lit1 _ _) (by simp; omega) (by simp; omega) ?_)
          intro v' w' ho hg _
          have hb' := (HO'.out.alloc _).grownBelow (hb.alloc hsz _) hg (Nat.le_refl _) (by simp; omega)
          have HO2 := Lib.hid ho
          clear hg ho
          go_wp2
          go_roundw
          case rel => exact ⟨i + 1, _, 1, by omega, by go_num, rfl, by omega, by omega, HO2.out, HA.out.step (by have := HZ.out; omega) (by have := HZ.out; omega) (by omega) (by have := HZ.out; omega), hb'⟩
          case measure => (simp [intOf]) <;> omega
        · go_wp2_with (at_builtin; refine app_own rfl _ _ rfl _ _ w.heap.size wr.heap.size o [_] rfl rfl (HO'.out.alloc _) (Own.lit1 _ _) (by simp; omega) (by simp; omega) ?_)
          intro v' w' ho hg _
          have hb' := (HO'.out.alloc _).grownBelow (hb.alloc hsz _) hg (Nat.le_refl _) (by simp; omega)
          have HO2 := Lib.hid ho
          clear hg ho
          go_wp2
          go_roundw
          case rel => exact ⟨i + 1, _, 0, by omega, by go_num, rfl, by omega, by omega, HO2.out, HA.out.step (by have := HZ.out; omega) (by have := HZ.out; omega) (by omega) (by have := HZ.out; omega), hb'⟩
          case measure => (simp [intOf]) <;> omega
    · obtain rfl : i = xs.length := by omega
      have HV : Hid (nv o = (a - b : Nat)) := by
        have h := HA.out
        rw [← HX.out, ← HY.out] at h
        exact h.done hab
      have HR : Hid (InR o) := HA.out.inr
      go_wp2_with fail
      refine (l02Trim_c wr w.heap.size _ o (a - b) HO'.out HR.out HV.out).mono ?_
      rintro e w2 ⟨v, rfl, ho, _, hb2⟩
      have HO3 := Lib.hid ho
      clear ho
      go_wp2
      go_ret
      exact retS HO3.out rfl (hb.trans (hb2.mono hb.size))

set_option maxHeartbeats 400000 in
theorem l02Plain_c (w : World) (x y : Nat) (_hx : 0 < x ∨ 0 < y) (hx1 : x ≤ 9223372036854775807) (hy1 : y ≤ 9223372036854775807) :
    Calls Try.prog 101 #[.int .i64 x, .int .i64 y] w (RetS w (limbs (Nat.gcd x y))) := by
  clear _hx
  go_enter Try.func101, Try.ntmps101
  go_wp2
  go_loopw [0, 1] (fun s t wr => ∃ (p q : Nat), s = .int .i64 p ∧ t = .int .i64 q ∧ p ≤ 9223372036854775807 ∧ q ≤ 9223372036854775807 ∧ Hid (Nat.gcd p q = Nat.gcd x y) ∧ wr = w) (fun _ t _ => (intOf t).toNat)
  case atStart => exact ⟨x, y, rfl, rfl, hx1, hy1, rfl, rfl⟩
  case round =>
    obtain ⟨p, q, rfl, rfl, hp2, hq2, HG2, rfl⟩ := hrel
    by_cases hq : q = 0
    · subst hq
      have HE : Hid (p = Nat.gcd x y) := by have := HG2.out; rw [Nat.gcd_zero_right] at this; exact this
      go_wp2_with fail
      refine (specNatOf_c wr p (by omega)).mono ?_
      rintro e w2 ⟨v, rfl, ho, hb2⟩
      have HO3 := Lib.hid ho
      clear ho
      go_wp2
      go_ret
      exact retS HO3.out (by rw [← HE.out]; rfl) hb2
    · have hq0 : 0 < q := by omega
      have hz : ((q : Int) == 0) = false := beq_eq_false_iff_ne.2 (by omega)
      have t1 : (1 : Int) ≤ q := by omega
      clear hq
      go_wp2
      go_roundw
      case rel => exact ⟨q, p % q, rfl, by congr 1, hq2, by have := Nat.mod_lt p hq0; omega, by have := HG2.out; unfold Hid; rw [← this, Nat.gcd_comm p q, Nat.gcd_comm q (p % q)]; exact (Nat.gcd_rec q p).symm, (by first | rfl | trivial)⟩
      case measure => have := Nat.mod_lt p hq0; simp [intOf]; omega

end Go.Proofs.Ytcmhpdhcpkhejaa
