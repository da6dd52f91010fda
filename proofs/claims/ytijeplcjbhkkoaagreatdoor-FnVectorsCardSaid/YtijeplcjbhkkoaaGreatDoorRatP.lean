/- Fractions in plain numbers: their values, and how large they are. -/
import Derived.Test.YtijeplcjbhkkoaaGreatDoorRatG
namespace Go.Proofs.YtijeplcjbhkkoaaGreatDoor
open Go.RowKit Lm

/-- The value. -/
def vq (z : Int) (d : Nat) : Rat := (z : Rat) / ((d : Int) : Rat)
theorem vq_ne {d : Nat} (h : 0 < d) : ((d : Int) : Rat) ≠ 0 := by
  intro e
  have h1 : ((d : Int) : Rat) = ((0 : Int) : Rat) := e
  have := Rat.intCast_inj.1 h1
  omega
theorem vq_iff {z y : Int} {d f : Nat} (hd : 0 < d) (hf : 0 < f) : vq z d = vq y f ↔ z * f = y * d := by
  have h1 := vq_ne hd
  have h2 := vq_ne hf
  unfold vq
  constructor
  · intro h
    have e : ((z : Rat)) * ((f : Int) : Rat) = (y : Rat) * ((d : Int) : Rat) := by grind
    have e2 : ((z * f : Int) : Rat) = ((y * d : Int) : Rat) := by rw [Rat.intCast_mul, Rat.intCast_mul]; exact e
    exact Rat.intCast_inj.1 e2
  · intro h
    have e2 : ((z * f : Int) : Rat) = ((y * d : Int) : Rat) := by rw [h]
    rw [Rat.intCast_mul, Rat.intCast_mul] at e2
    grind
theorem vq_add {z y : Int} {d f : Nat} (hd : 0 < d) (hf : 0 < f) : vq (z * f + y * d) (d * f) = vq z d + vq y f := by
  have h1 := vq_ne hd
  have h2 := vq_ne hf
  unfold vq
  rw [Int.natCast_mul, Rat.intCast_mul, Rat.intCast_add, Rat.intCast_mul, Rat.intCast_mul]
  grind
theorem vq_mul {z y : Int} {d f : Nat} (hd : 0 < d) (hf : 0 < f) : vq (z * y) (d * f) = vq z d * vq y f := by
  have h1 := vq_ne hd
  have h2 := vq_ne hf
  unfold vq
  rw [Int.natCast_mul, Rat.intCast_mul, Rat.intCast_mul]
  grind
theorem vq_neg (z : Int) (d : Nat) : vq (-z) d = - vq z d := by
  unfold vq
  rw [Rat.intCast_neg]
  grind
theorem vq_zero (d : Nat) : vq 0 d = 0 := by
  unfold vq
  have : ((0 : Int) : Rat) = 0 := rfl
  rw [this]
  grind
/-- Two fractions in lowest terms of one value are one. -/
theorem isQ_inj {z y : Int} {d f : Nat} (h : IsQ z d) (k : IsQ y f) (e : vq z d = vq y f) : z = y ∧ d = f := by
  have hc := (vq_iff h.1 k.1).1 e
  obtain ⟨a1, a2⟩ := low_of_isQ h
  obtain ⟨b1, b2⟩ := low_of_isQ k
  obtain ⟨s1, s2⟩ := low_scale z d k.1
  obtain ⟨t1, t2⟩ := low_scale y f h.1
  rw [hc, Nat.mul_comm d f] at s1 s2
  exact ⟨by rw [← a1, ← b1, ← s1, ← t1], by rw [← a2, ← b2, ← s2, ← t2]⟩

/-- In lowest terms, both numbers below the k-th power of the base. -/
def Sz (k : Nat) (z : Int) (d : Nat) : Prop := IsQ z d ∧ (z.natAbs : Int) < pw k ∧ (d : Int) < pw k
theorem fit_small {n : Nat} (h : (n : Int) < pw 24) : Fit n := limbs_len_le.2 h
theorem low_sz {p : Int} {q m : Nat} (hq : 0 < q) (hp : (p.natAbs : Int) < pw m) (hqm : (q : Int) < pw m) (hm : m ≤ 24) : Sz m (qlow p q).1 (qlow p q).2 ∧ vq (qlow p q).1 (qlow p q).2 = vq p q := by
  have h24 := pw_mono hm
  have hg : 0 < Nat.gcd p.natAbs q := Nat.gcd_pos_of_pos_right _ hq
  have l1 : p.natAbs / Nat.gcd p.natAbs q ≤ p.natAbs := Nat.div_le_self _ _
  have l2 : q / Nat.gcd p.natAbs q ≤ q := Nat.div_le_self _ _
  have hf : FitQ p q := ⟨hq, fit_small (by omega), fit_small (by omega)⟩
  have hi := low_isQ hf
  obtain ⟨e1, e2⟩ := low_yes hf
  have n1 : (lowZ p q).natAbs = p.natAbs / Nat.gcd p.natAbs q := by rw [e1]; exact natAbs_ediv_dvd (Nat.gcd_dvd_left _ _)
  refine ⟨⟨hi, ?_, ?_⟩, ?_⟩
  · show ((lowZ p q).natAbs : Int) < pw m
    rw [n1]; omega
  · show ((lowD p q : Nat) : Int) < pw m
    rw [e2]; omega
  · show vq (lowZ p q) (lowD p q) = vq p q
    rw [vq_iff hi.1 hq, e1, e2]
    obtain ⟨a, ha⟩ : (Nat.gcd p.natAbs q : Int) ∣ p := Int.dvd_natAbs.1 (Int.natCast_dvd_natCast.2 (Nat.gcd_dvd_left _ _))
    obtain ⟨b, hb⟩ : Nat.gcd p.natAbs q ∣ q := Nat.gcd_dvd_right _ _
    have ea : p / (Nat.gcd p.natAbs q : Int) = a := by
      rw [Int.ediv_eq_iff_eq_mul_left (by omega) ⟨a, ha⟩]; rw [Int.mul_comm]; exact ha
    have eb : q / Nat.gcd p.natAbs q = b := by
      rw [Nat.div_eq_iff_eq_mul_left hg ⟨b, hb⟩]; rw [Nat.mul_comm]; exact hb
    rw [ea, eb]
    have hqc : (q : Int) = (Nat.gcd p.natAbs q : Int) * (b : Int) := by
      have := congrArg (fun n : Nat => (n : Int)) hb
      simpa using this
    generalize (Nat.gcd p.natAbs q : Int) = G at *
    grind
theorem pw_lt_mul {a b : Int} {i j : Nat} (_ha0 : 0 ≤ a) (hb0 : 0 ≤ b) (ha : a < pw i) (hb : b < pw j) : a * b < pw (i + j) := by
  rw [pw_add]
  have h1 := pw_pos i
  have h2 := pw_pos j
  rcases Int.lt_or_eq_of_le hb0 with h | h
  · exact Int.lt_of_lt_of_le (Int.mul_lt_mul_of_pos_right ha h) (Int.mul_le_mul_of_nonneg_left (Int.le_of_lt hb) (Int.le_of_lt h1))
  · rw [← h, Int.mul_zero]; exact Int.mul_pos h1 h2
theorem mul_sz {j k : Nat} {z y : Int} {d f : Nat} (h : Sz j z d) (g : Sz k y f) (hjk : j + k ≤ 24) : Sz (j + k) (qmul z d y f).1 (qmul z d y f).2 ∧ vq (qmul z d y f).1 (qmul z d y f).2 = vq z d * vq y f := by
  rw [← vq_mul h.1.1 g.1.1]
  refine low_sz (Nat.mul_pos h.1.1 g.1.1) ?_ ?_ hjk
  · rw [Int.natAbs_mul, Int.natCast_mul]
    exact pw_lt_mul (by omega) (by omega) h.2.1 g.2.1
  · rw [Int.natCast_mul]
    exact pw_lt_mul (by omega) (by omega) h.2.2 g.2.2
theorem add_sz {j k : Nat} {z y : Int} {d f : Nat} (h : Sz j z d) (g : Sz k y f) (hjk : j + k + 1 ≤ 24) : Sz (j + k + 1) (qadd z d y f).1 (qadd z d y f).2 ∧ vq (qadd z d y f).1 (qadd z d y f).2 = vq z d + vq y f := by
  rw [← vq_add h.1.1 g.1.1]
  have e := pw_succ (j + k)
  have p0 := pw_pos (j + k)
  refine low_sz (Nat.mul_pos h.1.1 g.1.1) ?_ ?_ hjk
  · have h1 : ((z * f).natAbs : Int) < pw (j + k) := by
      rw [Int.natAbs_mul, Int.natAbs_natCast, Int.natCast_mul]
      exact pw_lt_mul (by omega) (by omega) h.2.1 g.2.2
    have h2 : ((y * d).natAbs : Int) < pw (j + k) := by
      rw [Int.natAbs_mul, Int.natAbs_natCast, Int.natCast_mul, Int.mul_comm]
      exact pw_lt_mul (by omega) (by omega) h.2.2 g.2.1
    have h3 := Int.natAbs_add_le (z * f) (y * d)
    omega
  · have h1 : ((d * f : Nat) : Int) < pw (j + k) := by
      rw [Int.natCast_mul]
      exact pw_lt_mul (by omega) (by omega) h.2.2 g.2.2
    omega
theorem neg_sz {k : Nat} {z : Int} {d : Nat} (h : Sz k z d) : Sz k (-z) d := ⟨isQ_neg h.1, by rw [Int.natAbs_neg]; exact h.2.1, h.2.2⟩
theorem sub_sz {j k : Nat} {z y : Int} {d f : Nat} (h : Sz j z d) (g : Sz k y f) (hjk : j + k + 1 ≤ 24) : Sz (j + k + 1) (qsub z d y f).1 (qsub z d y f).2 ∧ vq (qsub z d y f).1 (qsub z d y f).2 = vq z d - vq y f := by
  have := add_sz h (neg_sz g) hjk
  rw [vq_neg] at this
  unfold qsub
  refine ⟨this.1, ?_⟩
  rw [this.2]; grind
theorem sgnd_mul (y : Int) (f : Nat) : sgnd y f * y = (f : Int) * (y.natAbs : Int) := by
  unfold sgnd
  split
  · have : (y.natAbs : Int) = -y := by omega
    rw [this]; grind
  · have : (y.natAbs : Int) = y := by omega
    rw [this]
theorem div_sz {j k : Nat} {z y : Int} {d f : Nat} (h : Sz j z d) (g : Sz k y f) (hy : y ≠ 0) (hjk : j + k ≤ 24) : Sz (j + k) (qdiv z d y f).1 (qdiv z d y f).2 ∧ vq (qdiv z d y f).1 (qdiv z d y f).2 * vq y f = vq z d := by
  have hp : 0 < d * y.natAbs := Nat.mul_pos h.1.1 (by omega)
  have := low_sz (p := z * sgnd y f) hp (by
    rw [Int.natAbs_mul, sgnd_abs, Int.natCast_mul]
    exact pw_lt_mul (by omega) (by omega) h.2.1 g.2.2) (by
    rw [Int.natCast_mul]
    exact pw_lt_mul (by omega) (by omega) h.2.2 g.2.1) hjk
  refine ⟨this.1, ?_⟩
  have e : vq (qdiv z d y f).1 (qdiv z d y f).2 = vq (z * sgnd y f) (d * y.natAbs) := this.2
  rw [e, ← vq_mul hp g.1.1, vq_iff (Nat.mul_pos hp g.1.1) h.1.1]
  have := sgnd_mul y f
  rw [Int.natCast_mul, Int.natCast_mul]
  grind
/-- The sign of a difference. -/
theorem sub_sign {j k : Nat} {z y : Int} {d f : Nat} (h : Sz j z d) (g : Sz k y f) (hjk : j + k + 1 ≤ 24) : (if (qsub z d y f).1 < 0 then (-1 : Int) else if 0 < (qsub z d y f).1 then 1 else 0) = qcmp z d y f := by
  obtain ⟨s, e⟩ := sub_sz h g hjk
  have hd := s.1.1
  have e2 : vq (qsub z d y f).1 (qsub z d y f).2 = vq (z * f + (-y) * d) (d * f) := by
    rw [e, vq_add h.1.1 g.1.1, vq_neg]; grind
  have e3 := (vq_iff hd (Nat.mul_pos h.1.1 g.1.1)).1 e2
  have hdf : (0 : Int) < ((d * f : Nat) : Int) := by have := Nat.mul_pos h.1.1 g.1.1; omega
  have hes : (0 : Int) < (((qsub z d y f).2 : Nat) : Int) := by omega
  have e4 : z * f + (-y) * d = z * f - y * d := by grind
  rw [e4] at e3
  unfold qcmp cmp3
  generalize (qsub z d y f).1 = u at *
  generalize (((qsub z d y f).2 : Nat) : Int) = v at *
  generalize ((d * f : Nat) : Int) = D at *
  generalize z * (f : Int) = p at *
  generalize y * (d : Int) = q at *
  rcases Int.lt_trichotomy u 0 with hu | hu | hu
  · have h1 : u * D < 0 := Int.mul_neg_of_neg_of_pos hu hdf
    rw [e3] at h1
    have h2 : p - q < 0 := by
      rcases Int.lt_or_le (p - q) 0 with h | h
      · exact h
      · have := Int.mul_nonneg h (Int.le_of_lt hes); omega
    rw [if_pos hu]
    simp [show p < q by omega]
  · subst hu
    rw [Int.zero_mul] at e3
    have h2 : p - q = 0 := by
      rcases Int.mul_eq_zero.1 e3.symm with h | h
      · exact h
      · omega
    simp [show p = q by omega]
  · have h1 : 0 < u * D := Int.mul_pos hu hdf
    rw [e3] at h1
    have h2 : 0 < p - q := by
      rcases Int.lt_or_le 0 (p - q) with h | h
      · exact h
      · have := Int.mul_nonneg (show 0 ≤ -(p - q) by omega) (Int.le_of_lt hes)
        rw [Int.neg_mul] at this; omega
    rw [if_neg (by omega), if_pos hu]
    simp [show ¬ p < q by omega, show q < p by omega]

end Go.Proofs.YtijeplcjbhkkoaaGreatDoor
