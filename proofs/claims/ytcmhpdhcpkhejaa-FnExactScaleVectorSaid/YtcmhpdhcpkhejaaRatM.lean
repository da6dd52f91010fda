/- Fractions in plain numbers: lowest terms, with the bound on the numbers of limbs. -/
import Derived.Test.YtcmhpdhcpkhejaaLimbs
namespace Go.Proofs.Ytcmhpdhcpkhejaa
open Lm

/-- Not more than 24 limbs. -/
def Fit (n : Nat) : Prop := (limbs n).length ≤ 24
/-- The pair z / d, d > 0, in lowest terms, if both numbers have no more than 24 limbs; else 0 / 0. -/
def FitQ (z : Int) (d : Nat) : Prop := 0 < d ∧ Fit (z.natAbs / Nat.gcd z.natAbs d) ∧ Fit (d / Nat.gcd z.natAbs d)
open Classical in
noncomputable def lowZ (z : Int) (d : Nat) : Int := if FitQ z d then z / (Nat.gcd z.natAbs d : Nat) else 0
open Classical in
noncomputable def lowD (z : Int) (d : Nat) : Nat := if FitQ z d then d / Nat.gcd z.natAbs d else 0
theorem low_yes {z : Int} {d : Nat} (h : FitQ z d) : lowZ z d = z / (Nat.gcd z.natAbs d : Nat) ∧ lowD z d = d / Nat.gcd z.natAbs d := ⟨if_pos h, if_pos h⟩
theorem low_no {z : Int} {d : Nat} (h : ¬ FitQ z d) : lowZ z d = 0 ∧ lowD z d = 0 := ⟨if_neg h, if_neg h⟩

theorem natAbs_ediv_dvd {z : Int} {g : Nat} (h : g ∣ z.natAbs) : (z / (g : Int)).natAbs = z.natAbs / g := by
  rcases Nat.eq_zero_or_pos g with h0 | h0
  · subst h0; simp
  obtain ⟨k, hk⟩ := h
  rcases Int.natAbs_eq z with e | e
  · rw [e, hk]
    rw [show ((g * k : Nat) : Int) = (g : Int) * (k : Int) by simp, Int.mul_ediv_cancel_left _ (by omega)]
    rw [Int.natAbs_mul, Int.natAbs_natCast, Int.natAbs_natCast, Nat.mul_div_cancel_left _ h0]
  · rw [e, hk]
    rw [show (-((g * k : Nat) : Int)) = (g : Int) * (-(k : Int)) by rw [Int.mul_neg]; simp, Int.mul_ediv_cancel_left _ (by omega)]
    rw [Int.natAbs_neg, Int.natAbs_mul, Int.natAbs_neg, Int.natAbs_natCast, Int.natAbs_natCast, Nat.mul_div_cancel_left _ h0]
theorem ediv_neg_iff {z : Int} {g : Nat} (hg : 0 < g) (h : g ∣ z.natAbs) : z / (g : Int) < 0 ↔ z < 0 := by
  obtain ⟨k, hk⟩ := h
  rcases Int.natAbs_eq z with e | e
  · rw [e, hk, show ((g * k : Nat) : Int) = (g : Int) * (k : Int) by simp, Int.mul_ediv_cancel_left _ (by omega)]
    constructor
    · intro h; omega
    · intro h
      have : (0 : Int) ≤ (g : Int) * (k : Int) := Int.mul_nonneg (by omega) (by omega)
      omega
  · rw [e, hk, show (-((g * k : Nat) : Int)) = (g : Int) * (-(k : Int)) by rw [Int.mul_neg]; simp, Int.mul_ediv_cancel_left _ (by omega)]
    constructor
    · intro h; exact Int.mul_neg_of_pos_of_neg (by omega) h
    · intro h
      rcases Nat.eq_zero_or_pos k with h0 | h0
      · subst h0; simp at h
      · omega
theorem gcd_pos_den {z : Int} {d : Nat} (h : 0 < d) : 0 < Nat.gcd z.natAbs d := Nat.gcd_pos_of_pos_right _ h
theorem lowD_pos {z : Int} {d : Nat} (h : FitQ z d) : 0 < lowD z d := by
  rw [(low_yes h).2]
  exact Nat.div_pos (Nat.le_of_dvd h.1 (Nat.gcd_dvd_right _ _)) (gcd_pos_den h.1)
theorem lowD_zero {z : Int} {d : Nat} : lowD z d = 0 ↔ ¬ FitQ z d := by
  constructor
  · intro h h2; have := lowD_pos h2; omega
  · intro h; exact (low_no h).2
/-- A fraction in lowest terms within the bounds. -/
def IsQ (z : Int) (d : Nat) : Prop := 0 < d ∧ Nat.gcd z.natAbs d = 1 ∧ Fit z.natAbs ∧ Fit d
theorem low_isQ {z : Int} {d : Nat} (h : FitQ z d) : IsQ (lowZ z d) (lowD z d) := by
  have hp := lowD_pos h
  obtain ⟨e1, e2⟩ := low_yes h
  have hn : (lowZ z d).natAbs = z.natAbs / Nat.gcd z.natAbs d := by rw [e1]; exact natAbs_ediv_dvd (Nat.gcd_dvd_left _ _)
  refine ⟨hp, ?_, ?_, ?_⟩
  · rw [hn, e2, Nat.gcd_div (Nat.gcd_dvd_left _ _) (Nat.gcd_dvd_right _ _)]; exact Nat.div_self (gcd_pos_den h.1)
  · rw [hn]; exact h.2.1
  · rw [e2]; exact h.2.2
theorem low_of_isQ {z : Int} {d : Nat} (h : IsQ z d) : lowZ z d = z ∧ lowD z d = d := by
  have hf : FitQ z d := ⟨h.1, by rw [h.2.1, Nat.div_one]; exact h.2.2.1, by rw [h.2.1, Nat.div_one]; exact h.2.2.2⟩
  obtain ⟨e1, e2⟩ := low_yes hf
  rw [e1, e2, h.2.1]
  exact ⟨by simp, by simp⟩
theorem gcd_scale (z : Int) (d k : Nat) : Nat.gcd (z * (k : Int)).natAbs (d * k) = Nat.gcd z.natAbs d * k := by
  rw [Int.natAbs_mul, Int.natAbs_natCast, Nat.gcd_mul_right]
theorem low_scale (z : Int) (d : Nat) {k : Nat} (hk : 0 < k) : lowZ (z * (k : Int)) (d * k) = lowZ z d ∧ lowD (z * (k : Int)) (d * k) = lowD z d := by
  have e1 : (z * (k : Int)).natAbs / (Nat.gcd z.natAbs d * k) = z.natAbs / Nat.gcd z.natAbs d := by
    rw [Int.natAbs_mul, Int.natAbs_natCast, Nat.mul_div_mul_right _ _ hk]
  have e2 : d * k / (Nat.gcd z.natAbs d * k) = d / Nat.gcd z.natAbs d := Nat.mul_div_mul_right _ _ hk
  have hf : FitQ (z * (k : Int)) (d * k) ↔ FitQ z d := by
    unfold FitQ
    rw [gcd_scale, e1, e2]
    constructor
    · rintro ⟨h1, h2, h3⟩; exact ⟨Nat.pos_of_mul_pos_right h1, h2, h3⟩
    · rintro ⟨h1, h2, h3⟩; exact ⟨Nat.mul_pos h1 hk, h2, h3⟩
  by_cases h : FitQ z d
  · obtain ⟨a1, a2⟩ := low_yes h
    obtain ⟨b1, b2⟩ := low_yes (hf.2 h)
    rw [a1, a2, b1, b2, gcd_scale, e2]
    refine ⟨?_, rfl⟩
    rw [Int.natCast_mul, Int.mul_ediv_mul_of_pos_left _ _ (by omega)]
  · obtain ⟨a1, a2⟩ := low_no h
    obtain ⟨b1, b2⟩ := low_no (fun h2 => h (hf.1 h2))
    rw [a1, a2, b1, b2]; exact ⟨rfl, rfl⟩
/-- Products and sums of what is within the bounds stay small. -/
theorem fit_lt {n : Nat} (h : Fit n) : (n : Int) < pw 24 := limbs_len_le.1 h
theorem len_mul {a b : Nat} {i j : Nat} (ha : (limbs a).length ≤ i) (hb : (limbs b).length ≤ j) : (limbs (a * b)).length ≤ i + j := by
  rw [limbs_len_le] at *
  rw [pw_add]
  rw [show ((a * b : Nat) : Int) = (a : Int) * (b : Int) by simp]
  rcases Nat.eq_zero_or_pos b with h0 | h0
  · subst h0
    have := Int.mul_pos (pw_pos i) (pw_pos j)
    simp; omega
  · exact Int.lt_of_lt_of_le (Int.mul_lt_mul_of_pos_right ha (by omega)) (Int.mul_le_mul_of_nonneg_left (by omega) (Int.le_of_lt (pw_pos i)))
theorem len_add {a b i : Nat} (ha : (limbs a).length ≤ i) (hb : (limbs b).length ≤ i) : (limbs (a + b)).length ≤ i + 1 := by
  rw [limbs_len_le] at *
  rw [pw_succ]
  have := pw_pos i
  omega

end Go.Proofs.Ytcmhpdhcpkhejaa
