/- Plain mathematics: the binary search for a digit, schoolbook division, conversion from and to int; no program in sight. -/
import Derived.Test.YtcmhpdhcpkhejaaKnuth
namespace Lm

/-- The binary search for the digit r / b. -/
structure DigI (b r : Nat) (lo hi : Int) : Prop where
  l0 : 0 ≤ lo
  lh : lo ≤ hi
  hB : hi ≤ 999999999
  low : b * lo ≤ r
  high : r < b * (hi + 1)
theorem DigI.start {b r : Nat} (h : (r : Int) < b * 1000000000) : DigI b r 0 999999999 := ⟨by omega, by omega, by omega, by omega, by omega⟩
theorem DigI.mid {b r : Nat} {lo hi : Int} (h : DigI b r lo hi) (hlt : lo < hi) : lo < (lo + hi + 1) / 2 ∧ (lo + hi + 1) / 2 ≤ hi ∧ 0 ≤ (lo + hi + 1) / 2 := by
  have := h.l0
  omega
theorem DigI.up {b r : Nat} {lo hi q : Int} (h : DigI b r lo hi) (h0 : lo ≤ q) (h1 : q ≤ hi) (hq : b * q ≤ r) : DigI b r q hi :=
  ⟨by have := h.l0; omega, h1, h.hB, hq, h.high⟩
theorem DigI.down {b r : Nat} {lo hi q : Int} (h : DigI b r lo hi) (h0 : lo < q) (h1 : q ≤ hi) (hq : r < b * q) : DigI b r lo (q - 1) :=
  ⟨h.l0, by omega, by have := h.hB; omega, h.low, by rw [show q - 1 + 1 = q by omega]; exact hq⟩
theorem DigI.done {b r : Nat} {lo hi : Int} (h : DigI b r lo hi) (e : ¬ lo < hi) : lo = (r / b : Nat) := by
  have h1 := h.lh
  obtain rfl : lo = hi := by omega
  obtain ⟨n, rfl⟩ := Int.eq_ofNat_of_zero_le h.l0
  have h2 := h.low
  have h3 := h.high
  have h4 : b * n ≤ r := by
    have : ((b * n : Nat) : Int) ≤ r := by rw [Int.natCast_mul]; exact h2
    omega
  have h5 : r < b * (n + 1) := by
    have : (r : Int) < ((b * (n + 1) : Nat) : Int) := by rw [Int.natCast_mul]; exact h3
    omega
  have hb : 0 < b := by
    rcases Nat.eq_zero_or_pos b with rfl | hb
    · simp at h5
    · exact hb
  congr 1
  refine (Nat.div_eq_of_lt_le ?_ ?_).symm
  · rw [Nat.mul_comm]; exact h4
  · rw [Nat.mul_comm]; exact h5

/-- Schoolbook division: the digits from K on are known, the others are 0. -/
structure DivZ (xs : List Int) (b : Nat) (K : Nat) (out : List Int) (r : Nat) : Prop where
  div : DivI xs b K out r
  zer : ∀ j, j < K → lat out j = 0
theorem DivZ.start (xs : List Int) {b : Nat} (hb : 0 < b) : DivZ xs b xs.length (List.replicate xs.length 0) 0 :=
  ⟨DivI.start xs (by omega), fun j _ => lat_replicate _ j⟩
theorem set_same_lat {xs : List Int} {i : Nat} (h : i < xs.length) : xs.set i (lat xs i) = xs := by
  rw [lat_of_lt h]; exact List.set_getElem_self h
theorem DivZ.step {xs out : List Int} {b r i : Nat} (h : DivZ xs b (i + 1) out r) (hx : InR xs) (hi : i < xs.length) {s : Nat} (hs : (s : Int) = r * 1000000000 + lat xs i) :
    s < b * 1000000000 ∧ DivZ xs b i (out.set i ((s / b : Nat) : Int)) (s % b) := by
  have hl := hx.lat i
  have hr := h.div.rem
  have h1 := h.div.step hx hi
  rw [← hs, ← Int.natCast_ediv, ← Int.natCast_emod] at h1
  refine ⟨by omega, h1, fun j hj => ?_⟩
  rw [lat_set_other (by omega)]
  exact h.zer j (by omega)
theorem DivZ.skip {xs out : List Int} {b r i : Nat} (h : DivZ xs b (i + 1) out r) (hx : InR xs) (hi : i < xs.length) {s : Nat} (hs : (s : Int) = r * 1000000000 + lat xs i) (hlt : s < b) : DivZ xs b i out s := by
  have h1 := (h.step hx hi hs).2
  rw [Nat.div_eq_of_lt hlt, Nat.mod_eq_of_lt hlt] at h1
  have h2 : out.set i ((0 : Nat) : Int) = out := by
    have h3 := set_same_lat (xs := out) (i := i) (by rw [h.div.len]; exact hi)
    rw [h.zer i (by omega)] at h3
    exact h3
  rwa [h2] at h1
theorem DivZ.done {a b : Nat} {out : List Int} {r : Nat} (h : DivZ (limbs a) b 0 out r) : nv out = (a / b : Nat) ∧ r = a % b := by
  have h1 := h.div.done
  rw [nv_limbs] at h1
  have h2 := h.div.rem
  have h3 := h.div.inr.nonneg
  obtain ⟨o, ho⟩ := Int.eq_ofNat_of_zero_le h3
  rw [ho] at h1 ⊢
  have h4 : a = b * o + r := by
    have : (a : Int) = ((b * o + r : Nat) : Int) := by rw [Int.natCast_add, Int.natCast_mul]; exact h1
    omega
  have hr : r < b := by omega
  have hb : 0 < b := by omega
  subst h4
  rw [Nat.mul_add_div hb, Nat.div_eq_of_lt hr, Nat.mul_add_mod, Nat.mod_eq_of_lt hr]
  simp

theorem DivI.quot {a d : Nat} {out : List Int} {r : Int} (h : DivI (limbs a) d 0 out r) : nv out = (a / d : Nat) ∧ r = (a % d : Nat) := by
  have h2 := h.rem
  obtain ⟨rn, rfl⟩ := Int.eq_ofNat_of_zero_le h2.1
  have h1 := h.done
  rw [nv_limbs] at h1
  have h3 := h.inr.nonneg
  obtain ⟨o, ho⟩ := Int.eq_ofNat_of_zero_le h3
  rw [ho] at h1 ⊢
  have h4 : a = d * o + rn := by
    have : (a : Int) = ((d * o + rn : Nat) : Int) := by rw [Int.natCast_add, Int.natCast_mul]; exact h1
    omega
  have hr : rn < d := by omega
  have hb : 0 < d := by omega
  subst h4
  rw [Nat.mul_add_div hb, Nat.div_eq_of_lt hr, Nat.mul_add_mod, Nat.mod_eq_of_lt hr]
  simp

/-- The next limb of a number on the way out. -/
theorem natOf_step {n m : Nat} {o : List Int} (h : o ++ limbs m = limbs n) (hm : 0 < m) : (o ++ [((m % 1000000000 : Nat) : Int)]) ++ limbs (m / 1000000000) = limbs n := by
  rw [← h, limbs_succ m, if_neg (by omega)]; simp
theorem natOf_len {n m : Nat} {o : List Int} (h : o ++ limbs m = limbs n) : o.length ≤ (limbs n).length := by rw [← h]; simp

theorem drop_le {xs : List Int} (h : InR xs) (k : Nat) : nv (xs.drop k) ≤ nv xs := by
  by_cases hk : k ≤ xs.length
  · rw [nv_split xs k hk]
    have h1 := (h.take k).nonneg
    have h2 := (h.drop k).nonneg
    have h3 := Int.mul_le_mul_of_nonneg_right (pw_ge k) h2
    omega
  · rw [nv_drop_all (by omega)]; exact h.nonneg

theorem cmp3_cases (a b : Int) : (a < b ∧ cmp3 a b = -1) ∨ (a = b ∧ cmp3 a b = 0) ∨ (b < a ∧ cmp3 a b = 1) := by
  unfold cmp3
  by_cases h : a < b
  · exact .inl ⟨h, if_pos h⟩
  · by_cases h2 : b < a
    · exact .inr (.inr ⟨h2, by rw [if_neg h, if_pos h2]⟩)
    · exact .inr (.inl ⟨by omega, by rw [if_neg h, if_neg h2]⟩)

end Lm
