/- Plain mathematics: long division on limbs (Knuth's algorithm D) and the binary search for a digit; no program in sight. -/
import Derived.Test.YtcmhpdhcpkhejaaArith
namespace Lm

theorem inR_of_lat {xs : List Int} (h : ∀ j, 0 ≤ lat xs j ∧ lat xs j < 1000000000) : InR xs := by
  intro y hy
  obtain ⟨i, hi, rfl⟩ := List.getElem_of_mem hy
  have := h i
  rwa [lat_of_lt hi] at this

theorem lat_zero_of_small {xs : List Int} (h : InR xs) {n : Nat} (hlt : nv xs < pw n) (j : Nat) (hj : n ≤ j) : lat xs j = 0 := by
  by_cases hjl : j < xs.length
  · have h1 := h.lat j
    rw [nv_split xs j (by omega), nv_drop xs j hjl] at hlt
    have h2 := (h.take j).nonneg
    have h3 := (h.drop (j + 1)).nonneg
    have h4 := pw_mono hj
    by_cases h0 : lat xs j = 0
    · exact h0
    · have h5 : pw j * 1 ≤ pw j * (lat xs j + 1000000000 * nv (xs.drop (j + 1))) := Int.mul_le_mul_of_nonneg_left (by omega) (Int.le_of_lt (pw_pos j))
      omega
  · exact lat_ge (by omega)

theorem nv_take_of_small {xs : List Int} {n : Nat} (h : ∀ j, n ≤ j → lat xs j = 0) : nv xs = nv (xs.take n) := by
  by_cases hn : n ≤ xs.length
  · exact (nv_take_zeros xs n hn h).symm
  · rw [List.take_of_length_le (by omega)]

/-- The state of the long division when the digits from K on are known. -/
structure KI (y : List Int) (X : Int) (K : Nat) (x out : List Int) : Prop where
  lx : x.length = out.length + y.length
  ix : InR x
  io : InR out
  val : nv x + pw K * (nv y * nv (out.drop K)) = X
  rem : nv (x.drop K) < nv y

theorem KI.step {y x out x' : List Int} {X q : Int} {k : Nat} (h : KI y X (k + 1) x out) (hk : k < out.length) (hq0 : 0 ≤ q) (hq1 : q < 1000000000) (hl : x'.length = x.length) (hx : InR x') (hv : nv x' = nv x - pw k * (q * nv y)) (hr : nv (x'.drop k) < nv y) :
    KI y X k x' (out.set k q) := by
  refine ⟨by simp [hl, h.lx], hx, h.io.set _ hq0 hq1, ?_, hr⟩
  rw [nv_drop _ k (by simpa using hk), lat_set_same hk, List.drop_set_of_lt (by omega), hv, ← h.val, pw_succ]
  grind

theorem KI.last {y x out : List Int} {X : Int} (h : KI y X 0 x out) : nv x + nv y * nv out = X ∧ nv x < nv y := by
  have h1 := h.val
  have h2 := h.rem
  simp only [pw_zero, Int.one_mul, List.drop_zero] at h1 h2
  exact ⟨h1, h2⟩

/-- The parts of the dividend at one digit. -/
structure Parts (y x : List Int) (k n : Nat) (D xl x2 x1 x0 : Int) : Prop where
  dn : D = nv (x.drop k)
  val : D = xl + pw (n - 2) * ((x0 * 1000000000 + x1) * 1000000000 + x2)
  lo : 0 ≤ xl ∧ xl < pw (n - 2)

theorem KI.top {y x out : List Int} {X : Int} {k : Nat} (h : KI y X (k + 1) x out) (hy : InR y) (j : Nat) (hj : k + y.length + 1 ≤ j) : lat x j = 0 := by
  have h1 := hy.lt
  have h2 := h.rem
  have h3 := lat_zero_of_small (h.ix.drop (k + 1)) (Int.lt_trans h2 h1) (j - (k + 1)) (by omega)
  rw [lat_drop, show k + 1 + (j - (k + 1)) = j by omega] at h3
  exact h3

theorem KI.parts {y x out : List Int} {X : Int} {k : Nat} (h : KI y X (k + 1) x out) (hy : InR y) (hn : 2 ≤ y.length) (hk : k < out.length) :
    Parts y x k y.length (nv (x.drop k)) (nv ((x.drop k).take (y.length - 2))) (lat x (k + y.length - 2)) (lat x (k + y.length - 1)) (lat x (k + y.length)) := by
  have hl := h.lx
  refine ⟨rfl, ?_, (h.ix.drop k |>.take _).nonneg, ?_⟩
  · rw [nv_split (x.drop k) (y.length - 2) (by simp; omega), List.drop_drop]
    rw [nv_drop _ (k + (y.length - 2)) (by omega), nv_drop _ (k + (y.length - 2) + 1) (by omega), nv_drop _ (k + (y.length - 2) + 1 + 1) (by omega)]
    have hz : nv (x.drop (k + (y.length - 2) + 1 + 1 + 1)) = 0 := by
      rw [nv_take_of_small (n := 0) (by intro j _; rw [lat_drop]; exact h.top hy _ (by omega))]; rfl
    rw [hz, show k + (y.length - 2) = k + y.length - 2 by omega, show k + y.length - 2 + 1 = k + y.length - 1 by omega, show k + y.length - 1 + 1 = k + y.length by omega]
    grind
  · have := ((h.ix.drop k).take (y.length - 2)).lt
    rw [List.length_take, List.length_drop, Nat.min_eq_left (by omega)] at this
    exact this

theorem KI.dlt {y x out : List Int} {X : Int} {k : Nat} (h : KI y X (k + 1) x out) (hk : k < out.length) : nv (x.drop k) < 1000000000 * nv y := by
  have hl := h.lx
  rw [nv_drop x k (by omega)]
  have h1 := h.ix.lat k
  have h2 := h.rem
  omega

/-- The top limb of the rest is at most the top limb of the divisor. -/
theorem KI.topLe {y x out : List Int} {X : Int} {k : Nat} (h : KI y X (k + 1) x out) (hy : InR y) (hn : 2 ≤ y.length) (hk : k < out.length) : lat x (k + y.length) ≤ lat y (y.length - 1) := by
  have hl := h.lx
  have h2 := h.rem
  have e1 : nv (x.drop (k + 1)) = nv ((x.drop (k + 1)).take (y.length - 1)) + pw (y.length - 1) * nv (x.drop (k + y.length)) := by
    rw [nv_split (x.drop (k + 1)) (y.length - 1) (by simp; omega), List.drop_drop, show k + 1 + (y.length - 1) = k + y.length by omega]
  have e2 : nv y = nv (y.take (y.length - 1)) + pw (y.length - 1) * nv (y.drop (y.length - 1)) := nv_split y _ (by omega)
  rw [nv_drop x (k + y.length) (by omega)] at e1
  rw [nv_drop y (y.length - 1) (by omega), nv_drop_all (by omega)] at e2
  have h3 := ((h.ix.drop (k + 1)).take (y.length - 1)).nonneg
  have h4 := (hy.take (y.length - 1)).lt
  rw [List.length_take, Nat.min_eq_left (by omega)] at h4
  have h5 := (h.ix.drop (k + y.length + 1)).nonneg
  by_cases hc : lat x (k + y.length) ≤ lat y (y.length - 1)
  · exact hc
  · have h6 : pw (y.length - 1) * (lat y (y.length - 1) + 1) ≤ pw (y.length - 1) * (lat x (k + y.length) + 1000000000 * nv (x.drop (k + y.length + 1))) :=
      Int.mul_le_mul_of_nonneg_left (by omega) (Int.le_of_lt (pw_pos _))
    rw [Int.mul_add, Int.mul_one] at h6
    simp only [Int.mul_zero, Int.add_zero] at e2
    omega

/-- The divisor in three parts. -/
theorem y_parts {y : List Int} (hy : InR y) (hn : 2 ≤ y.length) : ∃ yl, 0 ≤ yl ∧ yl < pw (y.length - 2) ∧ nv y = yl + pw (y.length - 2) * (lat y (y.length - 1) * 1000000000 + lat y (y.length - 2)) := by
  refine ⟨nv (y.take (y.length - 2)), (hy.take _).nonneg, ?_, ?_⟩
  · have := (hy.take (y.length - 2)).lt
    rwa [List.length_take, Nat.min_eq_left (by omega)] at this
  · rw [nv_split y (y.length - 2) (by omega), nv_drop y (y.length - 2) (by omega), nv_drop y (y.length - 2 + 1) (by omega), nv_drop_all (by omega), show y.length - 2 + 1 = y.length - 1 by omega]
    grind

/-- A digit that is too large by the test is too large. -/
theorem digit_high {D Y P xl yl X3 Y2 q : Int} (hP : 0 < P) (hD : D = xl + P * X3) (hxl : xl < P) (hY : Y = yl + P * Y2) (hyl : 0 ≤ yl) (hq : 0 ≤ q) (h : X3 < q * Y2) : D < q * Y := by
  have h1 : P * (X3 + 1) ≤ P * (q * Y2) := Int.mul_le_mul_of_nonneg_left (by omega) (by omega)
  have h2 : 0 ≤ q * yl := Int.mul_nonneg hq hyl
  have h3 : q * Y = q * yl + P * (q * Y2) := by rw [hY]; grind
  rw [Int.mul_add, Int.mul_one] at h1
  omega
/-- A digit that passes the test is too large by one at most. -/
theorem digit_low {D Y P xl yl X3 Y2 q : Int} (hP : 0 < P) (hD : D = xl + P * X3) (hxl : 0 ≤ xl) (hY : Y = yl + P * Y2) (hyl : 0 ≤ yl) (hyl2 : yl < P) (hY2 : 0 ≤ Y2) (hq : 0 ≤ q) (hX3 : 0 ≤ X3) (h : q * Y2 ≤ X3) (hqY : q ≤ Y2 + 1) : (q - 1) * Y ≤ D := by
  by_cases h0 : q = 0
  · subst h0
    have h1 : 0 ≤ P * Y2 := Int.mul_nonneg (by omega) hY2
    have h2 : 0 ≤ P * X3 := Int.mul_nonneg (by omega) hX3
    omega
  · have h1 : (q - 1) * yl ≤ (q - 1) * P := Int.mul_le_mul_of_nonneg_left (by omega) (by omega)
    have h2 : P * (q * Y2 + (q - 1 - Y2)) ≤ P * X3 := Int.mul_le_mul_of_nonneg_left (by omega) (by omega)
    have h3 : (q - 1) * Y = (q - 1) * yl + P * (q * Y2 - Y2) := by rw [hY]; grind
    have h4 : P * (q * Y2 + (q - 1 - Y2)) = P * (q * Y2 - Y2) + (q - 1) * P := by grind
    omega

/-- The estimate of a digit, at the head of its loop: q and r are what is left of 'two' by the top limb. -/
structure QI (D Y two top : Int) (q r : Int) : Prop where
  eq : two = q * top + r
  q0 : 0 ≤ q
  r0 : 0 ≤ r
  hi : D < (q + 1) * Y

/-- Multiply and subtract: after i limbs. -/
structure SubMul (x0 y : List Int) (q : Int) (k i : Nat) (x : List Int) (b : Int) : Prop where
  len : x.length = x0.length
  inr : InR x
  bor : 0 ≤ b ∧ b < 1000000000
  val : nv x = nv x0 - pw k * (q * nv (y.take i)) + pw (k + i) * b
  sam : ∀ j, k + i ≤ j → lat x j = lat x0 j
  low : x.take k = x0.take k

theorem take_set_ge (x : List Int) (k j : Nat) (v : Int) (h : k ≤ j) : (x.set j v).take k = x.take k := by
  rw [List.take_set_of_le h]
theorem SubMul.start {x0 : List Int} (y : List Int) (q : Int) (k : Nat) (h : InR x0) : SubMul x0 y q k 0 x0 0 :=
  ⟨rfl, h, by omega, by simp [nv_nil], fun _ _ => rfl, rfl⟩
theorem SubMul.step {x0 y x : List Int} {q b b' v : Int} {k i : Nat} (h : SubMul x0 y q k i x b) (hki : k + i < x0.length) (hv0 : 0 ≤ v) (hv1 : v < 1000000000) (hb0 : 0 ≤ b') (hb1 : b' < 1000000000)
    (e : v - 1000000000 * b' = lat x (k + i) - q * lat y i - b) : SubMul x0 y q k (i + 1) (x.set (k + i) v) b' := by
  refine ⟨by simp [h.len], h.inr.set _ hv0 hv1, ⟨hb0, hb1⟩, ?_, ?_, ?_⟩
  · rw [nv_set _ _ _ (by rw [h.len]; exact hki), nv_take_succ', ← Nat.add_assoc, pw_succ, h.val, pw_add]
    have e1 : v = lat x (k + i) - q * lat y i - b + 1000000000 * b' := by omega
    rw [e1]
    grind
  · intro j hj
    rw [lat_set_other (by omega)]
    exact h.sam j (by omega)
  · rw [take_set_ge _ _ _ _ (by omega)]; exact h.low

/-- The borrow of one limb. -/
theorem borrow_step {s q yi b xi : Int} (hs : s = xi - q * yi - b) (hx : 0 ≤ xi ∧ xi < 1000000000) (hq : 0 ≤ q ∧ q < 1000000000) (hy : 0 ≤ yi ∧ yi < 1000000000) (hb : 0 ≤ b ∧ b < 1000000000) :
    -999999999000000000 ≤ s ∧ s < 1000000000 ∧ (s < 0 → 0 ≤ (999999999 - s) / 1000000000 ∧ (999999999 - s) / 1000000000 < 1000000000 ∧ 0 ≤ s + (999999999 - s) / 1000000000 * 1000000000 ∧ s + (999999999 - s) / 1000000000 * 1000000000 < 1000000000) := by
  have h1 := mul_bound hq.1 hq.2 hy.1 hy.2
  have h2 : 0 ≤ q * yi := Int.mul_nonneg hq.1 hy.1
  refine ⟨by omega, by omega, fun h => ?_⟩
  omega

/-- Behind the subtraction and the top limb's borrow: what is left, in parts. -/
theorem SubMul.last {x0 y x : List Int} {q b : Int} {k : Nat} (h : SubMul x0 y q k y.length x b) (hk : k + y.length < x0.length) :
    nv (x.set (k + y.length) (lat x (k + y.length) - b)) = nv x0 - pw k * (q * nv y) ∧ (x.set (k + y.length) (lat x (k + y.length) - b)).take k = x0.take k := by
  refine ⟨?_, ?_⟩
  · rw [nv_set _ _ _ (by rw [h.len]; exact hk), h.val, nv_take_all (Nat.le_refl _)]
    grind
  · rw [take_set_ge _ _ _ _ (by omega)]; exact h.low

/-- From an equation of numbers to one of their upper parts. -/
theorem drop_val {x0 x : List Int} {k : Nat} {q Y : Int} (hl : x.length = x0.length) (hk : k ≤ x0.length) (hv : nv x = nv x0 - pw k * (q * Y)) (ht : x.take k = x0.take k) : nv (x.drop k) = nv (x0.drop k) - q * Y := by
  rw [nv_split x k (by omega), nv_split x0 k hk, ht] at hv
  have h1 : pw k * nv (x.drop k) = pw k * (nv (x0.drop k) - q * Y) := by rw [Int.mul_sub]; omega
  exact Int.eq_of_mul_eq_mul_left (by have := pw_pos k; omega) h1

/-- A list whose limbs below k + n lie in range and whose limbs above k + n are 0: what its upper part is. -/
theorem drop_parts {x : List Int} {k n : Nat} (hl : k + n < x.length) (hz : ∀ j, k + n + 1 ≤ j → lat x j = 0) : nv (x.drop k) = nv ((x.drop k).take n) + pw n * lat x (k + n) := by
  rw [nv_split (x.drop k) n (by simp; omega), List.drop_drop, nv_drop x (k + n) hl]
  have : nv (x.drop (k + n + 1)) = 0 := by
    rw [nv_take_of_small (n := 0) (by intro j _; rw [lat_drop]; exact hz _ (by omega))]; rfl
  rw [this]
  simp only [Int.mul_zero, Int.add_zero]

theorem top_zero {L P t R : Int} (hP : 0 < P) (h0 : 0 ≤ L) (h1 : L < P) (e : R = L + P * t) (hR0 : 0 ≤ R) (hR1 : R < P) : t = 0 := by
  by_cases h2 : 1 ≤ t
  · have := Int.mul_le_mul_of_nonneg_left h2 (Int.le_of_lt hP); omega
  · by_cases h3 : t ≤ -1
    · have := Int.mul_le_mul_of_nonneg_left h3 (Int.le_of_lt hP); omega
    · omega
theorem top_neg {L P t R : Int} (hP : 0 < P) (h1 : L < P) (e : R = L + P * t) (ht : t < 0) : R < 0 := by
  have := Int.mul_le_mul_of_nonneg_left (show t ≤ -1 by omega) (Int.le_of_lt hP); omega
theorem top_nonneg {L P t R : Int} (hP : 0 < P) (h0 : 0 ≤ L) (e : R = L + P * t) (ht : 0 ≤ t) : 0 ≤ R := by
  have := Int.mul_nonneg (Int.le_of_lt hP) ht; omega

/-- Limbs below k + n in range. -/
def InB (x : List Int) (m : Nat) : Prop := ∀ j, j < m → 0 ≤ lat x j ∧ lat x j < 1000000000
theorem InB.part {x : List Int} {k n : Nat} (h : InB x (k + n)) (hl : k + n ≤ x.length) : 0 ≤ nv ((x.drop k).take n) ∧ nv ((x.drop k).take n) < pw n := by
  have hi : InR ((x.drop k).take n) := by
    refine inR_of_lat fun j => ?_
    by_cases hj : j < n
    · rw [lat_take hj, lat_drop]; exact h _ (by omega)
    · rw [lat_ge (by simp; omega)]; omega
  refine ⟨hi.nonneg, ?_⟩
  have := hi.lt
  rwa [List.length_take, List.length_drop, Nat.min_eq_left (by omega)] at this

/-- Adding the divisor back: after i limbs. -/
structure AddB (x0 y : List Int) (k i : Nat) (x : List Int) (c : Int) : Prop where
  len : x.length = x0.length
  inb : InB x (k + y.length)
  car : c = 0 ∨ c = 1
  val : nv x + pw (k + i) * c = nv x0 + pw k * nv (y.take i)
  sam : ∀ j, k + i ≤ j → lat x j = lat x0 j
  low : x.take k = x0.take k
theorem AddB.start {x0 y : List Int} {k : Nat} (h : InB x0 (k + y.length)) : AddB x0 y k 0 x0 0 :=
  ⟨rfl, h, .inl rfl, by simp [nv_nil], fun _ _ => rfl, rfl⟩
theorem AddB.step {x0 y x : List Int} {c c' v : Int} {k i : Nat} (h : AddB x0 y k i x c) (hi : i < y.length) (hki : k + y.length < x0.length) (hv0 : 0 ≤ v) (hv1 : v < 1000000000) (hc : c' = 0 ∨ c' = 1)
    (e : v + 1000000000 * c' = lat x (k + i) + lat y i + c) : AddB x0 y k (i + 1) (x.set (k + i) v) c' := by
  have hl := h.len
  refine ⟨by simp [h.len], ?_, hc, ?_, ?_, ?_⟩
  · intro j hj
    by_cases hjk : k + i = j
    · subst hjk; rw [lat_set_same (by omega)]; exact ⟨hv0, hv1⟩
    · rw [lat_set_other hjk]; exact h.inb j hj
  · rw [nv_set _ _ _ (by omega), nv_take_succ', ← Nat.add_assoc, pw_succ, pw_add]
    have hv := h.val
    rw [pw_add] at hv
    have e1 : v = lat x (k + i) + lat y i + c - 1000000000 * c' := by omega
    rw [e1]
    grind
  · intro j hj
    rw [lat_set_other (by omega)]
    exact h.sam j (by omega)
  · rw [take_set_ge _ _ _ _ (by omega)]; exact h.low

/-- One digit is done, no adding back. -/
theorem digit_done {y x0 x out : List Int} {X q b : Int} {k : Nat} (h : KI y X (k + 1) x0 out) (hy : InR y) (hk : k < out.length) (hq0 : 0 ≤ q) (hq1 : q < 1000000000) (hi : nv (x0.drop k) < (q + 1) * nv y)
    (s : SubMul x0 y q k y.length x b) (ht : 0 ≤ lat x (k + y.length) - b) : KI y X k (x.set (k + y.length) (lat x (k + y.length) - b)) (out.set k q) := by
  have hl := h.lx
  have hsl := s.len
  have hkn : k + y.length < x0.length := by omega
  obtain ⟨l1, l2⟩ := s.last hkn
  generalize hx : x.set (k + y.length) (lat x (k + y.length) - b) = x2 at *
  have hl2 : x2.length = x0.length := by rw [← hx]; simp [hsl]
  have hd := drop_val hl2 (by omega) l1 l2
  have hz : ∀ j, k + y.length + 1 ≤ j → lat x2 j = 0 := by
    intro j hj
    rw [← hx, lat_set_other (by omega), s.sam j (by omega)]
    exact h.top hy j (by omega)
  have hp := drop_parts (k := k) (n := y.length) (by omega) hz
  have ht2 : lat x2 (k + y.length) = lat x (k + y.length) - b := by rw [← hx, lat_set_same (by omega)]
  have hb : InB x2 (k + y.length) := by
    intro j hj
    rw [← hx, lat_set_other (by omega)]
    exact s.inr.lat j
  obtain ⟨p1, p2⟩ := hb.part (by omega)
  have hP := pw_pos y.length
  have hlt := hy.lt
  have hR0 : 0 ≤ nv (x0.drop k) - q * nv y := by
    rw [← hd]
    exact top_nonneg hP p1 hp (by rw [ht2]; exact ht)
  have hR1 : nv (x0.drop k) - q * nv y < nv y := by
    have : (q + 1) * nv y = q * nv y + nv y := by grind
    omega
  have ht0 := top_zero hP p1 p2 hp (by rw [hd]; exact hR0) (by rw [hd]; omega)
  refine h.step hk hq0 hq1 hl2 (inR_of_lat fun j => ?_) l1 (by rw [hd]; exact hR1)
  by_cases hj : j < k + y.length
  · exact hb j hj
  · by_cases hj2 : j = k + y.length
    · subst hj2; rw [ht0]; omega
    · rw [hz j (by omega)]; omega

/-- One digit is done, with adding back. -/
theorem digit_back {y x0 x x2 x3 out : List Int} {X q b c : Int} {k : Nat} (h : KI y X (k + 1) x0 out) (hy : InR y) (hk : k < out.length) (hq0 : 0 ≤ q) (hq1 : q < 1000000000) (lo : (q - 1) * nv y ≤ nv (x0.drop k))
    (s : SubMul x0 y q k y.length x b) (ht : lat x (k + y.length) - b < 0) (hx : x.set (k + y.length) (lat x (k + y.length) - b) = x2) (r : AddB x2 y k y.length x3 c) :
    1 ≤ q ∧ lat x3 (k + y.length) = lat x (k + y.length) - b ∧ KI y X k (x3.set (k + y.length) (lat x3 (k + y.length) + c)) (out.set k (q - 1)) := by
  have hl := h.lx
  have hsl := s.len
  have hrl := r.len
  have hkn : k + y.length < x0.length := by omega
  obtain ⟨l1, l2⟩ := s.last hkn
  rw [hx] at l1 l2
  have hl2 : x2.length = x0.length := by rw [← hx]; simp [hsl]
  have hd := drop_val hl2 (by omega) l1 l2
  have hz : ∀ j, k + y.length + 1 ≤ j → lat x2 j = 0 := by
    intro j hj
    rw [← hx, lat_set_other (by omega), s.sam j (by omega)]
    exact h.top hy j (by omega)
  have hp := drop_parts (k := k) (n := y.length) (by omega) hz
  have ht2 : lat x2 (k + y.length) = lat x (k + y.length) - b := by rw [← hx, lat_set_same (by omega)]
  have hb : InB x2 (k + y.length) := by
    intro j hj
    rw [← hx, lat_set_other (by omega)]
    exact s.inr.lat j
  obtain ⟨p1, p2⟩ := hb.part (by omega)
  have hP := pw_pos y.length
  have hlt := hy.lt
  have hneg : nv (x0.drop k) - q * nv y < 0 := by
    rw [← hd]
    exact top_neg hP p2 hp (by rw [ht2]; exact ht)
  have hD0 := (h.ix.drop k).nonneg
  have hq : 1 ≤ q := by
    by_cases hq : q = 0
    · subst hq; simp only [Int.zero_mul, Int.sub_zero] at hneg; omega
    · omega
  have e3 : lat x3 (k + y.length) = lat x (k + y.length) - b := by rw [r.sam _ (Nat.le_refl _), ht2]
  refine ⟨hq, e3, ?_⟩
  generalize hx4 : x3.set (k + y.length) (lat x3 (k + y.length) + c) = x4
  have hl4 : x4.length = x0.length := by rw [← hx4]; simp [hrl, hl2]
  have hv4 : nv x4 = nv x0 - pw k * ((q - 1) * nv y) := by
    have hv := r.val
    rw [nv_take_all (Nat.le_refl _), l1] at hv
    rw [← hx4, nv_set _ _ _ (by omega)]
    grind
  have ht4 : x4.take k = x0.take k := by rw [← hx4, take_set_ge _ _ _ _ (by omega), r.low, l2]
  have hd4 := drop_val hl4 (by omega) hv4 ht4
  have hz4 : ∀ j, k + y.length + 1 ≤ j → lat x4 j = 0 := by
    intro j hj
    rw [← hx4, lat_set_other (by omega), r.sam j (by omega)]
    exact hz j hj
  have hp4 := drop_parts (x := x4) (k := k) (n := y.length) (by omega) hz4
  have hb4 : InB x4 (k + y.length) := by
    intro j hj
    rw [← hx4, lat_set_other (by omega)]
    exact r.inb j hj
  obtain ⟨p3, p4⟩ := hb4.part (by omega)
  have hR0 : 0 ≤ nv (x0.drop k) - (q - 1) * nv y := by omega
  have hR1 : nv (x0.drop k) - (q - 1) * nv y < nv y := by
    have : (q - 1) * nv y = q * nv y - nv y := by grind
    omega
  have ht0 := top_zero hP p3 p4 hp4 (by rw [hd4]; exact hR0) (by rw [hd4]; omega)
  refine h.step hk (by omega) (by omega) hl4 (inR_of_lat fun j => ?_) hv4 (by rw [hd4]; exact hR1)
  by_cases hj : j < k + y.length
  · exact hb4 j hj
  · by_cases hj2 : j = k + y.length
    · subst hj2; rw [ht0]; omega
    · rw [hz4 j (by omega)]; omega

/-! The estimate of a digit. -/
section
variable {y x out : List Int} {X : Int} {k : Nat}

theorem QI.start (h : KI y X (k + 1) x out) (hy : InR y) (hn : 2 ≤ y.length) (hk : k < out.length) (ht : 0 < lat y (y.length - 1)) :
    QI (nv (x.drop k)) (nv y) (lat x (k + y.length) * 1000000000 + lat x (k + y.length - 1)) (lat y (y.length - 1))
      ((lat x (k + y.length) * 1000000000 + lat x (k + y.length - 1)) / lat y (y.length - 1)) ((lat x (k + y.length) * 1000000000 + lat x (k + y.length - 1)) % lat y (y.length - 1)) := by
  have hp := h.parts hy hn hk
  obtain ⟨yl, y1, y2, y3⟩ := y_parts hy hn
  have b0 := h.ix.lat (k + y.length)
  have b1 := h.ix.lat (k + y.length - 1)
  have b2 := h.ix.lat (k + y.length - 2)
  have c2 := hy.lat (y.length - 2)
  have hval := hp.val
  have hlo := hp.lo
  have htwo : 0 ≤ lat x (k + y.length) * 1000000000 + lat x (k + y.length - 1) := by omega
  generalize lat x (k + y.length) * 1000000000 + lat x (k + y.length - 1) = two at *
  generalize lat y (y.length - 1) = top at *
  generalize lat y (y.length - 2) = ysec at *
  generalize nv (x.drop k) = D at *
  generalize nv y = Y at *
  generalize lat x (k + y.length - 2) = x2 at *
  generalize nv ((x.drop k).take (y.length - 2)) = xl at *
  have he := Int.mul_ediv_add_emod two top
  have hm := Int.emod_nonneg two (show top ≠ 0 by omega)
  have hm2 := Int.emod_lt_of_pos two ht
  have hq0 : 0 ≤ two / top := Int.ediv_nonneg (by omega) (by omega)
  generalize two / top = q at *
  generalize two % top = r at *
  refine ⟨by rw [← he, Int.mul_comm], hq0, hm, ?_⟩
  refine digit_high (pw_pos (y.length - 2)) hval hlo.2 y3 y1 (by omega) ?_
  have e1 : (q + 1) * (top * 1000000000 + ysec) = (top * q) * 1000000000 + top * 1000000000 + (q + 1) * ysec := by grind
  have e2 : 0 ≤ (q + 1) * ysec := Int.mul_nonneg (by omega) (by omega)
  omega

theorem QI.bound {D Y two top q r : Int} (h : QI D Y two top q r) (ht : 0 < top) (htwo : two < (top + 1) * 1000000000) : q < 2000000000 := by
  have h1 := h.eq
  have h2 := h.r0
  by_cases hq : q < 2000000000
  · exact hq
  · have h3 : 2000000000 * top ≤ q * top := Int.mul_le_mul_of_nonneg_right (by omega) (by omega)
    omega
/-- At r of Base or more the digit is below Base. -/
theorem QI.broke {D Y two top q r : Int} (h : QI D Y two top q r) (htwo : two < (top + 1) * 1000000000) (ht : 0 < top) (hr : 1000000000 ≤ r) : q < 1000000000 := by
  have h1 := h.eq
  by_cases hq : q < 1000000000
  · exact hq
  · have h3 : 1000000000 * top ≤ q * top := Int.mul_le_mul_of_nonneg_right (by omega) (by omega)
    omega
theorem QI.down {D Y two top q r : Int} (h : QI D Y two top q r) (ht : 0 < top) (hq : 1 ≤ q) (hi : D < q * Y) : QI D Y two top (q - 1) (r + top) := by
  have h1 := h.eq
  have h2 := h.r0
  refine ⟨?_, by omega, by omega, by rw [show q - 1 + 1 = q by omega]; exact hi⟩
  have : (q - 1) * top = q * top - top := by grind
  omega

theorem QI.high {q r : Int} (h : KI y X (k + 1) x out) (hy : InR y) (hn : 2 ≤ y.length) (hk : k < out.length)
    (s : QI (nv (x.drop k)) (nv y) (lat x (k + y.length) * 1000000000 + lat x (k + y.length - 1)) (lat y (y.length - 1)) q r)
    (hc : 1000000000 ≤ q ∨ r * 1000000000 + lat x (k + y.length - 2) < q * lat y (y.length - 2)) : 1 ≤ q ∧ nv (x.drop k) < q * nv y := by
  have hd := h.dlt hk
  have hp := h.parts hy hn hk
  obtain ⟨yl, y1, y2, y3⟩ := y_parts hy hn
  have b2 := h.ix.lat (k + y.length - 2)
  have c2 := hy.lat (y.length - 2)
  have hval := hp.val
  have hlo := hp.lo
  have heq := s.eq
  have hr0 := s.r0
  have hq0 := s.q0
  have hY : 0 ≤ nv y := hy.nonneg
  have hq1 : 1 ≤ q := by
    by_cases h0 : q = 0
    · subst h0; simp only [Int.zero_mul] at hc; omega
    · omega
  refine ⟨hq1, ?_⟩
  rcases hc with hc | hc
  · have := Int.mul_le_mul_of_nonneg_right hc hY
    omega
  · refine digit_high (pw_pos (y.length - 2)) hval hlo.2 y3 y1 (by omega) ?_
    rw [heq]
    have : q * (lat y (y.length - 1) * 1000000000 + lat y (y.length - 2)) = (q * lat y (y.length - 1)) * 1000000000 + q * lat y (y.length - 2) := by grind
    omega

theorem QI.low {q r : Int} (h : KI y X (k + 1) x out) (hy : InR y) (hn : 2 ≤ y.length) (hk : k < out.length) (ht : 0 < lat y (y.length - 1))
    (s : QI (nv (x.drop k)) (nv y) (lat x (k + y.length) * 1000000000 + lat x (k + y.length - 1)) (lat y (y.length - 1)) q r)
    (hq : q < 1000000000) (hc : 1000000000 ≤ r ∨ q * lat y (y.length - 2) ≤ r * 1000000000 + lat x (k + y.length - 2)) : (q - 1) * nv y ≤ nv (x.drop k) := by
  have hp := h.parts hy hn hk
  obtain ⟨yl, y1, y2, y3⟩ := y_parts hy hn
  have b0 := h.ix.lat (k + y.length)
  have b1 := h.ix.lat (k + y.length - 1)
  have b2 := h.ix.lat (k + y.length - 2)
  have c2 := hy.lat (y.length - 2)
  have hval := hp.val
  have hlo := hp.lo
  have heq := s.eq
  have hr0 := s.r0
  have hq0 := s.q0
  have hb := mul_bound hq0 hq c2.1 c2.2
  have hc' : q * lat y (y.length - 2) ≤ r * 1000000000 + lat x (k + y.length - 2) := by
    rcases hc with hc | hc
    · omega
    · exact hc
  refine digit_low (pw_pos (y.length - 2)) hval hlo.1 y3 y1 y2 (by omega) hq0 (by omega) ?_ (by omega)
  rw [heq]
  have : q * (lat y (y.length - 1) * 1000000000 + lat y (y.length - 2)) = (q * lat y (y.length - 1)) * 1000000000 + q * lat y (y.length - 2) := by grind
  omega
end

/-! The beginning and the end of the long division. -/

/-- The factor that makes the divisor's top limb large. -/
theorem factor_ok {b : Nat} (hb : 2 ≤ (limbs b).length) :
    1 ≤ 1000000000 / (lat (limbs b) ((limbs b).length - 1) + 1) ∧ 1000000000 / (lat (limbs b) ((limbs b).length - 1) + 1) < 1000000000 ∧
    ∀ f : Nat, (f : Int) = 1000000000 / (lat (limbs b) ((limbs b).length - 1) + 1) → (limbs (b * f)).length = (limbs b).length ∧ 0 < f := by
  have hi := limbs_inR b
  have h1 := hi.lat ((limbs b).length - 1)
  have h2 : lat (limbs b) ((limbs b).length - 1) ≠ 0 := (limbs_norm b).2.resolve_left (by intro e; rw [e] at hb; simp at hb)
  generalize ht : lat (limbs b) ((limbs b).length - 1) = t at *
  have e := Int.mul_ediv_add_emod 1000000000 (t + 1)
  have em := Int.emod_nonneg 1000000000 (show t + 1 ≠ 0 by omega)
  have em2 := Int.emod_lt_of_pos 1000000000 (show 0 < t + 1 by omega)
  generalize hf : (1000000000 : Int) / (t + 1) = f at *
  have hf1 : 1 ≤ f := by
    by_cases h : 1 ≤ f
    · exact h
    · have : (t + 1) * f ≤ (t + 1) * 0 := Int.mul_le_mul_of_nonneg_left (by omega) (by omega)
      omega
  have hf2 : f < 1000000000 := by
    have : 2 * f ≤ (t + 1) * f := Int.mul_le_mul_of_nonneg_right (by omega) (by omega)
    omega
  refine ⟨hf1, hf2, fun g hg => ⟨?_, by omega⟩⟩
  have hn := nv_split (limbs b) ((limbs b).length - 1) (by omega)
  rw [nv_drop _ _ (by omega), nv_drop_all (by omega), ht, nv_limbs] at hn
  have hlt := (hi.take ((limbs b).length - 1)).lt
  rw [List.length_take, Nat.min_eq_left (by omega)] at hlt
  refine Nat.le_antisymm ?_ (limbs_len_mono (by have : b * 1 ≤ b * g := Nat.mul_le_mul_left _ (by omega); omega))
  rw [limbs_len_le]
  have hpw : pw (limbs b).length = 1000000000 * pw ((limbs b).length - 1) := by
    rw [← pw_succ, Nat.sub_add_cancel (by omega)]
  have hP := pw_pos ((limbs b).length - 1)
  generalize pw ((limbs b).length - 1) = P at *
  simp only [Int.mul_zero, Int.add_zero] at hn
  have h3 : (b : Int) < (t + 1) * P := by grind
  have h4 : (b : Int) * f < (t + 1) * P * f := Int.mul_lt_mul_of_pos_right h3 (by omega)
  have h5 : ((t + 1) * f) * P ≤ 1000000000 * P := Int.mul_le_mul_of_nonneg_right (by omega) (by omega)
  have h6 : (t + 1) * P * f = ((t + 1) * f) * P := by grind
  rw [Int.natCast_mul, hg, hpw]
  omega

theorem KI.start {a b f : Nat} {x : List Int} (hab : b ≤ a) (hf : 0 < f) (hb : 0 < b) (hlb : (limbs (b * f)).length = (limbs b).length) (hx : InR x) (hxl : x.length = (limbs a).length + 1) (hv : nv x = (a * f : Nat)) :
    KI (limbs (b * f)) (a * f : Nat) ((limbs a).length + 1 - (limbs b).length) x (List.replicate ((limbs a).length + 1 - (limbs b).length) 0) := by
  have hbl := limbs_len_mono hab
  have hb0 : limbs b ≠ [] := by intro e; have := limbs_nil.1 e; omega
  have hbp : 0 < (limbs b).length := List.length_pos_iff.2 hb0
  refine ⟨by rw [List.length_replicate, hlb]; omega, hx, InR.replicate _, ?_, ?_⟩
  · rw [hv, nv_drop_all (by simp)]; simp
  · rw [nv_limbs]
    have hs := nv_split x ((limbs a).length + 1 - (limbs b).length) (by omega)
    have h1 := (hx.take ((limbs a).length + 1 - (limbs b).length)).nonneg
    rw [hv] at hs
    have h2 := (limbs_inR a).lt
    have h3 := (limbs_norm b).ge hb0
    rw [nv_limbs] at h2 h3
    have h4 : pw (limbs a).length = pw ((limbs a).length + 1 - (limbs b).length) * pw ((limbs b).length - 1) := by
      rw [← pw_add]; congr 1; omega
    have hP := pw_pos ((limbs a).length + 1 - (limbs b).length)
    generalize pw ((limbs a).length + 1 - (limbs b).length) = P at *
    generalize pw ((limbs b).length - 1) = R at *
    generalize nv (x.drop ((limbs a).length + 1 - (limbs b).length)) = Z at *
    by_cases hc : Z < ((b * f : Nat) : Int)
    · exact hc
    · exfalso
      have h5 : P * ((b * f : Nat) : Int) ≤ P * Z := Int.mul_le_mul_of_nonneg_left (by omega) (by omega)
      have h6 : P * R ≤ P * (b : Int) := Int.mul_le_mul_of_nonneg_left h3 (by omega)
      have h7 : (a : Int) + 1 ≤ P * (b : Int) := by omega
      have h8 : ((a : Int) + 1) * (f : Int) ≤ P * (b : Int) * (f : Int) := Int.mul_le_mul_of_nonneg_right h7 (by omega)
      have h9 : ((a : Int) + 1) * (f : Int) = (a : Int) * f + f := by grind
      have h10 : P * ((b * f : Nat) : Int) = P * (b : Int) * (f : Int) := by rw [Int.natCast_mul]; grind
      rw [Int.natCast_mul] at hs
      omega

theorem KI.result {a b f : Nat} {x out : List Int} (hf : 0 < f) (hb : 0 < b) (h : KI (limbs (b * f)) (a * f : Nat) 0 x out) : nv out = (a / b : Nat) ∧ nv x = (a % b * f : Nat) := by
  obtain ⟨h1, h2⟩ := h.last
  have h3 := h.ix.nonneg
  have h4 := h.io.nonneg
  rw [nv_limbs] at h1 h2
  obtain ⟨xn, hx⟩ := Int.eq_ofNat_of_zero_le h3
  obtain ⟨on, ho⟩ := Int.eq_ofNat_of_zero_le h4
  rw [hx, ho] at h1
  rw [hx] at h2
  have e : xn + b * f * on = a * f := by
    have : ((xn + b * f * on : Nat) : Int) = ((a * f : Nat) : Int) := by
      rw [Int.natCast_add, Int.natCast_mul (b * f) on]; exact h1
    omega
  have hlt : xn < b * f := by omega
  have hd : a * f / (b * f) = on := by
    rw [← e, Nat.add_mul_div_left _ _ (Nat.mul_pos hb hf), Nat.div_eq_of_lt hlt]; omega
  have hm : a * f % (b * f) = xn := by
    rw [← e, Nat.add_mul_mod_self_left, Nat.mod_eq_of_lt hlt]
  rw [Nat.mul_div_mul_right _ _ hf] at hd
  rw [Nat.mul_mod_mul_right] at hm
  exact ⟨by rw [ho, hd], by rw [hx, hm]⟩

end Lm
