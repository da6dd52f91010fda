/- Plain mathematics: what the loops of addition, subtraction, multiplication and division on limbs keep; no program in sight. -/
import Derived.Test.YtcmhpdhcpkhejaaLimbs
namespace Lm

theorem nv_take_succ' (xs : List Int) (i : Nat) : nv (xs.take (i + 1)) = nv (xs.take i) + pw i * lat xs i := by
  by_cases h : i < xs.length
  · exact nv_take_succ xs i h
  · rw [lat_ge (by omega), List.take_of_length_le (by omega), List.take_of_length_le (by omega)]; simp

/-- Addition: after i rounds. -/
structure AddI (xs ys : List Int) (i : Nat) (o : List Int) (c : Int) : Prop where
  len : o.length = i
  inr : InR o
  car : c = 0 ∨ c = 1
  val : nv o + pw i * c = nv (xs.take i) + nv (ys.take i)

theorem AddI.start (xs ys : List Int) : AddI xs ys 0 [] 0 := ⟨rfl, InR.nil, .inl rfl, by simp [nv_nil]⟩
theorem AddI.step {xs ys o : List Int} {i : Nat} {c d c' : Int} (h : AddI xs ys i o c) (hd0 : 0 ≤ d) (hd1 : d < 1000000000) (hc : c' = 0 ∨ c' = 1) (e : d + 1000000000 * c' = lat xs i + lat ys i + c) :
    AddI xs ys (i + 1) (o ++ [d]) c' := by
  refine ⟨by simp [h.len], h.inr.snoc hd0 hd1, hc, ?_⟩
  rw [nv_snoc, h.len, nv_take_succ', nv_take_succ', pw_succ]
  have hv := h.val
  have e1 : pw i * (d + 1000000000 * c') = pw i * (lat xs i + lat ys i + c) := by rw [e]
  rw [Int.mul_add, Int.mul_add, Int.mul_add, ← Int.mul_assoc] at e1
  have e2 : pw i * 1000000000 = 1000000000 * pw i := Int.mul_comm _ _
  rw [e2] at e1
  omega
theorem AddI.done {a b i : Nat} {o : List Int} {c : Int} (h : AddI (limbs a) (limbs b) i o c) (ha : (limbs a).length ≤ i) (hb : (limbs b).length ≤ i) : nv o + pw i * c = (a + b : Nat) := by
  have := h.val
  rw [nv_take_all ha, nv_take_all hb, nv_limbs, nv_limbs] at this
  omega
theorem AddI.done0 {a b : Nat} {o : List Int} (h : AddI (limbs a) (limbs b) (limbs a).length o 0) (hb : (limbs b).length ≤ (limbs a).length) : o = limbs (a + b) := by
  have hv := h.done (Nat.le_refl _) hb
  simp only [Int.mul_zero, Int.add_zero] at hv
  refine (Norm.of_ge h.inr ?_).limbs hv
  by_cases h0 : o = []
  · exact .inl h0
  · right
    have h1 : limbs a ≠ [] := by
      intro e; have := h.len; rw [e] at this; exact h0 (List.length_eq_zero_iff.1 this)
    have := (limbs_norm a).ge h1
    rw [nv_limbs] at this
    rw [h.len]
    omega
theorem AddI.done1 {a b : Nat} {o : List Int} (h : AddI (limbs a) (limbs b) (limbs a).length o 1) (hb : (limbs b).length ≤ (limbs a).length) : o ++ [1] = limbs (a + b) := by
  have hv := h.done (Nat.le_refl _) hb
  refine (Norm.limbs ⟨h.inr.snoc (by omega) (by omega), .inr ?_⟩ ?_)
  · rw [List.length_append, List.length_singleton, Nat.add_sub_cancel, lat_snoc]; omega
  · rw [nv_snoc, h.len]; exact hv

/-- Subtraction: after i rounds. -/
structure SubI (xs ys : List Int) (i : Nat) (o : List Int) (b : Int) : Prop where
  len : o.length = i
  inr : InR o
  bor : b = 0 ∨ b = 1
  val : nv o = nv (xs.take i) - nv (ys.take i) + pw i * b

theorem SubI.start (xs ys : List Int) : SubI xs ys 0 [] 0 := ⟨rfl, InR.nil, .inl rfl, by simp [nv_nil]⟩
theorem SubI.step {xs ys o : List Int} {i : Nat} {b d b' : Int} (h : SubI xs ys i o b) (hd0 : 0 ≤ d) (hd1 : d < 1000000000) (hc : b' = 0 ∨ b' = 1) (e : d = lat xs i - lat ys i - b + 1000000000 * b') :
    SubI xs ys (i + 1) (o ++ [d]) b' := by
  refine ⟨by simp [h.len], h.inr.snoc hd0 hd1, hc, ?_⟩
  rw [nv_snoc, h.len, nv_take_succ', nv_take_succ', pw_succ]
  have hv := h.val
  have e1 : pw i * d = pw i * (lat xs i - lat ys i - b + 1000000000 * b') := by rw [e]
  rw [Int.mul_add, Int.mul_sub, Int.mul_sub, ← Int.mul_assoc] at e1
  have e2 : pw i * 1000000000 = 1000000000 * pw i := Int.mul_comm _ _
  rw [e2] at e1
  omega
theorem set_mid {o xs : List Int} {i : Nat} (hl : o.length = i) (hi : i < xs.length) (d : Int) : (o ++ xs.drop i).set i d = (o ++ [d]) ++ xs.drop (i + 1) := by
  subst hl
  rw [List.set_append_right _ _ (Nat.le_refl _), Nat.sub_self, drop_eq xs _ hi]
  simp
theorem lat_mid {o xs : List Int} {i : Nat} (hl : o.length = i) : lat (o ++ xs.drop i) i = lat xs i := by
  subst hl
  simp [lat, List.getD, List.getElem?_append_right (Nat.le_refl _)]
theorem len_mid {o xs : List Int} {i : Nat} (hl : o.length = i) (hi : i ≤ xs.length) : (o ++ xs.drop i).length = xs.length := by
  simp [hl]; omega
theorem SubI.done {a b : Nat} {o : List Int} {c : Int} (h : SubI (limbs a) (limbs b) (limbs a).length o c) (hab : b ≤ a) : nv o = (a - b : Nat) := by
  have hv := h.val
  have hb := limbs_len_mono hab
  rw [nv_take_all (Nat.le_refl _), nv_take_all hb, nv_limbs, nv_limbs] at hv
  have h1 := h.inr.lt
  rw [h.len] at h1
  rcases h.bor with rfl | rfl
  · omega
  · omega

/-- Multiplication: the inner loop. 'out0': the list at its start; x: the limb of the outer loop. -/
structure MulK (out0 ys : List Int) (x : Int) (i k : Nat) (out : List Int) (c : Int) : Prop where
  len : out.length = out0.length
  inr : InR out
  car : 0 ≤ c ∧ c < 1000000000
  val : nv out + pw (i + k) * c = nv out0 + pw i * (x * nv (ys.take k))
  zer : ∀ j, i + ys.length ≤ j → lat out j = 0

theorem MulK.start {out0 ys : List Int} {x : Int} {i : Nat} (h : InR out0) (hz : ∀ j, i + ys.length ≤ j → lat out0 j = 0) : MulK out0 ys x i 0 out0 0 :=
  ⟨rfl, h, by omega, by simp [nv_nil], hz⟩
theorem mul_bound {x y : Int} (hx0 : 0 ≤ x) (hx : x < 1000000000) (hy0 : 0 ≤ y) (hy : y < 1000000000) : 0 ≤ x * y ∧ x * y ≤ 999999998000000001 := by
  refine ⟨Int.mul_nonneg hx0 hy0, ?_⟩
  have := Int.mul_le_mul (show x ≤ 999999999 by omega) (show y ≤ 999999999 by omega) hy0 (by omega)
  omega
theorem MulK.step {out0 ys out : List Int} {x c : Int} {i k : Nat} (h : MulK out0 ys x i k out c) (hx : 0 ≤ x ∧ x < 1000000000) (hys : InR ys) (hk : k < ys.length) (hik : i + k < out0.length) :
    MulK out0 ys x i (k + 1) (out.set (i + k) ((lat out (i + k) + x * lat ys k + c) % 1000000000)) ((lat out (i + k) + x * lat ys k + c) / 1000000000) := by
  have hb := mul_bound hx.1 hx.2 (hys.lat k).1 (hys.lat k).2
  have ho := h.inr.lat (i + k)
  have hc := h.car
  have hv := h.val
  refine ⟨by simp [h.len], h.inr.set _ (by omega) (by omega), by omega, ?_, ?_⟩
  · rw [nv_set _ _ _ (by rw [h.len]; exact hik), nv_take_succ', ← Nat.add_assoc, pw_succ, pw_add]
    rw [pw_add] at hv
    generalize hs : lat out (i + k) + x * lat ys k + c = s
    have e1 : s % 1000000000 - lat out (i + k) + 1000000000 * (s / 1000000000) = x * lat ys k + c := by omega
    have e2 : pw i * pw k * (s % 1000000000 - lat out (i + k)) + 1000000000 * (pw i * pw k) * (s / 1000000000) = pw i * pw k * (x * lat ys k + c) := by
      rw [← e1]; grind
    grind
  · intro j hj
    rw [lat_set_other (by omega)]
    exact h.zer j hj

/-- Multiplication: the outer loop. -/
structure MulI (xs ys : List Int) (i : Nat) (out : List Int) : Prop where
  len : out.length = xs.length + ys.length
  inr : InR out
  val : nv out = nv (xs.take i) * nv ys
  zer : ∀ j, i + ys.length ≤ j → lat out j = 0

theorem MulI.start (xs ys : List Int) : MulI xs ys 0 (List.replicate (xs.length + ys.length) 0) :=
  ⟨by simp, InR.replicate _, by simp [nv_replicate, nv_nil], fun j _ => lat_replicate _ j⟩
theorem MulI.inner {xs ys out : List Int} {i : Nat} (h : MulI xs ys i out) : MulK out ys (lat xs i) i 0 out 0 := MulK.start h.inr h.zer
theorem MulI.step {xs ys out out' : List Int} {c : Int} {i : Nat} (h : MulI xs ys i out) (hi : i < xs.length) (k : MulK out ys (lat xs i) i ys.length out' c) :
    lat out' (i + ys.length) = 0 ∧ MulI xs ys (i + 1) (out'.set (i + ys.length) c) := by
  have hz := k.zer (i + ys.length) (Nat.le_refl _)
  refine ⟨hz, ⟨by simp [k.len, h.len], k.inr.set _ k.car.1 k.car.2, ?_, ?_⟩⟩
  · rw [nv_set _ _ _ (by rw [k.len, h.len]; omega), hz, nv_take_succ']
    have hv := k.val
    rw [nv_take_all (Nat.le_refl _), h.val] at hv
    grind
  · intro j hj
    rw [lat_set_other (by omega)]
    exact k.zer j (by omega)
theorem MulI.done {xs ys out : List Int} (h : MulI xs ys xs.length out) : nv out = nv xs * nv ys := by
  have := h.val
  rwa [nv_take_all (Nat.le_refl _)] at this

/-- Division by one limb: the limbs from K on are done. -/
structure DivI (xs : List Int) (d : Int) (K : Nat) (out : List Int) (r : Int) : Prop where
  len : out.length = xs.length
  inr : InR out
  rem : 0 ≤ r ∧ r < d
  val : nv (xs.drop K) = d * nv (out.drop K) + r

theorem DivI.start (xs : List Int) {d : Int} (hd : 0 < d) : DivI xs d xs.length (List.replicate xs.length 0) 0 :=
  ⟨by simp, InR.replicate _, by omega, by simp [nv_nil]⟩
theorem DivI.step {xs out : List Int} {d r : Int} {i : Nat} (h : DivI xs d (i + 1) out r) (hx : InR xs) (hi : i < xs.length) :
    DivI xs d i (out.set i ((r * 1000000000 + lat xs i) / d)) ((r * 1000000000 + lat xs i) % d) := by
  have hr := h.rem
  have hl := hx.lat i
  have hd0 : 0 < d := by omega
  generalize hs : r * 1000000000 + lat xs i = s
  have hq0 : 0 ≤ s / d := Int.ediv_nonneg (by omega) (by omega)
  have hq1 : s / d < 1000000000 := Int.ediv_lt_of_lt_mul hd0 (by
    have : (r + 1) * 1000000000 ≤ d * 1000000000 := Int.mul_le_mul_of_nonneg_right (by omega) (by omega)
    omega)
  have he := Int.mul_ediv_add_emod s d
  refine ⟨by simp [h.len], h.inr.set _ hq0 hq1, ⟨Int.emod_nonneg _ (by omega), Int.emod_lt_of_pos _ hd0⟩, ?_⟩
  have hio : i < (out.set i (s / d)).length := by simp [h.len, hi]
  rw [nv_drop xs i hi, nv_drop _ i hio, lat_set_same (by rw [h.len]; exact hi), List.drop_set_of_lt (by omega), h.val]
  grind
theorem DivI.done {xs out : List Int} {d r : Int} (h : DivI xs d 0 out r) : nv xs = d * nv out + r := h.val

theorem pad_zero {xs : List Int} {v : Int} (h : nv xs = v) : nv (xs ++ [0]) = v := by rw [nv_snoc, h]; simp

end Lm
