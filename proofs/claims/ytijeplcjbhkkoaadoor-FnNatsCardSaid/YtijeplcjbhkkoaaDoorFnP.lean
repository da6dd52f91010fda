/- The natural numbers' functions, as the law on them calls them. -/
import Derived.Test.YtijeplcjbhkkoaaDoorNatTop
import Derived.Test.YtijeplcjbhkkoaaDoorFmtN
import Derived.Test.YtijeplcjbhkkoaaDoorParN
namespace Go.Proofs.YtijeplcjbhkkoaaDoor
open Go.RowKit Tx Go.Lib Lm

theorem limbs_okP {a : Nat} (h : (limbs a).length ≤ 60) : OkP (limbs a) := ⟨h, limbs_norm a⟩
theorem lg60 {a : Nat} (h : (limbs a).length ≤ 3) : (limbs a).length ≤ 60 := by omega
theorem len_mono {a b k : Nat} (h : (limbs b).length ≤ k) (hab : a ≤ b) : (limbs a).length ≤ k :=
  limbs_len_le.2 (Int.lt_of_le_of_lt (by omega) (limbs_len_le.1 h))
theorem fN_txt {l : List Int} (h : Norm l) (h60 : l.length ≤ 60) : OkT (fmtN l) := by
  refine ⟨dec_ne _, dec_dg _, ?_, fun h1 => dec_head1 _ h1⟩
  rcases Nat.eq_zero_or_pos l.length with h0 | h0
  · rw [List.length_eq_zero_iff.1 h0, fmtN_nil]; simp
  · have := fN_len h l.length 0 (by omega) h0
    rw [fN_zero] at this
    omega
theorem fNs_limbs {a : Nat} (h : (limbs a).length ≤ 60) : fNs (limbs a) = bs (fmtN (limbs a)) := if_pos (limbs_okP h)
theorem pNs_back {a : Nat} (h : (limbs a).length ≤ 60) : pNs (fNs (limbs a)) = limbs a ∧ pNb (fNs (limbs a)) = true := by
  obtain ⟨e1, e2⟩ := pN_yes (fN_txt (limbs_norm a) h)
  rw [fNs_limbs h]
  unfold pNs pNb
  rw [bs_data]
  refine ⟨?_, e2⟩
  rw [e1]
  unfold fmtN
  rw [val_dec, nv_limbs]
  congr 1
theorem format_n (w : World) (b1 : Nat) (v1 : Value) (a : Nat) (h1 : Own w b1 v1 (limbs a)) (ht : Tabs w) (t : ByteArray) (hT : t = fNs (limbs a)) : Calls Tryd.prog 17 #[v1] w (RetT w t) := by
  rw [hT]; exact formatNat_top_c w b1 v1 _ h1 ht
theorem fNs_size {a : Nat} (h : (limbs a).length ≤ 60) : (fNs (limbs a)).size ≤ 1048576 := by
  rw [fNs_limbs h, bs_size]
  have := fmtN_len (limbs_norm a) h
  omega
theorem parse_n (w : World) (a : Nat) (h : (limbs a).length ≤ 60) (t : ByteArray) (hT : t = fNs (limbs a)) : Calls Tryd.prog 16 #[.string t] w (RetSB w (limbs a) true) := by
  obtain ⟨e1, e2⟩ := pNs_back h
  have := parseNat_c w t (by rw [hT]; exact fNs_size h)
  rw [hT, e1, e2] at this
  rw [hT]
  exact this
theorem cmp_same (w : World) (b1 b2 : Nat) (v1 v2 : Value) (a : Nat) (h1 : Own w b1 v1 (limbs a)) (h2 : Own w b2 v2 (limbs a)) : Calls Tryd.prog 18 #[v1, v2] w (RetI w 0) := by
  have := NatCmp_c w b1 b2 v1 v2 _ _ h1 h2
  rwa [show cmpV (limbs a) (limbs a) = 0 by
    unfold cmpV cmp3
    split
    · rw [if_neg (by omega), if_neg (by omega)]
    · rfl] at this
theorem cmp_less (w : World) (b1 b2 : Nat) (v1 v2 : Value) (a b : Nat) (h1 : Own w b1 v1 (limbs a)) (h2 : Own w b2 v2 (limbs b)) (ha : (limbs a).length ≤ 60) (hb : (limbs b).length ≤ 60) (hlt : a < b) : Calls Tryd.prog 18 #[v1, v2] w (RetI w (-1)) := by
  have := NatCmp_c w b1 b2 v1 v2 _ _ h1 h2
  rwa [show cmpV (limbs a) (limbs b) = -1 by
    unfold cmpV cmp3
    rw [if_pos ⟨limbs_okP ha, limbs_okP hb⟩, nv_limbs, nv_limbs, if_pos (by omega)]] at this
theorem div_n (w : World) (b1 b2 : Nat) (v1 v2 : Value) (a b : Nat) (h1 : Own w b1 v1 (limbs a)) (h2 : Own w b2 v2 (limbs b)) (ha : (limbs a).length ≤ 60) (hb : (limbs b).length ≤ 60) (h0 : 0 < b) (q r : Nat) (hq : q = a / b) (hr : r = a % b) :
    Calls Tryd.prog 14 #[v1, v2] w (RetSS w (limbs q) (limbs r)) := by
  rw [hq, hr]; exact NatDiv_good w b1 b2 v1 v2 a b h1 h2 ha hb h0
theorem div_0 (w : World) (b1 b2 : Nat) (v1 v2 : Value) (a b : Nat) (h1 : Own w b1 v1 (limbs a)) (h2 : Own w b2 v2 (limbs b)) (h0 : b = 0) :
    Calls Tryd.prog 14 #[v1, v2] w (RetSS w [] []) := by
  have := NatDiv_c w b1 b2 v1 v2 _ _ h1 h2
  have e : limbs b = [] := by rw [h0]; exact limbs_zero
  have hn : ¬ (OkP (limbs a) ∧ OkP (limbs b) ∧ limbs b ≠ []) := fun h => h.2.2 e
  rwa [show divQ (limbs a) (limbs b) = [] from if_neg hn, show divR (limbs a) (limbs b) = [] from if_neg hn] at this
theorem div_g (w : World) (b1 b2 : Nat) (v1 v2 : Value) (a g : Nat) (h1 : Own w b1 v1 (limbs a)) (h2 : Own w b2 v2 (limbs g)) (ha : (limbs a).length ≤ 60) (hg : (limbs g).length ≤ 60) (h0 : 0 < g) (hr : a % g = 0) :
    Calls Tryd.prog 14 #[v1, v2] w (RetSS w (limbs (a / g)) []) := by
  have := NatDiv_good w b1 b2 v1 v2 a g h1 h2 ha hg h0
  rwa [hr, limbs_zero] at this
theorem gcd_n (w : World) (b1 b2 : Nat) (v1 v2 : Value) (a b : Nat) (h1 : Own w b1 v1 (limbs a)) (h2 : Own w b2 v2 (limbs b)) (ha : (limbs a).length ≤ 60) (hb : (limbs b).length ≤ 60) (g : Nat) (hg : g = Nat.gcd a b) :
    Calls Tryd.prog 15 #[v1, v2] w (RetS w (limbs g)) := by
  have := NatGcd_c w b1 b2 v1 v2 _ _ h1 h2
  rwa [show gcdV (limbs a) (limbs b) = limbs g by
    unfold gcdV
    rw [if_pos ⟨limbs_okP ha, limbs_okP hb⟩, nv_limbs, nv_limbs, hg]
    rfl] at this
theorem fit_n {a : Nat} (h : (limbs a).length ≤ 60) : fitV a = limbs a := if_pos h
theorem mul_n (w : World) (b1 b2 : Nat) (v1 v2 : Value) (a b : Nat) (h1 : Own w b1 v1 (limbs a)) (h2 : Own w b2 v2 (limbs b)) (ha : (limbs a).length ≤ 60) (hb : (limbs b).length ≤ 60) (p : Nat) (hp : p = a * b) (hp60 : (limbs p).length ≤ 60) :
    Calls Tryd.prog 21 #[v1, v2] w (RetS w (limbs p)) := by
  have := NatMul_good w b1 b2 v1 v2 a b h1 h2 ha hb
  rwa [← hp, fit_n hp60] at this
theorem add_n (w : World) (b1 b2 : Nat) (v1 v2 : Value) (a b : Nat) (h1 : Own w b1 v1 (limbs a)) (h2 : Own w b2 v2 (limbs b)) (ha : (limbs a).length ≤ 60) (hb : (limbs b).length ≤ 60) (p : Nat) (hp : p = a + b) (hp60 : (limbs p).length ≤ 60) :
    Calls Tryd.prog 20 #[v1, v2] w (RetS w (limbs p)) := by
  have := NatAdd_good w b1 b2 v1 v2 a b h1 h2 ha hb
  rwa [← hp, fit_n hp60] at this
theorem of_12 (w : World) (a : Nat) (ha : a = 12) : Calls Tryd.prog 19 #[.int .i64 12] w (RetS w (limbs a)) := by
  rw [ha]; exact natOf_c w 12 (by omega)
theorem format_12 (w : World) (b1 : Nat) (v1 : Value) (a : Nat) (ha : a = 12) (h1 : Own w b1 v1 (limbs a)) (ht : Tabs w) : Calls Tryd.prog 17 #[v1] w (RetT w ⟨#[49, 50]⟩) := by
  refine format_n w b1 v1 a h1 ht _ ?_
  have h3 : (limbs a).length ≤ 3 := limbs_len_le.2 (by rw [ha]; decide)
  rw [fNs_limbs (by omega)]
  unfold fmtN
  rw [nv_limbs, ha, show ((12 : Nat) : Int).toNat = 12 from rfl, dec_big (by omega), dec_small (by omega)]
  rfl

/-- All that the law on natural numbers says of them. -/
theorem nlaw {a b : Nat} (hb : 0 < b) : a / b * b + a % b = a ∧ a % b < b ∧ 0 < Nat.gcd a b ∧ a % Nat.gcd a b = 0 ∧ a / b * b ≤ a :=
  ⟨by rw [Nat.mul_comm]; exact Nat.div_add_mod a b, Nat.mod_lt a hb, Nat.gcd_pos_of_pos_right a hb, Nat.mod_eq_zero_of_dvd (Nat.gcd_dvd_left a b), Nat.div_mul_le_self a b⟩

end Go.Proofs.YtijeplcjbhkkoaaDoor
