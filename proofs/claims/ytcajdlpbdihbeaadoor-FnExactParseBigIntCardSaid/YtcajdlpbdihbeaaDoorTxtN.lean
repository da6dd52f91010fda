/- Decimal numerals: plain mathematics; no program in sight. -/
import Derived.Lib.ItoaNum
import Derived.Lib.AtoiAllCases
import Derived.Lib.ItoaLen
namespace Tx
open Go.Lib

/-- A digit. -/
def Dg (c : UInt8) : Prop := 48 ≤ c.toNat ∧ c.toNat ≤ 57
def stp (acc : Nat) (c : UInt8) : Nat := acc * 10 + (c.toNat - 48)
/-- What digits stand for, behind acc. -/
def valA (acc : Nat) (l : List UInt8) : Nat := l.foldl stp acc
theorem valA_nil (acc : Nat) : valA acc [] = acc := rfl
theorem valA_cons' (c : UInt8) (l : List UInt8) (acc : Nat) : valA acc (c :: l) = valA (stp acc c) l := by
  unfold valA
  exact List.foldl_cons ..
theorem valA_cons (c : UInt8) (l : List UInt8) (acc : Nat) : valA acc (c :: l) = valA (acc * 10 + (c.toNat - 48)) l := valA_cons' c l acc
theorem valA_append (l r : List UInt8) : ∀ (acc : Nat), valA acc (l ++ r) = valA (valA acc l) r := by
  induction l with
  | nil => intro acc; rfl
  | cons c l ih => intro acc; rw [List.cons_append, valA_cons, valA_cons, ih]
theorem valA_acc (l : List UInt8) : ∀ (acc : Nat), valA acc l = acc * 10 ^ l.length + valA 0 l := by
  induction l with
  | nil => intro acc; simp only [valA_nil, List.length_nil, Nat.pow_zero, Nat.mul_one, Nat.add_zero]
  | cons c l ih =>
    intro acc
    rw [valA_cons, valA_cons, ih (acc * 10 + (c.toNat - 48)), ih (0 * 10 + (c.toNat - 48)), List.length_cons, Nat.pow_succ, Nat.add_mul, Nat.zero_mul, Nat.zero_add, Nat.mul_assoc, Nat.mul_comm 10, Nat.add_assoc]
theorem valA_snoc (l : List UInt8) (c : UInt8) (acc : Nat) : valA acc (l ++ [c]) = valA acc l * 10 + (c.toNat - 48) := by rw [valA_append, valA_cons, valA_nil]
theorem valA_mono (l : List UInt8) (acc : Nat) : acc ≤ valA acc l := by
  rw [valA_acc]
  have : 1 ≤ 10 ^ l.length := Nat.one_le_pow _ _ (by omega)
  exact Nat.le_trans (Nat.le_mul_of_pos_right _ (by omega)) (Nat.le_add_right _ _)
theorem valA_lt : ∀ (l : List UInt8), (∀ c ∈ l, Dg c) → valA 0 l < 10 ^ l.length
  | [], _ => by simp [valA_nil]
  | c :: l, h => by
    have h1 := valA_lt l (fun x hx => h x (List.mem_cons_of_mem _ hx))
    have h2 := h c (List.mem_cons_self ..)
    unfold Dg at h2
    rw [valA_cons, valA_acc, List.length_cons, Nat.pow_succ]
    have : (0 * 10 + (c.toNat - 48)) * 10 ^ l.length ≤ 9 * 10 ^ l.length := Nat.mul_le_mul_right _ (by omega)
    omega
theorem ofNat_toNat {u : Nat} (h : u < 256) : (UInt8.ofNat u).toNat = u := by simp [Nat.mod_eq_of_lt h]
theorem dg_of (u : Nat) (h : u < 10) : Dg (UInt8.ofNat (48 + u)) := by unfold Dg; rw [ofNat_toNat (by omega)]; omega
theorem ofNat_dg {c : UInt8} (h : Dg c) : UInt8.ofNat (48 + (c.toNat - 48)) = c := by
  unfold Dg at h
  rw [show 48 + (c.toNat - 48) = c.toNat by omega, UInt8.ofNat_toNat]
theorem dec_small {u : Nat} (h : u < 10) : decDigits u = [UInt8.ofNat (48 + u)] := by rw [decDigits, dif_pos h]
theorem dec_big {u : Nat} (h : ¬ u < 10) : decDigits u = decDigits (u / 10) ++ [UInt8.ofNat (48 + u % 10)] := by rw [decDigits, dif_neg h]
theorem dec_dg (u : Nat) : ∀ c ∈ decDigits u, Dg c := by
  induction u using Nat.strongRecOn with
  | _ u ih =>
    by_cases h : u < 10
    · rw [dec_small h]; intro c hc; rw [List.mem_singleton.1 hc]; exact dg_of u h
    · rw [dec_big h]
      intro c hc
      rcases List.mem_append.1 hc with h1 | h1
      · exact ih (u / 10) (by omega) c h1
      · rw [List.mem_singleton.1 h1]; exact dg_of _ (by omega)
theorem dec_ne (u : Nat) : decDigits u ≠ [] := by
  by_cases h : u < 10
  · rw [dec_small h]; simp
  · rw [dec_big h]; simp
theorem dec_pos (u : Nat) : 0 < (decDigits u).length := List.length_pos_iff.2 (dec_ne u)
theorem val_dec (u : Nat) : valA 0 (decDigits u) = u := by
  induction u using Nat.strongRecOn with
  | _ u ih =>
    by_cases h : u < 10
    · rw [dec_small h]
      rw [valA_cons, valA_nil, ofNat_toNat (by omega)]; omega
    · rw [dec_big h, valA_snoc, ih (u / 10) (by omega), ofNat_toNat (by omega)]; omega
theorem dec_inj {u v : Nat} (h : decDigits u = decDigits v) : u = v := by rw [← val_dec u, h, val_dec]
theorem head_append {l r : List UInt8} (h : l ≠ []) : (l ++ r).head? = l.head? := by
  cases l with
  | nil => exact absurd rfl h
  | cons c l => rfl
theorem dec_head (u : Nat) (h : 0 < u) : (decDigits u).head? ≠ some 48 := by
  induction u using Nat.strongRecOn with
  | _ u ih =>
    by_cases h1 : u < 10
    · rw [dec_small h1]
      intro e
      have e2 := congrArg UInt8.toNat (Option.some.inj e)
      rw [ofNat_toNat (by omega)] at e2
      have : (48 : UInt8).toNat = 48 := rfl
      omega
    · rw [dec_big h1, head_append (dec_ne _)]
      exact ih (u / 10) (by omega) (by omega)
theorem dec_zero : decDigits 0 = [48] := by rw [dec_small (by omega)]; rfl
/-- No 0 ahead. -/
theorem dec_head1 (u : Nat) (h : 1 < (decDigits u).length) : (decDigits u).head? ≠ some 48 := by
  rcases Nat.eq_zero_or_pos u with h0 | h0
  · subst h0; rw [dec_zero] at h; simp at h
  · exact dec_head u h0
theorem val_pos {l : List UInt8} (hd : ∀ c ∈ l, Dg c) (hne : l ≠ []) (h0 : l.head? ≠ some 48) : 0 < valA 0 l := by
  cases l with
  | nil => exact absurd rfl hne
  | cons c l =>
    have h2 := hd c (List.mem_cons_self ..)
    unfold Dg at h2
    have h3 : c.toNat ≠ 48 := fun e => h0 (congrArg some (UInt8.toNat_inj.1 (e.trans rfl)))
    exact Nat.lt_of_lt_of_le (show 0 < 0 * 10 + (c.toNat - 48) by omega) (by rw [valA_cons]; exact valA_mono l _)
theorem dec_of_val : ∀ (n : Nat) (l : List UInt8), l.length = n → (∀ c ∈ l, Dg c) → l ≠ [] → (1 < l.length → l.head? ≠ some 48) → decDigits (valA 0 l) = l
  | 0, l, hn, _, hne, _ => absurd (List.length_eq_zero_iff.1 hn) hne
  | n + 1, l, hn, hd, hne, h0 => by
    have hl := List.dropLast_concat_getLast hne
    rw [← hl] at hd h0 hn ⊢
    generalize l.dropLast = a at *
    generalize l.getLast hne = c at *
    have hc := hd c (by simp)
    have hcu := hc
    unfold Dg at hc
    rw [valA_snoc]
    by_cases ha : a = []
    · subst ha
      rw [valA_nil, dec_small (by omega), Nat.zero_mul, Nat.zero_add, ofNat_dg hcu, List.nil_append]
    · have hda : ∀ x ∈ a, Dg x := fun x hx => hd x (by simp [hx])
      have hpos : 0 < a.length := List.length_pos_iff.2 ha
      have hh : a.head? ≠ some 48 := by rw [← head_append (r := [c]) ha]; exact h0 (by simp; omega)
      have hv := val_pos hda ha hh
      rw [dec_big (by omega), show (valA 0 a * 10 + (c.toNat - 48)) / 10 = valA 0 a by omega, show (valA 0 a * 10 + (c.toNat - 48)) % 10 = c.toNat - 48 by omega, ofNat_dg hcu]
      rw [dec_of_val n a (by simp at hn; exact hn) hda ha (fun _ => hh)]
theorem dec_val {l : List UInt8} (hd : ∀ c ∈ l, Dg c) (hne : l ≠ []) (h0 : 1 < l.length → l.head? ≠ some 48) : decDigits (valA 0 l) = l := dec_of_val _ l rfl hd hne h0

/-! Reading. -/
theorem parseU : ∀ (l : List UInt8) (acc : Nat), (∀ c ∈ l, Dg c) → valA acc l < 18446744073709551616 → parseUint10 acc l = .ok (valA acc l)
  | [], _, _, _ => rfl
  | c :: l, acc, hd, hv => by
    have h2 := hd c (List.mem_cons_self ..)
    unfold Dg at h2
    have hm := valA_mono l (acc * 10 + (c.toNat - 48))
    rw [valA_cons] at hv ⊢
    have hv' := hv
    show (if 48 ≤ c.toNat ∧ c.toNat ≤ 57 then _ else _) = _
    rw [if_pos h2, if_neg (by omega), if_neg (by omega)]
    exact parseU l _ (fun x hx => hd x (List.mem_cons_of_mem _ hx)) hv'
theorem parseM {l : List UInt8} (hd : ∀ c ∈ l, Dg c) (hne : l ≠ []) (hv : valA 0 l < 18446744073709551616) : parseMag l = .ok (valA 0 l) := by
  unfold parseMag
  rw [if_neg hne]
  exact parseU l 0 hd hv
theorem atoi_digits {l : List UInt8} (hd : ∀ c ∈ l, Dg c) (hne : l ≠ []) (hv : valA 0 l < 9223372036854775808) : atoiAll l = .ok (valA 0 l : Int) := by
  cases l with
  | nil => exact absurd rfl hne
  | cons c l =>
    have h2 := hd c (List.mem_cons_self ..)
    unfold Dg at h2
    rw [atoiAll_plain c l (by omega) (by omega), parseM hd (by simp) (by omega)]
    show (if _ then _ else _) = _
    rw [if_neg (by omega)]
theorem atoi_itoa (n : Int) (h0 : -9223372036854775808 ≤ n) (h1 : n ≤ 9223372036854775807) : atoiAll (itoa n) = .ok n := by
  unfold itoa
  split
  · next h =>
    rw [atoiAll_minus, parseM (dec_dg _) (dec_ne _) (by rw [val_dec]; omega), val_dec]
    show (if _ then _ else _) = _
    rw [if_neg (by omega)]
    congr 1; omega
  · next h =>
    rw [atoi_digits (dec_dg _) (dec_ne _) (by rw [val_dec]; omega), val_dec]
    congr 1; omega
theorem itoa_inj {m n : Int} (h : itoa m = itoa n) : m = n := by
  have key : ∀ (a : Nat) (b : Nat), 45 :: decDigits a ≠ decDigits b := by
    intro a b e
    have := dec_dg b 45 (by rw [← e]; simp)
    unfold Dg at this
    have : (45 : UInt8).toNat = 45 := rfl
    omega
  unfold itoa at h
  split at h <;> split at h
  · have := dec_inj (List.cons.inj h).2; omega
  · exact absurd h (key _ _)
  · exact absurd h.symm (key _ _)
  · have := dec_inj h; omega
/-- What ParseInt reads. -/
def IsI (l : List UInt8) (n : Int) : Prop := -9223372036854775808 ≤ n ∧ n ≤ 9223372036854775807 ∧ l = itoa n
theorem IsI.uniq {l : List UInt8} {m n : Int} (h : IsI l m) (k : IsI l n) : m = n := itoa_inj (h.2.2.symm.trans k.2.2)
open Classical in
noncomputable def pI (l : List UInt8) : Int := if h : ∃ n, IsI l n then h.choose else 0
open Classical in
noncomputable def pIB (l : List UInt8) : Bool := decide (∃ n, IsI l n)
open Classical in
theorem pI_yes {l : List UInt8} {n : Int} (h : IsI l n) : pI l = n ∧ pIB l = true := by
  have hh : ∃ n, IsI l n := ⟨n, h⟩
  refine ⟨?_, decide_eq_true hh⟩
  unfold pI
  rw [dif_pos hh]
  exact hh.choose_spec.uniq h
open Classical in
theorem pI_no {l : List UInt8} (h : ¬ ∃ n, IsI l n) : pI l = 0 ∧ pIB l = false := ⟨dif_neg h, decide_eq_false h⟩
theorem pI_bounds (l : List UInt8) : -9223372036854775808 ≤ pI l ∧ pI l ≤ 9223372036854775807 := by
  by_cases h : ∃ n, IsI l n
  · obtain ⟨n, hn⟩ := h; rw [(pI_yes hn).1]; exact ⟨hn.1, hn.2.1⟩
  · rw [(pI_no h).1]; omega

/-! Numbers with nine digits a limb. -/
/-- Zeros ahead. -/
def padL (n : Nat) (l : List UInt8) : List UInt8 := List.replicate (n - l.length) 48 ++ l
theorem padL_length {n : Nat} {l : List UInt8} (h : l.length ≤ n) : (padL n l).length = n := by unfold padL; simp; omega
theorem padL_dg {n : Nat} {l : List UInt8} (h : ∀ c ∈ l, Dg c) : ∀ c ∈ padL n l, Dg c := by
  intro c hc
  rcases List.mem_append.1 hc with h1 | h1
  · rw [(List.mem_replicate.1 h1).2]; unfold Dg; decide
  · exact h c h1
theorem valA_zeros (k : Nat) (l : List UInt8) : valA 0 (List.replicate k 48 ++ l) = valA 0 l := by
  induction k with
  | zero => rfl
  | succ k ih => rw [List.replicate_succ, List.cons_append, valA_cons]; exact ih
theorem padL_val (n : Nat) (l : List UInt8) : valA 0 (padL n l) = valA 0 l := valA_zeros _ _
theorem dec_len9 {r : Nat} (h : r < 1000000000) : (decDigits r).length ≤ 9 := by
  rw [decDigits_length]
  rcases Nat.lt_or_ge 9 (nDigits r) with h1 | h1
  · have hnd : nDigits r = 8 + 1 + (nDigits r - 9) := by omega
    have : 10 ^ 9 ≤ r := by
      have key : ∀ k, nDigits r = k + 1 → 10 ^ k ≤ r ∨ k = 0 := by
        intro k hk
        rcases Nat.lt_or_ge r 10 with h2 | h2
        · rw [nDigits_small h2] at hk; right; omega
        · left
          have hv := val_pos (dec_dg r) (dec_ne r) (dec_head r (by omega))
          -- the first digit is not 0
          have hl : (decDigits r).length = k + 1 := by rw [decDigits_length, hk]
          cases hd : decDigits r with
          | nil => exact absurd hd (dec_ne r)
          | cons c t =>
            have hc := dec_dg r c (by rw [hd]; simp)
            have hh := dec_head r (by omega)
            rw [hd] at hh hl
            have h3 : c.toNat ≠ 48 := fun e => hh (congrArg some (UInt8.toNat_inj.1 (e.trans rfl)))
            unfold Dg at hc
            have e1 := val_dec r
            rw [hd] at e1
            have e2 := e1
            rw [valA_cons, valA_acc] at e2
            have e3 : t.length = k := by simpa using hl
            rw [e3] at e2
            have : 1 * 10 ^ k ≤ (0 * 10 + (c.toNat - 48)) * 10 ^ k := Nat.mul_le_mul_right _ (by omega)
            omega
      rcases key (nDigits r - 1) (by omega) with h2 | h2
      · exact Nat.le_trans (Nat.pow_le_pow_right (by omega) (by omega)) h2
      · omega
    omega
  · exact h1
/-- One limb more. -/
theorem dec_limb {q r : Nat} (hq : 0 < q) (hr : r < 1000000000) : decDigits (q * 1000000000 + r) = decDigits q ++ padL 9 (decDigits r) := by
  have hl : (padL 9 (decDigits r)).length = 9 := padL_length (dec_len9 hr)
  have e : valA 0 (decDigits q ++ padL 9 (decDigits r)) = q * 1000000000 + r := by
    rw [valA_append, valA_acc, hl, val_dec, padL_val, val_dec]
  rw [← e]
  refine dec_val ?_ (by simp [dec_ne]) (fun _ => by rw [head_append (dec_ne q)]; exact dec_head q hq)
  intro c hc
  rcases List.mem_append.1 hc with h1 | h1
  · exact dec_dg q c h1
  · exact padL_dg (dec_dg r) c h1

end Tx
