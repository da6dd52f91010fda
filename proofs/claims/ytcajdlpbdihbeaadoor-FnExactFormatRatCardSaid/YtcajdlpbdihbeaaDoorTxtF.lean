/- Writing a natural number limb by limb: plain mathematics; no program in sight. -/
import Derived.Test.YtcajdlpbdihbeaaDoorTxtN
import Derived.Test.YtcajdlpbdihbeaaDoorLimbs
namespace Tx
open Go.Lib Lm

theorem norm_drop {l : List Int} (h : Norm l) : ∀ k : Nat, Norm (l.drop k)
  | 0 => by rw [List.drop_zero]; exact h
  | k + 1 => by
    have ih := norm_drop h k
    rw [show l.drop (k + 1) = (l.drop k).drop 1 by rw [List.drop_drop]]
    cases hk : l.drop k with
    | nil => rw [List.drop_nil]; exact Norm.nil
    | cons x xs => rw [hk] at ih; exact ih.tail
/-- What is written when the limbs from k on are written. -/
def fN (l : List Int) (k : Nat) : List UInt8 := decDigits (nv (l.drop k)).toNat
theorem itoa_nonneg {v : Int} (h : 0 ≤ v) : itoa v = decDigits v.toNat := by
  unfold itoa
  rw [if_neg (by omega)]
theorem fN_top {l : List Int} (h : Norm l) (h0 : 0 < l.length) : fN l (l.length - 1) = itoa (lat l (l.length - 1)) := by
  unfold fN
  rw [nv_drop l (l.length - 1) (by omega), nv_drop_all (by omega), itoa_nonneg (h.1.lat _).1]
  congr 2
  omega
theorem fN_step {l : List Int} (h : Norm l) (i : Nat) (hi : i + 1 < l.length) : fN l i = fN l (i + 1) ++ padL 9 (itoa (lat l i)) := by
  have h1 := h.1.lat i
  have h2 : 0 < nv (l.drop (i + 1)) := (norm_drop h (i + 1)).pos (by
    intro e
    have := congrArg List.length e
    simp at this
    omega)
  unfold fN
  rw [nv_drop l i (by omega), itoa_nonneg h1.1, ← dec_limb (by omega) (by omega)]
  congr 1
  omega
theorem fN_len {l : List Int} (h : Norm l) : ∀ n k : Nat, k + n = l.length → 0 < n → (fN l k).length ≤ 9 * n := by
  intro n
  induction n with
  | zero => omega
  | succ n ih =>
    intro k hk _
    by_cases h0 : n = 0
    · obtain rfl : k = l.length - 1 := by omega
      rw [fN_top h (by omega), itoa_nonneg (h.1.lat _).1, h0]
      have := dec_len9 (r := (lat l (l.length - 1)).toNat) (by have := h.1.lat (l.length - 1); omega)
      omega
    · have := ih (k + 1) (by omega) (by omega)
      have h9 := dec_len9 (r := (lat l k).toNat) (by have := h.1.lat k; omega)
      rw [fN_step h k (by omega), List.length_append, itoa_nonneg (h.1.lat _).1, padL_length h9]
      omega
/-- A number's text. -/
def fmtN (l : List Int) : List UInt8 := decDigits (nv l).toNat
theorem fN_zero (l : List Int) : fN l 0 = fmtN l := by unfold fN fmtN; rw [List.drop_zero]
theorem fmtN_nil : fmtN [] = [48] := dec_zero
theorem fmtN_len {l : List Int} (h : Norm l) (h60 : l.length ≤ 60) : (fmtN l).length ≤ 541 := by
  by_cases h0 : l.length = 0
  · rw [List.length_eq_zero_iff.1 h0, fmtN_nil]; simp
  · have := fN_len h l.length 0 (by omega) (by omega)

    rw [← fN_zero]
    omega

end Tx
