/- Reading an int: plain mathematics; no program in sight. -/
import Derived.Test.YtcajdlpbdihbeaaDoorTxtN
namespace Tx
open Go.Lib

theorem nd19 {u : Nat} (h : u ≤ 9223372036854775808) : (decDigits u).length ≤ 19 := by
  rw [decDigits_length]
  rcases Nat.lt_or_ge 19 (nDigits u) with h1 | h1
  · have h2 : u < 10 ^ 19 := by
      have : (10 : Nat) ^ 19 = 10000000000000000000 := by decide
      omega
    -- a number below 10 ^ 19 has no more than 19 digits
    have key : ∀ k u : Nat, u < 10 ^ (k + 1) → nDigits u ≤ k + 1 := by
      intro k
      induction k with
      | zero => intro u hu; rw [nDigits_small (by simpa using hu)]; omega
      | succ k ih =>
        intro u hu
        by_cases h9 : u < 10
        · rw [nDigits_small h9]; omega
        · rw [nDigits_big h9]
          have := ih (u / 10) (by rw [Nat.pow_succ] at hu; omega)
          omega
    have := key 18 u h2
    omega
  · exact h1
theorem isI_neg {T : List UInt8} {n : Int} : IsI (45 :: T) n ↔ n < 0 ∧ -9223372036854775808 ≤ n ∧ T = decDigits n.natAbs := by
  unfold IsI itoa
  constructor
  · rintro ⟨h1, h2, h3⟩
    split at h3
    · next h => exact ⟨h, h1, (List.cons.inj h3).2⟩
    · next h =>
      exfalso
      have := dec_dg n.toNat 45 (by rw [← h3]; simp)
      unfold Dg at this
      have : (45 : UInt8).toNat = 45 := rfl
      omega
  · rintro ⟨h1, h2, h3⟩
    exact ⟨h2, by omega, by rw [if_pos h1, h3]⟩
theorem isI_pos {l : List UInt8} {n : Int} (h : l.head? ≠ some 45) : IsI l n ↔ 0 ≤ n ∧ n ≤ 9223372036854775807 ∧ l = decDigits n.natAbs := by
  unfold IsI itoa
  constructor
  · rintro ⟨h1, h2, h3⟩
    split at h3
    · next hn => rw [h3] at h; exact absurd rfl h
    · next hn => exact ⟨by omega, h2, by rw [h3]; congr 1; omega⟩
  · rintro ⟨h1, h2, h3⟩
    exact ⟨by omega, h2, by rw [if_neg (by omega), h3]; congr 1; omega⟩
/-- A prefix stands for no more. -/
theorem val_take (l : List UInt8) (i : Nat) : valA 0 (l.take i) ≤ valA 0 l := by
  have h : l = l.take i ++ l.drop i := (List.take_append_drop i l).symm
  have h2 := congrArg (valA 0) h
  rw [valA_append] at h2
  rw [h2]
  exact valA_mono _ _
theorem val_take_succ (l : List UInt8) (i : Nat) (h : i < l.length) : valA 0 (l.take (i + 1)) = valA 0 (l.take i) * 10 + (l[i].toNat - 48) := by
  rw [List.take_succ_eq_append_getElem h, valA_snoc]
/-- The test against the least int. -/
theorem min_test {v d : Nat} (hd : d ≤ 9) : (-(v : Int) < (-9223372036854775808 + (d : Int)).tdiv 10) ↔ 9223372036854775808 < v * 10 + d := by
  obtain ⟨M, hM⟩ : ∃ M : Nat, (M : Int) = 9223372036854775808 - d := ⟨9223372036854775808 - d, by omega⟩
  rw [show (-9223372036854775808 + (d : Int)) = -(M : Int) by omega, Int.neg_tdiv]
  have e : (M : Int).tdiv 10 = ((M / 10 : Nat) : Int) := rfl
  rw [e]
  omega
theorem min_bounds {d : Nat} (hd : d ≤ 9) : -922337203685477580 ≤ (-9223372036854775808 + (d : Int)).tdiv 10 ∧ (-9223372036854775808 + (d : Int)).tdiv 10 ≤ 0 := by
  obtain ⟨M, hM⟩ : ∃ M : Nat, (M : Int) = 9223372036854775808 - d := ⟨9223372036854775808 - d, by omega⟩
  rw [show (-9223372036854775808 + (d : Int)) = -(M : Int) by omega, Int.neg_tdiv]
  have e : (M : Int).tdiv 10 = ((M / 10 : Nat) : Int) := rfl
  rw [e]
  omega

end Tx
