/- PadZeros: the program's and the reference's. -/
import Derived.Test.YtijeplcjbhkkoaaDoorLib
import Derived.Test.YtijeplcjbhkkoaaDoorMathG
import Derived.Test.YtijeplcjbhkkoaaDoorStrG
namespace Go.Proofs.YtijeplcjbhkkoaaDoor
open Go.RowKit Tx

/-- PadZeros. -/
def padZ (s : ByteArray) (n : Int) : ByteArray := if 2000 < n then s else bs (padL n.toNat s.data.toList)
theorem padZ_long {s : ByteArray} {n : Int} (h : n ≤ s.size) : padZ s n = s := by
  unfold padZ; split
  · rfl
  · unfold padL
    rw [size_list] at h
    rw [show n.toNat - s.data.toList.length = 0 by omega]
    exact bs_list s
theorem padZ_big {s : ByteArray} {n : Int} (h : 2000 < n) : padZ s n = s := if_pos h
/-- The length of a string: for measures. -/
def strLen : Value → Int | .string s => s.size | _ => 0
theorem repeat_one (c : UInt8) (k : Nat) : Lib.repeatL [c] k = List.replicate k c := by
  induction k with
  | zero => rfl
  | succ k ih => rw [Lib.repeatL, ih, List.replicate_succ]; rfl

theorem zeros_c (w : World) (k : Nat) (n : Int) (hn : n = (k : Int)) (hk : k ≤ 2000) (z : ByteArray) (hz : Hid (z = bs (List.replicate k 48))) : Calls Tryd.prog 61 #[.string { data := #[48] }, .int .i64 n] w (RetT w z) := by
  have h := repeat_c w { data := #[48] } k n hn (by show 1 * k ≤ _; omega) (by omega)
  rw [hz.out]
  rw [show Lib.repeatL (ByteArray.data { data := #[48] }).toList k = List.replicate k 48 from repeat_one 48 k] at h
  exact h

set_option maxHeartbeats 400000 in
theorem padZeros_c (w : World) (s : ByteArray) (n : Int) (t : ByteArray) (ht : Hid (t = padZ s n)) (hl : s.size ≤ 17592186044415) :
    Calls Tryd.prog 51 #[.string s, .int .i64 n] w (RetT w t) := by
  by_cases h1 : n ≤ s.size
  · have HT : Hid (t = s) := by unfold Hid; rw [ht.out, padZ_long h1]
    have d1 : decide (n ≤ (s.size : Int)) = true := decide_eq_true h1
    clear h1
    go_enter Tryd.func51, Tryd.ntmps51
    go_wp2
    go_ret
    exact retT HT.out.symm (Below.refl _ _)
  · have d1 : decide (n ≤ (s.size : Int)) = false := decide_eq_false h1
    by_cases h2 : 2000 < n
    · have HT : Hid (t = s) := by unfold Hid; rw [ht.out, padZ_big h2]
      have d2 : decide ((2000 : Int) < n) = true := decide_eq_true h2
      clear h1 h2
      go_enter Tryd.func51, Tryd.ntmps51
      go_wp2
      go_ret
      exact retT HT.out.symm (Below.refl _ _)
    · have d2 : decide ((2000 : Int) < n) = false := decide_eq_false h2
      obtain ⟨z, hz⟩ : ∃ z : ByteArray, z = bs (List.replicate (n.toNat - s.size) 48) := ⟨_, rfl⟩
      have HT : Hid (t = z ++ s) := by
        unfold Hid
        rw [ht.out, hz]
        unfold padZ padL
        rw [if_neg h2, ← bs_append, bs_list, size_list]
      have hzs : z.size + s.size ≤ 9223372036854775807 := by rw [hz, bs_size, List.length_replicate]; omega
      have HZ := Lib.hid hz
      clear hz
      go_enter Tryd.func51, Tryd.ntmps51
      go_wp2_with fail
      refine (zeros_c _ (n.toNat - s.size) _ (by omega) (by omega) z HZ).mono ?_
      rintro e w1 ⟨rfl, hb⟩
      go_wp2
      go_ret
      exact retT HT.out.symm hb

end Go.Proofs.YtijeplcjbhkkoaaDoor
