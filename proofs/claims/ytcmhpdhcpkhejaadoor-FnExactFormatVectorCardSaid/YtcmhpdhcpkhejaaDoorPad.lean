/- PadZeros: the program's and the reference's. -/
import Derived.Test.YtcmhpdhcpkhejaaDoorLib
import Derived.Test.YtcmhpdhcpkhejaaDoorMathG
import Derived.Test.YtcmhpdhcpkhejaaDoorConv
namespace Go.Proofs.YtcmhpdhcpkhejaaDoor
open Go.RowKit Tx

/-- PadZeros. -/
def padZ (s : ByteArray) (n : Int) : ByteArray := if 2000 < n then s else bs (padL n.toNat s.data.toList)
theorem padZ_long {s : ByteArray} {n : Int} (h : n ≤ s.size) : padZ s n = s := by
  unfold padZ; split
  · rfl
  · unfold padL
    rw [size_list] at h
    rw [show n.toNat - s.data.toList.length = 0 by omega]
    exact bs_list s
theorem padZ_big {s : ByteArray} {n : Int} (h : 2000 < n) : padZ s n = s := if_pos h
/-- The length of a string: for measures. -/
def strLen : Value → Int | .string s => s.size | _ => 0
theorem repeat_one (c : UInt8) (k : Nat) : Lib.repeatL [c] k = List.replicate k c := by
  induction k with
  | zero => rfl
  | succ k ih => rw [Lib.repeatL, ih, List.replicate_succ]; rfl

theorem zeros_c (w : World) (k : Nat) (n : Int) (hn : n = (k : Int)) (hk : k ≤ 2000) (z : ByteArray) (hz : Hid (z = bs (List.replicate k 48))) : Calls Tryd.prog 53 #[.string { data := #[48] }, .int .i64 n] w (RetT w z) := by
  have h := repeat_c w { data := #[48] } k n hn (by show 1 * k ≤ _; omega) (by omega)
  rw [hz.out]
  rw [show Lib.repeatL (ByteArray.data { data := #[48] }).toList k = List.replicate k 48 from repeat_one 48 k] at h
  exact h

set_option maxHeartbeats 400000 in
theorem padZeros_c (w : World) (s : ByteArray) (n : Int) (t : ByteArray) (ht : Hid (t = padZ s n)) (hl : s.size ≤ 17592186044415) :
    Calls Tryd.prog 42 #[.string s, .int .i64 n] w (RetT w t) := by
  by_cases h1 : n ≤ s.size
  · have HT : Hid (t = s) := by unfold Hid; rw [ht.out, padZ_long h1]
    have d1 : decide (n ≤ (s.size : Int)) = true := decide_eq_true h1
    clear h1
    go_enter Tryd.func42, Tryd.ntmps42
    go_wp2
    go_ret
    exact retT HT.out.symm (Below.refl _ _)
  · have d1 : decide (n ≤ (s.size : Int)) = false := decide_eq_false h1
    by_cases h2 : 2000 < n
    · have HT : Hid (t = s) := by unfold Hid; rw [ht.out, padZ_big h2]
      have d2 : decide ((2000 : Int) < n) = true := decide_eq_true h2
      clear h1 h2
      go_enter Tryd.func42, Tryd.ntmps42
      go_wp2
      go_ret
      exact retT HT.out.symm (Below.refl _ _)
    · have d2 : decide ((2000 : Int) < n) = false := decide_eq_false h2
      obtain ⟨z, hz⟩ : ∃ z : ByteArray, z = bs (List.replicate (n.toNat - s.size) 48) := ⟨_, rfl⟩
      have HT : Hid (t = z ++ s) := by
        unfold Hid
        rw [ht.out, hz]
        unfold padZ padL
        rw [if_neg h2, ← bs_append, bs_list, size_list]
      have hzs : z.size + s.size ≤ 9223372036854775807 := by rw [hz, bs_size, List.length_replicate]; omega
      have HZ := Lib.hid hz
      clear hz
      go_enter Tryd.func42, Tryd.ntmps42
      go_wp2_with fail
      refine (zeros_c _ (n.toNat - s.size) _ (by omega) (by omega) z HZ).mono ?_
      rintro e w1 ⟨rfl, hb⟩
      go_wp2
      go_ret
      exact retT HT.out.symm hb

set_option maxHeartbeats 400000 in
theorem sPadZeros_c (w : World) (s : ByteArray) (n : Int) (t : ByteArray) (ht : Hid (t = padZ s n)) (hl : s.size ≤ 17592186044415) :
    Calls Tryd.prog 37 #[.string s, .int .i64 n] w (RetT w t) := by
  by_cases h2 : 2000 < n
  · have HT : Hid (t = s) := by unfold Hid; rw [ht.out, padZ_big h2]
    have d2 : decide ((2000 : Int) < n) = true := decide_eq_true h2
    clear h2
    go_enter Tryd.func37, Tryd.ntmps37
    go_wp2
    go_ret
    exact retT HT.out.symm (Below.refl _ _)
  · have d2 : decide ((2000 : Int) < n) = false := decide_eq_false h2
    go_enter Tryd.func37, Tryd.ntmps37
    go_wp2_with fail
    go_loop [0] (fun v => ∃ u : ByteArray, v = .string u ∧ Hid (padZ u n = t) ∧ u.size ≤ 17592186044415) (fun v => (n - strLen v).toNat)
    case atStart => exact ⟨s, rfl, ht.out.symm, hl⟩
    case round =>
      obtain ⟨u, rfl, HU, hul⟩ := hrel
      by_cases h3 : (u.size : Int) < n
      · have d3 : decide ((u.size : Int) < n) = true := decide_eq_true h3
        obtain ⟨z, hz⟩ : ∃ z : ByteArray, z = { data := #[48] } ++ u := ⟨_, rfl⟩
        have hzs : z.size = 1 + u.size := by rw [hz, ByteArray.size_append]; rfl
        have HZ : Hid (padZ z n = t) := by
          unfold Hid
          rw [← HU.out, hz]
          unfold padZ
          rw [if_neg (by omega), if_neg (by omega), show ({ data := #[48] } : ByteArray) = bs [48] from rfl, ← bs_list u, bs_append, bs_data, bs_data]
          congr 1
          unfold padL
          rw [size_list] at h3
          rw [List.cons_append, List.nil_append, List.length_cons, show n.toNat - u.data.toList.length = (n.toNat - (u.data.toList.length + 1)) + 1 by omega, List.replicate_succ', List.append_assoc]
          rfl
        have hm : ({ data := #[48] } : ByteArray).size + u.size ≤ 9223372036854775807 := by show 1 + _ ≤ _; omega
        go_wp2
        go_round
        case rel => exact ⟨z, by rw [hz], HZ, by omega⟩
        case measure => rw [← hz]; show (n - (z.size : Int)).toNat < (n - (u.size : Int)).toNat; omega
      · have d3 : decide ((u.size : Int) < n) = false := decide_eq_false h3
        have HT : Hid (u = t) := by unfold Hid; rw [← HU.out, padZ_long (by omega)]
        go_wp2
        go_ret
        exact retT HT.out (Below.refl _ _)

end Go.Proofs.YtcmhpdhcpkhejaaDoor
