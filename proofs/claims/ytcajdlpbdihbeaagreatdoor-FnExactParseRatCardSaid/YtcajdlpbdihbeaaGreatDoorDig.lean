/- IsDigits: the program's and the reference's. -/
import Derived.Test.YtcajdlpbdihbeaaGreatDoorFrame
namespace Go.Proofs.YtcajdlpbdihbeaaGreatDoor
open Go.RowKit

/-- A digit. -/
def Dig (c : UInt8) : Prop := 48 ≤ (c.toNat : Int) ∧ (c.toNat : Int) ≤ 57
/-- Digits alone, and not none. -/
def Digs (s : ByteArray) : Prop := 0 < s.size ∧ ∀ (i : Nat) (h : i < s.size), Dig s[i]
open Classical in
noncomputable def digsB (s : ByteArray) : Bool := decide (Digs s)
open Classical in
theorem digsB_t {s : ByteArray} (h : Digs s) : digsB s = true := decide_eq_true h
open Classical in
theorem digsB_f {s : ByteArray} (h : ¬ Digs s) : digsB s = false := decide_eq_false h
theorem isEmpty_size (s : ByteArray) : s.toList.isEmpty = decide (s.size = 0) := by
  rw [ByteArray.toList_eq]
  cases s with
  | mk d => cases d with
    | mk l => cases l <;> simp [ByteArray.size]

set_option maxHeartbeats 1000000 in
theorem isDigits_c (w : World) (s : ByteArray) (c : Bool) (hc : Hid (c = digsB s)) (hl : s.size ≤ 17592186044415) : Calls Tryz.prog 33 #[.string s] w (RetB w c) := by
  go_enter Tryz.func33, Tryz.ntmps33
  go_wp2_with fail
  go_loopw [3] (fun k wr => ∃ (i : Nat), i ≤ s.size ∧ k = .int .i64 i ∧ Hid (∀ (j : Nat) (h : j < s.size), j < i → Dig s[j]) ∧ Below w.heap.size w wr) (fun k _ => s.size - (intOf k).toNat)
  case atStart => exact ⟨0, by omega, rfl, (fun _ _ h => by omega), Below.refl _ _⟩
  case round =>
    obtain ⟨i, hi, rfl, HD, hb⟩ := hrel
    by_cases hlt : i < s.size
    · by_cases hd : Dig s[i]
      · have HDD := Lib.hid hd
        have d1 : decide ((s[i].toNat : Int) < 48) = false := decide_eq_false (by have := hd.1; omega)
        have d2 : decide (57 < (s[i].toNat : Int)) = false := decide_eq_false (by have := hd.2; omega)
        clear hd
        go_wp2
        go_roundw
        case rel => exact ⟨i + 1, by omega, by go_num, (fun j h hj => by
          rcases Nat.lt_or_ge j i with h2 | h2
          · exact HD.out j h h2
          · obtain rfl : j = i := by omega
            exact HDD.out), hb⟩
        case measure => (simp [intOf]) <;> omega
      · have HC : Hid (c = false) := by unfold Hid; rw [hc.out]; exact digsB_f (fun h => hd (h.2 i hlt))
        by_cases h1 : (s[i].toNat : Int) < 48
        · have d1 : decide ((s[i].toNat : Int) < 48) = true := decide_eq_true h1
          clear hd h1
          go_wp2
          go_ret
          exact retB HC.out.symm hb
        · have d1 : decide ((s[i].toNat : Int) < 48) = false := decide_eq_false h1
          have d2 : decide (57 < (s[i].toNat : Int)) = true := decide_eq_true (by unfold Dig at hd; omega)
          clear hd h1
          go_wp2
          go_ret
          exact retB HC.out.symm hb
    · obtain rfl : i = s.size := by omega
      by_cases h0 : 0 < s.size
      · have HC : Hid (c = true) := by unfold Hid; rw [hc.out]; exact digsB_t ⟨h0, fun j h => HD.out j h h⟩
        have d1 : decide ((0 : Int) < s.size) = true := decide_eq_true (by omega)
        have l1 : s.toList.isEmpty = false := by rw [isEmpty_size]; exact decide_eq_false (by omega)
        go_wp2
        go_ret
        exact retB HC.out.symm hb
      · have HC : Hid (c = false) := by unfold Hid; rw [hc.out]; exact digsB_f (fun h => h0 h.1)
        have d1 : decide ((0 : Int) < s.size) = false := decide_eq_false (by omega)
        have l1 : s.toList.isEmpty = true := by rw [isEmpty_size]; exact decide_eq_true (by omega)
        go_wp2
        go_ret
        exact retB HC.out.symm hb

set_option maxHeartbeats 1000000 in
theorem sIsDigits_c (w : World) (s : ByteArray) (c : Bool) (hc : Hid (c = digsB s)) (hl : s.size ≤ 17592186044415) : Calls Tryz.prog 24 #[.string s] w (RetB w c) := by
  go_enter Tryz.func24, Tryz.ntmps24
  go_wp2_with fail
  go_loopw [3] (fun k wr => ∃ (i : Nat), i ≤ s.size ∧ k = .int .i64 i ∧ Hid (∀ (j : Nat) (h : j < s.size), j < i → Dig s[j]) ∧ Below w.heap.size w wr) (fun k _ => s.size - (intOf k).toNat)
  case atStart => exact ⟨0, by omega, rfl, (fun _ _ h => by omega), Below.refl _ _⟩
  case round =>
    obtain ⟨i, hi, rfl, HD, hb⟩ := hrel
    by_cases hlt : i < s.size
    · by_cases hd : Dig s[i]
      · have HDD := Lib.hid hd
        have d1 : decide ((s[i].toNat : Int) < 48) = false := decide_eq_false (by have := hd.1; omega)
        have d2 : decide (57 < (s[i].toNat : Int)) = false := decide_eq_false (by have := hd.2; omega)
        clear hd
        go_wp2
        go_roundw
        case rel => exact ⟨i + 1, by omega, by go_num, (fun j h hj => by
          rcases Nat.lt_or_ge j i with h2 | h2
          · exact HD.out j h h2
          · obtain rfl : j = i := by omega
            exact HDD.out), hb⟩
        case measure => (simp [intOf]) <;> omega
      · have HC : Hid (c = false) := by unfold Hid; rw [hc.out]; exact digsB_f (fun h => hd (h.2 i hlt))
        by_cases h1 : (s[i].toNat : Int) < 48
        · have d1 : decide ((s[i].toNat : Int) < 48) = true := decide_eq_true h1
          clear hd h1
          go_wp2
          go_ret
          exact retB HC.out.symm hb
        · have d1 : decide ((s[i].toNat : Int) < 48) = false := decide_eq_false h1
          have d2 : decide (57 < (s[i].toNat : Int)) = true := decide_eq_true (by unfold Dig at hd; omega)
          clear hd h1
          go_wp2
          go_ret
          exact retB HC.out.symm hb
    · obtain rfl : i = s.size := by omega
      by_cases h0 : 0 < s.size
      · have HC : Hid (c = true) := by unfold Hid; rw [hc.out]; exact digsB_t ⟨h0, fun j h => HD.out j h h⟩
        have d1 : decide ((0 : Int) < s.size) = true := decide_eq_true (by omega)
        have l1 : s.toList.isEmpty = false := by rw [isEmpty_size]; exact decide_eq_false (by omega)
        go_wp2
        go_ret
        exact retB HC.out.symm hb
      · have HC : Hid (c = false) := by unfold Hid; rw [hc.out]; exact digsB_f (fun h => h0 h.1)
        have d1 : decide ((0 : Int) < s.size) = false := decide_eq_false (by omega)
        have l1 : s.toList.isEmpty = true := by rw [isEmpty_size]; exact decide_eq_true (by omega)
        go_wp2
        go_ret
        exact retB HC.out.symm hb

end Go.Proofs.YtcajdlpbdihbeaaGreatDoor
