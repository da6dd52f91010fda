/- IsName: the program's and the reference's. -/
import Derived.Test.YtijeplcjbhkkoaaDoorStrG
namespace Go.Proofs.YtijeplcjbhkkoaaDoor
open Go.RowKit

def Low (c : UInt8) : Prop := 97 ≤ (c.toNat : Int) ∧ (c.toNat : Int) ≤ 122
def NamC (c : UInt8) : Prop := Low c ∨ Dig c
/-- A name. -/
def Nam (s : ByteArray) : Prop := 1 ≤ s.size ∧ s.size ≤ 8 ∧ (∀ h : 0 < s.size, Low s[0]) ∧ ∀ (i : Nat) (h : i < s.size), NamC s[i]
open Classical in
noncomputable def namB (s : ByteArray) : Bool := decide (Nam s)
open Classical in
theorem namB_t {s : ByteArray} (h : Nam s) : namB s = true := decide_eq_true h
open Classical in
theorem namB_f {s : ByteArray} (h : ¬ Nam s) : namB s = false := decide_eq_false h

set_option maxHeartbeats 1000000 in
theorem isName_1 (w : World) (s : ByteArray) (c : Bool) (hc : Hid (c = namB s)) (_hl : s.size ≤ 17592186044415) (h0 : s.size = 0) (hn : ¬ Nam s) : Calls Tryd.prog 11 #[.string s] w (RetB w c) := by
  have HC : Hid (c = false) := by unfold Hid; rw [hc.out]; exact namB_f hn
  clear hn
  have d1 : decide ((s.size : Int) < 1) = true := decide_eq_true (by omega)
  clear h0
  go_enter Tryd.func11, Tryd.ntmps11
  go_wp2
  go_ret
  exact retB HC.out.symm (Below.refl _ _)

set_option maxHeartbeats 1000000 in
theorem isName_2 (w : World) (s : ByteArray) (c : Bool) (hc : Hid (c = namB s)) (hl : s.size ≤ 17592186044415) (h0 : 8 < s.size) (hn : ¬ Nam s) : Calls Tryd.prog 11 #[.string s] w (RetB w c) := by
  have HC : Hid (c = false) := by unfold Hid; rw [hc.out]; exact namB_f hn
  clear hn
  have d1 : decide ((s.size : Int) < 1) = false := decide_eq_false (by omega)
  have d2 : decide ((8 : Int) < s.size) = true := decide_eq_true (by omega)
  go_enter Tryd.func11, Tryd.ntmps11
  go_wp2
  go_ret
  exact retB HC.out.symm (Below.refl _ _)

set_option maxHeartbeats 1000000 in
theorem isName_3 (w : World) (s : ByteArray) (c : Bool) (hc : Hid (c = namB s)) (hl : s.size ≤ 17592186044415) (h0 : 0 < s.size) (h1 : s.size ≤ 8) (h2 : (s[0].toNat : Int) < 97) (hn : ¬ Nam s) : Calls Tryd.prog 11 #[.string s] w (RetB w c) := by
  have HC : Hid (c = false) := by unfold Hid; rw [hc.out]; exact namB_f hn
  clear hn
  have d1 : decide ((s.size : Int) < 1) = false := decide_eq_false (by omega)
  have d2 : decide ((8 : Int) < s.size) = false := decide_eq_false (by omega)
  have d3 : decide ((s[0].toNat : Int) < 97) = true := decide_eq_true h2
  have h3 : 0 < s.size := h0
  go_enter Tryd.func11, Tryd.ntmps11
  go_wp2
  go_ret
  exact retB HC.out.symm (Below.refl _ _)

set_option maxHeartbeats 1000000 in
theorem isName_4 (w : World) (s : ByteArray) (c : Bool) (hc : Hid (c = namB s)) (hl : s.size ≤ 17592186044415) (h0 : 0 < s.size) (h1 : s.size ≤ 8) (h2 : 122 < (s[0].toNat : Int)) (hn : ¬ Nam s) : Calls Tryd.prog 11 #[.string s] w (RetB w c) := by
  have HC : Hid (c = false) := by unfold Hid; rw [hc.out]; exact namB_f hn
  clear hn
  have d1 : decide ((s.size : Int) < 1) = false := decide_eq_false (by omega)
  have d2 : decide ((8 : Int) < s.size) = false := decide_eq_false (by omega)
  have d3 : decide ((s[0].toNat : Int) < 97) = false := decide_eq_false (by omega)
  have d4 : decide ((122 : Int) < (s[0].toNat : Int)) = true := decide_eq_true h2
  have h3 : 0 < s.size := h0
  go_enter Tryd.func11, Tryd.ntmps11
  go_wp2
  go_ret
  exact retB HC.out.symm (Below.refl _ _)

set_option maxHeartbeats 2000000 in
theorem isName_5 (w : World) (s : ByteArray) (c : Bool) (hc : Hid (c = namB s)) (hl : s.size ≤ 17592186044415) (h0 : 0 < s.size) (h1 : s.size ≤ 8) (h2 : Low s[0]) : Calls Tryd.prog 11 #[.string s] w (RetB w c) := by
  have HL := Lib.hid h2
  have d1 : decide ((s.size : Int) < 1) = false := decide_eq_false (by omega)
  have d2 : decide ((8 : Int) < s.size) = false := decide_eq_false (by omega)
  have d3 : decide ((s[0].toNat : Int) < 97) = false := decide_eq_false (by have := h2.1; omega)
  have d4 : decide ((122 : Int) < (s[0].toNat : Int)) = false := decide_eq_false (by have := h2.2; omega)
  clear h2
  go_enter Tryd.func11, Tryd.ntmps11
  go_wp2_with fail
  clear d1 d2 d3 d4
  go_loopw [3] (fun k wr => ∃ (i : Nat), i ≤ s.size ∧ k = .int .i64 i ∧ Hid (∀ (j : Nat) (h : j < s.size), j < i → NamC s[j]) ∧ Below w.heap.size w wr) (fun k _ => s.size - (intOf k).toNat)
  case atStart => exact ⟨0, by omega, rfl, (fun _ _ h => by omega), Below.refl _ _⟩
  case round =>
    obtain ⟨i, hi, rfl, HD, hb⟩ := hrel
    by_cases hlt : i < s.size
    · have hgo : NamC s[i] → Hid (∀ (j : Nat) (h : j < s.size), j < i + 1 → NamC s[j]) := fun hd j h hj => by
        rcases Nat.lt_or_ge j i with h2 | h2
        · exact HD.out j h h2
        · obtain rfl : j = i := by omega
          exact hd
      have hno : ¬ NamC s[i] → Hid (c = false) := fun hd => by unfold Hid; rw [hc.out]; exact namB_f (fun h => hd (h.2.2.2 i hlt))
      have HGO := Lib.hid hgo
      have HNO := Lib.hid hno
      clear hgo hno
      by_cases a1 : (s[i].toNat : Int) < 97
      · have e1 : decide ((s[i].toNat : Int) < 97) = true := decide_eq_true a1
        by_cases a2 : (s[i].toNat : Int) < 48
        · have HC := HNO.out (fun h => by rcases h with h | h <;> have := h.1 <;> omega)
          have e2 : decide ((s[i].toNat : Int) < 48) = true := decide_eq_true a2
          clear a1 a2 HGO HNO
          go_wp2
          go_ret
          exact retB HC.out.symm hb
        · have e2 : decide ((s[i].toNat : Int) < 48) = false := decide_eq_false a2
          by_cases a3 : 57 < (s[i].toNat : Int)
          · have HC := HNO.out (fun h => by rcases h with h | h <;> have := h.1 <;> have := h.2 <;> omega)
            have e3 : decide ((57 : Int) < (s[i].toNat : Int)) = true := decide_eq_true a3
            clear a1 a2 a3 HGO HNO
            go_wp2
            go_ret
            exact retB HC.out.symm hb
          · have HC := HGO.out (.inr ⟨by omega, by omega⟩)
            have e3 : decide ((57 : Int) < (s[i].toNat : Int)) = false := decide_eq_false a3
            clear a1 a2 a3 HGO HNO
            go_wp2
            go_roundw
            case rel => exact ⟨i + 1, by omega, by go_num, HC, hb⟩
            case measure => (simp [intOf]) <;> omega
      · have e1 : decide ((s[i].toNat : Int) < 97) = false := decide_eq_false a1
        by_cases a2 : 122 < (s[i].toNat : Int)
        · have HC := HNO.out (fun h => by rcases h with h | h <;> have := h.2 <;> omega)
          have e2 : decide ((122 : Int) < (s[i].toNat : Int)) = true := decide_eq_true a2
          have e3 : decide ((s[i].toNat : Int) < 48) = false := decide_eq_false (by omega)
          have e4 : decide ((57 : Int) < (s[i].toNat : Int)) = true := decide_eq_true (by omega)
          clear a1 a2 HGO HNO
          go_wp2
          go_ret
          exact retB HC.out.symm hb
        · have HC := HGO.out (.inl ⟨by omega, by omega⟩)
          have e2 : decide ((122 : Int) < (s[i].toNat : Int)) = false := decide_eq_false a2
          clear a1 a2 HGO HNO
          go_wp2
          go_roundw
          case rel => exact ⟨i + 1, by omega, by go_num, HC, hb⟩
          case measure => (simp [intOf]) <;> omega
    · obtain rfl : i = s.size := by omega
      have HC : Hid (c = true) := by unfold Hid; rw [hc.out]; exact namB_t ⟨h0, h1, fun _ => HL.out, fun j h => HD.out j h h⟩
      go_wp2
      go_ret
      exact retB HC.out.symm hb

theorem isName_c (w : World) (s : ByteArray) (c : Bool) (hc : Hid (c = namB s)) (hl : s.size ≤ 17592186044415) : Calls Tryd.prog 11 #[.string s] w (RetB w c) := by
  by_cases h0 : s.size = 0
  · exact isName_1 w s c hc hl h0 (fun h => by have := h.1; omega)
  · by_cases h1 : 8 < s.size
    · exact isName_2 w s c hc hl h1 (fun h => by have := h.2.1; omega)
    · have hp : 0 < s.size := by omega
      by_cases h2 : (s[0].toNat : Int) < 97
      · exact isName_3 w s c hc hl hp (by omega) h2 (fun h => by have := (h.2.2.1 hp).1; omega)
      · by_cases h3 : 122 < (s[0].toNat : Int)
        · exact isName_4 w s c hc hl hp (by omega) h3 (fun h => by have := (h.2.2.1 hp).2; omega)
        · exact isName_5 w s c hc hl hp (by omega) ⟨by omega, by omega⟩

end Go.Proofs.YtijeplcjbhkkoaaDoor
