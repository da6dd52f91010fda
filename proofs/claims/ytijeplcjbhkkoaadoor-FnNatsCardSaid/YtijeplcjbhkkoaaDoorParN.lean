/- ParseNat: the program's and the reference's. -/
import Derived.Test.YtijeplcjbhkkoaaDoorParI
import Derived.Test.YtijeplcjbhkkoaaDoorMathG
import Derived.Test.YtijeplcjbhkkoaaDoorSpecM
import Derived.Test.YtijeplcjbhkkoaaDoorNatG
namespace Go.Proofs.YtijeplcjbhkkoaaDoor
open Go.RowKit Tx Go.Lib Lm

/-- A slice of limbs and a bool. -/
def RetSB (w : World) (xs : List Int) (c : Bool) (e : Ending) (w' : World) : Prop := ∃ v, e = .returned (.tuple #[v, .bool c]) ∧ Own w' w.heap.size v xs ∧ Below w.heap.size w w'
theorem retSB {w w' : World} {v : Value} {xs ys : List Int} {c d : Bool} (h : Own w' w.heap.size v ys) (e : ys = xs) (e2 : c = d) (hb : Below w.heap.size w w') : RetSB w xs d (.returned (.tuple #[v, .bool c])) w' := ⟨v, by rw [e2], e ▸ h, hb⟩
theorem chk_ext (s : ByteArray) (f e : Nat) : (s.extract f e).data.toList = chk s.data.toList f e := by
  rw [ByteArray.data_extract, Array.toList_extract]; rfl
theorem head_48 {s : ByteArray} (h : 0 < s.size) : s.data.toList.head? = some 48 ↔ s[0] = 48 := by
  cases hl : s.data.toList with
  | nil => rw [size_list, hl] at h; simp at h
  | cons c r =>
    have e3 : s.data.toList[0]'(by rw [hl]; simp) = s[0] := rfl
    rw [← e3]
    simp [hl]
theorem okT_of {s : ByteArray} (hd : Digs s) (hs : s.size ≤ 540) (h0 : ∀ h : 1 < s.size, s[0] ≠ 48) : OkT s.data.toList :=
  ⟨by have := hd.1; rw [size_list] at this; intro e; rw [e] at this; simp at this, digs_dg hd, by rw [← size_list]; exact hs, fun h e => h0 (by rw [size_list]; exact h) ((head_48 hd.1).1 e)⟩
theorem okT_digs {s : ByteArray} (h : OkT s.data.toList) : Digs s := digs_of h.2.1 h.1
/-- ParseNat. -/
noncomputable def pNs (s : ByteArray) : List Int := pN s.data.toList
noncomputable def pNb (s : ByteArray) : Bool := pNB s.data.toList
theorem pw_ten (k : Nat) : ((10 ^ (9 * k) : Nat) : Int) = pw k := by
  induction k with
  | zero => rfl
  | succ k ih =>
    have h9 : (10 : Nat) ^ 9 = 1000000000 := by decide
    rw [pw_succ, ← ih, Nat.mul_succ, Nat.pow_add, h9, Int.natCast_mul, Int.mul_comm]
    rfl
theorem ten_lt {v L K : Nat} (h1 : v < 10 ^ L) (h2 : L ≤ 9 * K) : (v : Int) < pw K := by
  rw [← pw_ten]
  exact Int.ofNat_lt.2 (Nat.lt_of_lt_of_le h1 (Nat.pow_le_pow_right (by omega) h2))
theorem okT_len {l : List UInt8} (h : OkT l) : (limbs (valA 0 l)).length ≤ 60 := limbs_len_le.2 (ten_lt (valA_lt l h.2.1) (by have := h.2.2.1; omega))
theorem pNs_len (s : ByteArray) : (pNs s).length ≤ 60 := by
  unfold pNs
  by_cases h : OkT s.data.toList
  · rw [(pN_yes h).1]; exact okT_len h
  · rw [(pN_no h).1]; simp
theorem pns_no {s : ByteArray} (h : ¬ OkT s.data.toList) : [] = pNs s ∧ false = pNb s := ⟨(pN_no h).1.symm, (pN_no h).2.symm⟩
theorem pns_yes {s : ByteArray} (h : OkT s.data.toList) : limbs (valA 0 s.data.toList) = pNs s ∧ true = pNb s := ⟨(pN_yes h).1.symm, (pN_yes h).2.symm⟩

set_option maxHeartbeats 4000000 in
set_option maxRecDepth 100000 in
theorem parseNat_a (w : World) (s : ByteArray) (hl : s.size ≤ 1048576) (hd : ¬ Digs s) : Calls Tryd.prog 16 #[.string s] w (RetSB w (pNs s) (pNb s)) := by
  have HC : Hid (false = digsB s) := (digsB_f hd).symm
  have HNO : Hid (¬ OkT s.data.toList) := fun h => hd (okT_digs h)
  clear hd
  go_enter Tryd.func16, Tryd.ntmps16
  go_wp2_with fail
  refine (isDigits_c _ s false HC (by omega)).mono ?_
  rintro e w1 ⟨rfl, hb⟩
  have B1 := hb
  clear hb
  go_wp2
  go_ret2
  exact retSB (Own.nil _ _) (pns_no HNO.out).1 (pns_no HNO.out).2 B1

set_option maxHeartbeats 4000000 in
set_option maxRecDepth 100000 in
theorem parseNat_b (w : World) (s : ByteArray) (hl : s.size ≤ 1048576) (hd : Digs s) (hg : 540 < s.size) : Calls Tryd.prog 16 #[.string s] w (RetSB w (pNs s) (pNb s)) := by
  have HC : Hid (true = digsB s) := (digsB_t hd).symm
  have HNO : Hid (¬ OkT s.data.toList) := fun h => by have := h.2.2.1; rw [← size_list] at this; omega
  have d2 : decide ((540 : Int) < s.size) = true := decide_eq_true (by omega)
  have d2n : decide (540 < s.size) = true := decide_eq_true hg
  clear hd hg
  go_enter Tryd.func16, Tryd.ntmps16
  go_wp2_with fail
  refine (isDigits_c _ s true HC (by omega)).mono ?_
  rintro e w1 ⟨rfl, hb⟩
  have B1 := hb
  clear hb
  go_wp2
  go_ret2
  exact retSB (Own.nil _ _) (pns_no HNO.out).1 (pns_no HNO.out).2 B1

set_option maxHeartbeats 4000000 in
set_option maxRecDepth 100000 in
theorem parseNat_cc (w : World) (s : ByteArray) (hl : s.size ≤ 1048576) (hd : Digs s) (hg : s.size ≤ 540) (h1 : 1 < s.size) (h48 : s[0] = 48) : Calls Tryd.prog 16 #[.string s] w (RetSB w (pNs s) (pNb s)) := by
  have HC : Hid (true = digsB s) := (digsB_t hd).symm
  have HNO : Hid (¬ OkT s.data.toList) := fun h => h.2.2.2 (by rw [← size_list]; exact h1) ((head_48 hd.1).2 h48)
  have d2 : decide ((540 : Int) < s.size) = false := decide_eq_false (by omega)
  have d2n : decide (540 < s.size) = false := decide_eq_false (by omega)
  have d3 : decide ((1 : Int) < s.size) = true := decide_eq_true (by omega)
  have d3n : decide (1 < s.size) = true := decide_eq_true h1
  have h00 : 0 < s.size := by omega
  have d4 : ((s[0].toNat : Int) == 48) = true := by rw [h48]; rfl
  clear hd h48
  go_enter Tryd.func16, Tryd.ntmps16
  go_wp2_with fail
  refine (isDigits_c _ s true HC (by omega)).mono ?_
  rintro e w1 ⟨rfl, hb⟩
  have B1 := hb
  clear hb
  go_wp2
  go_ret2
  exact retSB (Own.nil _ _) (pns_no HNO.out).1 (pns_no HNO.out).2 B1

set_option maxHeartbeats 4000000 in
set_option maxRecDepth 100000 in
theorem parseNat_d (w : World) (s : ByteArray) (hl : s.size ≤ 1048576) (hd : Digs s) (hg : s.size ≤ 540) (h1 : 1 < s.size) (h48 : s[0] ≠ 48) : Calls Tryd.prog 16 #[.string s] w (RetSB w (pNs s) (pNb s)) := by
  have HC : Hid (true = digsB s) := (digsB_t hd).symm
  have HOK : Hid (OkT s.data.toList) := okT_of hd hg (fun _ => h48)
  have HN : Hid (s.data.toList.length = s.size) := (size_list s).symm
  have d2 : decide ((540 : Int) < s.size) = false := decide_eq_false (by omega)
  have d2n : decide (540 < s.size) = false := decide_eq_false (by omega)
  have d3 : decide ((1 : Int) < s.size) = true := decide_eq_true (by omega)
  have d3n : decide (1 < s.size) = true := decide_eq_true h1
  have h00 : 0 < s.size := by omega
  have d4 : ((s[0].toNat : Int) == 48) = false := beq_eq_false_iff_ne.2 (fun e => h48 (UInt8.toNat_inj.1 (by have e2 : (48 : UInt8).toNat = 48 := rfl; omega)))
  clear hd h48
  go_enter Tryd.func16, Tryd.ntmps16
  go_wp2_with fail
  refine (isDigits_c _ s true HC (by omega)).mono ?_
  rintro e w1 ⟨rfl, hb⟩
  have B1 := hb
  clear hb
  go_wp2_with fail
  go_loopw [4, 5] (fun v ev wr => ∃ (k : Int) (o : List Int), k ≤ s.size ∧ ev = .int .i64 k ∧ Own wr w.heap.size v o ∧ Hid (PN s.data.toList k o) ∧ Below w.heap.size w wr) (fun _ k _ => (RowKit.intOf k).toNat)
  case atStart => exact ⟨s.size, [], by omega, rfl, Own.nil _ _, by unfold Hid; rw [← HN.out]; exact PN.start _, B1⟩
  case round =>
    obtain ⟨k, o, hk, rfl, ho, HP, hb⟩ := hrel
    clear B1
    have HO := Lib.hid ho
    clear ho
    have ol := HP.out.len (by have := HN.out; omega)
    by_cases h0 : 0 < k
    · obtain ⟨k, rfl⟩ := Int.eq_ofNat_of_zero_le (Int.le_of_lt h0)
      obtain ⟨f, hf⟩ : ∃ f : Nat, f = k - 9 := ⟨_, rfl⟩
      have hm : max ((k : Int) - 9) 0 = (f : Int) := by omega
      have hfk : (f : Int) ≤ k := by omega
      have hks : (k : Int) ≤ s.size := hk
      have hlt := chk_lt HOK.out.2.1 (f := f) (e := k) (by have := HN.out; omega) (by omega)
      obtain ⟨n, hn⟩ : ∃ n : Int, n = (valA 0 (chk s.data.toList f k) : Int) := ⟨_, rfl⟩
      have HA : Hid (Lib.atoiAll (s.extract f k).data.toList = .ok n) := by
        unfold Hid
        rw [chk_ext, hn]
        exact atoi_digits (chk_dg HOK.out.2.1 f k) (chk_ne (by omega) (by have := HN.out; omega)) (by omega)
      have HPN : Hid (PN s.data.toList ((k : Int) - 9) (o ++ [n])) := by unfold Hid; rw [hn]; exact HP.out.step HOK.out.2.1 (by omega) hf
      clear hlt hn hf
      go_wp2_with fail
      refine (atoi_ok _ _ n (by rw [ByteArray.size_extract]; omega) HA).mono ?_
      rintro e w2 ⟨rfl, hb2⟩
      have HO2 := Lib.hid (HO.out.below hb2 (Nat.le_refl _))
      replace hb := hb.trans (hb2.mono hb.size)
      clear hb2 HO
      have hs := hb.size
      go_wp2_with (at_builtin; refine app_own rfl _ _ rfl _ _ w.heap.size w2.heap.size o [n] rfl rfl (HO2.out.alloc _) (Own.lit1 _ _) (by simp; omega) (by simp; omega) ?_)
      intro v' w' ho hg2 _
      have hb' := (HO2.out.alloc _).grownBelow (hb.alloc hs _) hg2 (Nat.le_refl _) (by simp; omega)
      have HO' := Lib.hid ho
      clear hg2 ho
      go_wp2
      go_roundw
      case rel => exact ⟨(k : Int) - 9, o ++ [n], by omega, by go_num, HO'.out, HPN.out, hb'⟩
      case measure => (simp [RowKit.intOf]) <;> omega
    · have hv := HP.out.fin (by omega)
      have HV := Lib.hid hv
      have HI := Lib.hid HP.out.1
      clear hv
      go_wp2_with fail
      refine (trim_c _ _ _ o (valA 0 s.data.toList) HO.out HI.out HV.out).mono ?_
      rintro e w2 ⟨v2, rfl, ho2, hp2, hb2⟩
      have HB := hb.trans (hb2.mono hb.size)
      have HO2 := Lib.hid ho2
      clear hb2 ho2 hp2
      go_wp2
      go_ret2
      exact retSB HO2.out (pns_yes HOK.out).1 (pns_yes HOK.out).2 HB

set_option maxHeartbeats 4000000 in
set_option maxRecDepth 100000 in
theorem parseNat_e (w : World) (s : ByteArray) (hl : s.size ≤ 1048576) (hd : Digs s) (hg : s.size ≤ 540) (h1 : s.size = 1) : Calls Tryd.prog 16 #[.string s] w (RetSB w (pNs s) (pNb s)) := by
  have HC : Hid (true = digsB s) := (digsB_t hd).symm
  have HOK : Hid (OkT s.data.toList) := okT_of hd hg (fun h => absurd h (by omega))
  have HN : Hid (s.data.toList.length = s.size) := (size_list s).symm
  have d2 : decide ((540 : Int) < s.size) = false := decide_eq_false (by omega)
  have d2n : decide (540 < s.size) = false := decide_eq_false (by omega)
  have d3 : decide ((1 : Int) < s.size) = false := decide_eq_false (by omega)
  have d3n : decide (1 < s.size) = false := decide_eq_false (by omega)
  clear hd h1
  go_enter Tryd.func16, Tryd.ntmps16
  go_wp2_with fail
  refine (isDigits_c _ s true HC (by omega)).mono ?_
  rintro e w1 ⟨rfl, hb⟩
  have B1 := hb
  clear hb
  go_wp2_with fail
  go_loopw [4, 5] (fun v ev wr => ∃ (k : Int) (o : List Int), k ≤ s.size ∧ ev = .int .i64 k ∧ Own wr w.heap.size v o ∧ Hid (PN s.data.toList k o) ∧ Below w.heap.size w wr) (fun _ k _ => (RowKit.intOf k).toNat)
  case atStart => exact ⟨s.size, [], by omega, rfl, Own.nil _ _, by unfold Hid; rw [← HN.out]; exact PN.start _, B1⟩
  case round =>
    obtain ⟨k, o, hk, rfl, ho, HP, hb⟩ := hrel
    clear B1
    have HO := Lib.hid ho
    clear ho
    have ol := HP.out.len (by have := HN.out; omega)
    by_cases h0 : 0 < k
    · obtain ⟨k, rfl⟩ := Int.eq_ofNat_of_zero_le (Int.le_of_lt h0)
      obtain ⟨f, hf⟩ : ∃ f : Nat, f = k - 9 := ⟨_, rfl⟩
      have hm : max ((k : Int) - 9) 0 = (f : Int) := by omega
      have hfk : (f : Int) ≤ k := by omega
      have hks : (k : Int) ≤ s.size := hk
      have hlt := chk_lt HOK.out.2.1 (f := f) (e := k) (by have := HN.out; omega) (by omega)
      obtain ⟨n, hn⟩ : ∃ n : Int, n = (valA 0 (chk s.data.toList f k) : Int) := ⟨_, rfl⟩
      have HA : Hid (Lib.atoiAll (s.extract f k).data.toList = .ok n) := by
        unfold Hid
        rw [chk_ext, hn]
        exact atoi_digits (chk_dg HOK.out.2.1 f k) (chk_ne (by omega) (by have := HN.out; omega)) (by omega)
      have HPN : Hid (PN s.data.toList ((k : Int) - 9) (o ++ [n])) := by unfold Hid; rw [hn]; exact HP.out.step HOK.out.2.1 (by omega) hf
      clear hlt hn hf
      go_wp2_with fail
      refine (atoi_ok _ _ n (by rw [ByteArray.size_extract]; omega) HA).mono ?_
      rintro e w2 ⟨rfl, hb2⟩
      have HO2 := Lib.hid (HO.out.below hb2 (Nat.le_refl _))
      replace hb := hb.trans (hb2.mono hb.size)
      clear hb2 HO
      have hs := hb.size
      go_wp2_with (at_builtin; refine app_own rfl _ _ rfl _ _ w.heap.size w2.heap.size o [n] rfl rfl (HO2.out.alloc _) (Own.lit1 _ _) (by simp; omega) (by simp; omega) ?_)
      intro v' w' ho hg2 _
      have hb' := (HO2.out.alloc _).grownBelow (hb.alloc hs _) hg2 (Nat.le_refl _) (by simp; omega)
      have HO' := Lib.hid ho
      clear hg2 ho
      go_wp2
      go_roundw
      case rel => exact ⟨(k : Int) - 9, o ++ [n], by omega, by go_num, HO'.out, HPN.out, hb'⟩
      case measure => (simp [RowKit.intOf]) <;> omega
    · have hv := HP.out.fin (by omega)
      have HV := Lib.hid hv
      have HI := Lib.hid HP.out.1
      clear hv
      go_wp2_with fail
      refine (trim_c _ _ _ o (valA 0 s.data.toList) HO.out HI.out HV.out).mono ?_
      rintro e w2 ⟨v2, rfl, ho2, hp2, hb2⟩
      have HB := hb.trans (hb2.mono hb.size)
      have HO2 := Lib.hid ho2
      clear hb2 ho2 hp2
      go_wp2
      go_ret2
      exact retSB HO2.out (pns_yes HOK.out).1 (pns_yes HOK.out).2 HB

theorem parseNat_c (w : World) (s : ByteArray) (hl : s.size ≤ 1048576) : Calls Tryd.prog 16 #[.string s] w (RetSB w (pNs s) (pNb s)) := by
  by_cases hd : Digs s
  · rcases Nat.lt_or_ge 540 s.size with hg | hg
    · exact parseNat_b w s hl hd hg
    · rcases Nat.lt_or_ge 1 s.size with h1 | h1
      · by_cases h48 : s[0] = 48
        · exact parseNat_cc w s hl hd hg h1 h48
        · exact parseNat_d w s hl hd hg h1 h48
      · exact parseNat_e w s hl hd hg (by have := hd.1; omega)
  · exact parseNat_a w s hl hd

end Go.Proofs.YtijeplcjbhkkoaaDoor
