/- Merged texts. -/
import Derived.Test.YtijeplcjbhkkoaaGreatDoorStrG
import Derived.Test.YtijeplcjbhkkoaaGreatDoorMathG
import Derived.Test.YtijeplcjbhkkoaaGreatDoorNatH
import Derived.Shelf.Strconv.ErrVarAll
import Derived.Test.YtijeplcjbhkkoaaGreatDoorSpecM
import Derived.Test.YtijeplcjbhkkoaaGreatDoorNatG

/- ParseInt: the program's and the reference's. -/
namespace Go.Proofs.YtijeplcjbhkkoaaGreatDoor
open Go.RowKit Tx Go.Lib

theorem below_bytes (w : World) (e : TypeId) (t : ByteArray) : Below w.heap.size w (Lib.bytesWorld w e t) := ⟨rfl, rfl, rfl, by rw [Lib.bytesWorld_size]; omega, fun j hj => Lib.bytesWorld_at_old w e t j hj⟩
/-- Atoi of a text that spells an int. -/
def RetA (w : World) (v : Int) (e : Ending) (w' : World) : Prop := e = .returned (.tuple #[.int .i64 v, .nilIface]) ∧ Below w.heap.size w w'
/-- Atoi of another: some number, and an error that is not nil. -/
def RetAE (w : World) (e : Ending) (w' : World) : Prop := ∃ (v : Int) (tp : TypeId) (p : Value), e = .returned (.tuple #[.int .i64 v, .iface tp p]) ∧ Below w.heap.size w w'
theorem atoi_ok (w : World) (s : ByteArray) (v : Int) (hl : s.size ≤ 1048576) (h : Hid (Lib.atoiAll s.data.toList = .ok v)) : Calls Tryz.prog 69 #[.string s] w (RetA w v) := by
  refine (Tryz.strconv_Atoi_ok s (by omega) v h.out w).mono ?_
  rintro e w' ⟨rfl, rfl | ⟨t, rfl⟩⟩
  · exact ⟨rfl, Below.refl _ _⟩
  · exact ⟨rfl, below_bytes _ _ _⟩
theorem atoi_no (w : World) (s : ByteArray) (hl : s.size ≤ 1048576) (he : Errs w) (h : Hid (∀ v, Lib.atoiAll s.data.toList ≠ .ok v)) : Calls Tryz.prog 69 #[.string s] w (RetAE w) := by
  obtain ⟨⟨t1, p1, h1⟩, t2, p2, h2⟩ := he
  cases ha : Lib.atoiAll s.data.toList with
  | ok v => exact absurd ha (h.out v)
  | «syntax» =>
    refine (Tryz.strconv_Atoi_syntax_var s (by omega) ha t1 p1 w h1).mono ?_
    rintro e w' ⟨N, rfl, _, _, hb⟩
    exact ⟨_, _, _, rfl, hb⟩
  | range =>
    refine (Tryz.strconv_Atoi_range_var s (by omega) ha t2 p2 w h2).mono ?_
    rintro e w' ⟨N, rfl, _, _, hb⟩
    exact ⟨_, _, _, rfl, hb⟩
theorem bs_eq_iff {l : List UInt8} {s : ByteArray} : bs l = s ↔ l = s.data.toList := by
  constructor
  · intro h; rw [← h, bs_data]
  · intro h; rw [h, bs_list]
/-- ParseInt. -/
noncomputable def pIs (s : ByteArray) : Int := pI s.data.toList
noncomputable def pIsB (s : ByteArray) : Bool := pIB s.data.toList

theorem strq_false {s t : ByteArray} (h : s ≠ t) : (s.toList == t.toList) = false := beq_eq_false_iff_ne.2 (fun e => h (by
  rw [ByteArray.toList_eq, ByteArray.toList_eq] at e
  rw [← bs_list s, e, bs_list]))
theorem tail_list (s : ByteArray) (h : 0 < s.size) (h45 : s[0] = 45) : s.data.toList = 45 :: (s.extract 1 s.size).data.toList := by
  have h2 : 0 < s.data.toList.length := by rw [← size_list]; exact h
  have e1 : (s.extract 1 s.size).data.toList = s.data.toList.drop 1 := by
    rw [ByteArray.data_extract, Array.toList_extract]
    show (s.data.toList.drop 1).take (s.size - 1) = _
    rw [List.take_of_length_le (by rw [List.length_drop, ← size_list]; omega)]
  rw [e1]
  have e2 := (List.drop_eq_getElem_cons h2)
  rw [List.drop_zero] at e2
  have e3 : s.data.toList[0] = s[0] := rfl
  rw [e3, h45] at e2
  exact e2
theorem head_not {s : ByteArray} (h : ∀ h : 0 < s.size, s[0] ≠ 45) : s.data.toList.head? ≠ some 45 := by
  cases hl : s.data.toList with
  | nil => simp
  | cons c r =>
    have h2 : 0 < s.size := by rw [size_list, hl]; simp
    have e3 : s.data.toList[0]'(by rw [hl]; simp) = s[0] := rfl
    intro e
    have e4 : c = 45 := Option.some.inj e
    refine h h2 ?_
    rw [← e3]
    simp [hl, e4]
theorem digs_dg {t : ByteArray} (h : Digs t) : ∀ c ∈ t.data.toList, Dg c := by
  intro c hc
  obtain ⟨i, hi, e⟩ := List.getElem_of_mem hc
  have h2 : i < t.size := by rw [size_list]; exact hi
  have h3 := h.2 i h2
  have e2 : t[i] = t.data.toList[i] := rfl
  rw [e2, e] at h3
  unfold Dig at h3
  unfold Dg
  omega
theorem digs_of {t : ByteArray} (h : ∀ c ∈ t.data.toList, Dg c) (h0 : t.data.toList ≠ []) : Digs t := by
  refine ⟨by rw [size_list]; exact List.length_pos_iff.2 h0, fun i hi => ?_⟩
  have h2 : i < t.data.toList.length := by rw [← size_list]; exact hi
  have h3 := h t.data.toList[i] (List.getElem_mem h2)
  have e2 : t[i] = t.data.toList[i] := rfl
  rw [e2]
  unfold Dg at h3
  unfold Dig
  omega
/-- The number that the text stands for has this absolute value, if there is one. -/
def MagI (s : ByteArray) (neg : Bool) (t : ByteArray) : Prop := ∀ n, IsI s.data.toList n ↔ ((neg = true ∧ n < 0 ∧ -9223372036854775808 ≤ n) ∨ (neg = false ∧ 0 ≤ n ∧ n ≤ 9223372036854775807)) ∧ t.data.toList = decDigits n.natAbs
theorem magI_neg (s : ByteArray) (h : 0 < s.size) (h45 : s[0] = 45) : MagI s true (s.extract 1 s.size) := by
  intro n
  rw [tail_list s h h45, isI_neg]
  constructor
  · rintro ⟨h1, h2, h3⟩; exact ⟨.inl ⟨rfl, h1, h2⟩, h3⟩
  · rintro ⟨h1 | h1, h3⟩
    · exact ⟨h1.2.1, h1.2.2, h3⟩
    · exact absurd h1.1 (by simp)
theorem magI_pos (s : ByteArray) (h : ∀ h : 0 < s.size, s[0] ≠ 45) : MagI s false s := by
  intro n
  rw [isI_pos (head_not h)]
  constructor
  · rintro ⟨h1, h2, h3⟩; exact ⟨.inr ⟨rfl, h1, h2⟩, h3⟩
  · rintro ⟨h1 | h1, h3⟩
    · exact absurd h1.1 (by simp)
    · exact ⟨h1.2.1, h1.2.2, h3⟩
theorem magI_no_digs {s t : ByteArray} {neg : Bool} (h : MagI s neg t) (hd : ¬ Digs t) : ¬ ∃ n, IsI s.data.toList n := by
  rintro ⟨n, hn⟩
  have h2 := ((h n).1 hn).2
  exact hd (digs_of (by rw [h2]; exact dec_dg _) (by rw [h2]; exact dec_ne _))
theorem magI_no_long {s t : ByteArray} {neg : Bool} (h : MagI s neg t) (hd : 19 < t.size) : ¬ ∃ n, IsI s.data.toList n := by
  rintro ⟨n, hn⟩
  obtain ⟨h1, h2⟩ := (h n).1 hn
  have h3 := nd19 (u := n.natAbs) (by rcases h1 with h1 | h1 <;> omega)
  rw [size_list, h2] at hd
  omega
theorem magI_no_big {s t : ByteArray} {neg : Bool} (h : MagI s neg t) (i : Nat) (hi : 9223372036854775808 < valA 0 (t.data.toList.take i)) : ¬ ∃ n, IsI s.data.toList n := by
  rintro ⟨n, hn⟩
  obtain ⟨h1, h2⟩ := (h n).1 hn
  have h3 := val_take t.data.toList i
  have h4 : valA 0 t.data.toList = n.natAbs := by rw [h2, val_dec]
  rcases h1 with h1 | h1 <;> omega
theorem magI_no_min {s t : ByteArray} (h : MagI s false t) (hi : valA 0 t.data.toList = 9223372036854775808) : ¬ ∃ n, IsI s.data.toList n := by
  rintro ⟨n, hn⟩
  obtain ⟨h1, h2⟩ := (h n).1 hn
  have h4 : valA 0 t.data.toList = n.natAbs := by rw [h2, val_dec]
  rcases h1 with h1 | h1
  · exact absurd h1.1 (by simp)
  · omega
theorem magI_end {s t : ByteArray} {neg : Bool} (h : MagI s neg t) (m : Int) (hm : m.natAbs = valA 0 t.data.toList) (hs : if neg then m ≤ 0 else 0 ≤ m) (hne : itoa m ≠ s.data.toList) : ¬ ∃ n, IsI s.data.toList n := by
  rintro ⟨n, hn⟩
  obtain ⟨h1, h2⟩ := (h n).1 hn
  have h4 : valA 0 t.data.toList = n.natAbs := by rw [h2, val_dec]
  have : m = n := by
    rcases h1 with ⟨h1, h5, h6⟩ | ⟨h1, h5, h6⟩
    · rw [h1, if_pos rfl] at hs; omega
    · rw [h1, if_neg (by simp)] at hs; omega
  rw [this] at hne
  exact hne hn.2.2.symm

theorem no_res {w w' : World} {s : ByteArray} (h : ¬ ∃ n, IsI s.data.toList n) (hb : Below w.heap.size w w') : RetIB w (pIs s) (pIsB s) (.returned (.tuple #[.int .i64 0, .bool false])) w' :=
  retIB (pI_no h).1.symm (pI_no h).2.symm hb
theorem yes_res {w w' : World} {s : ByteArray} {m : Int} (h : IsI s.data.toList m) (hb : Below w.heap.size w w') : RetIB w (pIs s) (pIsB s) (.returned (.tuple #[.int .i64 m, .bool true])) w' :=
  retIB (pI_yes h).1.symm (pI_yes h).2.symm hb

end Go.Proofs.YtijeplcjbhkkoaaGreatDoor

/- ParseNat: the program's and the reference's. -/
namespace Go.Proofs.YtijeplcjbhkkoaaGreatDoor
open Go.RowKit Tx Go.Lib Lm

/-- A slice of limbs and a bool. -/
def RetSB (w : World) (xs : List Int) (c : Bool) (e : Ending) (w' : World) : Prop := ∃ v, e = .returned (.tuple #[v, .bool c]) ∧ Own w' w.heap.size v xs ∧ Below w.heap.size w w'
theorem retSB {w w' : World} {v : Value} {xs ys : List Int} {c d : Bool} (h : Own w' w.heap.size v ys) (e : ys = xs) (e2 : c = d) (hb : Below w.heap.size w w') : RetSB w xs d (.returned (.tuple #[v, .bool c])) w' := ⟨v, by rw [e2], e ▸ h, hb⟩
theorem chk_ext (s : ByteArray) (f e : Nat) : (s.extract f e).data.toList = chk s.data.toList f e := by
  rw [ByteArray.data_extract, Array.toList_extract]; rfl
theorem head_48 {s : ByteArray} (h : 0 < s.size) : s.data.toList.head? = some 48 ↔ s[0] = 48 := by
  cases hl : s.data.toList with
  | nil => rw [size_list, hl] at h; simp at h
  | cons c r =>
    have e3 : s.data.toList[0]'(by rw [hl]; simp) = s[0] := rfl
    rw [← e3]
    simp [hl]
theorem okT_of {s : ByteArray} (hd : Digs s) (hs : s.size ≤ 540) (h0 : ∀ h : 1 < s.size, s[0] ≠ 48) : OkT s.data.toList :=
  ⟨by have := hd.1; rw [size_list] at this; intro e; rw [e] at this; simp at this, digs_dg hd, by rw [← size_list]; exact hs, fun h e => h0 (by rw [size_list]; exact h) ((head_48 hd.1).1 e)⟩
theorem okT_digs {s : ByteArray} (h : OkT s.data.toList) : Digs s := digs_of h.2.1 h.1
/-- ParseNat. -/
noncomputable def pNs (s : ByteArray) : List Int := pN s.data.toList
noncomputable def pNb (s : ByteArray) : Bool := pNB s.data.toList
theorem pw_ten (k : Nat) : ((10 ^ (9 * k) : Nat) : Int) = pw k := by
  induction k with
  | zero => rfl
  | succ k ih =>
    have h9 : (10 : Nat) ^ 9 = 1000000000 := by decide
    rw [pw_succ, ← ih, Nat.mul_succ, Nat.pow_add, h9, Int.natCast_mul, Int.mul_comm]
    rfl
theorem ten_lt {v L K : Nat} (h1 : v < 10 ^ L) (h2 : L ≤ 9 * K) : (v : Int) < pw K := by
  rw [← pw_ten]
  exact Int.ofNat_lt.2 (Nat.lt_of_lt_of_le h1 (Nat.pow_le_pow_right (by omega) h2))
theorem okT_len {l : List UInt8} (h : OkT l) : (limbs (valA 0 l)).length ≤ 60 := limbs_len_le.2 (ten_lt (valA_lt l h.2.1) (by have := h.2.2.1; omega))
theorem pNs_len (s : ByteArray) : (pNs s).length ≤ 60 := by
  unfold pNs
  by_cases h : OkT s.data.toList
  · rw [(pN_yes h).1]; exact okT_len h
  · rw [(pN_no h).1]; simp
theorem pns_no {s : ByteArray} (h : ¬ OkT s.data.toList) : [] = pNs s ∧ false = pNb s := ⟨(pN_no h).1.symm, (pN_no h).2.symm⟩
theorem pns_yes {s : ByteArray} (h : OkT s.data.toList) : limbs (valA 0 s.data.toList) = pNs s ∧ true = pNb s := ⟨(pN_yes h).1.symm, (pN_yes h).2.symm⟩

set_option maxHeartbeats 4000000 in
set_option maxRecDepth 100000 in
theorem parseNat_a (w : World) (s : ByteArray) (hl : s.size ≤ 1048576) (hd : ¬ Digs s) : Calls Tryz.prog 34 #[.string s] w (RetSB w (pNs s) (pNb s)) := by
  have HC : Hid (false = digsB s) := (digsB_f hd).symm
  have HNO : Hid (¬ OkT s.data.toList) := fun h => hd (okT_digs h)
  clear hd
  go_enter Tryz.func34, Tryz.ntmps34
  go_wp2_with fail
  refine (isDigits_c _ s false HC (by omega)).mono ?_
  rintro e w1 ⟨rfl, hb⟩
  have B1 := hb
  clear hb
  go_wp2
  go_ret2
  exact retSB (Own.nil _ _) (pns_no HNO.out).1 (pns_no HNO.out).2 B1

set_option maxHeartbeats 4000000 in
set_option maxRecDepth 100000 in
theorem parseNat_b (w : World) (s : ByteArray) (hl : s.size ≤ 1048576) (hd : Digs s) (hg : 540 < s.size) : Calls Tryz.prog 34 #[.string s] w (RetSB w (pNs s) (pNb s)) := by
  have HC : Hid (true = digsB s) := (digsB_t hd).symm
  have HNO : Hid (¬ OkT s.data.toList) := fun h => by have := h.2.2.1; rw [← size_list] at this; omega
  have d2 : decide ((540 : Int) < s.size) = true := decide_eq_true (by omega)
  have d2n : decide (540 < s.size) = true := decide_eq_true hg
  clear hd hg
  go_enter Tryz.func34, Tryz.ntmps34
  go_wp2_with fail
  refine (isDigits_c _ s true HC (by omega)).mono ?_
  rintro e w1 ⟨rfl, hb⟩
  have B1 := hb
  clear hb
  go_wp2
  go_ret2
  exact retSB (Own.nil _ _) (pns_no HNO.out).1 (pns_no HNO.out).2 B1

set_option maxHeartbeats 4000000 in
set_option maxRecDepth 100000 in
theorem parseNat_cc (w : World) (s : ByteArray) (hl : s.size ≤ 1048576) (hd : Digs s) (hg : s.size ≤ 540) (h1 : 1 < s.size) (h48 : s[0] = 48) : Calls Tryz.prog 34 #[.string s] w (RetSB w (pNs s) (pNb s)) := by
  have HC : Hid (true = digsB s) := (digsB_t hd).symm
  have HNO : Hid (¬ OkT s.data.toList) := fun h => h.2.2.2 (by rw [← size_list]; exact h1) ((head_48 hd.1).2 h48)
  have d2 : decide ((540 : Int) < s.size) = false := decide_eq_false (by omega)
  have d2n : decide (540 < s.size) = false := decide_eq_false (by omega)
  have d3 : decide ((1 : Int) < s.size) = true := decide_eq_true (by omega)
  have d3n : decide (1 < s.size) = true := decide_eq_true h1
  have h00 : 0 < s.size := by omega
  have d4 : ((s[0].toNat : Int) == 48) = true := by rw [h48]; rfl
  clear hd h48
  go_enter Tryz.func34, Tryz.ntmps34
  go_wp2_with fail
  refine (isDigits_c _ s true HC (by omega)).mono ?_
  rintro e w1 ⟨rfl, hb⟩
  have B1 := hb
  clear hb
  go_wp2
  go_ret2
  exact retSB (Own.nil _ _) (pns_no HNO.out).1 (pns_no HNO.out).2 B1

set_option maxHeartbeats 4000000 in
set_option maxRecDepth 100000 in
theorem parseNat_d (w : World) (s : ByteArray) (hl : s.size ≤ 1048576) (hd : Digs s) (hg : s.size ≤ 540) (h1 : 1 < s.size) (h48 : s[0] ≠ 48) : Calls Tryz.prog 34 #[.string s] w (RetSB w (pNs s) (pNb s)) := by
  have HC : Hid (true = digsB s) := (digsB_t hd).symm
  have HOK : Hid (OkT s.data.toList) := okT_of hd hg (fun _ => h48)
  have HN : Hid (s.data.toList.length = s.size) := (size_list s).symm
  have d2 : decide ((540 : Int) < s.size) = false := decide_eq_false (by omega)
  have d2n : decide (540 < s.size) = false := decide_eq_false (by omega)
  have d3 : decide ((1 : Int) < s.size) = true := decide_eq_true (by omega)
  have d3n : decide (1 < s.size) = true := decide_eq_true h1
  have h00 : 0 < s.size := by omega
  have d4 : ((s[0].toNat : Int) == 48) = false := beq_eq_false_iff_ne.2 (fun e => h48 (UInt8.toNat_inj.1 (by have e2 : (48 : UInt8).toNat = 48 := rfl; omega)))
  clear hd h48
  go_enter Tryz.func34, Tryz.ntmps34
  go_wp2_with fail
  refine (isDigits_c _ s true HC (by omega)).mono ?_
  rintro e w1 ⟨rfl, hb⟩
  have B1 := hb
  clear hb
  go_wp2_with fail
  go_loopw [4, 5] (fun v ev wr => ∃ (k : Int) (o : List Int), k ≤ s.size ∧ ev = .int .i64 k ∧ Own wr w.heap.size v o ∧ Hid (PN s.data.toList k o) ∧ Below w.heap.size w wr) (fun _ k _ => (RowKit.intOf k).toNat)
  case atStart => exact ⟨s.size, [], by omega, rfl, Own.nil _ _, by unfold Hid; rw [← HN.out]; exact PN.start _, B1⟩
  case round =>
    obtain ⟨k, o, hk, rfl, ho, HP, hb⟩ := hrel
    clear B1
    have HO := Lib.hid ho
    clear ho
    have ol := HP.out.len (by have := HN.out; omega)
    by_cases h0 : 0 < k
    · obtain ⟨k, rfl⟩ := Int.eq_ofNat_of_zero_le (Int.le_of_lt h0)
      obtain ⟨f, hf⟩ : ∃ f : Nat, f = k - 9 := ⟨_, rfl⟩
      have hm : max ((k : Int) - 9) 0 = (f : Int) := by omega
      have hfk : (f : Int) ≤ k := by omega
      have hks : (k : Int) ≤ s.size := hk
      have hlt := chk_lt HOK.out.2.1 (f := f) (e := k) (by have := HN.out; omega) (by omega)
      obtain ⟨n, hn⟩ : ∃ n : Int, n = (valA 0 (chk s.data.toList f k) : Int) := ⟨_, rfl⟩
      have HA : Hid (Lib.atoiAll (s.extract f k).data.toList = .ok n) := by
        unfold Hid
        rw [chk_ext, hn]
        exact atoi_digits (chk_dg HOK.out.2.1 f k) (chk_ne (by omega) (by have := HN.out; omega)) (by omega)
      have HPN : Hid (PN s.data.toList ((k : Int) - 9) (o ++ [n])) := by unfold Hid; rw [hn]; exact HP.out.step HOK.out.2.1 (by omega) hf
      clear hlt hn hf
      go_wp2_with fail
      refine (atoi_ok _ _ n (by rw [ByteArray.size_extract]; omega) HA).mono ?_
      rintro e w2 ⟨rfl, hb2⟩
      have HO2 := Lib.hid (HO.out.below hb2 (Nat.le_refl _))
      replace hb := hb.trans (hb2.mono hb.size)
      clear hb2 HO
      have hs := hb.size
      go_wp2_with (at_builtin; refine app_own rfl _ _ rfl _ _ w.heap.size w2.heap.size o [n] rfl rfl (HO2.out.alloc _) (Own.lit1 _ _) (by simp; omega) (by simp; omega) ?_)
      intro v' w' ho hg2 _
      have hb' := (HO2.out.alloc _).grownBelow (hb.alloc hs _) hg2 (Nat.le_refl _) (by simp; omega)
      have HO' := Lib.hid ho
      clear hg2 ho
      go_wp2
      go_roundw
      case rel => exact ⟨(k : Int) - 9, o ++ [n], by omega, by go_num, HO'.out, HPN.out, hb'⟩
      case measure => (simp [RowKit.intOf]) <;> omega
    · have hv := HP.out.fin (by omega)
      have HV := Lib.hid hv
      have HI := Lib.hid HP.out.1
      clear hv
      go_wp2_with fail
      refine (trim_c _ _ _ o (valA 0 s.data.toList) HO.out HI.out HV.out).mono ?_
      rintro e w2 ⟨v2, rfl, ho2, hp2, hb2⟩
      have HB := hb.trans (hb2.mono hb.size)
      have HO2 := Lib.hid ho2
      clear hb2 ho2 hp2
      go_wp2
      go_ret2
      exact retSB HO2.out (pns_yes HOK.out).1 (pns_yes HOK.out).2 HB

set_option maxHeartbeats 4000000 in
set_option maxRecDepth 100000 in
theorem parseNat_e (w : World) (s : ByteArray) (hl : s.size ≤ 1048576) (hd : Digs s) (hg : s.size ≤ 540) (h1 : s.size = 1) : Calls Tryz.prog 34 #[.string s] w (RetSB w (pNs s) (pNb s)) := by
  have HC : Hid (true = digsB s) := (digsB_t hd).symm
  have HOK : Hid (OkT s.data.toList) := okT_of hd hg (fun h => absurd h (by omega))
  have HN : Hid (s.data.toList.length = s.size) := (size_list s).symm
  have d2 : decide ((540 : Int) < s.size) = false := decide_eq_false (by omega)
  have d2n : decide (540 < s.size) = false := decide_eq_false (by omega)
  have d3 : decide ((1 : Int) < s.size) = false := decide_eq_false (by omega)
  have d3n : decide (1 < s.size) = false := decide_eq_false (by omega)
  clear hd h1
  go_enter Tryz.func34, Tryz.ntmps34
  go_wp2_with fail
  refine (isDigits_c _ s true HC (by omega)).mono ?_
  rintro e w1 ⟨rfl, hb⟩
  have B1 := hb
  clear hb
  go_wp2_with fail
  go_loopw [4, 5] (fun v ev wr => ∃ (k : Int) (o : List Int), k ≤ s.size ∧ ev = .int .i64 k ∧ Own wr w.heap.size v o ∧ Hid (PN s.data.toList k o) ∧ Below w.heap.size w wr) (fun _ k _ => (RowKit.intOf k).toNat)
  case atStart => exact ⟨s.size, [], by omega, rfl, Own.nil _ _, by unfold Hid; rw [← HN.out]; exact PN.start _, B1⟩
  case round =>
    obtain ⟨k, o, hk, rfl, ho, HP, hb⟩ := hrel
    clear B1
    have HO := Lib.hid ho
    clear ho
    have ol := HP.out.len (by have := HN.out; omega)
    by_cases h0 : 0 < k
    · obtain ⟨k, rfl⟩ := Int.eq_ofNat_of_zero_le (Int.le_of_lt h0)
      obtain ⟨f, hf⟩ : ∃ f : Nat, f = k - 9 := ⟨_, rfl⟩
      have hm : max ((k : Int) - 9) 0 = (f : Int) := by omega
      have hfk : (f : Int) ≤ k := by omega
      have hks : (k : Int) ≤ s.size := hk
      have hlt := chk_lt HOK.out.2.1 (f := f) (e := k) (by have := HN.out; omega) (by omega)
      obtain ⟨n, hn⟩ : ∃ n : Int, n = (valA 0 (chk s.data.toList f k) : Int) := ⟨_, rfl⟩
      have HA : Hid (Lib.atoiAll (s.extract f k).data.toList = .ok n) := by
        unfold Hid
        rw [chk_ext, hn]
        exact atoi_digits (chk_dg HOK.out.2.1 f k) (chk_ne (by omega) (by have := HN.out; omega)) (by omega)
      have HPN : Hid (PN s.data.toList ((k : Int) - 9) (o ++ [n])) := by unfold Hid; rw [hn]; exact HP.out.step HOK.out.2.1 (by omega) hf
      clear hlt hn hf
      go_wp2_with fail
      refine (atoi_ok _ _ n (by rw [ByteArray.size_extract]; omega) HA).mono ?_
      rintro e w2 ⟨rfl, hb2⟩
      have HO2 := Lib.hid (HO.out.below hb2 (Nat.le_refl _))
      replace hb := hb.trans (hb2.mono hb.size)
      clear hb2 HO
      have hs := hb.size
      go_wp2_with (at_builtin; refine app_own rfl _ _ rfl _ _ w.heap.size w2.heap.size o [n] rfl rfl (HO2.out.alloc _) (Own.lit1 _ _) (by simp; omega) (by simp; omega) ?_)
      intro v' w' ho hg2 _
      have hb' := (HO2.out.alloc _).grownBelow (hb.alloc hs _) hg2 (Nat.le_refl _) (by simp; omega)
      have HO' := Lib.hid ho
      clear hg2 ho
      go_wp2
      go_roundw
      case rel => exact ⟨(k : Int) - 9, o ++ [n], by omega, by go_num, HO'.out, HPN.out, hb'⟩
      case measure => (simp [RowKit.intOf]) <;> omega
    · have hv := HP.out.fin (by omega)
      have HV := Lib.hid hv
      have HI := Lib.hid HP.out.1
      clear hv
      go_wp2_with fail
      refine (trim_c _ _ _ o (valA 0 s.data.toList) HO.out HI.out HV.out).mono ?_
      rintro e w2 ⟨v2, rfl, ho2, hp2, hb2⟩
      have HB := hb.trans (hb2.mono hb.size)
      have HO2 := Lib.hid ho2
      clear hb2 ho2 hp2
      go_wp2
      go_ret2
      exact retSB HO2.out (pns_yes HOK.out).1 (pns_yes HOK.out).2 HB

theorem parseNat_c (w : World) (s : ByteArray) (hl : s.size ≤ 1048576) : Calls Tryz.prog 34 #[.string s] w (RetSB w (pNs s) (pNb s)) := by
  by_cases hd : Digs s
  · rcases Nat.lt_or_ge 540 s.size with hg | hg
    · exact parseNat_b w s hl hd hg
    · rcases Nat.lt_or_ge 1 s.size with h1 | h1
      · by_cases h48 : s[0] = 48
        · exact parseNat_cc w s hl hd hg h1 h48
        · exact parseNat_d w s hl hd hg h1 h48
      · exact parseNat_e w s hl hd hg (by have := hd.1; omega)
  · exact parseNat_a w s hl hd

end Go.Proofs.YtijeplcjbhkkoaaGreatDoor
