/- ParseInt: the program's and the reference's. -/
import Derived.Test.YtcajdlpbdihbeaaDoorFmtI
import Derived.Test.YtcajdlpbdihbeaaDoorDig
import Derived.Test.YtcajdlpbdihbeaaDoorTxtP
import Derived.Test.YtcajdlpbdihbeaaDoorToIntC
import Derived.Shelf.Strconv.ErrVarAll
namespace Go.Proofs.YtcajdlpbdihbeaaDoor
open Go.RowKit Tx Go.Lib

theorem below_bytes (w : World) (e : TypeId) (t : ByteArray) : Below w.heap.size w (Lib.bytesWorld w e t) := ⟨rfl, rfl, rfl, by rw [Lib.bytesWorld_size]; omega, fun j hj => Lib.bytesWorld_at_old w e t j hj⟩
/-- Atoi of a text that spells an int. -/
def RetA (w : World) (v : Int) (e : Ending) (w' : World) : Prop := e = .returned (.tuple #[.int .i64 v, .nilIface]) ∧ Below w.heap.size w w'
/-- Atoi of another: some number, and an error that is not nil. -/
def RetAE (w : World) (e : Ending) (w' : World) : Prop := ∃ (v : Int) (tp : TypeId) (p : Value), e = .returned (.tuple #[.int .i64 v, .iface tp p]) ∧ Below w.heap.size w w'
theorem atoi_ok (w : World) (s : ByteArray) (v : Int) (hl : s.size ≤ 1048576) (h : Hid (Lib.atoiAll s.data.toList = .ok v)) : Calls Tryd.prog 61 #[.string s] w (RetA w v) := by
  refine (Tryd.strconv_Atoi_ok s (by omega) v h.out w).mono ?_
  rintro e w' ⟨rfl, rfl | ⟨t, rfl⟩⟩
  · exact ⟨rfl, Below.refl _ _⟩
  · exact ⟨rfl, below_bytes _ _ _⟩
theorem atoi_no (w : World) (s : ByteArray) (hl : s.size ≤ 1048576) (he : Errs w) (h : Hid (∀ v, Lib.atoiAll s.data.toList ≠ .ok v)) : Calls Tryd.prog 61 #[.string s] w (RetAE w) := by
  obtain ⟨⟨t1, p1, h1⟩, t2, p2, h2⟩ := he
  cases ha : Lib.atoiAll s.data.toList with
  | ok v => exact absurd ha (h.out v)
  | «syntax» =>
    refine (Tryd.strconv_Atoi_syntax_var s (by omega) ha t1 p1 w h1).mono ?_
    rintro e w' ⟨N, rfl, _, _, hb⟩
    exact ⟨_, _, _, rfl, hb⟩
  | range =>
    refine (Tryd.strconv_Atoi_range_var s (by omega) ha t2 p2 w h2).mono ?_
    rintro e w' ⟨N, rfl, _, _, hb⟩
    exact ⟨_, _, _, rfl, hb⟩
theorem bs_eq_iff {l : List UInt8} {s : ByteArray} : bs l = s ↔ l = s.data.toList := by
  constructor
  · intro h; rw [← h, bs_data]
  · intro h; rw [h, bs_list]
/-- ParseInt. -/
noncomputable def pIs (s : ByteArray) : Int := pI s.data.toList
noncomputable def pIsB (s : ByteArray) : Bool := pIB s.data.toList

set_option maxHeartbeats 1000000 in
theorem parseInt_yes (w : World) (s : ByteArray) (hl : s.size ≤ 1048576) (ht : Tabs w) (v : Int) (hv : IsI s.data.toList v) : Calls Tryd.prog 24 #[.string s] w (RetIB w v true) := by
  have HA := Lib.hid (show Lib.atoiAll s.data.toList = .ok v by rw [hv.2.2]; exact atoi_itoa v hv.1 hv.2.1)
  have h0 := hv.1
  have h1 := hv.2.1
  have HF : Hid (s = bs (itoa v)) := (bs_eq_iff.2 hv.2.2.symm).symm
  have HT := Lib.hid ht
  clear hv ht
  go_enter Tryd.func24, Tryd.ntmps24
  go_wp2_with fail
  refine (atoi_ok _ s v hl HA).mono ?_
  rintro e w1 ⟨rfl, hb⟩
  have B1 := hb
  clear hb
  go_wp2_with fail
  refine (formatInt_c _ v h0 h1 (HT.out.below B1 (Nat.le_refl _)) s HF).mono ?_
  rintro e w2 ⟨rfl, hb⟩
  have B2 := B1.trans (hb.mono B1.size)
  clear hb B1
  go_wp2
  go_ret2
  exact retIB rfl rfl B2
set_option maxHeartbeats 1000000 in
theorem parseInt_far (w : World) (s : ByteArray) (hl : s.size ≤ 1048576) (ht : Tabs w) (v : Int) (h0 : -9223372036854775808 ≤ v) (h1 : v ≤ 9223372036854775807) (ha : Lib.atoiAll s.data.toList = .ok v) (hn : itoa v ≠ s.data.toList) : Calls Tryd.prog 24 #[.string s] w (RetIB w 0 false) := by
  have HA := Lib.hid ha
  obtain ⟨t, hT⟩ : ∃ t, t = bs (itoa v) := ⟨_, rfl⟩
  have hne : (t.toList == s.toList) = false := by
    rw [hT]
    exact beq_eq_false_iff_ne.2 (fun e => hn (by rw [ByteArray.toList_eq, ByteArray.toList_eq, bs_data] at e; exact e))
  have HF := Lib.hid hT
  have HT := Lib.hid ht
  clear hT ht hn ha
  go_enter Tryd.func24, Tryd.ntmps24
  go_wp2_with fail
  refine (atoi_ok _ s v hl HA).mono ?_
  rintro e w1 ⟨rfl, hb⟩
  have B1 := hb
  clear hb
  go_wp2_with fail
  refine (formatInt_c _ v h0 h1 (HT.out.below B1 (Nat.le_refl _)) t HF).mono ?_
  rintro e w2 ⟨rfl, hb⟩
  have B2 := B1.trans (hb.mono B1.size)
  clear hb B1
  go_wp2
  go_ret2
  exact retIB rfl rfl B2
set_option maxHeartbeats 1000000 in
theorem parseInt_no (w : World) (s : ByteArray) (hl : s.size ≤ 1048576) (he : Errs w) (ha : ∀ v, Lib.atoiAll s.data.toList ≠ .ok v) : Calls Tryd.prog 24 #[.string s] w (RetIB w 0 false) := by
  have HA := Lib.hid ha
  have HE := Lib.hid he
  clear he ha
  go_enter Tryd.func24, Tryd.ntmps24
  go_wp2_with fail
  refine (atoi_no _ s hl HE.out HA).mono ?_
  rintro e w1 ⟨v, tp, p, rfl, hb⟩
  have B1 := hb
  clear hb
  go_wp2
  go_ret2
  exact retIB rfl rfl B1
theorem parseInt_c (w : World) (s : ByteArray) (hl : s.size ≤ 1048576) (ht : Tabs w) (he : Errs w) : Calls Tryd.prog 24 #[.string s] w (RetIB w (pIs s) (pIsB s)) := by
  by_cases h : ∃ n, IsI s.data.toList n
  · obtain ⟨n, hn⟩ := h
    obtain ⟨e1, e2⟩ := pI_yes hn
    unfold pIs pIsB
    rw [e1, e2]
    exact parseInt_yes w s hl ht n hn
  · obtain ⟨e1, e2⟩ := pI_no h
    unfold pIs pIsB
    rw [e1, e2]
    by_cases hv : ∃ v, Lib.atoiAll s.data.toList = .ok v
    · obtain ⟨v, hv⟩ := hv
      obtain ⟨b0, b1⟩ := Lib.atoiAll_bounds hv
      exact parseInt_far w s hl ht v b0 b1 hv (fun e => h ⟨v, b0, b1, e.symm⟩)
    · exact parseInt_no w s hl he (fun v e => hv ⟨v, e⟩)

theorem strq_false {s t : ByteArray} (h : s ≠ t) : (s.toList == t.toList) = false := beq_eq_false_iff_ne.2 (fun e => h (by
  rw [ByteArray.toList_eq, ByteArray.toList_eq] at e
  rw [← bs_list s, e, bs_list]))
theorem tail_list (s : ByteArray) (h : 0 < s.size) (h45 : s[0] = 45) : s.data.toList = 45 :: (s.extract 1 s.size).data.toList := by
  have h2 : 0 < s.data.toList.length := by rw [← size_list]; exact h
  have e1 : (s.extract 1 s.size).data.toList = s.data.toList.drop 1 := by
    rw [ByteArray.data_extract, Array.toList_extract]
    show (s.data.toList.drop 1).take (s.size - 1) = _
    rw [List.take_of_length_le (by rw [List.length_drop, ← size_list]; omega)]
  rw [e1]
  have e2 := (List.drop_eq_getElem_cons h2)
  rw [List.drop_zero] at e2
  have e3 : s.data.toList[0] = s[0] := rfl
  rw [e3, h45] at e2
  exact e2
theorem head_not {s : ByteArray} (h : ∀ h : 0 < s.size, s[0] ≠ 45) : s.data.toList.head? ≠ some 45 := by
  cases hl : s.data.toList with
  | nil => simp
  | cons c r =>
    have h2 : 0 < s.size := by rw [size_list, hl]; simp
    have e3 : s.data.toList[0]'(by rw [hl]; simp) = s[0] := rfl
    intro e
    have e4 : c = 45 := Option.some.inj e
    refine h h2 ?_
    rw [← e3]
    simp [hl, e4]
theorem digs_dg {t : ByteArray} (h : Digs t) : ∀ c ∈ t.data.toList, Dg c := by
  intro c hc
  obtain ⟨i, hi, e⟩ := List.getElem_of_mem hc
  have h2 : i < t.size := by rw [size_list]; exact hi
  have h3 := h.2 i h2
  have e2 : t[i] = t.data.toList[i] := rfl
  rw [e2, e] at h3
  unfold Dig at h3
  unfold Dg
  omega
theorem digs_of {t : ByteArray} (h : ∀ c ∈ t.data.toList, Dg c) (h0 : t.data.toList ≠ []) : Digs t := by
  refine ⟨by rw [size_list]; exact List.length_pos_iff.2 h0, fun i hi => ?_⟩
  have h2 : i < t.data.toList.length := by rw [← size_list]; exact hi
  have h3 := h t.data.toList[i] (List.getElem_mem h2)
  have e2 : t[i] = t.data.toList[i] := rfl
  rw [e2]
  unfold Dg at h3
  unfold Dig
  omega
/-- The number that the text stands for has this absolute value, if there is one. -/
def MagI (s : ByteArray) (neg : Bool) (t : ByteArray) : Prop := ∀ n, IsI s.data.toList n ↔ ((neg = true ∧ n < 0 ∧ -9223372036854775808 ≤ n) ∨ (neg = false ∧ 0 ≤ n ∧ n ≤ 9223372036854775807)) ∧ t.data.toList = decDigits n.natAbs
theorem magI_neg (s : ByteArray) (h : 0 < s.size) (h45 : s[0] = 45) : MagI s true (s.extract 1 s.size) := by
  intro n
  rw [tail_list s h h45, isI_neg]
  constructor
  · rintro ⟨h1, h2, h3⟩; exact ⟨.inl ⟨rfl, h1, h2⟩, h3⟩
  · rintro ⟨h1 | h1, h3⟩
    · exact ⟨h1.2.1, h1.2.2, h3⟩
    · exact absurd h1.1 (by simp)
theorem magI_pos (s : ByteArray) (h : ∀ h : 0 < s.size, s[0] ≠ 45) : MagI s false s := by
  intro n
  rw [isI_pos (head_not h)]
  constructor
  · rintro ⟨h1, h2, h3⟩; exact ⟨.inr ⟨rfl, h1, h2⟩, h3⟩
  · rintro ⟨h1 | h1, h3⟩
    · exact absurd h1.1 (by simp)
    · exact ⟨h1.2.1, h1.2.2, h3⟩
theorem magI_no_digs {s t : ByteArray} {neg : Bool} (h : MagI s neg t) (hd : ¬ Digs t) : ¬ ∃ n, IsI s.data.toList n := by
  rintro ⟨n, hn⟩
  have h2 := ((h n).1 hn).2
  exact hd (digs_of (by rw [h2]; exact dec_dg _) (by rw [h2]; exact dec_ne _))
theorem magI_no_long {s t : ByteArray} {neg : Bool} (h : MagI s neg t) (hd : 19 < t.size) : ¬ ∃ n, IsI s.data.toList n := by
  rintro ⟨n, hn⟩
  obtain ⟨h1, h2⟩ := (h n).1 hn
  have h3 := nd19 (u := n.natAbs) (by rcases h1 with h1 | h1 <;> omega)
  rw [size_list, h2] at hd
  omega
theorem magI_no_big {s t : ByteArray} {neg : Bool} (h : MagI s neg t) (i : Nat) (hi : 9223372036854775808 < valA 0 (t.data.toList.take i)) : ¬ ∃ n, IsI s.data.toList n := by
  rintro ⟨n, hn⟩
  obtain ⟨h1, h2⟩ := (h n).1 hn
  have h3 := val_take t.data.toList i
  have h4 : valA 0 t.data.toList = n.natAbs := by rw [h2, val_dec]
  rcases h1 with h1 | h1 <;> omega
theorem magI_no_min {s t : ByteArray} (h : MagI s false t) (hi : valA 0 t.data.toList = 9223372036854775808) : ¬ ∃ n, IsI s.data.toList n := by
  rintro ⟨n, hn⟩
  obtain ⟨h1, h2⟩ := (h n).1 hn
  have h4 : valA 0 t.data.toList = n.natAbs := by rw [h2, val_dec]
  rcases h1 with h1 | h1
  · exact absurd h1.1 (by simp)
  · omega
theorem magI_end {s t : ByteArray} {neg : Bool} (h : MagI s neg t) (m : Int) (hm : m.natAbs = valA 0 t.data.toList) (hs : if neg then m ≤ 0 else 0 ≤ m) (hne : itoa m ≠ s.data.toList) : ¬ ∃ n, IsI s.data.toList n := by
  rintro ⟨n, hn⟩
  obtain ⟨h1, h2⟩ := (h n).1 hn
  have h4 : valA 0 t.data.toList = n.natAbs := by rw [h2, val_dec]
  have : m = n := by
    rcases h1 with ⟨h1, h5, h6⟩ | ⟨h1, h5, h6⟩
    · rw [h1, if_pos rfl] at hs; omega
    · rw [h1, if_neg (by simp)] at hs; omega
  rw [this] at hne
  exact hne hn.2.2.symm

theorem no_res {w w' : World} {s : ByteArray} (h : ¬ ∃ n, IsI s.data.toList n) (hb : Below w.heap.size w w') : RetIB w (pIs s) (pIsB s) (.returned (.tuple #[.int .i64 0, .bool false])) w' :=
  retIB (pI_no h).1.symm (pI_no h).2.symm hb
theorem yes_res {w w' : World} {s : ByteArray} {m : Int} (h : IsI s.data.toList m) (hb : Below w.heap.size w w') : RetIB w (pIs s) (pIsB s) (.returned (.tuple #[.int .i64 m, .bool true])) w' :=
  retIB (pI_yes h).1.symm (pI_yes h).2.symm hb

set_option maxHeartbeats 4000000 in
set_option maxRecDepth 100000 in
theorem sParseInt_n1 (w : World) (s : ByteArray) (hl : s.size ≤ 1048576) (h0 : 0 < s.size) (h45 : s[0] = 45) (t : ByteArray) (ht : s.extract 1 s.size = t) (hd : ¬ Digs t) : Calls Tryd.prog 23 #[.string s] w (RetIB w (pIs s) (pIsB s)) := by
  have d0 : decide ((0 : Int) < s.size) = true := decide_eq_true (by omega)
  have d0n : decide (0 < s.size) = true := decide_eq_true h0
  have d1 : ((s[0].toNat : Int) == 45) = true := by rw [h45]; rfl
  have hs1 : (1 : Int) ≤ s.size := by omega
  have htl : t.size ≤ 1048576 := by rw [← ht, ByteArray.size_extract]; omega
  have HM := Lib.hid (show MagI s true t by rw [← ht]; exact magI_neg s h0 h45)
  clear h45
  have HC : Hid (false = digsB t) := (digsB_f hd).symm
  have HNO := Lib.hid (magI_no_digs HM.out hd)
  clear hd
  go_enter Tryd.func23, Tryd.ntmps23
  go_wp2_with fail
  refine (sIsDigits_c _ t false HC (by omega)).mono ?_
  rintro e w1 ⟨rfl, hb⟩
  have B1 := hb
  clear hb
  go_wp2
  go_ret2
  exact no_res HNO.out B1

set_option maxHeartbeats 4000000 in
set_option maxRecDepth 100000 in
theorem sParseInt_n2 (w : World) (s : ByteArray) (hl : s.size ≤ 1048576) (h0 : 0 < s.size) (h45 : s[0] = 45) (t : ByteArray) (ht : s.extract 1 s.size = t) (hd : Digs t) (hg : 19 < t.size) : Calls Tryd.prog 23 #[.string s] w (RetIB w (pIs s) (pIsB s)) := by
  have d0 : decide ((0 : Int) < s.size) = true := decide_eq_true (by omega)
  have d0n : decide (0 < s.size) = true := decide_eq_true h0
  have d1 : ((s[0].toNat : Int) == 45) = true := by rw [h45]; rfl
  have hs1 : (1 : Int) ≤ s.size := by omega
  have htl : t.size ≤ 1048576 := by rw [← ht, ByteArray.size_extract]; omega
  have HM := Lib.hid (show MagI s true t by rw [← ht]; exact magI_neg s h0 h45)
  clear h45
  have HC : Hid (true = digsB t) := (digsB_t hd).symm
  have HNO := Lib.hid (magI_no_long HM.out hg)
  have d2 : decide ((19 : Int) < t.size) = true := decide_eq_true (by omega)
  have d2n : decide (19 < t.size) = true := decide_eq_true hg
  clear hd hg
  go_enter Tryd.func23, Tryd.ntmps23
  go_wp2_with fail
  refine (sIsDigits_c _ t true HC (by omega)).mono ?_
  rintro e w1 ⟨rfl, hb⟩
  have B1 := hb
  clear hb
  go_wp2
  go_ret2
  exact no_res HNO.out B1

set_option maxHeartbeats 4000000 in
set_option maxRecDepth 100000 in
theorem sParseInt_n3 (w : World) (s : ByteArray) (hl : s.size ≤ 1048576) (h0 : 0 < s.size) (h45 : s[0] = 45) (t : ByteArray) (ht : s.extract 1 s.size = t) (hd : Digs t) (hg : t.size ≤ 19) : Calls Tryd.prog 23 #[.string s] w (RetIB w (pIs s) (pIsB s)) := by
  have d0 : decide ((0 : Int) < s.size) = true := decide_eq_true (by omega)
  have d0n : decide (0 < s.size) = true := decide_eq_true h0
  have d1 : ((s[0].toNat : Int) == 45) = true := by rw [h45]; rfl
  have hs1 : (1 : Int) ≤ s.size := by omega
  have htl : t.size ≤ 1048576 := by rw [← ht, ByteArray.size_extract]; omega
  have HM := Lib.hid (show MagI s true t by rw [← ht]; exact magI_neg s h0 h45)
  clear h45
  have HC : Hid (true = digsB t) := (digsB_t hd).symm
  have HD := Lib.hid hd
  have d2 : decide ((19 : Int) < t.size) = false := decide_eq_false (by omega)
  have d2n : decide (19 < t.size) = false := decide_eq_false (by omega)
  clear hd
  go_enter Tryd.func23, Tryd.ntmps23
  go_wp2_with fail
  refine (sIsDigits_c _ t true HC (by omega)).mono ?_
  rintro e w1 ⟨rfl, hb⟩
  have B1 := hb
  clear hb
  go_wp2_with fail
  go_loopw [6, 7] (fun nv kv wr => ∃ (i : Nat) (m : Int), i ≤ t.size ∧ kv = .int .i64 i ∧ nv = .int .i64 m ∧ -9223372036854775808 ≤ m ∧ m ≤ 0 ∧ Hid (m = -(valA 0 (t.data.toList.take i) : Int)) ∧ Below w.heap.size w wr) (fun _ k _ => t.size - (RowKit.intOf k).toNat)
  case atStart => exact ⟨0, 0, by omega, rfl, rfl, by omega, by omega, by unfold Hid; rw [List.take_zero]; rfl, B1⟩
  case round =>
    obtain ⟨i, m, hi, rfl, rfl, hm0, hm1, HMV, hb⟩ := hrel
    clear B1
    by_cases hlt : i < t.size
    · have hlt2 : i < t.data.toList.length := by rw [← size_list]; exact hlt
      have t1 : (i : Int) < t.size := by omega
      have hdi := HD.out.2 i hlt
      unfold Dig at hdi
      obtain ⟨g0, g1⟩ := hdi
      have hvs := val_take_succ t.data.toList i hlt2
      have hce : t.data.toList[i] = t[i] := rfl
      rw [hce] at hvs
      have hmt := min_test (v := valA 0 (t.data.toList.take i)) (d := t[i].toNat - 48) (by omega)
      obtain ⟨mb0, mb1⟩ := min_bounds (d := t[i].toNat - 48) (by omega)
      obtain ⟨q, hq⟩ : ∃ q : Int, (-9223372036854775808 + ((t[i].toNat : Int) - 48)).tdiv 10 = q := ⟨_, rfl⟩
      rw [show ((t[i].toNat - 48 : Nat) : Int) = (t[i].toNat : Int) - 48 by omega, hq, ← HMV.out] at hmt
      rw [show ((t[i].toNat - 48 : Nat) : Int) = (t[i].toNat : Int) - 48 by omega, hq] at mb0 mb1
      have hmv := HMV.out
      by_cases hbig : 9223372036854775808 < valA 0 (t.data.toList.take i) * 10 + (t[i].toNat - 48)
      · have HNO := Lib.hid (magI_no_big HM.out (i + 1) (by rw [hvs]; exact hbig))
        have d3 : decide (m < q) = true := decide_eq_true (hmt.2 hbig)
        clear hmt hvs hce hbig hmv
        go_wp2
        go_ret2
        exact no_res HNO.out hb
      · have d3 : decide (m < q) = false := decide_eq_false (fun h => hbig (hmt.1 h))
        have b1 : -9223372036854775808 ≤ m * 10 - ((t[i].toNat : Int) - 48) := by omega
        have b2 : -9223372036854775808 ≤ m * 10 := by omega
        have HN : Hid (m * 10 - ((t[i].toNat : Int) - 48) = -(valA 0 (t.data.toList.take (i + 1)) : Int)) := by unfold Hid; rw [hvs]; omega
        clear hmt hvs hce hbig hmv
        go_wp2
        go_roundw
        case rel => exact ⟨i + 1, _, by omega, by go_num, rfl, b1, by omega, HN.out, hb⟩
        case measure => (simp [RowKit.intOf]) <;> omega
    · obtain rfl : i = t.size := by omega
      have HMT : Hid (m = -(valA 0 t.data.toList : Int)) := by
        have := HMV.out
        rwa [size_list, List.take_length] at this
      obtain ⟨u, hu⟩ : ∃ u, u = bs (itoa m) := ⟨_, rfl⟩
      have HU := Lib.hid hu
      by_cases he : itoa m = s.data.toList
      · have HY := Lib.hid (show IsI s.data.toList m from ⟨hm0, by omega, he.symm⟩)
        have HUS : Hid (s = u) := by unfold Hid; rw [hu, bs_eq_iff.2 he]
        clear hu he HU
        go_wp2_with fail
        refine (sFormatInt_c _ m hm0 (by omega) s (by unfold Hid; exact (bs_eq_iff.2 HY.out.2.2.symm).symm)).mono ?_
        rintro e w2 ⟨rfl, hb2⟩
        have B2 := hb.trans (hb2.mono hb.size)
        clear hb2
        go_wp2
        go_ret2
        exact yes_res HY.out B2
      · have HNO := Lib.hid (magI_end HM.out m (by rw [HMT.out, Int.natAbs_neg]; rfl) (by simp; omega) he)
        have hne : (u.toList == s.toList) = false := strq_false (fun e => he (bs_eq_iff.1 (hu ▸ e)))
        clear hu he
        go_wp2_with fail
        refine (sFormatInt_c _ m hm0 (by omega) u HU).mono ?_
        rintro e w2 ⟨rfl, hb2⟩
        have B2 := hb.trans (hb2.mono hb.size)
        clear hb2
        go_wp2
        go_ret2
        exact no_res HNO.out B2

set_option maxHeartbeats 4000000 in
set_option maxRecDepth 100000 in
theorem sParseInt_p1 (w : World) (s : ByteArray) (hl : s.size ≤ 1048576) (h0 : 0 < s.size) (h45 : s[0] ≠ 45) (hd : ¬ Digs s) : Calls Tryd.prog 23 #[.string s] w (RetIB w (pIs s) (pIsB s)) := by
  have d0 : decide ((0 : Int) < s.size) = true := decide_eq_true (by omega)
  have d0n : decide (0 < s.size) = true := decide_eq_true h0
  have d1 : ((s[0].toNat : Int) == 45) = false := beq_eq_false_iff_ne.2 (fun e => h45 (UInt8.toNat_inj.1 (by have e2 : (45 : UInt8).toNat = 45 := rfl; omega)))
  have htl : s.size ≤ 1048576 := hl
  have HM := Lib.hid (show MagI s false s from magI_pos s (fun _ => h45))
  clear h45
  have HC : Hid (false = digsB s) := (digsB_f hd).symm
  have HNO := Lib.hid (magI_no_digs HM.out hd)
  clear hd
  go_enter Tryd.func23, Tryd.ntmps23
  go_wp2_with fail
  refine (sIsDigits_c _ s false HC (by omega)).mono ?_
  rintro e w1 ⟨rfl, hb⟩
  have B1 := hb
  clear hb
  go_wp2
  go_ret2
  exact no_res HNO.out B1

set_option maxHeartbeats 4000000 in
set_option maxRecDepth 100000 in
theorem sParseInt_p2 (w : World) (s : ByteArray) (hl : s.size ≤ 1048576) (h0 : 0 < s.size) (h45 : s[0] ≠ 45) (hd : Digs s) (hg : 19 < s.size) : Calls Tryd.prog 23 #[.string s] w (RetIB w (pIs s) (pIsB s)) := by
  have d0 : decide ((0 : Int) < s.size) = true := decide_eq_true (by omega)
  have d0n : decide (0 < s.size) = true := decide_eq_true h0
  have d1 : ((s[0].toNat : Int) == 45) = false := beq_eq_false_iff_ne.2 (fun e => h45 (UInt8.toNat_inj.1 (by have e2 : (45 : UInt8).toNat = 45 := rfl; omega)))
  have htl : s.size ≤ 1048576 := hl
  have HM := Lib.hid (show MagI s false s from magI_pos s (fun _ => h45))
  clear h45
  have HC : Hid (true = digsB s) := (digsB_t hd).symm
  have HNO := Lib.hid (magI_no_long HM.out hg)
  have d2 : decide ((19 : Int) < s.size) = true := decide_eq_true (by omega)
  have d2n : decide (19 < s.size) = true := decide_eq_true hg
  clear hd hg
  go_enter Tryd.func23, Tryd.ntmps23
  go_wp2_with fail
  refine (sIsDigits_c _ s true HC (by omega)).mono ?_
  rintro e w1 ⟨rfl, hb⟩
  have B1 := hb
  clear hb
  go_wp2
  go_ret2
  exact no_res HNO.out B1

set_option maxHeartbeats 4000000 in
set_option maxRecDepth 100000 in
theorem sParseInt_p3 (w : World) (s : ByteArray) (hl : s.size ≤ 1048576) (h0 : 0 < s.size) (h45 : s[0] ≠ 45) (hd : Digs s) (hg : s.size ≤ 19) : Calls Tryd.prog 23 #[.string s] w (RetIB w (pIs s) (pIsB s)) := by
  have d0 : decide ((0 : Int) < s.size) = true := decide_eq_true (by omega)
  have d0n : decide (0 < s.size) = true := decide_eq_true h0
  have d1 : ((s[0].toNat : Int) == 45) = false := beq_eq_false_iff_ne.2 (fun e => h45 (UInt8.toNat_inj.1 (by have e2 : (45 : UInt8).toNat = 45 := rfl; omega)))
  have htl : s.size ≤ 1048576 := hl
  have HM := Lib.hid (show MagI s false s from magI_pos s (fun _ => h45))
  clear h45
  have HC : Hid (true = digsB s) := (digsB_t hd).symm
  have HD := Lib.hid hd
  have d2 : decide ((19 : Int) < s.size) = false := decide_eq_false (by omega)
  have d2n : decide (19 < s.size) = false := decide_eq_false (by omega)
  clear hd
  go_enter Tryd.func23, Tryd.ntmps23
  go_wp2_with fail
  refine (sIsDigits_c _ s true HC (by omega)).mono ?_
  rintro e w1 ⟨rfl, hb⟩
  have B1 := hb
  clear hb
  go_wp2_with fail
  go_loopw [6, 7] (fun nv kv wr => ∃ (i : Nat) (m : Int), i ≤ s.size ∧ kv = .int .i64 i ∧ nv = .int .i64 m ∧ -9223372036854775808 ≤ m ∧ m ≤ 0 ∧ Hid (m = -(valA 0 (s.data.toList.take i) : Int)) ∧ Below w.heap.size w wr) (fun _ k _ => s.size - (RowKit.intOf k).toNat)
  case atStart => exact ⟨0, 0, by omega, rfl, rfl, by omega, by omega, by unfold Hid; rw [List.take_zero]; rfl, B1⟩
  case round =>
    obtain ⟨i, m, hi, rfl, rfl, hm0, hm1, HMV, hb⟩ := hrel
    clear B1
    by_cases hlt : i < s.size
    · have hlt2 : i < s.data.toList.length := by rw [← size_list]; exact hlt
      have t1 : (i : Int) < s.size := by omega
      have hdi := HD.out.2 i hlt
      unfold Dig at hdi
      obtain ⟨g0, g1⟩ := hdi
      have hvs := val_take_succ s.data.toList i hlt2
      have hce : s.data.toList[i] = s[i] := rfl
      rw [hce] at hvs
      have hmt := min_test (v := valA 0 (s.data.toList.take i)) (d := s[i].toNat - 48) (by omega)
      obtain ⟨mb0, mb1⟩ := min_bounds (d := s[i].toNat - 48) (by omega)
      obtain ⟨q, hq⟩ : ∃ q : Int, (-9223372036854775808 + ((s[i].toNat : Int) - 48)).tdiv 10 = q := ⟨_, rfl⟩
      rw [show ((s[i].toNat - 48 : Nat) : Int) = (s[i].toNat : Int) - 48 by omega, hq, ← HMV.out] at hmt
      rw [show ((s[i].toNat - 48 : Nat) : Int) = (s[i].toNat : Int) - 48 by omega, hq] at mb0 mb1
      have hmv := HMV.out
      by_cases hbig : 9223372036854775808 < valA 0 (s.data.toList.take i) * 10 + (s[i].toNat - 48)
      · have HNO := Lib.hid (magI_no_big HM.out (i + 1) (by rw [hvs]; exact hbig))
        have d3 : decide (m < q) = true := decide_eq_true (hmt.2 hbig)
        clear hmt hvs hce hbig hmv
        go_wp2
        go_ret2
        exact no_res HNO.out hb
      · have d3 : decide (m < q) = false := decide_eq_false (fun h => hbig (hmt.1 h))
        have b1 : -9223372036854775808 ≤ m * 10 - ((s[i].toNat : Int) - 48) := by omega
        have b2 : -9223372036854775808 ≤ m * 10 := by omega
        have HN : Hid (m * 10 - ((s[i].toNat : Int) - 48) = -(valA 0 (s.data.toList.take (i + 1)) : Int)) := by unfold Hid; rw [hvs]; omega
        clear hmt hvs hce hbig hmv
        go_wp2
        go_roundw
        case rel => exact ⟨i + 1, _, by omega, by go_num, rfl, b1, by omega, HN.out, hb⟩
        case measure => (simp [RowKit.intOf]) <;> omega
    · obtain rfl : i = s.size := by omega
      have HMT : Hid (m = -(valA 0 s.data.toList : Int)) := by
        have := HMV.out
        rwa [size_list, List.take_length] at this
      by_cases hmin : m = -9223372036854775808
      · have HNO := Lib.hid (magI_no_min HM.out (by have := HMT.out; omega))
        have d4 : (m == -9223372036854775808) = true := by rw [hmin]; rfl
        clear hmin
        go_wp2
        go_ret2
        exact no_res HNO.out hb
      · have d4 : (m == -9223372036854775808) = false := beq_eq_false_iff_ne.2 hmin
        have hm2 : -9223372036854775807 ≤ m := by omega
        obtain ⟨k, hk⟩ : ∃ k : Int, -m = k := ⟨_, rfl⟩
        have hk0 : 0 ≤ k := by omega
        have hk1 : k ≤ 9223372036854775807 := by omega
        have HKV : Hid (k.natAbs = valA 0 s.data.toList) := by have := HMT.out; unfold Hid; omega
        obtain ⟨u, hu⟩ : ∃ u, u = bs (itoa k) := ⟨_, rfl⟩
        have HU := Lib.hid hu
        clear hmin
        by_cases he : itoa k = s.data.toList
        · have HY := Lib.hid (show IsI s.data.toList k from ⟨by omega, hk1, he.symm⟩)
          clear hu he HU
          go_wp2_with fail
          refine (sFormatInt_c _ k (by omega) hk1 s (by unfold Hid; exact (bs_eq_iff.2 HY.out.2.2.symm).symm)).mono ?_
          rintro e w2 ⟨rfl, hb2⟩
          have B2 := hb.trans (hb2.mono hb.size)
          clear hb2
          go_wp2
          go_ret2
          exact yes_res HY.out B2
        · have HNO := Lib.hid (magI_end HM.out k HKV.out (by simp; omega) he)
          have hne : (u.toList == s.toList) = false := strq_false (fun e => he (bs_eq_iff.1 (hu ▸ e)))
          clear hu he
          go_wp2_with fail
          refine (sFormatInt_c _ k (by omega) hk1 u HU).mono ?_
          rintro e w2 ⟨rfl, hb2⟩
          have B2 := hb.trans (hb2.mono hb.size)
          clear hb2
          go_wp2
          go_ret2
          exact no_res HNO.out B2

set_option maxHeartbeats 4000000 in
set_option maxRecDepth 100000 in
theorem sParseInt_e1 (w : World) (s : ByteArray) (hl : s.size ≤ 1048576) (h0 : s.size = 0) (hd : ¬ Digs s) : Calls Tryd.prog 23 #[.string s] w (RetIB w (pIs s) (pIsB s)) := by
  have d0 : decide ((0 : Int) < s.size) = false := decide_eq_false (by omega)
  have d0n : decide (0 < s.size) = false := decide_eq_false (by omega)
  have htl : s.size ≤ 1048576 := hl
  have HM := Lib.hid (show MagI s false s from magI_pos s (fun h => absurd h (by omega)))
  clear h0
  have HC : Hid (false = digsB s) := (digsB_f hd).symm
  have HNO := Lib.hid (magI_no_digs HM.out hd)
  clear hd
  go_enter Tryd.func23, Tryd.ntmps23
  go_wp2_with fail
  refine (sIsDigits_c _ s false HC (by omega)).mono ?_
  rintro e w1 ⟨rfl, hb⟩
  have B1 := hb
  clear hb
  go_wp2
  go_ret2
  exact no_res HNO.out B1

theorem sParseInt_c (w : World) (s : ByteArray) (hl : s.size ≤ 1048576) : Calls Tryd.prog 23 #[.string s] w (RetIB w (pIs s) (pIsB s)) := by
  by_cases h0 : s.size = 0
  · exact sParseInt_e1 w s hl h0 (fun h => by have := h.1; omega)
  · have hp : 0 < s.size := by omega
    by_cases h45 : s[0] = 45
    · by_cases hd : Digs (s.extract 1 s.size)
      · rcases Nat.lt_or_ge 19 (s.extract 1 s.size).size with hg | hg
        · exact sParseInt_n2 w s hl hp h45 _ rfl hd hg
        · exact sParseInt_n3 w s hl hp h45 _ rfl hd hg
      · exact sParseInt_n1 w s hl hp h45 _ rfl hd
    · by_cases hd : Digs s
      · rcases Nat.lt_or_ge 19 s.size with hg | hg
        · exact sParseInt_p2 w s hl hp h45 hd hg
        · exact sParseInt_p3 w s hl hp h45 hd hg
      · exact sParseInt_p1 w s hl hp h45 hd

end Go.Proofs.YtcajdlpbdihbeaaDoor
