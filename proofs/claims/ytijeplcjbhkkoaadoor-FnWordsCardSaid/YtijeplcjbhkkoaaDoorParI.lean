/- ParseInt: the program's and the reference's. -/
import Derived.Test.YtijeplcjbhkkoaaDoorStrG
import Derived.Test.YtijeplcjbhkkoaaDoorMathG
import Derived.Test.YtijeplcjbhkkoaaDoorToIntC
import Derived.Shelf.Strconv.ErrVarAll
namespace Go.Proofs.YtijeplcjbhkkoaaDoor
open Go.RowKit Tx Go.Lib

theorem below_bytes (w : World) (e : TypeId) (t : ByteArray) : Below w.heap.size w (Lib.bytesWorld w e t) := ⟨rfl, rfl, rfl, by rw [Lib.bytesWorld_size]; omega, fun j hj => Lib.bytesWorld_at_old w e t j hj⟩
/-- Atoi of a text that spells an int. -/
def RetA (w : World) (v : Int) (e : Ending) (w' : World) : Prop := e = .returned (.tuple #[.int .i64 v, .nilIface]) ∧ Below w.heap.size w w'
/-- Atoi of another: some number, and an error that is not nil. -/
def RetAE (w : World) (e : Ending) (w' : World) : Prop := ∃ (v : Int) (tp : TypeId) (p : Value), e = .returned (.tuple #[.int .i64 v, .iface tp p]) ∧ Below w.heap.size w w'
theorem atoi_ok (w : World) (s : ByteArray) (v : Int) (hl : s.size ≤ 1048576) (h : Hid (Lib.atoiAll s.data.toList = .ok v)) : Calls Tryd.prog 24 #[.string s] w (RetA w v) := by
  refine (Tryd.strconv_Atoi_ok s (by omega) v h.out w).mono ?_
  rintro e w' ⟨rfl, rfl | ⟨t, rfl⟩⟩
  · exact ⟨rfl, Below.refl _ _⟩
  · exact ⟨rfl, below_bytes _ _ _⟩
theorem atoi_no (w : World) (s : ByteArray) (hl : s.size ≤ 1048576) (he : Errs w) (h : Hid (∀ v, Lib.atoiAll s.data.toList ≠ .ok v)) : Calls Tryd.prog 24 #[.string s] w (RetAE w) := by
  obtain ⟨⟨t1, p1, h1⟩, t2, p2, h2⟩ := he
  cases ha : Lib.atoiAll s.data.toList with
  | ok v => exact absurd ha (h.out v)
  | «syntax» =>
    refine (Tryd.strconv_Atoi_syntax_var s (by omega) ha t1 p1 w h1).mono ?_
    rintro e w' ⟨N, rfl, _, _, hb⟩
    exact ⟨_, _, _, rfl, hb⟩
  | range =>
    refine (Tryd.strconv_Atoi_range_var s (by omega) ha t2 p2 w h2).mono ?_
    rintro e w' ⟨N, rfl, _, _, hb⟩
    exact ⟨_, _, _, rfl, hb⟩
theorem bs_eq_iff {l : List UInt8} {s : ByteArray} : bs l = s ↔ l = s.data.toList := by
  constructor
  · intro h; rw [← h, bs_data]
  · intro h; rw [h, bs_list]
/-- ParseInt. -/
noncomputable def pIs (s : ByteArray) : Int := pI s.data.toList
noncomputable def pIsB (s : ByteArray) : Bool := pIB s.data.toList

set_option maxHeartbeats 1000000 in
theorem parseInt_yes (w : World) (s : ByteArray) (hl : s.size ≤ 1048576) (ht : Tabs w) (v : Int) (hv : IsI s.data.toList v) : Calls Tryd.prog 6 #[.string s] w (RetIB w v true) := by
  have HA := Lib.hid (show Lib.atoiAll s.data.toList = .ok v by rw [hv.2.2]; exact atoi_itoa v hv.1 hv.2.1)
  have h0 := hv.1
  have h1 := hv.2.1
  have HF : Hid (s = bs (itoa v)) := (bs_eq_iff.2 hv.2.2.symm).symm
  have HT := Lib.hid ht
  clear hv ht
  go_enter Tryd.func6, Tryd.ntmps6
  go_wp2_with fail
  refine (atoi_ok _ s v hl HA).mono ?_
  rintro e w1 ⟨rfl, hb⟩
  have B1 := hb
  clear hb
  go_wp2_with fail
  refine (formatInt_c _ v h0 h1 (HT.out.below B1 (Nat.le_refl _)) s HF).mono ?_
  rintro e w2 ⟨rfl, hb⟩
  have B2 := B1.trans (hb.mono B1.size)
  clear hb B1
  go_wp2
  go_ret2
  exact retIB rfl rfl B2
set_option maxHeartbeats 1000000 in
theorem parseInt_far (w : World) (s : ByteArray) (hl : s.size ≤ 1048576) (ht : Tabs w) (v : Int) (h0 : -9223372036854775808 ≤ v) (h1 : v ≤ 9223372036854775807) (ha : Lib.atoiAll s.data.toList = .ok v) (hn : itoa v ≠ s.data.toList) : Calls Tryd.prog 6 #[.string s] w (RetIB w 0 false) := by
  have HA := Lib.hid ha
  obtain ⟨t, hT⟩ : ∃ t, t = bs (itoa v) := ⟨_, rfl⟩
  have hne : (t.toList == s.toList) = false := by
    rw [hT]
    exact beq_eq_false_iff_ne.2 (fun e => hn (by rw [ByteArray.toList_eq, ByteArray.toList_eq, bs_data] at e; exact e))
  have HF := Lib.hid hT
  have HT := Lib.hid ht
  clear hT ht hn ha
  go_enter Tryd.func6, Tryd.ntmps6
  go_wp2_with fail
  refine (atoi_ok _ s v hl HA).mono ?_
  rintro e w1 ⟨rfl, hb⟩
  have B1 := hb
  clear hb
  go_wp2_with fail
  refine (formatInt_c _ v h0 h1 (HT.out.below B1 (Nat.le_refl _)) t HF).mono ?_
  rintro e w2 ⟨rfl, hb⟩
  have B2 := B1.trans (hb.mono B1.size)
  clear hb B1
  go_wp2
  go_ret2
  exact retIB rfl rfl B2
set_option maxHeartbeats 1000000 in
theorem parseInt_no (w : World) (s : ByteArray) (hl : s.size ≤ 1048576) (he : Errs w) (ha : ∀ v, Lib.atoiAll s.data.toList ≠ .ok v) : Calls Tryd.prog 6 #[.string s] w (RetIB w 0 false) := by
  have HA := Lib.hid ha
  have HE := Lib.hid he
  clear he ha
  go_enter Tryd.func6, Tryd.ntmps6
  go_wp2_with fail
  refine (atoi_no _ s hl HE.out HA).mono ?_
  rintro e w1 ⟨v, tp, p, rfl, hb⟩
  have B1 := hb
  clear hb
  go_wp2
  go_ret2
  exact retIB rfl rfl B1
theorem parseInt_c (w : World) (s : ByteArray) (hl : s.size ≤ 1048576) (ht : Tabs w) (he : Errs w) : Calls Tryd.prog 6 #[.string s] w (RetIB w (pIs s) (pIsB s)) := by
  by_cases h : ∃ n, IsI s.data.toList n
  · obtain ⟨n, hn⟩ := h
    obtain ⟨e1, e2⟩ := pI_yes hn
    unfold pIs pIsB
    rw [e1, e2]
    exact parseInt_yes w s hl ht n hn
  · obtain ⟨e1, e2⟩ := pI_no h
    unfold pIs pIsB
    rw [e1, e2]
    by_cases hv : ∃ v, Lib.atoiAll s.data.toList = .ok v
    · obtain ⟨v, hv⟩ := hv
      obtain ⟨b0, b1⟩ := Lib.atoiAll_bounds hv
      exact parseInt_far w s hl ht v b0 b1 hv (fun e => h ⟨v, b0, b1, e.symm⟩)
    · exact parseInt_no w s hl he (fun v e => hv ⟨v, e⟩)

theorem strq_false {s t : ByteArray} (h : s ≠ t) : (s.toList == t.toList) = false := beq_eq_false_iff_ne.2 (fun e => h (by
  rw [ByteArray.toList_eq, ByteArray.toList_eq] at e
  rw [← bs_list s, e, bs_list]))
theorem tail_list (s : ByteArray) (h : 0 < s.size) (h45 : s[0] = 45) : s.data.toList = 45 :: (s.extract 1 s.size).data.toList := by
  have h2 : 0 < s.data.toList.length := by rw [← size_list]; exact h
  have e1 : (s.extract 1 s.size).data.toList = s.data.toList.drop 1 := by
    rw [ByteArray.data_extract, Array.toList_extract]
    show (s.data.toList.drop 1).take (s.size - 1) = _
    rw [List.take_of_length_le (by rw [List.length_drop, ← size_list]; omega)]
  rw [e1]
  have e2 := (List.drop_eq_getElem_cons h2)
  rw [List.drop_zero] at e2
  have e3 : s.data.toList[0] = s[0] := rfl
  rw [e3, h45] at e2
  exact e2
theorem head_not {s : ByteArray} (h : ∀ h : 0 < s.size, s[0] ≠ 45) : s.data.toList.head? ≠ some 45 := by
  cases hl : s.data.toList with
  | nil => simp
  | cons c r =>
    have h2 : 0 < s.size := by rw [size_list, hl]; simp
    have e3 : s.data.toList[0]'(by rw [hl]; simp) = s[0] := rfl
    intro e
    have e4 : c = 45 := Option.some.inj e
    refine h h2 ?_
    rw [← e3]
    simp [hl, e4]
theorem digs_dg {t : ByteArray} (h : Digs t) : ∀ c ∈ t.data.toList, Dg c := by
  intro c hc
  obtain ⟨i, hi, e⟩ := List.getElem_of_mem hc
  have h2 : i < t.size := by rw [size_list]; exact hi
  have h3 := h.2 i h2
  have e2 : t[i] = t.data.toList[i] := rfl
  rw [e2, e] at h3
  unfold Dig at h3
  unfold Dg
  omega
theorem digs_of {t : ByteArray} (h : ∀ c ∈ t.data.toList, Dg c) (h0 : t.data.toList ≠ []) : Digs t := by
  refine ⟨by rw [size_list]; exact List.length_pos_iff.2 h0, fun i hi => ?_⟩
  have h2 : i < t.data.toList.length := by rw [← size_list]; exact hi
  have h3 := h t.data.toList[i] (List.getElem_mem h2)
  have e2 : t[i] = t.data.toList[i] := rfl
  rw [e2]
  unfold Dg at h3
  unfold Dig
  omega
/-- The number that the text stands for has this absolute value, if there is one. -/
def MagI (s : ByteArray) (neg : Bool) (t : ByteArray) : Prop := ∀ n, IsI s.data.toList n ↔ ((neg = true ∧ n < 0 ∧ -9223372036854775808 ≤ n) ∨ (neg = false ∧ 0 ≤ n ∧ n ≤ 9223372036854775807)) ∧ t.data.toList = decDigits n.natAbs
theorem magI_neg (s : ByteArray) (h : 0 < s.size) (h45 : s[0] = 45) : MagI s true (s.extract 1 s.size) := by
  intro n
  rw [tail_list s h h45, isI_neg]
  constructor
  · rintro ⟨h1, h2, h3⟩; exact ⟨.inl ⟨rfl, h1, h2⟩, h3⟩
  · rintro ⟨h1 | h1, h3⟩
    · exact ⟨h1.2.1, h1.2.2, h3⟩
    · exact absurd h1.1 (by simp)
theorem magI_pos (s : ByteArray) (h : ∀ h : 0 < s.size, s[0] ≠ 45) : MagI s false s := by
  intro n
  rw [isI_pos (head_not h)]
  constructor
  · rintro ⟨h1, h2, h3⟩; exact ⟨.inr ⟨rfl, h1, h2⟩, h3⟩
  · rintro ⟨h1 | h1, h3⟩
    · exact absurd h1.1 (by simp)
    · exact ⟨h1.2.1, h1.2.2, h3⟩
theorem magI_no_digs {s t : ByteArray} {neg : Bool} (h : MagI s neg t) (hd : ¬ Digs t) : ¬ ∃ n, IsI s.data.toList n := by
  rintro ⟨n, hn⟩
  have h2 := ((h n).1 hn).2
  exact hd (digs_of (by rw [h2]; exact dec_dg _) (by rw [h2]; exact dec_ne _))
theorem magI_no_long {s t : ByteArray} {neg : Bool} (h : MagI s neg t) (hd : 19 < t.size) : ¬ ∃ n, IsI s.data.toList n := by
  rintro ⟨n, hn⟩
  obtain ⟨h1, h2⟩ := (h n).1 hn
  have h3 := nd19 (u := n.natAbs) (by rcases h1 with h1 | h1 <;> omega)
  rw [size_list, h2] at hd
  omega
theorem magI_no_big {s t : ByteArray} {neg : Bool} (h : MagI s neg t) (i : Nat) (hi : 9223372036854775808 < valA 0 (t.data.toList.take i)) : ¬ ∃ n, IsI s.data.toList n := by
  rintro ⟨n, hn⟩
  obtain ⟨h1, h2⟩ := (h n).1 hn
  have h3 := val_take t.data.toList i
  have h4 : valA 0 t.data.toList = n.natAbs := by rw [h2, val_dec]
  rcases h1 with h1 | h1 <;> omega
theorem magI_no_min {s t : ByteArray} (h : MagI s false t) (hi : valA 0 t.data.toList = 9223372036854775808) : ¬ ∃ n, IsI s.data.toList n := by
  rintro ⟨n, hn⟩
  obtain ⟨h1, h2⟩ := (h n).1 hn
  have h4 : valA 0 t.data.toList = n.natAbs := by rw [h2, val_dec]
  rcases h1 with h1 | h1
  · exact absurd h1.1 (by simp)
  · omega
theorem magI_end {s t : ByteArray} {neg : Bool} (h : MagI s neg t) (m : Int) (hm : m.natAbs = valA 0 t.data.toList) (hs : if neg then m ≤ 0 else 0 ≤ m) (hne : itoa m ≠ s.data.toList) : ¬ ∃ n, IsI s.data.toList n := by
  rintro ⟨n, hn⟩
  obtain ⟨h1, h2⟩ := (h n).1 hn
  have h4 : valA 0 t.data.toList = n.natAbs := by rw [h2, val_dec]
  have : m = n := by
    rcases h1 with ⟨h1, h5, h6⟩ | ⟨h1, h5, h6⟩
    · rw [h1, if_pos rfl] at hs; omega
    · rw [h1, if_neg (by simp)] at hs; omega
  rw [this] at hne
  exact hne hn.2.2.symm

theorem no_res {w w' : World} {s : ByteArray} (h : ¬ ∃ n, IsI s.data.toList n) (hb : Below w.heap.size w w') : RetIB w (pIs s) (pIsB s) (.returned (.tuple #[.int .i64 0, .bool false])) w' :=
  retIB (pI_no h).1.symm (pI_no h).2.symm hb
theorem yes_res {w w' : World} {s : ByteArray} {m : Int} (h : IsI s.data.toList m) (hb : Below w.heap.size w w') : RetIB w (pIs s) (pIsB s) (.returned (.tuple #[.int .i64 m, .bool true])) w' :=
  retIB (pI_yes h).1.symm (pI_yes h).2.symm hb

end Go.Proofs.YtijeplcjbhkkoaaDoor
