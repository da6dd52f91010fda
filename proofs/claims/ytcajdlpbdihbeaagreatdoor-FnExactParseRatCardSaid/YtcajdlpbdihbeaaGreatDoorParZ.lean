/- ParseBigInt: the program's and the reference's. -/
import Derived.Test.YtcajdlpbdihbeaaGreatDoorParN
import Derived.Test.YtcajdlpbdihbeaaGreatDoorBigS
import Derived.Test.YtcajdlpbdihbeaaGreatDoorBigB
namespace Go.Proofs.YtcajdlpbdihbeaaGreatDoor
open Go.RowKit Tx Go.Lib Lm

/-- A signed number and a bool. -/
def RetGB (w : World) (s : Bool) (xs : List Int) (c : Bool) (e : Ending) (w' : World) : Prop := ∃ u, e = .returned (.tuple #[.agg #[.bool s, u], .bool c]) ∧ Own w' w.heap.size u xs ∧ Below w.heap.size w w'
theorem retGB_end {w w0 wk : World} {g : Nat} {s c : Bool} {u : Value} {xs : List Int} (BW : Below w.heap.size w w0) (hg : w.heap.size ≤ g) (hg0 : g < w0.heap.size) (B0 : Below w0.heap.size w0 wk) (ho : Own wk w0.heap.size u xs) :
    RetGB w s xs c (.returned (.tuple #[.agg #[.bool s, u], .bool c])) ((wk.setCell ⟨g, 0, none⟩ (.bool s)).setCell ⟨g, 1, none⟩ u) :=
  ⟨u, rfl, ((ho.setBelow2 (a := ⟨g, 0, none⟩) hg0 _).setBelow2 (a := ⟨g, 1, none⟩) hg0 _).mono BW.size, ((BW.trans (B0.mono BW.size)).setCell hg _).setCell hg _⟩
/-- A string and a bool. -/
def RetTB (w : World) (t : ByteArray) (c : Bool) (e : Ending) (w' : World) : Prop := e = .returned (.tuple #[.string t, .bool c]) ∧ Below w.heap.size w w'
/-- Has it a minus. -/
def mns (l : List UInt8) : Bool := Lib.hasPrefix l [45]
def tlm (l : List UInt8) : List UInt8 := Lib.trimPrefix l [45]
theorem mns_cons (c : UInt8) (l : List UInt8) : mns (c :: l) = (c == 45) := by
  unfold mns Lib.hasPrefix
  show ((45 : UInt8) == c && ([] : List UInt8).isPrefixOf l) = _
  rw [show ([] : List UInt8).isPrefixOf l = true from by cases l <;> rfl, Bool.and_true, Bool.eq_iff_iff, beq_iff_eq, beq_iff_eq]
  exact eq_comm
theorem mns_nil : mns [] = false := rfl
theorem mns_neg {s : ByteArray} (h0 : 0 < s.size) (h : s[0] = 45) : mns s.data.toList = true ∧ bs (tlm s.data.toList) = s.extract 1 s.size := by
  have e := tail_list s h0 h
  refine ⟨by rw [e, mns_cons]; rfl, ?_⟩
  unfold tlm Lib.trimPrefix
  rw [if_pos (by show mns _ = true; rw [e, mns_cons]; rfl), e]
  exact bs_list _
theorem mns_pos {s : ByteArray} (h : ∀ h : 0 < s.size, s[0] ≠ 45) : mns s.data.toList = false ∧ bs (tlm s.data.toList) = s := by
  have e : mns s.data.toList = false := by
    have h2 := head_not h
    cases hl : s.data.toList with
    | nil => rfl
    | cons c r =>
      rw [hl] at h2
      rw [mns_cons]
      exact beq_eq_false_iff_ne.2 (fun e => h2 (by rw [e]; rfl))
  refine ⟨e, ?_⟩
  unfold tlm Lib.trimPrefix
  rw [if_neg (by show ¬ mns _ = true; rw [e]; simp)]
  exact bs_list _
theorem cut_c (w : World) (s t : ByteArray) (c : Bool) (hT : Hid (t = bs (tlm s.data.toList))) (hC : Hid (c = mns s.data.toList)) : Calls Tryz.prog 31 #[.string s, .string { data := #[45] }] w (RetTB w t c) := by
  refine (Tryz.strings_CutPrefix s { data := #[45] } w).mono ?_
  rintro e w' ⟨rfl, rfl⟩
  rw [hT.out, hC.out]
  exact ⟨rfl, Below.refl _ _⟩
/-- ParseBigInt: does it succeed; the sign; the limbs. -/
noncomputable def pZb (s : ByteArray) : Bool := pNb (bs (tlm s.data.toList)) && !(mns s.data.toList && (pNs (bs (tlm s.data.toList))).isEmpty)
noncomputable def pZg (s : ByteArray) : Bool := if pZb s = true then mns s.data.toList else false
noncomputable def pZs (s : ByteArray) : List Int := if pZb s = true then pNs (bs (tlm s.data.toList)) else []
theorem pZs_len (s : ByteArray) : (pZs s).length ≤ 60 := by
  unfold pZs
  split
  · exact pNs_len _
  · simp
/-- What ParseBigInt answers, from what ParseNat answers on the rest. -/
def AnsZ (s : ByteArray) (g : Bool) (xs : List Int) (b : Bool) : Prop := g = pZg s ∧ xs = pZs s ∧ b = pZb s
theorem ansZ_no {s t : ByteArray} {c ok : Bool} {xs : List Int} (hT : t = bs (tlm s.data.toList)) (hC : c = mns s.data.toList) (hx : xs = pNs t) (hok : ok = pNb t) (h : (ok && !(c && xs.isEmpty)) = false) : AnsZ s false [] false := by
  have e : pZb s = false := by unfold pZb; rw [← hT, ← hC, ← hx, ← hok]; exact h
  unfold AnsZ pZg pZs
  rw [e]
  exact ⟨rfl, rfl, rfl⟩
theorem ansZ_yes {s t : ByteArray} {c ok : Bool} {xs : List Int} (hT : t = bs (tlm s.data.toList)) (hC : c = mns s.data.toList) (hx : xs = pNs t) (hok : ok = pNb t) (h : (ok && !(c && xs.isEmpty)) = true) : AnsZ s c xs true := by
  have e : pZb s = true := by unfold pZb; rw [← hT, ← hC, ← hx, ← hok]; exact h
  unfold AnsZ pZg pZs
  rw [e, ← hT, ← hC, ← hx]
  exact ⟨rfl, rfl, rfl⟩
theorem retGB_of {w w' : World} {s : ByteArray} {g b : Bool} {xs : List Int} {e : Ending} (h : AnsZ s g xs b) (k : RetGB w g xs b e w') : RetGB w (pZg s) (pZs s) (pZb s) e w' := by
  obtain ⟨h1, h2, h3⟩ := h
  rw [← h1, ← h2, ← h3]
  exact k
theorem parseNat_h (w : World) (t : ByteArray) (hl : t.size ≤ 1048576) (xs : List Int) (ok : Bool) (hx : Hid (xs = pNs t)) (hok : Hid (ok = pNb t)) : Calls Tryz.prog 15 #[.string t] w (RetSB w xs ok) := by
  rw [hx.out, hok.out]
  exact parseNat_c w t hl
theorem sParseNat_h (w : World) (t : ByteArray) (hl : t.size ≤ 1048576) (xs : List Int) (ok : Bool) (hx : Hid (xs = pNs t)) (hok : Hid (ok = pNb t)) : Calls Tryz.prog 11 #[.string t] w (RetSB w xs ok) := by
  rw [hx.out, hok.out]
  exact sParseNat_c w t hl
theorem signed_pos (w : World) (b1 : Nat) (v1 : Value) (xs : List Int) (h1 : Own w b1 v1 xs) : Calls Tryz.prog 32 #[.bool false, v1] w (RetGV w b1 v1 false xs) := by
  by_cases hx : xs = []
  · subst hx; exact signed_nil w b1 false v1 h1
  · exact signed_some w b1 false v1 xs h1 hx
theorem tlm_size (s : ByteArray) : (bs (tlm s.data.toList)).size ≤ s.size := by
  rw [bs_size, size_list]
  unfold tlm Lib.trimPrefix
  split
  · rw [List.length_drop]; omega
  · omega

set_option maxHeartbeats 1000000 in
set_option maxRecDepth 100000 in
theorem parseBigInt_a (w : World) (s : ByteArray) (hl : s.size ≤ 1048576) (t : ByteArray) (c ok : Bool) (xs : List Int) (hT : t = bs (tlm s.data.toList)) (hC : c = mns s.data.toList) (hx : xs = pNs t) (hok : ok = pNb t) (h1 : ok = false) :
    Calls Tryz.prog 14 #[.string s] w (RetGB w (pZg s) (pZs s) (pZb s)) := by
  have BW : Below w.heap.size w (w.alloc (.cells #[.bool false, .slice none 0 0] 24)) := ((Below.refl w.heap.size w).alloc (Nat.le_refl _) _)
  obtain ⟨c0_0, c0_1, q0, q1⟩ : World.cell? (w.alloc (.cells #[.bool false, .slice none 0 0] 24)) ⟨w.heap.size, 0, none⟩ = some (.bool false) ∧ World.cell? (w.alloc (.cells #[.bool false, .slice none 0 0] 24)) ⟨w.heap.size, 1, none⟩ = some (.slice none 0 0) ∧ World.frozen? (w.alloc (.cells #[.bool false, .slice none 0 0] 24)) ⟨w.heap.size, 0, none⟩ = false ∧ World.frozen? (w.alloc (.cells #[.bool false, .slice none 0 0] 24)) ⟨w.heap.size, 1, none⟩ = false := by simp [go_sem]
  have hg0 : w.heap.size < ((w.alloc (.cells #[.bool false, .slice none 0 0] 24))).heap.size := World.block_lt_of_cell? _ _ c0_0
  have hts : t.size ≤ 1048576 := by rw [hT]; exact Nat.le_trans (tlm_size s) hl
  have HA := Lib.hid (ansZ_no hT hC hx hok (by rw [h1]; rfl))
  have HT := Lib.hid hT
  have HC := Lib.hid hC
  have HX := Lib.hid hx
  have HOK := Lib.hid hok
  clear hT hC hx hok
  subst h1
  go_enter Tryz.func14, Tryz.ntmps14
  go_wp2_with fail
  generalize (w.alloc (.cells #[.bool false, .slice none 0 0] 24)) = w0 at *
  have B0 := Below.refl w0.heap.size w0
  refine (cut_c _ s t c HT HC).mono ?_
  rintro e w1 ⟨rfl, hb⟩
  replace q0 := keep_frozen (w1 := w1) hb c0_0 q0
  replace c0_0 := keep_cell (w1 := w1) hb c0_0
  replace q1 := keep_frozen (w1 := w1) hb c0_1 q1
  replace c0_1 := keep_cell (w1 := w1) hb c0_1
  replace B0 := B0.trans (hb.mono B0.size)
  clear hb
  go_wp2_with fail
  refine (parseNat_h _ t hts xs false HX HOK).mono ?_
  rintro e w2 ⟨vo, rfl, ho1, hb⟩
  replace q0 := keep_frozen (w1 := w2) hb c0_0 q0
  replace c0_0 := keep_cell (w1 := w2) hb c0_0
  replace q1 := keep_frozen (w1 := w2) hb c0_1 q1
  replace c0_1 := keep_cell (w1 := w2) hb c0_1
  have Ho := Lib.hid (ho1.mono B0.size)
  clear ho1
  obtain ⟨ao, co, rfl, fo1, fo2, fo3, -, -⟩ := Ho.out.form
  replace B0 := B0.trans (hb.mono B0.size)
  clear hb
  go_wp2
  exact bodyPost_ret (v := .tuple #[.agg #[.bool false, .slice none 0 0], .bool false]) (by simp [results, Tryz.results14, go_sem, c0_0, c0_1]) rfl (retGB_of HA.out (retGB_end BW (by omega) hg0 B0 (Own.nil _ _)))

set_option maxHeartbeats 1000000 in
set_option maxRecDepth 100000 in
theorem parseBigInt_b (w : World) (s : ByteArray) (hl : s.size ≤ 1048576) (t : ByteArray) (c ok : Bool) (xs : List Int) (hT : t = bs (tlm s.data.toList)) (hC : c = mns s.data.toList) (hx : xs = pNs t) (hok : ok = pNb t) (h1 : ok = true) (h2 : c = true) (h3 : xs.length = 0) :
    Calls Tryz.prog 14 #[.string s] w (RetGB w (pZg s) (pZs s) (pZb s)) := by
  have BW : Below w.heap.size w (w.alloc (.cells #[.bool false, .slice none 0 0] 24)) := ((Below.refl w.heap.size w).alloc (Nat.le_refl _) _)
  obtain ⟨c0_0, c0_1, q0, q1⟩ : World.cell? (w.alloc (.cells #[.bool false, .slice none 0 0] 24)) ⟨w.heap.size, 0, none⟩ = some (.bool false) ∧ World.cell? (w.alloc (.cells #[.bool false, .slice none 0 0] 24)) ⟨w.heap.size, 1, none⟩ = some (.slice none 0 0) ∧ World.frozen? (w.alloc (.cells #[.bool false, .slice none 0 0] 24)) ⟨w.heap.size, 0, none⟩ = false ∧ World.frozen? (w.alloc (.cells #[.bool false, .slice none 0 0] 24)) ⟨w.heap.size, 1, none⟩ = false := by simp [go_sem]
  have hg0 : w.heap.size < ((w.alloc (.cells #[.bool false, .slice none 0 0] 24))).heap.size := World.block_lt_of_cell? _ _ c0_0
  have hts : t.size ≤ 1048576 := by rw [hT]; exact Nat.le_trans (tlm_size s) hl
  have HA := Lib.hid (ansZ_no hT hC hx hok (by rw [h1, h2, List.length_eq_zero_iff.1 h3]; rfl))
  have HT := Lib.hid hT
  have HC := Lib.hid hC
  have HX := Lib.hid hx
  have HOK := Lib.hid hok
  clear hT hC hx hok
  subst h1
  subst h2
  have d0 : ((xs.length : Int) == 0) = true := by rw [h3]; rfl
  clear h3
  go_enter Tryz.func14, Tryz.ntmps14
  go_wp2_with fail
  generalize (w.alloc (.cells #[.bool false, .slice none 0 0] 24)) = w0 at *
  have B0 := Below.refl w0.heap.size w0
  refine (cut_c _ s t true HT HC).mono ?_
  rintro e w1 ⟨rfl, hb⟩
  replace q0 := keep_frozen (w1 := w1) hb c0_0 q0
  replace c0_0 := keep_cell (w1 := w1) hb c0_0
  replace q1 := keep_frozen (w1 := w1) hb c0_1 q1
  replace c0_1 := keep_cell (w1 := w1) hb c0_1
  replace B0 := B0.trans (hb.mono B0.size)
  clear hb
  go_wp2_with fail
  refine (parseNat_h _ t hts xs true HX HOK).mono ?_
  rintro e w2 ⟨vo, rfl, ho1, hb⟩
  replace q0 := keep_frozen (w1 := w2) hb c0_0 q0
  replace c0_0 := keep_cell (w1 := w2) hb c0_0
  replace q1 := keep_frozen (w1 := w2) hb c0_1 q1
  replace c0_1 := keep_cell (w1 := w2) hb c0_1
  have Ho := Lib.hid (ho1.mono B0.size)
  clear ho1
  obtain ⟨ao, co, rfl, fo1, fo2, fo3, -, -⟩ := Ho.out.form
  replace B0 := B0.trans (hb.mono B0.size)
  clear hb
  go_wp2
  exact bodyPost_ret (v := .tuple #[.agg #[.bool false, .slice none 0 0], .bool false]) (by simp [results, Tryz.results14, go_sem, c0_0, c0_1]) rfl (retGB_of HA.out (retGB_end BW (by omega) hg0 B0 (Own.nil _ _)))

set_option maxHeartbeats 1000000 in
set_option maxRecDepth 100000 in
theorem parseBigInt_c (w : World) (s : ByteArray) (hl : s.size ≤ 1048576) (t : ByteArray) (c ok : Bool) (xs : List Int) (hT : t = bs (tlm s.data.toList)) (hC : c = mns s.data.toList) (hx : xs = pNs t) (hok : ok = pNb t) (h1 : ok = true) (h2 : c = true) (h3 : xs.length ≠ 0) :
    Calls Tryz.prog 14 #[.string s] w (RetGB w (pZg s) (pZs s) (pZb s)) := by
  have BW : Below w.heap.size w (w.alloc (.cells #[.bool false, .slice none 0 0] 24)) := ((Below.refl w.heap.size w).alloc (Nat.le_refl _) _)
  obtain ⟨c0_0, c0_1, q0, q1⟩ : World.cell? (w.alloc (.cells #[.bool false, .slice none 0 0] 24)) ⟨w.heap.size, 0, none⟩ = some (.bool false) ∧ World.cell? (w.alloc (.cells #[.bool false, .slice none 0 0] 24)) ⟨w.heap.size, 1, none⟩ = some (.slice none 0 0) ∧ World.frozen? (w.alloc (.cells #[.bool false, .slice none 0 0] 24)) ⟨w.heap.size, 0, none⟩ = false ∧ World.frozen? (w.alloc (.cells #[.bool false, .slice none 0 0] 24)) ⟨w.heap.size, 1, none⟩ = false := by simp [go_sem]
  have hg0 : w.heap.size < ((w.alloc (.cells #[.bool false, .slice none 0 0] 24))).heap.size := World.block_lt_of_cell? _ _ c0_0
  have hts : t.size ≤ 1048576 := by rw [hT]; exact Nat.le_trans (tlm_size s) hl
  have HA := Lib.hid (ansZ_yes hT hC hx hok (by rw [h1, h2]; cases xs with | nil => exact absurd rfl h3 | cons x r => rfl))
  have HT := Lib.hid hT
  have HC := Lib.hid hC
  have HX := Lib.hid hx
  have HOK := Lib.hid hok
  clear hT hC hx hok
  subst h1
  subst h2
  have d0 : ((xs.length : Int) == 0) = false := beq_eq_false_iff_ne.2 (by omega)
  have HNE : Hid (xs ≠ []) := fun e => h3 (by rw [e]; rfl)
  clear h3
  go_enter Tryz.func14, Tryz.ntmps14
  go_wp2_with fail
  generalize (w.alloc (.cells #[.bool false, .slice none 0 0] 24)) = w0 at *
  have B0 := Below.refl w0.heap.size w0
  refine (cut_c _ s t true HT HC).mono ?_
  rintro e w1 ⟨rfl, hb⟩
  replace q0 := keep_frozen (w1 := w1) hb c0_0 q0
  replace c0_0 := keep_cell (w1 := w1) hb c0_0
  replace q1 := keep_frozen (w1 := w1) hb c0_1 q1
  replace c0_1 := keep_cell (w1 := w1) hb c0_1
  replace B0 := B0.trans (hb.mono B0.size)
  clear hb
  go_wp2_with fail
  refine (parseNat_h _ t hts xs true HX HOK).mono ?_
  rintro e w2 ⟨vo, rfl, ho1, hb⟩
  replace q0 := keep_frozen (w1 := w2) hb c0_0 q0
  replace c0_0 := keep_cell (w1 := w2) hb c0_0
  replace q1 := keep_frozen (w1 := w2) hb c0_1 q1
  replace c0_1 := keep_cell (w1 := w2) hb c0_1
  have Ho := Lib.hid (ho1.mono B0.size)
  clear ho1
  obtain ⟨ao, co, rfl, fo1, fo2, fo3, -, -⟩ := Ho.out.form
  replace B0 := B0.trans (hb.mono B0.size)
  clear hb
  go_wp2_with fail
  refine (signed_some _ _ true _ xs Ho.out HNE.out).mono ?_
  rintro e w3 ⟨vr, rfl, ho2, hp, hb⟩
  replace q0 := keep_frozen (w1 := w3) hb c0_0 q0
  replace c0_0 := keep_cell (w1 := w3) hb c0_0
  replace q1 := keep_frozen (w1 := w3) hb c0_1 q1
  replace c0_1 := keep_cell (w1 := w3) hb c0_1
  replace Ho := Lib.hid (Ho.out.below hb (Nat.le_refl _))
  have Hr := Lib.hid ho2
  clear ho2
  obtain ⟨ar, cr, rfl, -, -, -, -, -⟩ := Hr.out.form
  replace B0 := B0.trans (hb.mono B0.size)
  clear hb
  go_wp2
  exact bodyPost_ret (v := .tuple #[.agg #[.bool true, .slice ar xs.length cr], .bool true]) (by simp [results, Tryz.results14, go_sem, c0_0, c0_1]) rfl (retGB_of HA.out (retGB_end BW (by omega) hg0 B0 Hr.out))

set_option maxHeartbeats 1000000 in
set_option maxRecDepth 100000 in
theorem parseBigInt_d (w : World) (s : ByteArray) (hl : s.size ≤ 1048576) (t : ByteArray) (c ok : Bool) (xs : List Int) (hT : t = bs (tlm s.data.toList)) (hC : c = mns s.data.toList) (hx : xs = pNs t) (hok : ok = pNb t) (h1 : ok = true) (h2 : c = false) :
    Calls Tryz.prog 14 #[.string s] w (RetGB w (pZg s) (pZs s) (pZb s)) := by
  have BW : Below w.heap.size w (w.alloc (.cells #[.bool false, .slice none 0 0] 24)) := ((Below.refl w.heap.size w).alloc (Nat.le_refl _) _)
  obtain ⟨c0_0, c0_1, q0, q1⟩ : World.cell? (w.alloc (.cells #[.bool false, .slice none 0 0] 24)) ⟨w.heap.size, 0, none⟩ = some (.bool false) ∧ World.cell? (w.alloc (.cells #[.bool false, .slice none 0 0] 24)) ⟨w.heap.size, 1, none⟩ = some (.slice none 0 0) ∧ World.frozen? (w.alloc (.cells #[.bool false, .slice none 0 0] 24)) ⟨w.heap.size, 0, none⟩ = false ∧ World.frozen? (w.alloc (.cells #[.bool false, .slice none 0 0] 24)) ⟨w.heap.size, 1, none⟩ = false := by simp [go_sem]
  have hg0 : w.heap.size < ((w.alloc (.cells #[.bool false, .slice none 0 0] 24))).heap.size := World.block_lt_of_cell? _ _ c0_0
  have hts : t.size ≤ 1048576 := by rw [hT]; exact Nat.le_trans (tlm_size s) hl
  have HA := Lib.hid (ansZ_yes hT hC hx hok (by rw [h1, h2]; rfl))
  have HT := Lib.hid hT
  have HC := Lib.hid hC
  have HX := Lib.hid hx
  have HOK := Lib.hid hok
  clear hT hC hx hok
  subst h1
  subst h2
  go_enter Tryz.func14, Tryz.ntmps14
  go_wp2_with fail
  generalize (w.alloc (.cells #[.bool false, .slice none 0 0] 24)) = w0 at *
  have B0 := Below.refl w0.heap.size w0
  refine (cut_c _ s t false HT HC).mono ?_
  rintro e w1 ⟨rfl, hb⟩
  replace q0 := keep_frozen (w1 := w1) hb c0_0 q0
  replace c0_0 := keep_cell (w1 := w1) hb c0_0
  replace q1 := keep_frozen (w1 := w1) hb c0_1 q1
  replace c0_1 := keep_cell (w1 := w1) hb c0_1
  replace B0 := B0.trans (hb.mono B0.size)
  clear hb
  go_wp2_with fail
  refine (parseNat_h _ t hts xs true HX HOK).mono ?_
  rintro e w2 ⟨vo, rfl, ho1, hb⟩
  replace q0 := keep_frozen (w1 := w2) hb c0_0 q0
  replace c0_0 := keep_cell (w1 := w2) hb c0_0
  replace q1 := keep_frozen (w1 := w2) hb c0_1 q1
  replace c0_1 := keep_cell (w1 := w2) hb c0_1
  have Ho := Lib.hid (ho1.mono B0.size)
  clear ho1
  obtain ⟨ao, co, rfl, fo1, fo2, fo3, -, -⟩ := Ho.out.form
  replace B0 := B0.trans (hb.mono B0.size)
  clear hb
  go_wp2_with fail
  refine (signed_pos _ _ _ xs Ho.out).mono ?_
  rintro e w3 ⟨vr, rfl, ho2, hp, hb⟩
  replace q0 := keep_frozen (w1 := w3) hb c0_0 q0
  replace c0_0 := keep_cell (w1 := w3) hb c0_0
  replace q1 := keep_frozen (w1 := w3) hb c0_1 q1
  replace c0_1 := keep_cell (w1 := w3) hb c0_1
  replace Ho := Lib.hid (Ho.out.below hb (Nat.le_refl _))
  have Hr := Lib.hid ho2
  clear ho2
  obtain ⟨ar, cr, rfl, -, -, -, -, -⟩ := Hr.out.form
  replace B0 := B0.trans (hb.mono B0.size)
  clear hb
  go_wp2
  exact bodyPost_ret (v := .tuple #[.agg #[.bool false, .slice ar xs.length cr], .bool true]) (by simp [results, Tryz.results14, go_sem, c0_0, c0_1]) rfl (retGB_of HA.out (retGB_end BW (by omega) hg0 B0 Hr.out))

theorem parseBigInt_all (w : World) (s : ByteArray) (hl : s.size ≤ 1048576) (t : ByteArray) (c ok : Bool) (xs : List Int) (hT : t = bs (tlm s.data.toList)) (hC : c = mns s.data.toList) (hx : xs = pNs t) (hok : ok = pNb t) : Calls Tryz.prog 14 #[.string s] w (RetGB w (pZg s) (pZs s) (pZb s)) := by
  by_cases h1 : ok = true
  · by_cases h2 : c = true
    · by_cases h3 : xs.length = 0
      · exact parseBigInt_b w s hl t c ok xs hT hC hx hok h1 h2 h3
      · exact parseBigInt_c w s hl t c ok xs hT hC hx hok h1 h2 h3
    · exact parseBigInt_d w s hl t c ok xs hT hC hx hok h1 (by simpa using h2)
  · exact parseBigInt_a w s hl t c ok xs hT hC hx hok (by simpa using h1)
theorem ParseBigInt_c (w : World) (s : ByteArray) (hl : s.size ≤ 1048576) : Calls Tryz.prog 14 #[.string s] w (RetGB w (pZg s) (pZs s) (pZb s)) := parseBigInt_all w s hl _ _ _ _ rfl rfl rfl rfl

set_option maxHeartbeats 1000000 in
set_option maxRecDepth 100000 in
theorem sParseBigInt_na (w : World) (s : ByteArray) (hl : s.size ≤ 1048576) (h0 : 0 < s.size) (h45 : s[0] = 45) (t : ByteArray) (ht : s.extract 1 s.size = t) (xs : List Int) (hx : xs = pNs t) (hok : false = pNb t) :
    Calls Tryz.prog 10 #[.string s] w (RetGB w (pZg s) (pZs s) (pZb s)) := by
  have BW : Below w.heap.size w (w.alloc (.cells #[.bool false, .slice none 0 0] 24)) := ((Below.refl w.heap.size w).alloc (Nat.le_refl _) _)
  obtain ⟨c0_0, c0_1, q0, q1⟩ : World.cell? (w.alloc (.cells #[.bool false, .slice none 0 0] 24)) ⟨w.heap.size, 0, none⟩ = some (.bool false) ∧ World.cell? (w.alloc (.cells #[.bool false, .slice none 0 0] 24)) ⟨w.heap.size, 1, none⟩ = some (.slice none 0 0) ∧ World.frozen? (w.alloc (.cells #[.bool false, .slice none 0 0] 24)) ⟨w.heap.size, 0, none⟩ = false ∧ World.frozen? (w.alloc (.cells #[.bool false, .slice none 0 0] 24)) ⟨w.heap.size, 1, none⟩ = false := by simp [go_sem]
  have hg0 : w.heap.size < ((w.alloc (.cells #[.bool false, .slice none 0 0] 24))).heap.size := World.block_lt_of_cell? _ _ c0_0
  obtain ⟨m1, m2⟩ := mns_neg h0 h45
  rw [ht] at m2
  have d0 : decide ((0 : Int) < s.size) = true := decide_eq_true (by omega)
  have d0n : decide (0 < s.size) = true := decide_eq_true h0
  have d1 : ((s[0].toNat : Int) == 45) = true := by rw [h45]; rfl
  have hs1 : (1 : Int) ≤ s.size := by omega
  have hts : t.size ≤ 1048576 := by rw [← ht, ByteArray.size_extract]; omega
  have HA := Lib.hid (ansZ_no m2.symm m1.symm hx hok (by rfl))
  have HX := Lib.hid hx
  have HOK := Lib.hid hok
  clear m1 m2 hx hok h45
  go_enter Tryz.func10, Tryz.ntmps10
  go_wp2_with fail
  generalize (w.alloc (.cells #[.bool false, .slice none 0 0] 24)) = w0 at *
  have B0 := Below.refl w0.heap.size w0
  refine (sParseNat_h _ t hts xs false HX HOK).mono ?_
  rintro e w1 ⟨vo, rfl, ho1, hb⟩
  replace q0 := keep_frozen (w1 := w1) hb c0_0 q0
  replace c0_0 := keep_cell (w1 := w1) hb c0_0
  replace q1 := keep_frozen (w1 := w1) hb c0_1 q1
  replace c0_1 := keep_cell (w1 := w1) hb c0_1
  have Ho := Lib.hid (ho1.mono B0.size)
  clear ho1
  obtain ⟨ao, co, rfl, fo1, fo2, fo3, -, -⟩ := Ho.out.form
  replace B0 := B0.trans (hb.mono B0.size)
  clear hb
  go_wp2
  exact bodyPost_ret (v := .tuple #[.agg #[.bool false, .slice none 0 0], .bool false]) (by simp [results, Tryz.results10, go_sem, c0_0, c0_1]) rfl (retGB_of HA.out (retGB_end BW (by omega) hg0 B0 (Own.nil _ _)))

set_option maxHeartbeats 1000000 in
set_option maxRecDepth 100000 in
theorem sParseBigInt_nb (w : World) (s : ByteArray) (hl : s.size ≤ 1048576) (h0 : 0 < s.size) (h45 : s[0] = 45) (t : ByteArray) (ht : s.extract 1 s.size = t) (xs : List Int) (hx : xs = pNs t) (hok : true = pNb t) (h3 : xs.length = 0) :
    Calls Tryz.prog 10 #[.string s] w (RetGB w (pZg s) (pZs s) (pZb s)) := by
  have BW : Below w.heap.size w (w.alloc (.cells #[.bool false, .slice none 0 0] 24)) := ((Below.refl w.heap.size w).alloc (Nat.le_refl _) _)
  obtain ⟨c0_0, c0_1, q0, q1⟩ : World.cell? (w.alloc (.cells #[.bool false, .slice none 0 0] 24)) ⟨w.heap.size, 0, none⟩ = some (.bool false) ∧ World.cell? (w.alloc (.cells #[.bool false, .slice none 0 0] 24)) ⟨w.heap.size, 1, none⟩ = some (.slice none 0 0) ∧ World.frozen? (w.alloc (.cells #[.bool false, .slice none 0 0] 24)) ⟨w.heap.size, 0, none⟩ = false ∧ World.frozen? (w.alloc (.cells #[.bool false, .slice none 0 0] 24)) ⟨w.heap.size, 1, none⟩ = false := by simp [go_sem]
  have hg0 : w.heap.size < ((w.alloc (.cells #[.bool false, .slice none 0 0] 24))).heap.size := World.block_lt_of_cell? _ _ c0_0
  obtain ⟨m1, m2⟩ := mns_neg h0 h45
  rw [ht] at m2
  have d0 : decide ((0 : Int) < s.size) = true := decide_eq_true (by omega)
  have d0n : decide (0 < s.size) = true := decide_eq_true h0
  have d1 : ((s[0].toNat : Int) == 45) = true := by rw [h45]; rfl
  have hs1 : (1 : Int) ≤ s.size := by omega
  have hts : t.size ≤ 1048576 := by rw [← ht, ByteArray.size_extract]; omega
  have HA := Lib.hid (ansZ_no m2.symm m1.symm hx hok (by rw [List.length_eq_zero_iff.1 h3]; rfl))
  have HX := Lib.hid hx
  have HOK := Lib.hid hok
  clear m1 m2 hx hok h45
  have d3 : ((xs.length : Int) == 0) = true := by rw [h3]; rfl
  clear h3
  go_enter Tryz.func10, Tryz.ntmps10
  go_wp2_with fail
  generalize (w.alloc (.cells #[.bool false, .slice none 0 0] 24)) = w0 at *
  have B0 := Below.refl w0.heap.size w0
  refine (sParseNat_h _ t hts xs true HX HOK).mono ?_
  rintro e w1 ⟨vo, rfl, ho1, hb⟩
  replace q0 := keep_frozen (w1 := w1) hb c0_0 q0
  replace c0_0 := keep_cell (w1 := w1) hb c0_0
  replace q1 := keep_frozen (w1 := w1) hb c0_1 q1
  replace c0_1 := keep_cell (w1 := w1) hb c0_1
  have Ho := Lib.hid (ho1.mono B0.size)
  clear ho1
  obtain ⟨ao, co, rfl, fo1, fo2, fo3, -, -⟩ := Ho.out.form
  replace B0 := B0.trans (hb.mono B0.size)
  clear hb
  go_wp2
  exact bodyPost_ret (v := .tuple #[.agg #[.bool false, .slice none 0 0], .bool false]) (by simp [results, Tryz.results10, go_sem, c0_0, c0_1]) rfl (retGB_of HA.out (retGB_end BW (by omega) hg0 B0 (Own.nil _ _)))

set_option maxHeartbeats 1000000 in
set_option maxRecDepth 100000 in
theorem sParseBigInt_nc (w : World) (s : ByteArray) (hl : s.size ≤ 1048576) (h0 : 0 < s.size) (h45 : s[0] = 45) (t : ByteArray) (ht : s.extract 1 s.size = t) (xs : List Int) (hx : xs = pNs t) (hok : true = pNb t) (h3 : xs.length ≠ 0) :
    Calls Tryz.prog 10 #[.string s] w (RetGB w (pZg s) (pZs s) (pZb s)) := by
  have BW : Below w.heap.size w (w.alloc (.cells #[.bool false, .slice none 0 0] 24)) := ((Below.refl w.heap.size w).alloc (Nat.le_refl _) _)
  obtain ⟨c0_0, c0_1, q0, q1⟩ : World.cell? (w.alloc (.cells #[.bool false, .slice none 0 0] 24)) ⟨w.heap.size, 0, none⟩ = some (.bool false) ∧ World.cell? (w.alloc (.cells #[.bool false, .slice none 0 0] 24)) ⟨w.heap.size, 1, none⟩ = some (.slice none 0 0) ∧ World.frozen? (w.alloc (.cells #[.bool false, .slice none 0 0] 24)) ⟨w.heap.size, 0, none⟩ = false ∧ World.frozen? (w.alloc (.cells #[.bool false, .slice none 0 0] 24)) ⟨w.heap.size, 1, none⟩ = false := by simp [go_sem]
  have hg0 : w.heap.size < ((w.alloc (.cells #[.bool false, .slice none 0 0] 24))).heap.size := World.block_lt_of_cell? _ _ c0_0
  obtain ⟨m1, m2⟩ := mns_neg h0 h45
  rw [ht] at m2
  have d0 : decide ((0 : Int) < s.size) = true := decide_eq_true (by omega)
  have d0n : decide (0 < s.size) = true := decide_eq_true h0
  have d1 : ((s[0].toNat : Int) == 45) = true := by rw [h45]; rfl
  have hs1 : (1 : Int) ≤ s.size := by omega
  have hts : t.size ≤ 1048576 := by rw [← ht, ByteArray.size_extract]; omega
  have HA := Lib.hid (ansZ_yes m2.symm m1.symm hx hok (by cases xs with | nil => exact absurd rfl h3 | cons x r => rfl))
  have HX := Lib.hid hx
  have HOK := Lib.hid hok
  clear m1 m2 hx hok h45
  have d3 : ((xs.length : Int) == 0) = false := beq_eq_false_iff_ne.2 (by omega)
  clear h3
  go_enter Tryz.func10, Tryz.ntmps10
  go_wp2_with fail
  generalize (w.alloc (.cells #[.bool false, .slice none 0 0] 24)) = w0 at *
  have B0 := Below.refl w0.heap.size w0
  refine (sParseNat_h _ t hts xs true HX HOK).mono ?_
  rintro e w1 ⟨vo, rfl, ho1, hb⟩
  replace q0 := keep_frozen (w1 := w1) hb c0_0 q0
  replace c0_0 := keep_cell (w1 := w1) hb c0_0
  replace q1 := keep_frozen (w1 := w1) hb c0_1 q1
  replace c0_1 := keep_cell (w1 := w1) hb c0_1
  have Ho := Lib.hid (ho1.mono B0.size)
  clear ho1
  obtain ⟨ao, co, rfl, fo1, fo2, fo3, -, -⟩ := Ho.out.form
  replace B0 := B0.trans (hb.mono B0.size)
  clear hb
  go_wp2
  exact bodyPost_ret (v := .tuple #[.agg #[.bool true, .slice ao xs.length co], .bool true]) (by simp [results, Tryz.results10, go_sem, c0_0, c0_1]) rfl (retGB_of HA.out (retGB_end BW (by omega) hg0 B0 Ho.out))

set_option maxHeartbeats 1000000 in
set_option maxRecDepth 100000 in
theorem sParseBigInt_pa (w : World) (s : ByteArray) (hl : s.size ≤ 1048576) (h0 : 0 < s.size) (h45 : s[0] ≠ 45) (xs : List Int) (hx : xs = pNs s) (hok : false = pNb s) :
    Calls Tryz.prog 10 #[.string s] w (RetGB w (pZg s) (pZs s) (pZb s)) := by
  have BW : Below w.heap.size w (w.alloc (.cells #[.bool false, .slice none 0 0] 24)) := ((Below.refl w.heap.size w).alloc (Nat.le_refl _) _)
  obtain ⟨c0_0, c0_1, q0, q1⟩ : World.cell? (w.alloc (.cells #[.bool false, .slice none 0 0] 24)) ⟨w.heap.size, 0, none⟩ = some (.bool false) ∧ World.cell? (w.alloc (.cells #[.bool false, .slice none 0 0] 24)) ⟨w.heap.size, 1, none⟩ = some (.slice none 0 0) ∧ World.frozen? (w.alloc (.cells #[.bool false, .slice none 0 0] 24)) ⟨w.heap.size, 0, none⟩ = false ∧ World.frozen? (w.alloc (.cells #[.bool false, .slice none 0 0] 24)) ⟨w.heap.size, 1, none⟩ = false := by simp [go_sem]
  have hg0 : w.heap.size < ((w.alloc (.cells #[.bool false, .slice none 0 0] 24))).heap.size := World.block_lt_of_cell? _ _ c0_0
  obtain ⟨m1, m2⟩ := mns_pos (s := s) (fun _ => h45)
  have d0 : decide ((0 : Int) < s.size) = true := decide_eq_true (by omega)
  have d0n : decide (0 < s.size) = true := decide_eq_true h0
  have d1 : ((s[0].toNat : Int) == 45) = false := beq_eq_false_iff_ne.2 (fun e => h45 (UInt8.toNat_inj.1 (by have e2 : (45 : UInt8).toNat = 45 := rfl; omega)))
  have HA := Lib.hid (ansZ_no m2.symm m1.symm hx hok (by rfl))
  have HX := Lib.hid hx
  have HOK := Lib.hid hok
  clear m1 m2 hx hok h45
  go_enter Tryz.func10, Tryz.ntmps10
  go_wp2_with fail
  generalize (w.alloc (.cells #[.bool false, .slice none 0 0] 24)) = w0 at *
  have B0 := Below.refl w0.heap.size w0
  refine (sParseNat_h _ s hl xs false HX HOK).mono ?_
  rintro e w1 ⟨vo, rfl, ho1, hb⟩
  replace q0 := keep_frozen (w1 := w1) hb c0_0 q0
  replace c0_0 := keep_cell (w1 := w1) hb c0_0
  replace q1 := keep_frozen (w1 := w1) hb c0_1 q1
  replace c0_1 := keep_cell (w1 := w1) hb c0_1
  have Ho := Lib.hid (ho1.mono B0.size)
  clear ho1
  obtain ⟨ao, co, rfl, fo1, fo2, fo3, -, -⟩ := Ho.out.form
  replace B0 := B0.trans (hb.mono B0.size)
  clear hb
  go_wp2
  exact bodyPost_ret (v := .tuple #[.agg #[.bool false, .slice none 0 0], .bool false]) (by simp [results, Tryz.results10, go_sem, c0_0, c0_1]) rfl (retGB_of HA.out (retGB_end BW (by omega) hg0 B0 (Own.nil _ _)))

set_option maxHeartbeats 1000000 in
set_option maxRecDepth 100000 in
theorem sParseBigInt_pd (w : World) (s : ByteArray) (hl : s.size ≤ 1048576) (h0 : 0 < s.size) (h45 : s[0] ≠ 45) (xs : List Int) (hx : xs = pNs s) (hok : true = pNb s) :
    Calls Tryz.prog 10 #[.string s] w (RetGB w (pZg s) (pZs s) (pZb s)) := by
  have BW : Below w.heap.size w (w.alloc (.cells #[.bool false, .slice none 0 0] 24)) := ((Below.refl w.heap.size w).alloc (Nat.le_refl _) _)
  obtain ⟨c0_0, c0_1, q0, q1⟩ : World.cell? (w.alloc (.cells #[.bool false, .slice none 0 0] 24)) ⟨w.heap.size, 0, none⟩ = some (.bool false) ∧ World.cell? (w.alloc (.cells #[.bool false, .slice none 0 0] 24)) ⟨w.heap.size, 1, none⟩ = some (.slice none 0 0) ∧ World.frozen? (w.alloc (.cells #[.bool false, .slice none 0 0] 24)) ⟨w.heap.size, 0, none⟩ = false ∧ World.frozen? (w.alloc (.cells #[.bool false, .slice none 0 0] 24)) ⟨w.heap.size, 1, none⟩ = false := by simp [go_sem]
  have hg0 : w.heap.size < ((w.alloc (.cells #[.bool false, .slice none 0 0] 24))).heap.size := World.block_lt_of_cell? _ _ c0_0
  obtain ⟨m1, m2⟩ := mns_pos (s := s) (fun _ => h45)
  have d0 : decide ((0 : Int) < s.size) = true := decide_eq_true (by omega)
  have d0n : decide (0 < s.size) = true := decide_eq_true h0
  have d1 : ((s[0].toNat : Int) == 45) = false := beq_eq_false_iff_ne.2 (fun e => h45 (UInt8.toNat_inj.1 (by have e2 : (45 : UInt8).toNat = 45 := rfl; omega)))
  have HA := Lib.hid (ansZ_yes m2.symm m1.symm hx hok (by rfl))
  have HX := Lib.hid hx
  have HOK := Lib.hid hok
  clear m1 m2 hx hok h45
  go_enter Tryz.func10, Tryz.ntmps10
  go_wp2_with fail
  generalize (w.alloc (.cells #[.bool false, .slice none 0 0] 24)) = w0 at *
  have B0 := Below.refl w0.heap.size w0
  refine (sParseNat_h _ s hl xs true HX HOK).mono ?_
  rintro e w1 ⟨vo, rfl, ho1, hb⟩
  replace q0 := keep_frozen (w1 := w1) hb c0_0 q0
  replace c0_0 := keep_cell (w1 := w1) hb c0_0
  replace q1 := keep_frozen (w1 := w1) hb c0_1 q1
  replace c0_1 := keep_cell (w1 := w1) hb c0_1
  have Ho := Lib.hid (ho1.mono B0.size)
  clear ho1
  obtain ⟨ao, co, rfl, fo1, fo2, fo3, -, -⟩ := Ho.out.form
  replace B0 := B0.trans (hb.mono B0.size)
  clear hb
  go_wp2
  exact bodyPost_ret (v := .tuple #[.agg #[.bool false, .slice ao xs.length co], .bool true]) (by simp [results, Tryz.results10, go_sem, c0_0, c0_1]) rfl (retGB_of HA.out (retGB_end BW (by omega) hg0 B0 Ho.out))

set_option maxHeartbeats 1000000 in
set_option maxRecDepth 100000 in
theorem sParseBigInt_ea (w : World) (s : ByteArray) (hl : s.size ≤ 1048576) (h0 : s.size = 0) (xs : List Int) (hx : xs = pNs s) (hok : false = pNb s) :
    Calls Tryz.prog 10 #[.string s] w (RetGB w (pZg s) (pZs s) (pZb s)) := by
  have BW : Below w.heap.size w (w.alloc (.cells #[.bool false, .slice none 0 0] 24)) := ((Below.refl w.heap.size w).alloc (Nat.le_refl _) _)
  obtain ⟨c0_0, c0_1, q0, q1⟩ : World.cell? (w.alloc (.cells #[.bool false, .slice none 0 0] 24)) ⟨w.heap.size, 0, none⟩ = some (.bool false) ∧ World.cell? (w.alloc (.cells #[.bool false, .slice none 0 0] 24)) ⟨w.heap.size, 1, none⟩ = some (.slice none 0 0) ∧ World.frozen? (w.alloc (.cells #[.bool false, .slice none 0 0] 24)) ⟨w.heap.size, 0, none⟩ = false ∧ World.frozen? (w.alloc (.cells #[.bool false, .slice none 0 0] 24)) ⟨w.heap.size, 1, none⟩ = false := by simp [go_sem]
  have hg0 : w.heap.size < ((w.alloc (.cells #[.bool false, .slice none 0 0] 24))).heap.size := World.block_lt_of_cell? _ _ c0_0
  obtain ⟨m1, m2⟩ := mns_pos (s := s) (fun h => absurd h (by omega))
  have d0 : decide ((0 : Int) < s.size) = false := decide_eq_false (by omega)
  have d0n : decide (0 < s.size) = false := decide_eq_false (by omega)
  have HA := Lib.hid (ansZ_no m2.symm m1.symm hx hok (by rfl))
  have HX := Lib.hid hx
  have HOK := Lib.hid hok
  clear m1 m2 hx hok h0
  go_enter Tryz.func10, Tryz.ntmps10
  go_wp2_with fail
  generalize (w.alloc (.cells #[.bool false, .slice none 0 0] 24)) = w0 at *
  have B0 := Below.refl w0.heap.size w0
  refine (sParseNat_h _ s hl xs false HX HOK).mono ?_
  rintro e w1 ⟨vo, rfl, ho1, hb⟩
  replace q0 := keep_frozen (w1 := w1) hb c0_0 q0
  replace c0_0 := keep_cell (w1 := w1) hb c0_0
  replace q1 := keep_frozen (w1 := w1) hb c0_1 q1
  replace c0_1 := keep_cell (w1 := w1) hb c0_1
  have Ho := Lib.hid (ho1.mono B0.size)
  clear ho1
  obtain ⟨ao, co, rfl, fo1, fo2, fo3, -, -⟩ := Ho.out.form
  replace B0 := B0.trans (hb.mono B0.size)
  clear hb
  go_wp2
  exact bodyPost_ret (v := .tuple #[.agg #[.bool false, .slice none 0 0], .bool false]) (by simp [results, Tryz.results10, go_sem, c0_0, c0_1]) rfl (retGB_of HA.out (retGB_end BW (by omega) hg0 B0 (Own.nil _ _)))

set_option maxHeartbeats 1000000 in
set_option maxRecDepth 100000 in
theorem sParseBigInt_ed (w : World) (s : ByteArray) (hl : s.size ≤ 1048576) (h0 : s.size = 0) (xs : List Int) (hx : xs = pNs s) (hok : true = pNb s) :
    Calls Tryz.prog 10 #[.string s] w (RetGB w (pZg s) (pZs s) (pZb s)) := by
  have BW : Below w.heap.size w (w.alloc (.cells #[.bool false, .slice none 0 0] 24)) := ((Below.refl w.heap.size w).alloc (Nat.le_refl _) _)
  obtain ⟨c0_0, c0_1, q0, q1⟩ : World.cell? (w.alloc (.cells #[.bool false, .slice none 0 0] 24)) ⟨w.heap.size, 0, none⟩ = some (.bool false) ∧ World.cell? (w.alloc (.cells #[.bool false, .slice none 0 0] 24)) ⟨w.heap.size, 1, none⟩ = some (.slice none 0 0) ∧ World.frozen? (w.alloc (.cells #[.bool false, .slice none 0 0] 24)) ⟨w.heap.size, 0, none⟩ = false ∧ World.frozen? (w.alloc (.cells #[.bool false, .slice none 0 0] 24)) ⟨w.heap.size, 1, none⟩ = false := by simp [go_sem]
  have hg0 : w.heap.size < ((w.alloc (.cells #[.bool false, .slice none 0 0] 24))).heap.size := World.block_lt_of_cell? _ _ c0_0
  obtain ⟨m1, m2⟩ := mns_pos (s := s) (fun h => absurd h (by omega))
  have d0 : decide ((0 : Int) < s.size) = false := decide_eq_false (by omega)
  have d0n : decide (0 < s.size) = false := decide_eq_false (by omega)
  have HA := Lib.hid (ansZ_yes m2.symm m1.symm hx hok (by rfl))
  have HX := Lib.hid hx
  have HOK := Lib.hid hok
  clear m1 m2 hx hok h0
  go_enter Tryz.func10, Tryz.ntmps10
  go_wp2_with fail
  generalize (w.alloc (.cells #[.bool false, .slice none 0 0] 24)) = w0 at *
  have B0 := Below.refl w0.heap.size w0
  refine (sParseNat_h _ s hl xs true HX HOK).mono ?_
  rintro e w1 ⟨vo, rfl, ho1, hb⟩
  replace q0 := keep_frozen (w1 := w1) hb c0_0 q0
  replace c0_0 := keep_cell (w1 := w1) hb c0_0
  replace q1 := keep_frozen (w1 := w1) hb c0_1 q1
  replace c0_1 := keep_cell (w1 := w1) hb c0_1
  have Ho := Lib.hid (ho1.mono B0.size)
  clear ho1
  obtain ⟨ao, co, rfl, fo1, fo2, fo3, -, -⟩ := Ho.out.form
  replace B0 := B0.trans (hb.mono B0.size)
  clear hb
  go_wp2
  exact bodyPost_ret (v := .tuple #[.agg #[.bool false, .slice ao xs.length co], .bool true]) (by simp [results, Tryz.results10, go_sem, c0_0, c0_1]) rfl (retGB_of HA.out (retGB_end BW (by omega) hg0 B0 Ho.out))

theorem ok_cases (b : Bool) : false = b ∨ true = b := by cases b <;> simp
theorem sParseBigInt_c (w : World) (s : ByteArray) (hl : s.size ≤ 1048576) : Calls Tryz.prog 10 #[.string s] w (RetGB w (pZg s) (pZs s) (pZb s)) := by
  by_cases h0 : s.size = 0
  · rcases ok_cases (pNb s) with hk | hk
    · exact sParseBigInt_ea w s hl h0 _ rfl hk
    · exact sParseBigInt_ed w s hl h0 _ rfl hk
  · have hp : 0 < s.size := by omega
    by_cases h45 : s[0] = 45
    · rcases ok_cases (pNb (s.extract 1 s.size)) with hk | hk
      · exact sParseBigInt_na w s hl hp h45 _ rfl _ rfl hk
      · by_cases h3 : (pNs (s.extract 1 s.size)).length = 0
        · exact sParseBigInt_nb w s hl hp h45 _ rfl _ rfl hk h3
        · exact sParseBigInt_nc w s hl hp h45 _ rfl _ rfl hk h3
    · rcases ok_cases (pNb s) with hk | hk
      · exact sParseBigInt_pa w s hl hp h45 _ rfl hk
      · exact sParseBigInt_pd w s hl hp h45 _ rfl hk

end Go.Proofs.YtcajdlpbdihbeaaGreatDoor
