/- Merged texts. -/
import Derived.Test.YtijeplcjbhkkoaaGreatDoorParG
import Derived.Test.YtijeplcjbhkkoaaGreatDoorBigG
import Derived.Test.YtijeplcjbhkkoaaGreatDoorShelf
import Derived.Test.YtijeplcjbhkkoaaGreatDoorStrG
import Derived.Lib.Repeat
import Derived.Lib.Join
import Derived.Test.YtijeplcjbhkkoaaGreatDoorMathG
import Derived.Test.YtijeplcjbhkkoaaGreatDoorNatH

/- ParseBigInt: the program's and the reference's. -/
namespace Go.Proofs.YtijeplcjbhkkoaaGreatDoor
open Go.RowKit Tx Go.Lib Lm

/-- A signed number and a bool. -/
def RetGB (w : World) (s : Bool) (xs : List Int) (c : Bool) (e : Ending) (w' : World) : Prop := ∃ u, e = .returned (.tuple #[.agg #[.bool s, u], .bool c]) ∧ Own w' w.heap.size u xs ∧ Below w.heap.size w w'
theorem retGB_end {w w0 wk : World} {g : Nat} {s c : Bool} {u : Value} {xs : List Int} (BW : Below w.heap.size w w0) (hg : w.heap.size ≤ g) (hg0 : g < w0.heap.size) (B0 : Below w0.heap.size w0 wk) (ho : Own wk w0.heap.size u xs) :
    RetGB w s xs c (.returned (.tuple #[.agg #[.bool s, u], .bool c])) ((wk.setCell ⟨g, 0, none⟩ (.bool s)).setCell ⟨g, 1, none⟩ u) :=
  ⟨u, rfl, ((ho.setBelow2 (a := ⟨g, 0, none⟩) hg0 _).setBelow2 (a := ⟨g, 1, none⟩) hg0 _).mono BW.size, ((BW.trans (B0.mono BW.size)).setCell hg _).setCell hg _⟩
/-- A string and a bool. -/
def RetTB (w : World) (t : ByteArray) (c : Bool) (e : Ending) (w' : World) : Prop := e = .returned (.tuple #[.string t, .bool c]) ∧ Below w.heap.size w w'
/-- Has it a minus. -/
def mns (l : List UInt8) : Bool := Lib.hasPrefix l [45]
def tlm (l : List UInt8) : List UInt8 := Lib.trimPrefix l [45]
theorem mns_cons (c : UInt8) (l : List UInt8) : mns (c :: l) = (c == 45) := by
  unfold mns Lib.hasPrefix
  show ((45 : UInt8) == c && ([] : List UInt8).isPrefixOf l) = _
  rw [show ([] : List UInt8).isPrefixOf l = true from by cases l <;> rfl, Bool.and_true, Bool.eq_iff_iff, beq_iff_eq, beq_iff_eq]
  exact eq_comm
theorem mns_nil : mns [] = false := rfl
theorem mns_neg {s : ByteArray} (h0 : 0 < s.size) (h : s[0] = 45) : mns s.data.toList = true ∧ bs (tlm s.data.toList) = s.extract 1 s.size := by
  have e := tail_list s h0 h
  refine ⟨by rw [e, mns_cons]; rfl, ?_⟩
  unfold tlm Lib.trimPrefix
  rw [if_pos (by show mns _ = true; rw [e, mns_cons]; rfl), e]
  exact bs_list _
theorem mns_pos {s : ByteArray} (h : ∀ h : 0 < s.size, s[0] ≠ 45) : mns s.data.toList = false ∧ bs (tlm s.data.toList) = s := by
  have e : mns s.data.toList = false := by
    have h2 := head_not h
    cases hl : s.data.toList with
    | nil => rfl
    | cons c r =>
      rw [hl] at h2
      rw [mns_cons]
      exact beq_eq_false_iff_ne.2 (fun e => h2 (by rw [e]; rfl))
  refine ⟨e, ?_⟩
  unfold tlm Lib.trimPrefix
  rw [if_neg (by show ¬ mns _ = true; rw [e]; simp)]
  exact bs_list _
theorem cut_c (w : World) (s t : ByteArray) (c : Bool) (hT : Hid (t = bs (tlm s.data.toList))) (hC : Hid (c = mns s.data.toList)) : Calls Tryz.prog 66 #[.string s, .string { data := #[45] }] w (RetTB w t c) := by
  refine (Tryz.strings_CutPrefix s { data := #[45] } w).mono ?_
  rintro e w' ⟨rfl, rfl⟩
  rw [hT.out, hC.out]
  exact ⟨rfl, Below.refl _ _⟩
/-- ParseBigInt: does it succeed; the sign; the limbs. -/
noncomputable def pZb (s : ByteArray) : Bool := pNb (bs (tlm s.data.toList)) && !(mns s.data.toList && (pNs (bs (tlm s.data.toList))).isEmpty)
noncomputable def pZg (s : ByteArray) : Bool := if pZb s = true then mns s.data.toList else false
noncomputable def pZs (s : ByteArray) : List Int := if pZb s = true then pNs (bs (tlm s.data.toList)) else []
theorem pZs_len (s : ByteArray) : (pZs s).length ≤ 60 := by
  unfold pZs
  split
  · exact pNs_len _
  · simp
/-- What ParseBigInt answers, from what ParseNat answers on the rest. -/
def AnsZ (s : ByteArray) (g : Bool) (xs : List Int) (b : Bool) : Prop := g = pZg s ∧ xs = pZs s ∧ b = pZb s
theorem ansZ_no {s t : ByteArray} {c ok : Bool} {xs : List Int} (hT : t = bs (tlm s.data.toList)) (hC : c = mns s.data.toList) (hx : xs = pNs t) (hok : ok = pNb t) (h : (ok && !(c && xs.isEmpty)) = false) : AnsZ s false [] false := by
  have e : pZb s = false := by unfold pZb; rw [← hT, ← hC, ← hx, ← hok]; exact h
  unfold AnsZ pZg pZs
  rw [e]
  exact ⟨rfl, rfl, rfl⟩
theorem ansZ_yes {s t : ByteArray} {c ok : Bool} {xs : List Int} (hT : t = bs (tlm s.data.toList)) (hC : c = mns s.data.toList) (hx : xs = pNs t) (hok : ok = pNb t) (h : (ok && !(c && xs.isEmpty)) = true) : AnsZ s c xs true := by
  have e : pZb s = true := by unfold pZb; rw [← hT, ← hC, ← hx, ← hok]; exact h
  unfold AnsZ pZg pZs
  rw [e, ← hT, ← hC, ← hx]
  exact ⟨rfl, rfl, rfl⟩
theorem retGB_of {w w' : World} {s : ByteArray} {g b : Bool} {xs : List Int} {e : Ending} (h : AnsZ s g xs b) (k : RetGB w g xs b e w') : RetGB w (pZg s) (pZs s) (pZb s) e w' := by
  obtain ⟨h1, h2, h3⟩ := h
  rw [← h1, ← h2, ← h3]
  exact k
theorem parseNat_h (w : World) (t : ByteArray) (hl : t.size ≤ 1048576) (xs : List Int) (ok : Bool) (hx : Hid (xs = pNs t)) (hok : Hid (ok = pNb t)) : Calls Tryz.prog 34 #[.string t] w (RetSB w xs ok) := by
  rw [hx.out, hok.out]
  exact parseNat_c w t hl
theorem signed_pos (w : World) (b1 : Nat) (v1 : Value) (xs : List Int) (h1 : Own w b1 v1 xs) : Calls Tryz.prog 67 #[.bool false, v1] w (RetGV w b1 v1 false xs) := by
  by_cases hx : xs = []
  · subst hx; exact signed_nil w b1 false v1 h1
  · exact signed_some w b1 false v1 xs h1 hx
theorem tlm_size (s : ByteArray) : (bs (tlm s.data.toList)).size ≤ s.size := by
  rw [bs_size, size_list]
  unfold tlm Lib.trimPrefix
  split
  · rw [List.length_drop]; omega
  · omega

set_option maxHeartbeats 1000000 in
set_option maxRecDepth 100000 in
theorem parseBigInt_a (w : World) (s : ByteArray) (hl : s.size ≤ 1048576) (t : ByteArray) (c ok : Bool) (xs : List Int) (hT : t = bs (tlm s.data.toList)) (hC : c = mns s.data.toList) (hx : xs = pNs t) (hok : ok = pNb t) (h1 : ok = false) :
    Calls Tryz.prog 33 #[.string s] w (RetGB w (pZg s) (pZs s) (pZb s)) := by
  have BW : Below w.heap.size w (w.alloc (.cells #[.bool false, .slice none 0 0] 25)) := ((Below.refl w.heap.size w).alloc (Nat.le_refl _) _)
  obtain ⟨c0_0, c0_1, q0, q1⟩ : World.cell? (w.alloc (.cells #[.bool false, .slice none 0 0] 25)) ⟨w.heap.size, 0, none⟩ = some (.bool false) ∧ World.cell? (w.alloc (.cells #[.bool false, .slice none 0 0] 25)) ⟨w.heap.size, 1, none⟩ = some (.slice none 0 0) ∧ World.frozen? (w.alloc (.cells #[.bool false, .slice none 0 0] 25)) ⟨w.heap.size, 0, none⟩ = false ∧ World.frozen? (w.alloc (.cells #[.bool false, .slice none 0 0] 25)) ⟨w.heap.size, 1, none⟩ = false := by simp [go_sem]
  have hg0 : w.heap.size < ((w.alloc (.cells #[.bool false, .slice none 0 0] 25))).heap.size := World.block_lt_of_cell? _ _ c0_0
  have hts : t.size ≤ 1048576 := by rw [hT]; exact Nat.le_trans (tlm_size s) hl
  have HA := Lib.hid (ansZ_no hT hC hx hok (by rw [h1]; rfl))
  have HT := Lib.hid hT
  have HC := Lib.hid hC
  have HX := Lib.hid hx
  have HOK := Lib.hid hok
  clear hT hC hx hok
  subst h1
  go_enter Tryz.func33, Tryz.ntmps33
  go_wp2_with fail
  generalize (w.alloc (.cells #[.bool false, .slice none 0 0] 25)) = w0 at *
  have B0 := Below.refl w0.heap.size w0
  refine (cut_c _ s t c HT HC).mono ?_
  rintro e w1 ⟨rfl, hb⟩
  replace q0 := keep_frozen (w1 := w1) hb c0_0 q0
  replace c0_0 := keep_cell (w1 := w1) hb c0_0
  replace q1 := keep_frozen (w1 := w1) hb c0_1 q1
  replace c0_1 := keep_cell (w1 := w1) hb c0_1
  replace B0 := B0.trans (hb.mono B0.size)
  clear hb
  go_wp2_with fail
  refine (parseNat_h _ t hts xs false HX HOK).mono ?_
  rintro e w2 ⟨vo, rfl, ho1, hb⟩
  replace q0 := keep_frozen (w1 := w2) hb c0_0 q0
  replace c0_0 := keep_cell (w1 := w2) hb c0_0
  replace q1 := keep_frozen (w1 := w2) hb c0_1 q1
  replace c0_1 := keep_cell (w1 := w2) hb c0_1
  have Ho := Lib.hid (ho1.mono B0.size)
  clear ho1
  obtain ⟨ao, co, rfl, fo1, fo2, fo3, -, -⟩ := Ho.out.form
  replace B0 := B0.trans (hb.mono B0.size)
  clear hb
  go_wp2
  exact bodyPost_ret (v := .tuple #[.agg #[.bool false, .slice none 0 0], .bool false]) (by simp [results, Tryz.results33, go_sem, c0_0, c0_1]) rfl (retGB_of HA.out (retGB_end BW (by omega) hg0 B0 (Own.nil _ _)))

set_option maxHeartbeats 1000000 in
set_option maxRecDepth 100000 in
theorem parseBigInt_b (w : World) (s : ByteArray) (hl : s.size ≤ 1048576) (t : ByteArray) (c ok : Bool) (xs : List Int) (hT : t = bs (tlm s.data.toList)) (hC : c = mns s.data.toList) (hx : xs = pNs t) (hok : ok = pNb t) (h1 : ok = true) (h2 : c = true) (h3 : xs.length = 0) :
    Calls Tryz.prog 33 #[.string s] w (RetGB w (pZg s) (pZs s) (pZb s)) := by
  have BW : Below w.heap.size w (w.alloc (.cells #[.bool false, .slice none 0 0] 25)) := ((Below.refl w.heap.size w).alloc (Nat.le_refl _) _)
  obtain ⟨c0_0, c0_1, q0, q1⟩ : World.cell? (w.alloc (.cells #[.bool false, .slice none 0 0] 25)) ⟨w.heap.size, 0, none⟩ = some (.bool false) ∧ World.cell? (w.alloc (.cells #[.bool false, .slice none 0 0] 25)) ⟨w.heap.size, 1, none⟩ = some (.slice none 0 0) ∧ World.frozen? (w.alloc (.cells #[.bool false, .slice none 0 0] 25)) ⟨w.heap.size, 0, none⟩ = false ∧ World.frozen? (w.alloc (.cells #[.bool false, .slice none 0 0] 25)) ⟨w.heap.size, 1, none⟩ = false := by simp [go_sem]
  have hg0 : w.heap.size < ((w.alloc (.cells #[.bool false, .slice none 0 0] 25))).heap.size := World.block_lt_of_cell? _ _ c0_0
  have hts : t.size ≤ 1048576 := by rw [hT]; exact Nat.le_trans (tlm_size s) hl
  have HA := Lib.hid (ansZ_no hT hC hx hok (by rw [h1, h2, List.length_eq_zero_iff.1 h3]; rfl))
  have HT := Lib.hid hT
  have HC := Lib.hid hC
  have HX := Lib.hid hx
  have HOK := Lib.hid hok
  clear hT hC hx hok
  subst h1
  subst h2
  have d0 : ((xs.length : Int) == 0) = true := by rw [h3]; rfl
  clear h3
  go_enter Tryz.func33, Tryz.ntmps33
  go_wp2_with fail
  generalize (w.alloc (.cells #[.bool false, .slice none 0 0] 25)) = w0 at *
  have B0 := Below.refl w0.heap.size w0
  refine (cut_c _ s t true HT HC).mono ?_
  rintro e w1 ⟨rfl, hb⟩
  replace q0 := keep_frozen (w1 := w1) hb c0_0 q0
  replace c0_0 := keep_cell (w1 := w1) hb c0_0
  replace q1 := keep_frozen (w1 := w1) hb c0_1 q1
  replace c0_1 := keep_cell (w1 := w1) hb c0_1
  replace B0 := B0.trans (hb.mono B0.size)
  clear hb
  go_wp2_with fail
  refine (parseNat_h _ t hts xs true HX HOK).mono ?_
  rintro e w2 ⟨vo, rfl, ho1, hb⟩
  replace q0 := keep_frozen (w1 := w2) hb c0_0 q0
  replace c0_0 := keep_cell (w1 := w2) hb c0_0
  replace q1 := keep_frozen (w1 := w2) hb c0_1 q1
  replace c0_1 := keep_cell (w1 := w2) hb c0_1
  have Ho := Lib.hid (ho1.mono B0.size)
  clear ho1
  obtain ⟨ao, co, rfl, fo1, fo2, fo3, -, -⟩ := Ho.out.form
  replace B0 := B0.trans (hb.mono B0.size)
  clear hb
  go_wp2
  exact bodyPost_ret (v := .tuple #[.agg #[.bool false, .slice none 0 0], .bool false]) (by simp [results, Tryz.results33, go_sem, c0_0, c0_1]) rfl (retGB_of HA.out (retGB_end BW (by omega) hg0 B0 (Own.nil _ _)))

set_option maxHeartbeats 1000000 in
set_option maxRecDepth 100000 in
theorem parseBigInt_c (w : World) (s : ByteArray) (hl : s.size ≤ 1048576) (t : ByteArray) (c ok : Bool) (xs : List Int) (hT : t = bs (tlm s.data.toList)) (hC : c = mns s.data.toList) (hx : xs = pNs t) (hok : ok = pNb t) (h1 : ok = true) (h2 : c = true) (h3 : xs.length ≠ 0) :
    Calls Tryz.prog 33 #[.string s] w (RetGB w (pZg s) (pZs s) (pZb s)) := by
  have BW : Below w.heap.size w (w.alloc (.cells #[.bool false, .slice none 0 0] 25)) := ((Below.refl w.heap.size w).alloc (Nat.le_refl _) _)
  obtain ⟨c0_0, c0_1, q0, q1⟩ : World.cell? (w.alloc (.cells #[.bool false, .slice none 0 0] 25)) ⟨w.heap.size, 0, none⟩ = some (.bool false) ∧ World.cell? (w.alloc (.cells #[.bool false, .slice none 0 0] 25)) ⟨w.heap.size, 1, none⟩ = some (.slice none 0 0) ∧ World.frozen? (w.alloc (.cells #[.bool false, .slice none 0 0] 25)) ⟨w.heap.size, 0, none⟩ = false ∧ World.frozen? (w.alloc (.cells #[.bool false, .slice none 0 0] 25)) ⟨w.heap.size, 1, none⟩ = false := by simp [go_sem]
  have hg0 : w.heap.size < ((w.alloc (.cells #[.bool false, .slice none 0 0] 25))).heap.size := World.block_lt_of_cell? _ _ c0_0
  have hts : t.size ≤ 1048576 := by rw [hT]; exact Nat.le_trans (tlm_size s) hl
  have HA := Lib.hid (ansZ_yes hT hC hx hok (by rw [h1, h2]; cases xs with | nil => exact absurd rfl h3 | cons x r => rfl))
  have HT := Lib.hid hT
  have HC := Lib.hid hC
  have HX := Lib.hid hx
  have HOK := Lib.hid hok
  clear hT hC hx hok
  subst h1
  subst h2
  have d0 : ((xs.length : Int) == 0) = false := beq_eq_false_iff_ne.2 (by omega)
  have HNE : Hid (xs ≠ []) := fun e => h3 (by rw [e]; rfl)
  clear h3
  go_enter Tryz.func33, Tryz.ntmps33
  go_wp2_with fail
  generalize (w.alloc (.cells #[.bool false, .slice none 0 0] 25)) = w0 at *
  have B0 := Below.refl w0.heap.size w0
  refine (cut_c _ s t true HT HC).mono ?_
  rintro e w1 ⟨rfl, hb⟩
  replace q0 := keep_frozen (w1 := w1) hb c0_0 q0
  replace c0_0 := keep_cell (w1 := w1) hb c0_0
  replace q1 := keep_frozen (w1 := w1) hb c0_1 q1
  replace c0_1 := keep_cell (w1 := w1) hb c0_1
  replace B0 := B0.trans (hb.mono B0.size)
  clear hb
  go_wp2_with fail
  refine (parseNat_h _ t hts xs true HX HOK).mono ?_
  rintro e w2 ⟨vo, rfl, ho1, hb⟩
  replace q0 := keep_frozen (w1 := w2) hb c0_0 q0
  replace c0_0 := keep_cell (w1 := w2) hb c0_0
  replace q1 := keep_frozen (w1 := w2) hb c0_1 q1
  replace c0_1 := keep_cell (w1 := w2) hb c0_1
  have Ho := Lib.hid (ho1.mono B0.size)
  clear ho1
  obtain ⟨ao, co, rfl, fo1, fo2, fo3, -, -⟩ := Ho.out.form
  replace B0 := B0.trans (hb.mono B0.size)
  clear hb
  go_wp2_with fail
  refine (signed_some _ _ true _ xs Ho.out HNE.out).mono ?_
  rintro e w3 ⟨vr, rfl, ho2, hp, hb⟩
  replace q0 := keep_frozen (w1 := w3) hb c0_0 q0
  replace c0_0 := keep_cell (w1 := w3) hb c0_0
  replace q1 := keep_frozen (w1 := w3) hb c0_1 q1
  replace c0_1 := keep_cell (w1 := w3) hb c0_1
  replace Ho := Lib.hid (Ho.out.below hb (Nat.le_refl _))
  have Hr := Lib.hid ho2
  clear ho2
  obtain ⟨ar, cr, rfl, -, -, -, -, -⟩ := Hr.out.form
  replace B0 := B0.trans (hb.mono B0.size)
  clear hb
  go_wp2
  exact bodyPost_ret (v := .tuple #[.agg #[.bool true, .slice ar xs.length cr], .bool true]) (by simp [results, Tryz.results33, go_sem, c0_0, c0_1]) rfl (retGB_of HA.out (retGB_end BW (by omega) hg0 B0 Hr.out))

set_option maxHeartbeats 1000000 in
set_option maxRecDepth 100000 in
theorem parseBigInt_d (w : World) (s : ByteArray) (hl : s.size ≤ 1048576) (t : ByteArray) (c ok : Bool) (xs : List Int) (hT : t = bs (tlm s.data.toList)) (hC : c = mns s.data.toList) (hx : xs = pNs t) (hok : ok = pNb t) (h1 : ok = true) (h2 : c = false) :
    Calls Tryz.prog 33 #[.string s] w (RetGB w (pZg s) (pZs s) (pZb s)) := by
  have BW : Below w.heap.size w (w.alloc (.cells #[.bool false, .slice none 0 0] 25)) := ((Below.refl w.heap.size w).alloc (Nat.le_refl _) _)
  obtain ⟨c0_0, c0_1, q0, q1⟩ : World.cell? (w.alloc (.cells #[.bool false, .slice none 0 0] 25)) ⟨w.heap.size, 0, none⟩ = some (.bool false) ∧ World.cell? (w.alloc (.cells #[.bool false, .slice none 0 0] 25)) ⟨w.heap.size, 1, none⟩ = some (.slice none 0 0) ∧ World.frozen? (w.alloc (.cells #[.bool false, .slice none 0 0] 25)) ⟨w.heap.size, 0, none⟩ = false ∧ World.frozen? (w.alloc (.cells #[.bool false, .slice none 0 0] 25)) ⟨w.heap.size, 1, none⟩ = false := by simp [go_sem]
  have hg0 : w.heap.size < ((w.alloc (.cells #[.bool false, .slice none 0 0] 25))).heap.size := World.block_lt_of_cell? _ _ c0_0
  have hts : t.size ≤ 1048576 := by rw [hT]; exact Nat.le_trans (tlm_size s) hl
  have HA := Lib.hid (ansZ_yes hT hC hx hok (by rw [h1, h2]; rfl))
  have HT := Lib.hid hT
  have HC := Lib.hid hC
  have HX := Lib.hid hx
  have HOK := Lib.hid hok
  clear hT hC hx hok
  subst h1
  subst h2
  go_enter Tryz.func33, Tryz.ntmps33
  go_wp2_with fail
  generalize (w.alloc (.cells #[.bool false, .slice none 0 0] 25)) = w0 at *
  have B0 := Below.refl w0.heap.size w0
  refine (cut_c _ s t false HT HC).mono ?_
  rintro e w1 ⟨rfl, hb⟩
  replace q0 := keep_frozen (w1 := w1) hb c0_0 q0
  replace c0_0 := keep_cell (w1 := w1) hb c0_0
  replace q1 := keep_frozen (w1 := w1) hb c0_1 q1
  replace c0_1 := keep_cell (w1 := w1) hb c0_1
  replace B0 := B0.trans (hb.mono B0.size)
  clear hb
  go_wp2_with fail
  refine (parseNat_h _ t hts xs true HX HOK).mono ?_
  rintro e w2 ⟨vo, rfl, ho1, hb⟩
  replace q0 := keep_frozen (w1 := w2) hb c0_0 q0
  replace c0_0 := keep_cell (w1 := w2) hb c0_0
  replace q1 := keep_frozen (w1 := w2) hb c0_1 q1
  replace c0_1 := keep_cell (w1 := w2) hb c0_1
  have Ho := Lib.hid (ho1.mono B0.size)
  clear ho1
  obtain ⟨ao, co, rfl, fo1, fo2, fo3, -, -⟩ := Ho.out.form
  replace B0 := B0.trans (hb.mono B0.size)
  clear hb
  go_wp2_with fail
  refine (signed_pos _ _ _ xs Ho.out).mono ?_
  rintro e w3 ⟨vr, rfl, ho2, hp, hb⟩
  replace q0 := keep_frozen (w1 := w3) hb c0_0 q0
  replace c0_0 := keep_cell (w1 := w3) hb c0_0
  replace q1 := keep_frozen (w1 := w3) hb c0_1 q1
  replace c0_1 := keep_cell (w1 := w3) hb c0_1
  replace Ho := Lib.hid (Ho.out.below hb (Nat.le_refl _))
  have Hr := Lib.hid ho2
  clear ho2
  obtain ⟨ar, cr, rfl, -, -, -, -, -⟩ := Hr.out.form
  replace B0 := B0.trans (hb.mono B0.size)
  clear hb
  go_wp2
  exact bodyPost_ret (v := .tuple #[.agg #[.bool false, .slice ar xs.length cr], .bool true]) (by simp [results, Tryz.results33, go_sem, c0_0, c0_1]) rfl (retGB_of HA.out (retGB_end BW (by omega) hg0 B0 Hr.out))

theorem parseBigInt_all (w : World) (s : ByteArray) (hl : s.size ≤ 1048576) (t : ByteArray) (c ok : Bool) (xs : List Int) (hT : t = bs (tlm s.data.toList)) (hC : c = mns s.data.toList) (hx : xs = pNs t) (hok : ok = pNb t) : Calls Tryz.prog 33 #[.string s] w (RetGB w (pZg s) (pZs s) (pZb s)) := by
  by_cases h1 : ok = true
  · by_cases h2 : c = true
    · by_cases h3 : xs.length = 0
      · exact parseBigInt_b w s hl t c ok xs hT hC hx hok h1 h2 h3
      · exact parseBigInt_c w s hl t c ok xs hT hC hx hok h1 h2 h3
    · exact parseBigInt_d w s hl t c ok xs hT hC hx hok h1 (by simpa using h2)
  · exact parseBigInt_a w s hl t c ok xs hT hC hx hok (by simpa using h1)
theorem ParseBigInt_c (w : World) (s : ByteArray) (hl : s.size ≤ 1048576) : Calls Tryz.prog 33 #[.string s] w (RetGB w (pZg s) (pZs s) (pZb s)) := parseBigInt_all w s hl _ _ _ _ rfl rfl rfl rfl

theorem ok_cases (b : Bool) : false = b ∨ true = b := by cases b <;> simp
end Go.Proofs.YtijeplcjbhkkoaaGreatDoor

/- The library's functions that the program calls, in this text's own words. -/
namespace Go.Proofs.YtijeplcjbhkkoaaGreatDoor
open Go.RowKit

theorem indexByte_c (w : World) (s : ByteArray) (c : UInt8) : Calls Tryz.prog 78 #[.string s, .int .u8 (c.toNat : Int)] w fun e w' => e = .returned (.int .i64 (Lib.indexByte s.data.toList c)) ∧ w = w' := by
  refine (Tryz.strings_IndexByte s (c.toNat : Int) w).mono ?_
  rintro e w' ⟨rfl, rfl⟩
  simp
theorem repeat_c (w : World) (s : ByteArray) (c : Nat) (n : Int) (hn : n = (c : Int)) (hlen : s.size * c ≤ 140737488355328) (hc : c ≤ 9223372036854775807) : Calls Tryz.prog 113 #[.string s, .int .i64 n] w (RetT w ⟨(Lib.repeatL s.data.toList c).toArray⟩) := by
  subst hn
  exact (Tryz.strings_Repeat s c w hc hlen)
theorem join_c (w : World) (b : Nat) (v : Value) (xs : List ByteArray) (sep : ByteArray) (h : OwnS w b v xs) (hN : xs.length ≤ 140737488355328) (hlen : (Lib.join (xs.map (·.data.toList)) sep.data.toList).length ≤ 140737488355328) : Calls Tryz.prog 79 #[v, .string sep] w (RetT w ⟨(Lib.join (xs.map (·.data.toList)) sep.data.toList).toArray⟩) := by
  obtain ⟨ao, cap, rfl, h1, h2, h3, -, -⟩ := h.form
  rcases Nat.eq_zero_or_pos xs.length with h0 | h0
  · have hx := List.length_eq_zero_iff.1 h0
    subst hx
    refine (Tryz.strings_Join_none ao cap sep w).mono ?_
    rintro e w' ⟨rfl, rfl⟩
    exact ⟨rfl, Below.refl _ _⟩
  · obtain ⟨g, rfl, -, hg⟩ := h.addr h0
    refine (Tryz.strings_Join g 0 cap xs sep w ?_ hg hN h2 hlen).mono ?_
    · intro j x hj
      have hl : j < xs.length := (List.getElem?_eq_some_iff.1 hj).1
      rw [Nat.zero_add, h.cell j hl, sat_of_lt hl]
      rw [(List.getElem?_eq_some_iff.1 hj).2]
    · rintro e w' ⟨rfl, hb⟩
      exact ⟨rfl, hb⟩

end Go.Proofs.YtijeplcjbhkkoaaGreatDoor

/- PadZeros: the program's and the reference's. -/
namespace Go.Proofs.YtijeplcjbhkkoaaGreatDoor
open Go.RowKit Tx

/-- PadZeros. -/
def padZ (s : ByteArray) (n : Int) : ByteArray := if 2000 < n then s else bs (padL n.toNat s.data.toList)
theorem padZ_long {s : ByteArray} {n : Int} (h : n ≤ s.size) : padZ s n = s := by
  unfold padZ; split
  · rfl
  · unfold padL
    rw [size_list] at h
    rw [show n.toNat - s.data.toList.length = 0 by omega]
    exact bs_list s
theorem padZ_big {s : ByteArray} {n : Int} (h : 2000 < n) : padZ s n = s := if_pos h
/-- The length of a string: for measures. -/
def strLen : Value → Int | .string s => s.size | _ => 0
theorem repeat_one (c : UInt8) (k : Nat) : Lib.repeatL [c] k = List.replicate k c := by
  induction k with
  | zero => rfl
  | succ k ih => rw [Lib.repeatL, ih, List.replicate_succ]; rfl

theorem zeros_c (w : World) (k : Nat) (n : Int) (hn : n = (k : Int)) (hk : k ≤ 2000) (z : ByteArray) (hz : Hid (z = bs (List.replicate k 48))) : Calls Tryz.prog 113 #[.string { data := #[48] }, .int .i64 n] w (RetT w z) := by
  have h := repeat_c w { data := #[48] } k n hn (by show 1 * k ≤ _; omega) (by omega)
  rw [hz.out]
  rw [show Lib.repeatL (ByteArray.data { data := #[48] }).toList k = List.replicate k 48 from repeat_one 48 k] at h
  exact h

set_option maxHeartbeats 400000 in
theorem padZeros_c (w : World) (s : ByteArray) (n : Int) (t : ByteArray) (ht : Hid (t = padZ s n)) (hl : s.size ≤ 17592186044415) :
    Calls Tryz.prog 91 #[.string s, .int .i64 n] w (RetT w t) := by
  by_cases h1 : n ≤ s.size
  · have HT : Hid (t = s) := by unfold Hid; rw [ht.out, padZ_long h1]
    have d1 : decide (n ≤ (s.size : Int)) = true := decide_eq_true h1
    clear h1
    go_enter Tryz.func91, Tryz.ntmps91
    go_wp2
    go_ret
    exact retT HT.out.symm (Below.refl _ _)
  · have d1 : decide (n ≤ (s.size : Int)) = false := decide_eq_false h1
    by_cases h2 : 2000 < n
    · have HT : Hid (t = s) := by unfold Hid; rw [ht.out, padZ_big h2]
      have d2 : decide ((2000 : Int) < n) = true := decide_eq_true h2
      clear h1 h2
      go_enter Tryz.func91, Tryz.ntmps91
      go_wp2
      go_ret
      exact retT HT.out.symm (Below.refl _ _)
    · have d2 : decide ((2000 : Int) < n) = false := decide_eq_false h2
      obtain ⟨z, hz⟩ : ∃ z : ByteArray, z = bs (List.replicate (n.toNat - s.size) 48) := ⟨_, rfl⟩
      have HT : Hid (t = z ++ s) := by
        unfold Hid
        rw [ht.out, hz]
        unfold padZ padL
        rw [if_neg h2, ← bs_append, bs_list, size_list]
      have hzs : z.size + s.size ≤ 9223372036854775807 := by rw [hz, bs_size, List.length_replicate]; omega
      have HZ := Lib.hid hz
      clear hz
      go_enter Tryz.func91, Tryz.ntmps91
      go_wp2_with fail
      refine (zeros_c _ (n.toNat - s.size) _ (by omega) (by omega) z HZ).mono ?_
      rintro e w1 ⟨rfl, hb⟩
      go_wp2
      go_ret
      exact retT HT.out.symm hb

end Go.Proofs.YtijeplcjbhkkoaaGreatDoor

/- FormatNat: the program's and the reference's. -/
namespace Go.Proofs.YtijeplcjbhkkoaaGreatDoor
open Go.RowKit Tx Go.Lib Lm

theorem limb_pad {l : List Int} (_h : Norm l) (i : Nat) : padZ (bs (itoa (lat l i))) 9 = bs (padL 9 (itoa (lat l i))) := by
  unfold padZ
  rw [if_neg (by omega), bs_data]
  rfl
theorem limb_pad_size {l : List Int} (h : Norm l) (i : Nat) : (bs (padL 9 (itoa (lat l i)))).size = 9 := by
  rw [bs_size, itoa_nonneg (h.1.lat i).1, padL_length (dec_len9 (by have := h.1.lat i; omega))]
theorem limb_size {l : List Int} (h : Norm l) (i : Nat) : (bs (itoa (lat l i))).size ≤ 9 := by
  rw [bs_size, itoa_nonneg (h.1.lat i).1]
  exact dec_len9 (by have := h.1.lat i; omega)
open Classical in
/-- FormatNat. -/
noncomputable def fNs (xs : List Int) : ByteArray := if OkP xs then bs (fmtN xs) else ByteArray.empty

set_option maxHeartbeats 1000000 in
theorem formatNat_c (w : World) (b1 : Nat) (v1 : Value) (xs : List Int) (h1 : Own w b1 v1 xs) (hx : OkP xs) (ht : Tabs w) (t : ByteArray) (hT : Hid (t = bs (fmtN xs))) : Calls Tryz.prog 72 #[v1] w (RetT w t) := by
  have HT := Lib.hid ht
  have HX := Lib.hid hx
  have HFN := hT
  obtain ⟨ao, cap, rfl, f1, f2, f3, -, -⟩ := h1.form
  unfold maxLen at f1 f3
  have H1 := Lib.hid h1
  have hx60 := hx.1
  clear h1 ht hx hT
  by_cases h0 : xs.length = 0
  · have HFE : Hid (bs [48] = t) := by unfold Hid; rw [HFN.out, List.length_eq_zero_iff.1 h0, fmtN_nil]
    have d0 : ((xs.length : Int) == 0) = true := by rw [h0]; rfl
    clear h0
    go_enter Tryz.func72, Tryz.ntmps72
    go_wp2
    go_ret
    exact retT HFE.out (Below.refl _ _)
  · have d0 : ((xs.length : Int) == 0) = false := beq_eq_false_iff_ne.2 (by omega)
    obtain ⟨g, rfl, -, -⟩ := H1.out.addr (i := xs.length - 1) (by omega)
    have B0 := Below.refl w.heap.size w
    go_enter Tryz.func72, Tryz.ntmps72
    have k0 := (H1.out.below B0 (Nat.le_refl _)).cell (xs.length - 1) (by omega)
    have t3 : (1 : Int) ≤ xs.length := by omega
    obtain ⟨u, hu⟩ : ∃ u, u = bs (itoa (lat xs (xs.length - 1))) := ⟨_, rfl⟩
    have HU := Lib.hid hu
    have hus : u.size ≤ 9 := by rw [hu]; exact limb_size HX.out.2 _
    have HF : Hid (u = bs (fN xs (xs.length - 1))) := by unfold Hid; rw [hu, fN_top HX.out.2 (by omega)]
    clear hu
    obtain ⟨lo, hi⟩ := HX.out.2.1.lat (xs.length - 1)
    go_wp2_with fail
    refine (itoa_c _ (lat xs (xs.length - 1)) (by omega) (by omega) (HT.out.below B0 (Nat.le_refl _)) u HU).mono ?_
    rintro e w1 ⟨rfl, hb⟩
    have B1 := B0.trans (hb.mono B0.size)
    clear hb k0 lo hi HU B0
    go_wp2_with fail
    go_loopw [3, 4] (fun s i wr => ∃ (K : Nat) (u : ByteArray), K < xs.length ∧ i = .int .i64 ((K : Int) - 1) ∧ s = .string u ∧ Hid (u = bs (fN xs K)) ∧ u.size ≤ 9 * (xs.length - K) ∧ Below w.heap.size w wr) (fun _ i _ => (RowKit.intOf i + 1).toNat)
    case atStart => exact ⟨xs.length - 1, u, by omega, by go_num, rfl, HF, by omega, B1⟩
    case round =>
      obtain ⟨K, u, hK, rfl, rfl, HF, hus, hb⟩ := hrel
      clear B1
      by_cases h0 : 0 < K
      · obtain ⟨i, rfl⟩ : ∃ i, K = i + 1 := ⟨K - 1, by omega⟩
        have hi : i < xs.length := by omega
        have k1 := (H1.out.below hb (Nat.le_refl _)).cell i hi
        rw [show ((i + 1 : Nat) : Int) - 1 = (i : Int) by omega]
        have t1 : (i : Int) < xs.length := by omega
        obtain ⟨p, hp⟩ : ∃ p, p = bs (itoa (lat xs i)) := ⟨_, rfl⟩
        have HP := Lib.hid hp
        have hps : p.size ≤ 9 := by rw [hp]; exact limb_size HX.out.2 _
        obtain ⟨q, hq⟩ : ∃ q, q = padZ p 9 := ⟨_, rfl⟩
        have HQ := Lib.hid hq
        have hq2 : q = bs (padL 9 (itoa (lat xs i))) := by rw [hq, hp, limb_pad HX.out.2]
        have hqs : q.size = 9 := by rw [hq2, limb_pad_size HX.out.2]
        have HF2 : Hid (u ++ q = bs (fN xs i)) := by unfold Hid; rw [HF.out, hq2, bs_append, ← fN_step HX.out.2 i (by omega)]
        have hua : u.size + q.size ≤ 9223372036854775807 := by have := HX.out.1; omega
        obtain ⟨lo, hi9⟩ := HX.out.2.1.lat i
        clear hp hq hq2
        go_wp2_with fail
        refine (itoa_c _ (lat xs i) (by omega) (by omega) (HT.out.below hb (Nat.le_refl _)) p HP).mono ?_
        rintro e w2 ⟨rfl, hb2⟩
        replace hb := hb.trans (hb2.mono hb.size)
        clear hb2
        go_wp2_with fail
        refine (padZeros_c _ p 9 q HQ (by omega)).mono ?_
        rintro e w3 ⟨rfl, hb3⟩
        replace hb := hb.trans (hb3.mono hb.size)
        clear hb3
        go_wp2
        go_roundw
        case rel => exact ⟨i, u ++ q, by omega, by go_num, rfl, HF2.out, by rw [ByteArray.size_append]; omega, hb⟩
        case measure => (simp [RowKit.intOf]) <;> omega
      · obtain rfl : K = 0 := by omega
        have HR : Hid (u = bs (fmtN xs)) := by unfold Hid; rw [HF.out, fN_zero]
        go_wp2
        go_ret
        exact retT (HR.out.trans HFN.out.symm) hb
end Go.Proofs.YtijeplcjbhkkoaaGreatDoor

/- FormatBigInt: the program's and the reference's. -/
namespace Go.Proofs.YtijeplcjbhkkoaaGreatDoor
open Go.RowKit Tx Go.Lib Lm

/-- A signed number's text. -/
def fmtZ (s : Bool) (xs : List Int) : List UInt8 := if s then 45 :: fmtN xs else fmtN xs
theorem fmtZ_len {s : Bool} {xs : List Int} (h : OkP xs) : (fmtZ s xs).length ≤ 542 := by
  have := fmtN_len h.2 h.1
  unfold fmtZ
  split
  · rw [List.length_cons]; omega
  · omega
open Classical in
noncomputable def fZs (s : Bool) (xs : List Int) : ByteArray := if OkG s xs then bs (fmtZ s xs) else ByteArray.empty

set_option maxHeartbeats 1000000 in
theorem formatBig_n (w : World) (b1 : Nat) (v1 : Value) (xs : List Int) (h1 : Own w b1 v1 xs) (hx : OkP xs) (ht : Tabs w) (t : ByteArray) (hT : t = bs (fmtZ true xs)) :
    Calls Tryz.prog 71 #[.agg #[.bool true, v1]] w (RetT w t) := by
  have BW : Below w.heap.size w (w.alloc (.cells #[.bool true, v1] 25)) := ((Below.refl w.heap.size w).alloc (Nat.le_refl _) _)
  obtain ⟨c0_0, c0_1⟩ : World.cell? (w.alloc (.cells #[.bool true, v1] 25)) ⟨w.heap.size, 0, none⟩ = some (.bool true) ∧ World.cell? (w.alloc (.cells #[.bool true, v1] 25)) ⟨w.heap.size, 1, none⟩ = some (v1) := by simp [go_sem]
  have Hv := Lib.hid (h1.below BW (Nat.le_refl _))
  have HT := Lib.hid (ht.below BW (Nat.le_refl _))
  clear h1 ht
  have HX := Lib.hid hx
  obtain ⟨u, hu⟩ : ∃ u, u = bs (fmtN xs) := ⟨_, rfl⟩
  have HU := Lib.hid hu
  have HC : Hid (({ data := #[45] } : ByteArray) ++ u = t) := by unfold Hid; rw [hT, hu, show ({ data := #[45] } : ByteArray) = bs [45] from rfl, bs_append]; rfl
  have hus : ({ data := #[45] } : ByteArray).size + u.size ≤ 9223372036854775807 := by have := fmtN_len hx.2 hx.1; rw [hu, bs_size]; show 1 + _ ≤ _; omega
  clear hx hu hT
  go_enter Tryz.func71, Tryz.ntmps71
  go_wp2_with fail
  generalize (w.alloc (.cells #[.bool true, v1] 25)) = w0 at *
  have B0 := Below.refl w0.heap.size w0
  refine (formatNat_c _ _ _ xs Hv.out HX.out HT.out u HU).mono ?_
  rintro e w1 ⟨rfl, hb⟩
  replace c0_0 := keep_cell hb c0_0
  replace c0_1 := keep_cell hb c0_1
  replace Hv := Lib.hid (Hv.out.below hb (Nat.le_refl _))
  replace HT := Lib.hid (HT.out.below hb (Nat.le_refl _))
  replace B0 := B0.trans (hb.mono B0.size)
  clear hb
  go_wp2
  go_ret
  exact retT HC.out (BW.trans (B0.mono BW.size))

set_option maxHeartbeats 1000000 in
theorem formatBig_p (w : World) (b1 : Nat) (v1 : Value) (xs : List Int) (h1 : Own w b1 v1 xs) (hx : OkP xs) (ht : Tabs w) (t : ByteArray) (hT : t = bs (fmtZ false xs)) :
    Calls Tryz.prog 71 #[.agg #[.bool false, v1]] w (RetT w t) := by
  have BW : Below w.heap.size w (w.alloc (.cells #[.bool false, v1] 25)) := ((Below.refl w.heap.size w).alloc (Nat.le_refl _) _)
  obtain ⟨c0_0, c0_1⟩ : World.cell? (w.alloc (.cells #[.bool false, v1] 25)) ⟨w.heap.size, 0, none⟩ = some (.bool false) ∧ World.cell? (w.alloc (.cells #[.bool false, v1] 25)) ⟨w.heap.size, 1, none⟩ = some (v1) := by simp [go_sem]
  have Hv := Lib.hid (h1.below BW (Nat.le_refl _))
  have HT := Lib.hid (ht.below BW (Nat.le_refl _))
  clear h1 ht
  have HX := Lib.hid hx
  have HU : Hid (t = bs (fmtN xs)) := hT
  clear hx hT
  go_enter Tryz.func71, Tryz.ntmps71
  go_wp2_with fail
  generalize (w.alloc (.cells #[.bool false, v1] 25)) = w0 at *
  have B0 := Below.refl w0.heap.size w0
  refine (formatNat_c _ _ _ xs Hv.out HX.out HT.out t HU).mono ?_
  rintro e w1 ⟨rfl, hb⟩
  replace c0_0 := keep_cell hb c0_0
  replace c0_1 := keep_cell hb c0_1
  replace Hv := Lib.hid (Hv.out.below hb (Nat.le_refl _))
  replace HT := Lib.hid (HT.out.below hb (Nat.le_refl _))
  replace B0 := B0.trans (hb.mono B0.size)
  clear hb
  go_wp2
  go_ret
  exact retT rfl (BW.trans (B0.mono BW.size))

theorem formatBig_c (w : World) (b1 : Nat) (s : Bool) (v1 : Value) (xs : List Int) (h1 : Own w b1 v1 xs) (hx : OkP xs) (ht : Tabs w) (t : ByteArray) (hT : Hid (t = bs (fmtZ s xs))) : Calls Tryz.prog 71 #[.agg #[.bool s, v1]] w (RetT w t) := by
  cases s with
  | false => exact formatBig_p w b1 v1 xs h1 hx ht t hT.out
  | true => exact formatBig_n w b1 v1 xs h1 hx ht t hT.out

theorem fNs_ok {xs : List Int} (h : OkP xs) : fNs xs = bs (fmtN xs) := by unfold fNs; rw [if_pos h]
theorem fZs_ok {s : Bool} {xs : List Int} (h : OkG s xs) : fZs s xs = bs (fmtZ s xs) := by unfold fZs; rw [if_pos h]
end Go.Proofs.YtijeplcjbhkkoaaGreatDoor
