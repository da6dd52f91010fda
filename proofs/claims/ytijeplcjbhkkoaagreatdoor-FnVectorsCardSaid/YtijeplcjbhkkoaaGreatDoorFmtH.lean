/- Merged texts. -/
import Derived.Test.YtijeplcjbhkkoaaGreatDoorFmtG
import Derived.Test.YtijeplcjbhkkoaaGreatDoorRatG
import Derived.Test.YtijeplcjbhkkoaaGreatDoorMathG
import Derived.Lib.Strings

/- FormatRat: the program's and the reference's. -/
namespace Go.Proofs.YtijeplcjbhkkoaaGreatDoor
open Go.RowKit Tx Go.Lib Lm

/-- A fraction's text. -/
def fmtR (s : Bool) (xs ys : List Int) : List UInt8 := fmtZ s xs ++ (if ys = [1] then [] else 47 :: fmtN ys)
open Classical in
noncomputable def fRs (s : Bool) (xs ys : List Int) : ByteArray := if OkR s xs ys then bs (fmtR s xs ys) else ByteArray.empty
theorem fmtR_one (s : Bool) (xs : List Int) : fmtR s xs [1] = fmtZ s xs := by unfold fmtR; rw [if_pos rfl, List.append_nil]
theorem fmtR_more {s : Bool} {xs ys : List Int} (h : ys ≠ [1]) : fmtR s xs ys = fmtZ s xs ++ 47 :: fmtN ys := by unfold fmtR; rw [if_neg h]
theorem Tabs.drew {w : World} (h : Tabs w) : Tabs w.drew := h
theorem isOne_yes (w : World) (b1 : Nat) (v1 : Value) (h1 : Own w b1 v1 [1]) : Calls Tryz.prog 39 #[v1] w (RetB w true) := isOne_t w b1 v1 (by rw [limbs_one]; exact h1)
theorem isOne_no (w : World) (b1 : Nat) (v1 : Value) (ys : List Int) (h1 : Own w b1 v1 ys) (h : Norm ys) (hy : ys ≠ [1]) : Calls Tryz.prog 39 #[v1] w (RetB w false) :=
  isOne_f w b1 v1 (nv ys).toNat (by rw [← h.limbs']; exact h1) (fun e => hy (by rw [h.limbs', e, limbs_one]))
theorem l04One_yes (w : World) (b1 : Nat) (v1 : Value) (h1 : Own w b1 v1 [1]) : Calls Tryz.prog 122 #[v1] w (RetB w true) := l04One_t w b1 v1 (by rw [limbs_one]; exact h1)
theorem l04One_no (w : World) (b1 : Nat) (v1 : Value) (ys : List Int) (h1 : Own w b1 v1 ys) (h : Norm ys) (hy : ys ≠ [1]) : Calls Tryz.prog 122 #[v1] w (RetB w false) :=
  l04One_f w b1 v1 (nv ys).toNat (by rw [← h.limbs']; exact h1) (fun e => hy (by rw [h.limbs', e, limbs_one]))

set_option maxHeartbeats 1000000 in
theorem formatRat_1 (w : World) (b1 e1 : Nat) (s : Bool) (v1 u1 : Value) (xs : List Int) (h1 : Own w b1 v1 xs) (k1 : Own w e1 u1 [1]) (hx : OkP xs) (ht : Tabs w) (t : ByteArray) (hT : t = bs (fmtR s xs [1])) :
    Calls Tryz.prog 35 #[.agg #[.bool s, v1, u1]] w (RetT w t) := by
  have BW : Below w.heap.size w (w.alloc (.cells #[.bool s, v1, u1] 27)) := ((Below.refl w.heap.size w).alloc (Nat.le_refl _) _)
  obtain ⟨c0_0, c0_1, c0_2⟩ : World.cell? (w.alloc (.cells #[.bool s, v1, u1] 27)) ⟨w.heap.size, 0, none⟩ = some (.bool s) ∧ World.cell? (w.alloc (.cells #[.bool s, v1, u1] 27)) ⟨w.heap.size, 1, none⟩ = some (v1) ∧ World.cell? (w.alloc (.cells #[.bool s, v1, u1] 27)) ⟨w.heap.size, 2, none⟩ = some (u1) := by simp [go_sem]
  have Ha := Lib.hid (h1.below BW (Nat.le_refl _))
  have Hb := Lib.hid (k1.below BW (Nat.le_refl _))
  have HT := Lib.hid (ht.below BW (Nat.le_refl _))
  clear h1 k1 ht
  have HX := Lib.hid hx
  have HU : Hid (t = bs (fmtZ s xs)) := by unfold Hid; rw [hT, fmtR_one]
  clear hx hT
  go_enter Tryz.func35, Tryz.ntmps35
  go_wp2_with fail
  generalize (w.alloc (.cells #[.bool s, v1, u1] 27)) = w0 at *
  have B0 := Below.refl w0.heap.size w0
  refine (isOne_yes _ _ _ Hb.out).mono ?_
  rintro e w1 ⟨rfl, hb⟩
  replace c0_0 := keep_cell hb c0_0
  replace c0_1 := keep_cell hb c0_1
  replace c0_2 := keep_cell hb c0_2
  replace Ha := Lib.hid (Ha.out.below hb (Nat.le_refl _))
  replace Hb := Lib.hid (Hb.out.below hb (Nat.le_refl _))
  replace HT := Lib.hid (HT.out.below hb (Nat.le_refl _))
  replace B0 := B0.trans (hb.mono B0.size)
  clear hb
  go_wp2_with fail
  refine (formatBig_c _ _ _ _ xs Ha.out HX.out HT.out t HU).mono ?_
  rintro e w2 ⟨rfl, hb⟩
  replace c0_0 := keep_cell hb c0_0
  replace c0_1 := keep_cell hb c0_1
  replace c0_2 := keep_cell hb c0_2
  replace Ha := Lib.hid (Ha.out.below hb (Nat.le_refl _))
  replace Hb := Lib.hid (Hb.out.below hb (Nat.le_refl _))
  replace HT := Lib.hid (HT.out.below hb (Nat.le_refl _))
  replace B0 := B0.trans (hb.mono B0.size)
  clear hb
  go_wp2
  go_ret
  exact retT rfl (BW.trans (B0.mono BW.size))

set_option maxHeartbeats 1000000 in
theorem formatRat_2 (w : World) (b1 e1 : Nat) (s : Bool) (v1 u1 : Value) (xs ys : List Int) (h1 : Own w b1 v1 xs) (k1 : Own w e1 u1 ys) (hx : OkP xs) (hy : OkP ys) (hne : ys ≠ [1]) (ht : Tabs w) (t : ByteArray) (hT : t = bs (fmtR s xs ys)) :
    Calls Tryz.prog 35 #[.agg #[.bool s, v1, u1]] w (RetT w t) := by
  have BW : Below w.heap.size w (w.alloc (.cells #[.bool s, v1, u1] 27)) := ((Below.refl w.heap.size w).alloc (Nat.le_refl _) _)
  obtain ⟨c0_0, c0_1, c0_2⟩ : World.cell? (w.alloc (.cells #[.bool s, v1, u1] 27)) ⟨w.heap.size, 0, none⟩ = some (.bool s) ∧ World.cell? (w.alloc (.cells #[.bool s, v1, u1] 27)) ⟨w.heap.size, 1, none⟩ = some (v1) ∧ World.cell? (w.alloc (.cells #[.bool s, v1, u1] 27)) ⟨w.heap.size, 2, none⟩ = some (u1) := by simp [go_sem]
  have Ha := Lib.hid (h1.below BW (Nat.le_refl _))
  have Hb := Lib.hid (k1.below BW (Nat.le_refl _))
  have HT := Lib.hid (ht.below BW (Nat.le_refl _))
  clear h1 k1 ht
  have HX := Lib.hid hx
  have HY := Lib.hid hy
  have HNE := Lib.hid hne
  obtain ⟨u, hu⟩ : ∃ u, u = bs (fmtZ s xs) := ⟨_, rfl⟩
  have HU := Lib.hid hu
  obtain ⟨q, hq⟩ : ∃ q, q = bs (fmtN ys) := ⟨_, rfl⟩
  have HQ := Lib.hid hq
  have HC : Hid (u ++ ({ data := #[47] } : ByteArray) ++ q = t) := by unfold Hid; rw [hT, hu, hq, show ({ data := #[47] } : ByteArray) = bs [47] from rfl, bs_append, bs_append, fmtR_more hne, List.append_assoc]; rfl
  have hus : u.size + ({ data := #[47] } : ByteArray).size ≤ 9223372036854775807 := by have := fmtZ_len (s := s) hx; rw [hu, bs_size]; show _ + 1 ≤ _; omega
  have hus2 : (u ++ ({ data := #[47] } : ByteArray)).size + q.size ≤ 9223372036854775807 := by have := fmtZ_len (s := s) hx; have := fmtN_len hy.2 hy.1; rw [hq, hu, ByteArray.size_append, bs_size, bs_size]; show _ + 1 + _ ≤ _; omega
  have hus3 : ¬ 9223372036854775807 < u.size + 1 := by have h : u.size + 1 ≤ 9223372036854775807 := hus; omega
  have hus4 : ¬ 9223372036854775807 < u.size + 1 + q.size := by rw [ByteArray.size_append] at hus2; have h : u.size + 1 + q.size ≤ 9223372036854775807 := hus2; omega
  clear hx hy hne hu hq hT
  go_enter Tryz.func35, Tryz.ntmps35
  go_wp2_with fail
  generalize (w.alloc (.cells #[.bool s, v1, u1] 27)) = w0 at *
  have B0 := Below.refl w0.heap.size w0
  refine (isOne_no _ _ _ ys Hb.out HY.out.2 HNE.out).mono ?_
  rintro e w1 ⟨rfl, hb⟩
  replace c0_0 := keep_cell hb c0_0
  replace c0_1 := keep_cell hb c0_1
  replace c0_2 := keep_cell hb c0_2
  replace Ha := Lib.hid (Ha.out.below hb (Nat.le_refl _))
  replace Hb := Lib.hid (Hb.out.below hb (Nat.le_refl _))
  replace HT := Lib.hid (HT.out.below hb (Nat.le_refl _))
  replace B0 := B0.trans (hb.mono B0.size)
  clear hb
  go_wp2_with fail
  replace Ha := Lib.hid Ha.out.drew
  replace Hb := Lib.hid Hb.out.drew
  replace HT := Lib.hid HT.out.drew
  replace B0 := below_drew B0
  replace c0_0 := cell_drew c0_0
  replace c0_1 := cell_drew c0_1
  replace c0_2 := cell_drew c0_2
  go_region_held3 (fun w' => w'.cell? ⟨w.heap.size, 0, none⟩ = some (.bool s) ∧ w'.cell? ⟨w.heap.size, 1, none⟩ = some (v1) ∧ w'.cell? ⟨w.heap.size, 2, none⟩ = some (u1)) (first | exact ⟨c0_0, c0_1, c0_2⟩ | (go_split_ands; exact ⟨(set_far (set_far ‹_› (by dsimp only; omega)) (by dsimp only; omega)), (set_far (set_far ‹_› (by dsimp only; omega)) (by dsimp only; omega)), (set_far (set_far ‹_› (by dsimp only; omega)) (by dsimp only; omega))⟩) | (go_split_ands; exact ⟨(set_far (set_far (set_far ‹_› (by dsimp only; omega)) (by dsimp only; omega)) (by dsimp only; omega)), (set_far (set_far (set_far ‹_› (by dsimp only; omega)) (by dsimp only; omega)) (by dsimp only; omega)), (set_far (set_far (set_far ‹_› (by dsimp only; omega)) (by dsimp only; omega)) (by dsimp only; omega))⟩) | (go_split_ands; exact ⟨(set_far ‹_› (by dsimp only; omega)), (set_far ‹_› (by dsimp only; omega)), (set_far ‹_› (by dsimp only; omega))⟩) | go_keep)
    (first | (go_at_call 71; refine (formatBig_c _ _ _ _ xs Ha.out HX.out HT.out u HU).mono ?_; rintro e w2 ⟨rfl, hb2⟩; replace c0_0 := keep_cell (w1 := w2) hb2 c0_0; replace c0_1 := keep_cell (w1 := w2) hb2 c0_1; replace c0_2 := keep_cell (w1 := w2) hb2 c0_2; replace Ha := Lib.hid (Ha.out.below hb2 (Nat.le_refl _)); replace Hb := Lib.hid (Hb.out.below hb2 (Nat.le_refl _)); replace HT := Lib.hid (HT.out.below hb2 (Nat.le_refl _)); replace B0 := B0.trans (hb2.mono B0.size); clear hb2) | (go_at_call 72; refine (formatNat_c _ _ _ ys Hb.out HY.out HT.out q HQ).mono ?_; rintro e w3 ⟨rfl, hb3⟩; replace c0_0 := keep_cell (w1 := w3) hb3 c0_0; replace c0_1 := keep_cell (w1 := w3) hb3 c0_1; replace c0_2 := keep_cell (w1 := w3) hb3 c0_2; replace Ha := Lib.hid (Ha.out.below hb3 (Nat.le_refl _)); replace Hb := Lib.hid (Hb.out.below hb3 (Nat.le_refl _)); replace HT := Lib.hid (HT.out.below hb3 (Nat.le_refl _)); replace B0 := B0.trans (hb3.mono B0.size); clear hb3))
  go_wp2
  go_ret
  exact retT HC.out (BW.trans (B0.mono BW.size))

theorem formatRat_c (w : World) (b1 e1 : Nat) (s : Bool) (v1 u1 : Value) (xs ys : List Int) (h1 : Own w b1 v1 xs) (k1 : Own w e1 u1 ys) (hx : OkP xs) (hy : OkP ys) (ht : Tabs w) (t : ByteArray) (hT : Hid (t = bs (fmtR s xs ys))) : Calls Tryz.prog 35 #[.agg #[.bool s, v1, u1]] w (RetT w t) := by
  by_cases hne : ys = [1]
  · subst hne; exact formatRat_1 w b1 e1 s v1 u1 xs h1 k1 hx ht t hT.out
  · exact formatRat_2 w b1 e1 s v1 u1 xs ys h1 k1 hx hy hne ht t hT.out

set_option maxHeartbeats 1000000 in
theorem FormatRat_y (w : World) (b1 e1 : Nat) (s : Bool) (v1 u1 : Value) (xs ys : List Int) (h1 : Own w b1 v1 xs) (k1 : Own w e1 u1 ys) (hx : OkR s xs ys) (ht : Tabs w) (t : ByteArray) (hT : t = bs (fmtR s xs ys)) :
    Calls Tryz.prog 9 #[.agg #[.bool s, v1, u1]] w (RetT w t) := by
  have BW : Below w.heap.size w (w.alloc (.cells #[.bool s, v1, u1] 27)) := ((Below.refl w.heap.size w).alloc (Nat.le_refl _) _)
  obtain ⟨c0_0, c0_1, c0_2⟩ : World.cell? (w.alloc (.cells #[.bool s, v1, u1] 27)) ⟨w.heap.size, 0, none⟩ = some (.bool s) ∧ World.cell? (w.alloc (.cells #[.bool s, v1, u1] 27)) ⟨w.heap.size, 1, none⟩ = some (v1) ∧ World.cell? (w.alloc (.cells #[.bool s, v1, u1] 27)) ⟨w.heap.size, 2, none⟩ = some (u1) := by simp [go_sem]
  have Ha := Lib.hid (h1.below BW (Nat.le_refl _))
  have Hb := Lib.hid (k1.below BW (Nat.le_refl _))
  have HT := Lib.hid (ht.below BW (Nat.le_refl _))
  clear h1 k1 ht
  have HX := Lib.hid hx
  have HU : Hid (t = bs (fmtR s xs ys)) := hT
  clear hx hT
  go_enter Tryz.func9, Tryz.ntmps9
  go_wp2_with fail
  generalize (w.alloc (.cells #[.bool s, v1, u1] 27)) = w0 at *
  have B0 := Below.refl w0.heap.size w0
  refine (ratOk_t _ _ _ _ _ _ _ _ Ha.out Hb.out HX.out).mono ?_
  rintro e w1 ⟨rfl, hb⟩
  replace c0_0 := keep_cell hb c0_0
  replace c0_1 := keep_cell hb c0_1
  replace c0_2 := keep_cell hb c0_2
  replace Ha := Lib.hid (Ha.out.below hb (Nat.le_refl _))
  replace Hb := Lib.hid (Hb.out.below hb (Nat.le_refl _))
  replace HT := Lib.hid (HT.out.below hb (Nat.le_refl _))
  replace B0 := B0.trans (hb.mono B0.size)
  clear hb
  go_wp2_with fail
  refine (formatRat_c _ _ _ _ _ _ xs ys Ha.out Hb.out HX.out.1.1 HX.out.2.1 HT.out t HU).mono ?_
  rintro e w2 ⟨rfl, hb⟩
  replace c0_0 := keep_cell hb c0_0
  replace c0_1 := keep_cell hb c0_1
  replace c0_2 := keep_cell hb c0_2
  replace Ha := Lib.hid (Ha.out.below hb (Nat.le_refl _))
  replace Hb := Lib.hid (Hb.out.below hb (Nat.le_refl _))
  replace HT := Lib.hid (HT.out.below hb (Nat.le_refl _))
  replace B0 := B0.trans (hb.mono B0.size)
  clear hb
  go_wp2
  go_ret
  exact retT rfl (BW.trans (B0.mono BW.size))

set_option maxHeartbeats 1000000 in
theorem FormatRat_n (w : World) (b1 e1 : Nat) (s : Bool) (v1 u1 : Value) (xs ys : List Int) (h1 : Own w b1 v1 xs) (k1 : Own w e1 u1 ys) (hx : ¬ OkR s xs ys) :
    Calls Tryz.prog 9 #[.agg #[.bool s, v1, u1]] w (RetT w ByteArray.empty) := by
  have BW : Below w.heap.size w (w.alloc (.cells #[.bool s, v1, u1] 27)) := ((Below.refl w.heap.size w).alloc (Nat.le_refl _) _)
  obtain ⟨c0_0, c0_1, c0_2⟩ : World.cell? (w.alloc (.cells #[.bool s, v1, u1] 27)) ⟨w.heap.size, 0, none⟩ = some (.bool s) ∧ World.cell? (w.alloc (.cells #[.bool s, v1, u1] 27)) ⟨w.heap.size, 1, none⟩ = some (v1) ∧ World.cell? (w.alloc (.cells #[.bool s, v1, u1] 27)) ⟨w.heap.size, 2, none⟩ = some (u1) := by simp [go_sem]
  have Ha := Lib.hid (h1.below BW (Nat.le_refl _))
  have Hb := Lib.hid (k1.below BW (Nat.le_refl _))
  clear h1 k1
  have HX := Lib.hid hx
  clear hx
  go_enter Tryz.func9, Tryz.ntmps9
  go_wp2_with fail
  generalize (w.alloc (.cells #[.bool s, v1, u1] 27)) = w0 at *
  have B0 := Below.refl w0.heap.size w0
  refine (ratOk_f _ _ _ _ _ _ _ _ Ha.out Hb.out HX.out).mono ?_
  rintro e w1 ⟨rfl, hb⟩
  replace c0_0 := keep_cell hb c0_0
  replace c0_1 := keep_cell hb c0_1
  replace c0_2 := keep_cell hb c0_2
  replace Ha := Lib.hid (Ha.out.below hb (Nat.le_refl _))
  replace Hb := Lib.hid (Hb.out.below hb (Nat.le_refl _))
  replace B0 := B0.trans (hb.mono B0.size)
  clear hb
  go_wp2
  go_ret
  exact retT rfl (BW.trans (B0.mono BW.size))

theorem FormatRat_c (w : World) (b1 e1 : Nat) (s : Bool) (v1 u1 : Value) (xs ys : List Int) (h1 : Own w b1 v1 xs) (k1 : Own w e1 u1 ys) (ht : Tabs w) : Calls Tryz.prog 9 #[.agg #[.bool s, v1, u1]] w (RetT w (fRs s xs ys)) := by
  unfold fRs
  by_cases hx : OkR s xs ys
  · rw [if_pos hx]; exact FormatRat_y w b1 e1 s v1 u1 xs ys h1 k1 hx ht _ rfl
  · rw [if_neg hx]; exact FormatRat_n w b1 e1 s v1 u1 xs ys h1 k1 hx

end Go.Proofs.YtijeplcjbhkkoaaGreatDoor

/- SplitAny: the program's and the reference's. -/
namespace Go.Proofs.YtijeplcjbhkkoaaGreatDoor
open Go.RowKit Tx

/-- Is the byte one of these? -/
def isIn (t : ByteArray) (c : UInt8) : Bool := t.data.toList.contains c
/-- The pieces of a text. -/
def pcs (s t : ByteArray) : List ByteArray := (spl (isIn t) [] s.data.toList).map bs
/-- The pieces that are still to come: from is where the piece begun starts, i is how far the text is read. -/
def rest (s t : ByteArray) (f i : Nat) : List ByteArray := (spl (isIn t) ((s.data.toList.drop f).take (i - f)) (s.data.toList.drop i)).map bs
theorem cut_eq (s : ByteArray) (f i : Nat) : s.extract f i = bs ((s.data.toList.drop f).take (i - f)) := by
  apply ByteArray.ext
  rw [ByteArray.data_extract]
  apply Array.toList_inj.1
  rw [bs_data, Array.toList_extract]
theorem rest_start (s t : ByteArray) : rest s t 0 0 = pcs s t := by unfold rest pcs; simp
theorem rest_end (s t : ByteArray) (f : Nat) (_h : f ≤ s.size) : rest s t f s.size = [s.extract f s.size] := by
  unfold rest
  rw [cut_eq, size_list, List.drop_length]
  simp only [spl, List.map_cons, List.map_nil]
theorem byte_list (s : ByteArray) (i : Nat) (h : i < s.size) : ∃ h2 : i < s.data.toList.length, s.data.toList[i] = s[i] := ⟨by rw [← size_list]; exact h, rfl⟩
theorem rest_hit (s t : ByteArray) (f i : Nat) (h : i < s.size) (_hf : f ≤ i) (hc : isIn t s[i] = true) : rest s t f i = s.extract f i :: rest s t (i + 1) (i + 1) := by
  obtain ⟨h2, e⟩ := byte_list s i h
  unfold rest
  rw [List.drop_eq_getElem_cons h2, e, spl_cons, hc, cond_true, List.map_cons, ← cut_eq]
  simp
theorem rest_miss (s t : ByteArray) (f i : Nat) (h : i < s.size) (hf : f ≤ i) (hc : isIn t s[i] = false) : rest s t f i = rest s t f (i + 1) := by
  obtain ⟨h2, e⟩ := byte_list s i h
  unfold rest
  rw [List.drop_eq_getElem_cons h2, e, spl_cons, hc, cond_false]
  congr 2
  rw [show i + 1 - f = (i - f) + 1 by omega, List.take_succ_eq_append_getElem (by rw [List.length_drop]; omega), List.getElem_drop]
  congr 2
  rw [← e]
  congr 1
  omega
theorem isIn_index (t : ByteArray) (c : UInt8) : decide (0 ≤ Lib.indexByte t.data.toList c) = isIn t c := indexByte_mem _ _
theorem pcs_len (s t : ByteArray) : (pcs s t).length ≤ s.size + 1 := by
  unfold pcs
  rw [List.length_map, size_list]
  exact spl_len _ _ _
theorem rest_pos (s t : ByteArray) (f i : Nat) : 0 < (rest s t f i).length := by
  unfold rest
  rw [List.length_map]
  exact List.length_pos_iff.2 (spl_ne _ _ _)

set_option maxHeartbeats 1000000 in
theorem splitAny_c (w : World) (s t : ByteArray) (xs : List ByteArray) (hx : Hid (xs = pcs s t)) (hl : s.size ≤ 1048576) :
    Calls Tryz.prog 50 #[.string s, .string t] w (RetLS w xs) := by
  go_enter Tryz.func50, Tryz.ntmps50
  go_wp2_with fail
  go_loopw [5, 6, 7] (fun v f k wr => ∃ (a i : Nat) (o : List ByteArray), a ≤ i ∧ i ≤ s.size ∧ k = .int .i64 i ∧ f = .int .i64 a ∧ Hid (o ++ rest s t a i = pcs s t) ∧ o.length ≤ i ∧ Hid (OwnS wr w.heap.size v o) ∧ Below w.heap.size w wr) (fun _ _ k _ => s.size - (intOf k).toNat)
  case atStart => exact ⟨0, 0, [], Nat.le_refl _, by omega, rfl, rfl, rest_start s t, by simp, OwnS.nil _ _, Below.refl _ _⟩
  case round =>
    obtain ⟨a, i, o, hai, hi, rfl, rfl, HP, hol, HO, hb⟩ := hrel
    by_cases hlt : i < s.size
    · have t1 : (i : Int) < s.size := by omega
      cases hc : isIn t s[i] with
      | true =>
        have HN : Hid ((o ++ [s.extract a i]) ++ rest s t (i + 1) (i + 1) = pcs s t) := by
          unfold Hid; rw [← HP.out, rest_hit s t a i hlt hai hc, List.append_assoc]; rfl
        have d1 : decide (0 ≤ Lib.indexByte t.data.toList s[i]) = true := by rw [isIn_index, hc]
        clear hc
        go_wp2_with fail
        refine (indexByte_c _ t s[i]).mono ?_
        rintro e w' ⟨rfl, rfl⟩
        go_wp2_with (at_builtin; refine app_ownS rfl _ _ rfl _ _ w.heap.size wr.heap.size o [s.extract a i] rfl rfl (HO.out.alloc _) (OwnS.lit1 _ _) (by simp; omega) (by have := hb.size; simp; omega) ?_)
        intro v' w' hx1 hg _
        have HX := Lib.hid hx1
        have hb2 : Below w.heap.size w w' := (HO.out.alloc _).grownBelow (hb.alloc hb.size _) hg (Nat.le_refl _) (by have := hb.size; simp; omega)
        clear hx1 hg HO hb
        go_wp2
        go_roundw
        case rel => exact ⟨i + 1, i + 1, _, by omega, by omega, by go_num, by go_num, HN.out, by simp; omega, HX.out, hb2⟩
        case measure => (simp [intOf]) <;> omega
      | false =>
        have HN : Hid (o ++ rest s t a (i + 1) = pcs s t) := by unfold Hid; rw [← HP.out, rest_miss s t a i hlt hai hc]
        have d1 : decide (0 ≤ Lib.indexByte t.data.toList s[i]) = false := by rw [isIn_index, hc]
        clear hc
        go_wp2_with fail
        refine (indexByte_c _ t s[i]).mono ?_
        rintro e w' ⟨rfl, rfl⟩
        go_wp2
        go_roundw
        case rel => exact ⟨a, i + 1, o, by omega, by omega, by go_num, rfl, HN.out, by omega, HO.out, hb⟩
        case measure => (simp [intOf]) <;> omega
    · obtain rfl : i = s.size := by omega
      have HE : Hid (o ++ [s.extract a s.size] = xs) := by
        unfold Hid; rw [hx.out, ← HP.out, rest_end s t a hai]
      go_wp2_with (at_builtin; refine app_ownS rfl _ _ rfl _ _ w.heap.size wr.heap.size o [s.extract a s.size] rfl rfl (HO.out.alloc _) (OwnS.lit1 _ _) (by simp; omega) (by have := hb.size; simp; omega) ?_)
      intro v' w' hx1 hg _
      have HX := Lib.hid hx1
      have hb2 : Below w.heap.size w w' := (HO.out.alloc _).grownBelow (hb.alloc hb.size _) hg (Nat.le_refl _) (by have := hb.size; simp; omega)
      clear hx1 hg HO hb
      go_wp2
      go_ret
      exact retLS HX.out HE.out hb2

theorem isIn_at {t : ByteArray} {c : UInt8} {j : Nat} (h : j < t.size) (e : t[j] = c) : isIn t c = true := by
  obtain ⟨h2, e2⟩ := byte_list t j h
  unfold isIn
  rw [List.contains_iff_mem, ← e, ← e2]
  exact List.getElem_mem h2
theorem isIn_not {t : ByteArray} {c : UInt8} (h : ∀ (j : Nat) (h : j < t.size), t[j] ≠ c) : isIn t c = false := by
  unfold isIn
  cases hc : t.data.toList.contains c with
  | false => rfl
  | true =>
    obtain ⟨j, hj, e⟩ := List.getElem_of_mem (List.contains_iff_mem.1 hc)
    have h2 : j < t.size := by rw [size_list]; exact hj
    exact absurd e (h j h2)

end Go.Proofs.YtijeplcjbhkkoaaGreatDoor

/- Join: the program's and the reference's. -/
namespace Go.Proofs.YtijeplcjbhkkoaaGreatDoor
open Go.RowKit Tx

/-- The texts, joined. -/
def joinB (xs : List ByteArray) (sep : ByteArray) : ByteArray := bs (Lib.join (xs.map (·.data.toList)) sep.data.toList)
/-- The sum of the lengths. -/
def lensB (xs : List ByteArray) : Nat := Lib.lens (xs.map (·.data.toList))
theorem joinB_nil (sep : ByteArray) : joinB [] sep = { data := #[] } := by unfold joinB; rw [List.map_nil, Lib.join_nil]; rfl
theorem joinB_snoc (xs : List ByteArray) (x sep : ByteArray) : joinB (xs ++ [x]) sep = if xs = [] then x else joinB xs sep ++ sep ++ x := by
  unfold joinB
  rw [List.map_append, List.map_cons, List.map_nil, join_snoc]
  by_cases h : xs = []
  · subst h; rw [if_pos rfl, List.map_nil, if_pos rfl, bs_list]
  · rw [if_neg h, if_neg (by simpa using h), ← bs_append, ← bs_append, bs_list, bs_list]
theorem joinB_size (xs : List ByteArray) (sep : ByteArray) : (joinB xs sep).size ≤ sep.size * xs.length + lensB xs := by
  unfold joinB lensB
  rw [bs_size, size_list]
  have := join_len_le (xs.map (·.data.toList)) sep.data.toList
  rwa [List.length_map] at this
theorem lensB_take (xs : List ByteArray) (k : Nat) : lensB (xs.take k) ≤ lensB xs := by
  unfold lensB
  rw [List.map_take]
  exact lens_len _ _
theorem lens_mem {l : List (List UInt8)} {x : List UInt8} (h : x ∈ l) : x.length ≤ Lib.lens l := by
  induction l with
  | nil => cases h
  | cons y l ih =>
    unfold Lib.lens at ih ⊢
    rcases List.mem_cons.1 h with h1 | h1
    · subst h1; simp
    · have := ih h1; simp at this ⊢; omega
theorem lensB_at (xs : List ByteArray) (i : Nat) (h : i < xs.length) : (sat xs i).size ≤ lensB xs := by
  rw [sat_of_lt h, size_list]
  unfold lensB
  exact lens_mem (List.mem_map_of_mem (List.getElem_mem h))
theorem take_snocS (xs : List ByteArray) (i : Nat) (h : i < xs.length) : xs.take (i + 1) = xs.take i ++ [sat xs i] := by
  rw [sat_of_lt h, List.take_succ_eq_append_getElem h]

theorem Join_c (w : World) (b : Nat) (v : Value) (xs : List ByteArray) (sep t : ByteArray) (h : OwnS w b v xs) (ht : Hid (t = joinB xs sep)) (hn : xs.length ≤ 1048576) (hs : sep.size ≤ 1048576) (hl : lensB xs ≤ 1048576) :
    Calls Tryz.prog 51 #[v, .string sep] w (RetT w t) := by
  have hz : sep.size * xs.length + lensB xs ≤ 140737488355328 := by
    have := Nat.mul_le_mul hs hn
    omega
  have hj := joinB_size xs sep
  have H := Lib.hid h
  clear h
  have HT : Hid (t = ⟨(Lib.join (xs.map (·.data.toList)) sep.data.toList).toArray⟩) := ht
  go_enter Tryz.func51, Tryz.ntmps51
  go_wp2_with fail
  refine (join_c _ b v xs sep H.out (by omega) (by unfold joinB at hj; rw [bs_size] at hj; omega)).mono ?_
  rintro e w1 ⟨rfl, hb⟩
  rw [← HT.out]
  go_wp2
  go_ret
  exact retT rfl hb

end Go.Proofs.YtijeplcjbhkkoaaGreatDoor
