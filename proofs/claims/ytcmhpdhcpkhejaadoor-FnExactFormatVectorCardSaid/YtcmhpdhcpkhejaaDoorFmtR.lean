/- FormatRat: the program's and the reference's. -/
import Derived.Test.YtcmhpdhcpkhejaaDoorFmtZ
import Derived.Test.YtcmhpdhcpkhejaaDoorRatS
import Derived.Test.YtcmhpdhcpkhejaaDoorRatB
namespace Go.Proofs.YtcmhpdhcpkhejaaDoor
open Go.RowKit Tx Go.Lib Lm

/-- A fraction's text. -/
def fmtR (s : Bool) (xs ys : List Int) : List UInt8 := fmtZ s xs ++ (if ys = [1] then [] else 47 :: fmtN ys)
open Classical in
noncomputable def fRs (s : Bool) (xs ys : List Int) : ByteArray := if OkR s xs ys then bs (fmtR s xs ys) else ByteArray.empty
theorem fmtR_one (s : Bool) (xs : List Int) : fmtR s xs [1] = fmtZ s xs := by unfold fmtR; rw [if_pos rfl, List.append_nil]
theorem fmtR_more {s : Bool} {xs ys : List Int} (h : ys ≠ [1]) : fmtR s xs ys = fmtZ s xs ++ 47 :: fmtN ys := by unfold fmtR; rw [if_neg h]
theorem Tabs.drew {w : World} (h : Tabs w) : Tabs w.drew := h
theorem isOne_yes (w : World) (b1 : Nat) (v1 : Value) (h1 : Own w b1 v1 [1]) : Calls Tryd.prog 27 #[v1] w (RetB w true) := isOne_t w b1 v1 (by rw [limbs_one]; exact h1)
theorem isOne_no (w : World) (b1 : Nat) (v1 : Value) (ys : List Int) (h1 : Own w b1 v1 ys) (h : Norm ys) (hy : ys ≠ [1]) : Calls Tryd.prog 27 #[v1] w (RetB w false) :=
  isOne_f w b1 v1 (nv ys).toNat (by rw [← h.limbs']; exact h1) (fun e => hy (by rw [h.limbs', e, limbs_one]))
theorem l04One_yes (w : World) (b1 : Nat) (v1 : Value) (h1 : Own w b1 v1 [1]) : Calls Tryd.prog 21 #[v1] w (RetB w true) := l04One_t w b1 v1 (by rw [limbs_one]; exact h1)
theorem l04One_no (w : World) (b1 : Nat) (v1 : Value) (ys : List Int) (h1 : Own w b1 v1 ys) (h : Norm ys) (hy : ys ≠ [1]) : Calls Tryd.prog 21 #[v1] w (RetB w false) :=
  l04One_f w b1 v1 (nv ys).toNat (by rw [← h.limbs']; exact h1) (fun e => hy (by rw [h.limbs', e, limbs_one]))

set_option maxHeartbeats 1000000 in
theorem formatRat_1 (w : World) (b1 e1 : Nat) (s : Bool) (v1 u1 : Value) (xs : List Int) (h1 : Own w b1 v1 xs) (k1 : Own w e1 u1 [1]) (hx : OkP xs) (ht : Tabs w) (t : ByteArray) (hT : t = bs (fmtR s xs [1])) :
    Calls Tryd.prog 15 #[.agg #[.bool s, v1, u1]] w (RetT w t) := by
  have BW : Below w.heap.size w (w.alloc (.cells #[.bool s, v1, u1] 39)) := ((Below.refl w.heap.size w).alloc (Nat.le_refl _) _)
  obtain ⟨c0_0, c0_1, c0_2⟩ : World.cell? (w.alloc (.cells #[.bool s, v1, u1] 39)) ⟨w.heap.size, 0, none⟩ = some (.bool s) ∧ World.cell? (w.alloc (.cells #[.bool s, v1, u1] 39)) ⟨w.heap.size, 1, none⟩ = some (v1) ∧ World.cell? (w.alloc (.cells #[.bool s, v1, u1] 39)) ⟨w.heap.size, 2, none⟩ = some (u1) := by simp [go_sem]
  have Ha := Lib.hid (h1.below BW (Nat.le_refl _))
  have Hb := Lib.hid (k1.below BW (Nat.le_refl _))
  have HT := Lib.hid (ht.below BW (Nat.le_refl _))
  clear h1 k1 ht
  have HX := Lib.hid hx
  have HU : Hid (t = bs (fmtZ s xs)) := by unfold Hid; rw [hT, fmtR_one]
  clear hx hT
  go_enter Tryd.func15, Tryd.ntmps15
  go_wp2_with fail
  generalize (w.alloc (.cells #[.bool s, v1, u1] 39)) = w0 at *
  have B0 := Below.refl w0.heap.size w0
  refine (isOne_yes _ _ _ Hb.out).mono ?_
  rintro e w1 ⟨rfl, hb⟩
  replace c0_0 := keep_cell hb c0_0
  replace c0_1 := keep_cell hb c0_1
  replace c0_2 := keep_cell hb c0_2
  replace Ha := Lib.hid (Ha.out.below hb (Nat.le_refl _))
  replace Hb := Lib.hid (Hb.out.below hb (Nat.le_refl _))
  replace HT := Lib.hid (HT.out.below hb (Nat.le_refl _))
  replace B0 := B0.trans (hb.mono B0.size)
  clear hb
  go_wp2_with fail
  refine (formatBig_c _ _ _ _ xs Ha.out HX.out HT.out t HU).mono ?_
  rintro e w2 ⟨rfl, hb⟩
  replace c0_0 := keep_cell hb c0_0
  replace c0_1 := keep_cell hb c0_1
  replace c0_2 := keep_cell hb c0_2
  replace Ha := Lib.hid (Ha.out.below hb (Nat.le_refl _))
  replace Hb := Lib.hid (Hb.out.below hb (Nat.le_refl _))
  replace HT := Lib.hid (HT.out.below hb (Nat.le_refl _))
  replace B0 := B0.trans (hb.mono B0.size)
  clear hb
  go_wp2
  go_ret
  exact retT rfl (BW.trans (B0.mono BW.size))

set_option maxHeartbeats 1000000 in
theorem formatRat_2 (w : World) (b1 e1 : Nat) (s : Bool) (v1 u1 : Value) (xs ys : List Int) (h1 : Own w b1 v1 xs) (k1 : Own w e1 u1 ys) (hx : OkP xs) (hy : OkP ys) (hne : ys ≠ [1]) (ht : Tabs w) (t : ByteArray) (hT : t = bs (fmtR s xs ys)) :
    Calls Tryd.prog 15 #[.agg #[.bool s, v1, u1]] w (RetT w t) := by
  have BW : Below w.heap.size w (w.alloc (.cells #[.bool s, v1, u1] 39)) := ((Below.refl w.heap.size w).alloc (Nat.le_refl _) _)
  obtain ⟨c0_0, c0_1, c0_2⟩ : World.cell? (w.alloc (.cells #[.bool s, v1, u1] 39)) ⟨w.heap.size, 0, none⟩ = some (.bool s) ∧ World.cell? (w.alloc (.cells #[.bool s, v1, u1] 39)) ⟨w.heap.size, 1, none⟩ = some (v1) ∧ World.cell? (w.alloc (.cells #[.bool s, v1, u1] 39)) ⟨w.heap.size, 2, none⟩ = some (u1) := by simp [go_sem]
  have Ha := Lib.hid (h1.below BW (Nat.le_refl _))
  have Hb := Lib.hid (k1.below BW (Nat.le_refl _))
  have HT := Lib.hid (ht.below BW (Nat.le_refl _))
  clear h1 k1 ht
  have HX := Lib.hid hx
  have HY := Lib.hid hy
  have HNE := Lib.hid hne
  obtain ⟨u, hu⟩ : ∃ u, u = bs (fmtZ s xs) := ⟨_, rfl⟩
  have HU := Lib.hid hu
  obtain ⟨q, hq⟩ : ∃ q, q = bs (fmtN ys) := ⟨_, rfl⟩
  have HQ := Lib.hid hq
  have HC : Hid (u ++ ({ data := #[47] } : ByteArray) ++ q = t) := by unfold Hid; rw [hT, hu, hq, show ({ data := #[47] } : ByteArray) = bs [47] from rfl, bs_append, bs_append, fmtR_more hne, List.append_assoc]; rfl
  have hus : u.size + ({ data := #[47] } : ByteArray).size ≤ 9223372036854775807 := by have := fmtZ_len (s := s) hx; rw [hu, bs_size]; show _ + 1 ≤ _; omega
  have hus2 : (u ++ ({ data := #[47] } : ByteArray)).size + q.size ≤ 9223372036854775807 := by have := fmtZ_len (s := s) hx; have := fmtN_len hy.2 hy.1; rw [hq, hu, ByteArray.size_append, bs_size, bs_size]; show _ + 1 + _ ≤ _; omega
  have hus3 : ¬ 9223372036854775807 < u.size + 1 := by have h : u.size + 1 ≤ 9223372036854775807 := hus; omega
  have hus4 : ¬ 9223372036854775807 < u.size + 1 + q.size := by rw [ByteArray.size_append] at hus2; have h : u.size + 1 + q.size ≤ 9223372036854775807 := hus2; omega
  clear hx hy hne hu hq hT
  go_enter Tryd.func15, Tryd.ntmps15
  go_wp2_with fail
  generalize (w.alloc (.cells #[.bool s, v1, u1] 39)) = w0 at *
  have B0 := Below.refl w0.heap.size w0
  refine (isOne_no _ _ _ ys Hb.out HY.out.2 HNE.out).mono ?_
  rintro e w1 ⟨rfl, hb⟩
  replace c0_0 := keep_cell hb c0_0
  replace c0_1 := keep_cell hb c0_1
  replace c0_2 := keep_cell hb c0_2
  replace Ha := Lib.hid (Ha.out.below hb (Nat.le_refl _))
  replace Hb := Lib.hid (Hb.out.below hb (Nat.le_refl _))
  replace HT := Lib.hid (HT.out.below hb (Nat.le_refl _))
  replace B0 := B0.trans (hb.mono B0.size)
  clear hb
  go_wp2_with fail
  replace Ha := Lib.hid Ha.out.drew
  replace Hb := Lib.hid Hb.out.drew
  replace HT := Lib.hid HT.out.drew
  replace B0 := below_drew B0
  replace c0_0 := cell_drew c0_0
  replace c0_1 := cell_drew c0_1
  replace c0_2 := cell_drew c0_2
  go_region_held3 (fun w' => w'.cell? ⟨w.heap.size, 0, none⟩ = some (.bool s) ∧ w'.cell? ⟨w.heap.size, 1, none⟩ = some (v1) ∧ w'.cell? ⟨w.heap.size, 2, none⟩ = some (u1)) (first | exact ⟨c0_0, c0_1, c0_2⟩ | (go_split_ands; exact ⟨(set_far (set_far ‹_› (by dsimp only; omega)) (by dsimp only; omega)), (set_far (set_far ‹_› (by dsimp only; omega)) (by dsimp only; omega)), (set_far (set_far ‹_› (by dsimp only; omega)) (by dsimp only; omega))⟩) | (go_split_ands; exact ⟨(set_far (set_far (set_far ‹_› (by dsimp only; omega)) (by dsimp only; omega)) (by dsimp only; omega)), (set_far (set_far (set_far ‹_› (by dsimp only; omega)) (by dsimp only; omega)) (by dsimp only; omega)), (set_far (set_far (set_far ‹_› (by dsimp only; omega)) (by dsimp only; omega)) (by dsimp only; omega))⟩) | (go_split_ands; exact ⟨(set_far ‹_› (by dsimp only; omega)), (set_far ‹_› (by dsimp only; omega)), (set_far ‹_› (by dsimp only; omega))⟩) | go_keep)
    (first | (go_at_call 28; refine (formatBig_c _ _ _ _ xs Ha.out HX.out HT.out u HU).mono ?_; rintro e w2 ⟨rfl, hb2⟩; replace c0_0 := keep_cell (w1 := w2) hb2 c0_0; replace c0_1 := keep_cell (w1 := w2) hb2 c0_1; replace c0_2 := keep_cell (w1 := w2) hb2 c0_2; replace Ha := Lib.hid (Ha.out.below hb2 (Nat.le_refl _)); replace Hb := Lib.hid (Hb.out.below hb2 (Nat.le_refl _)); replace HT := Lib.hid (HT.out.below hb2 (Nat.le_refl _)); replace B0 := B0.trans (hb2.mono B0.size); clear hb2) | (go_at_call 29; refine (formatNat_c _ _ _ ys Hb.out HY.out HT.out q HQ).mono ?_; rintro e w3 ⟨rfl, hb3⟩; replace c0_0 := keep_cell (w1 := w3) hb3 c0_0; replace c0_1 := keep_cell (w1 := w3) hb3 c0_1; replace c0_2 := keep_cell (w1 := w3) hb3 c0_2; replace Ha := Lib.hid (Ha.out.below hb3 (Nat.le_refl _)); replace Hb := Lib.hid (Hb.out.below hb3 (Nat.le_refl _)); replace HT := Lib.hid (HT.out.below hb3 (Nat.le_refl _)); replace B0 := B0.trans (hb3.mono B0.size); clear hb3))
  go_wp2
  go_ret
  exact retT HC.out (BW.trans (B0.mono BW.size))

theorem formatRat_c (w : World) (b1 e1 : Nat) (s : Bool) (v1 u1 : Value) (xs ys : List Int) (h1 : Own w b1 v1 xs) (k1 : Own w e1 u1 ys) (hx : OkP xs) (hy : OkP ys) (ht : Tabs w) (t : ByteArray) (hT : Hid (t = bs (fmtR s xs ys))) : Calls Tryd.prog 15 #[.agg #[.bool s, v1, u1]] w (RetT w t) := by
  by_cases hne : ys = [1]
  · subst hne; exact formatRat_1 w b1 e1 s v1 u1 xs h1 k1 hx ht t hT.out
  · exact formatRat_2 w b1 e1 s v1 u1 xs ys h1 k1 hx hy hne ht t hT.out

set_option maxHeartbeats 1000000 in
theorem sFormatRat_1 (w : World) (b1 e1 : Nat) (s : Bool) (v1 u1 : Value) (xs : List Int) (h1 : Own w b1 v1 xs) (k1 : Own w e1 u1 [1]) (hx : OkR s xs [1]) (t : ByteArray) (hT : t = bs (fmtR s xs [1])) :
    Calls Tryd.prog 11 #[.agg #[.bool s, v1, u1]] w (RetT w t) := by
  have BW : Below w.heap.size w (w.alloc (.cells #[.bool s, v1, u1] 39)) := ((Below.refl w.heap.size w).alloc (Nat.le_refl _) _)
  obtain ⟨c0_0, c0_1, c0_2⟩ : World.cell? (w.alloc (.cells #[.bool s, v1, u1] 39)) ⟨w.heap.size, 0, none⟩ = some (.bool s) ∧ World.cell? (w.alloc (.cells #[.bool s, v1, u1] 39)) ⟨w.heap.size, 1, none⟩ = some (v1) ∧ World.cell? (w.alloc (.cells #[.bool s, v1, u1] 39)) ⟨w.heap.size, 2, none⟩ = some (u1) := by simp [go_sem]
  have Ha := Lib.hid (h1.below BW (Nat.le_refl _))
  have Hb := Lib.hid (k1.below BW (Nat.le_refl _))
  clear h1 k1
  have HX := Lib.hid hx
  have HU : Hid (t = bs (fmtZ s xs)) := by unfold Hid; rw [hT, fmtR_one]
  clear hx hT
  go_enter Tryd.func11, Tryd.ntmps11
  go_wp2_with fail
  generalize (w.alloc (.cells #[.bool s, v1, u1] 39)) = w0 at *
  have B0 := Below.refl w0.heap.size w0
  refine (sRatOk_t _ _ _ _ _ _ _ _ Ha.out Hb.out HX.out).mono ?_
  rintro e w1 ⟨rfl, hb⟩
  replace c0_0 := keep_cell hb c0_0
  replace c0_1 := keep_cell hb c0_1
  replace c0_2 := keep_cell hb c0_2
  replace Ha := Lib.hid (Ha.out.below hb (Nat.le_refl _))
  replace Hb := Lib.hid (Hb.out.below hb (Nat.le_refl _))
  replace B0 := B0.trans (hb.mono B0.size)
  clear hb
  go_wp2_with fail
  refine (l04One_yes _ _ _ Hb.out).mono ?_
  rintro e w2 ⟨rfl, hb⟩
  replace c0_0 := keep_cell hb c0_0
  replace c0_1 := keep_cell hb c0_1
  replace c0_2 := keep_cell hb c0_2
  replace Ha := Lib.hid (Ha.out.below hb (Nat.le_refl _))
  replace Hb := Lib.hid (Hb.out.below hb (Nat.le_refl _))
  replace B0 := B0.trans (hb.mono B0.size)
  clear hb
  go_wp2_with fail
  refine (sFormatBig_t _ _ _ _ xs Ha.out HX.out.1 t HU).mono ?_
  rintro e w3 ⟨rfl, hb⟩
  replace c0_0 := keep_cell hb c0_0
  replace c0_1 := keep_cell hb c0_1
  replace c0_2 := keep_cell hb c0_2
  replace Ha := Lib.hid (Ha.out.below hb (Nat.le_refl _))
  replace Hb := Lib.hid (Hb.out.below hb (Nat.le_refl _))
  replace B0 := B0.trans (hb.mono B0.size)
  clear hb
  go_wp2
  go_ret
  exact retT rfl (BW.trans (B0.mono BW.size))

set_option maxHeartbeats 1000000 in
theorem sFormatRat_2 (w : World) (b1 e1 : Nat) (s : Bool) (v1 u1 : Value) (xs ys : List Int) (h1 : Own w b1 v1 xs) (k1 : Own w e1 u1 ys) (hx : OkR s xs ys) (hne : ys ≠ [1]) (t : ByteArray) (hT : t = bs (fmtR s xs ys)) :
    Calls Tryd.prog 11 #[.agg #[.bool s, v1, u1]] w (RetT w t) := by
  have BW : Below w.heap.size w (w.alloc (.cells #[.bool s, v1, u1] 39)) := ((Below.refl w.heap.size w).alloc (Nat.le_refl _) _)
  obtain ⟨c0_0, c0_1, c0_2⟩ : World.cell? (w.alloc (.cells #[.bool s, v1, u1] 39)) ⟨w.heap.size, 0, none⟩ = some (.bool s) ∧ World.cell? (w.alloc (.cells #[.bool s, v1, u1] 39)) ⟨w.heap.size, 1, none⟩ = some (v1) ∧ World.cell? (w.alloc (.cells #[.bool s, v1, u1] 39)) ⟨w.heap.size, 2, none⟩ = some (u1) := by simp [go_sem]
  have Ha := Lib.hid (h1.below BW (Nat.le_refl _))
  have Hb := Lib.hid (k1.below BW (Nat.le_refl _))
  clear h1 k1
  have HX := Lib.hid hx
  have hy := hx.2.1
  replace hx := hx.1.1
  have HY := Lib.hid hy
  have HNE := Lib.hid hne
  obtain ⟨u, hu⟩ : ∃ u, u = bs (fmtZ s xs) := ⟨_, rfl⟩
  have HU := Lib.hid hu
  obtain ⟨q, hq⟩ : ∃ q, q = bs (fmtN ys) := ⟨_, rfl⟩
  have HQ := Lib.hid hq
  have HC : Hid (u ++ ({ data := #[47] } : ByteArray) ++ q = t) := by unfold Hid; rw [hT, hu, hq, show ({ data := #[47] } : ByteArray) = bs [47] from rfl, bs_append, bs_append, fmtR_more hne, List.append_assoc]; rfl
  have hus : u.size + ({ data := #[47] } : ByteArray).size ≤ 9223372036854775807 := by have := fmtZ_len (s := s) hx; rw [hu, bs_size]; show _ + 1 ≤ _; omega
  have hus2 : (u ++ ({ data := #[47] } : ByteArray)).size + q.size ≤ 9223372036854775807 := by have := fmtZ_len (s := s) hx; have := fmtN_len hy.2 hy.1; rw [hq, hu, ByteArray.size_append, bs_size, bs_size]; show _ + 1 + _ ≤ _; omega
  have hus3 : ¬ 9223372036854775807 < u.size + 1 := by have h : u.size + 1 ≤ 9223372036854775807 := hus; omega
  have hus4 : ¬ 9223372036854775807 < u.size + 1 + q.size := by rw [ByteArray.size_append] at hus2; have h : u.size + 1 + q.size ≤ 9223372036854775807 := hus2; omega
  clear hx hy hne hu hq hT
  go_enter Tryd.func11, Tryd.ntmps11
  go_wp2_with fail
  generalize (w.alloc (.cells #[.bool s, v1, u1] 39)) = w0 at *
  have B0 := Below.refl w0.heap.size w0
  refine (sRatOk_t _ _ _ _ _ _ _ _ Ha.out Hb.out HX.out).mono ?_
  rintro e w1 ⟨rfl, hb⟩
  replace c0_0 := keep_cell hb c0_0
  replace c0_1 := keep_cell hb c0_1
  replace c0_2 := keep_cell hb c0_2
  replace Ha := Lib.hid (Ha.out.below hb (Nat.le_refl _))
  replace Hb := Lib.hid (Hb.out.below hb (Nat.le_refl _))
  replace B0 := B0.trans (hb.mono B0.size)
  clear hb
  go_wp2_with fail
  refine (l04One_no _ _ _ ys Hb.out HY.out.2 HNE.out).mono ?_
  rintro e w2 ⟨rfl, hb⟩
  replace c0_0 := keep_cell hb c0_0
  replace c0_1 := keep_cell hb c0_1
  replace c0_2 := keep_cell hb c0_2
  replace Ha := Lib.hid (Ha.out.below hb (Nat.le_refl _))
  replace Hb := Lib.hid (Hb.out.below hb (Nat.le_refl _))
  replace B0 := B0.trans (hb.mono B0.size)
  clear hb
  go_wp2_with fail
  replace Ha := Lib.hid Ha.out.drew
  replace Hb := Lib.hid Hb.out.drew
  replace B0 := below_drew B0
  replace c0_0 := cell_drew c0_0
  replace c0_1 := cell_drew c0_1
  replace c0_2 := cell_drew c0_2
  go_region_held3 (fun w' => w'.cell? ⟨w.heap.size, 0, none⟩ = some (.bool s) ∧ w'.cell? ⟨w.heap.size, 1, none⟩ = some (v1) ∧ w'.cell? ⟨w.heap.size, 2, none⟩ = some (u1)) (first | exact ⟨c0_0, c0_1, c0_2⟩ | (go_split_ands; exact ⟨(set_far (set_far ‹_› (by dsimp only; omega)) (by dsimp only; omega)), (set_far (set_far ‹_› (by dsimp only; omega)) (by dsimp only; omega)), (set_far (set_far ‹_› (by dsimp only; omega)) (by dsimp only; omega))⟩) | (go_split_ands; exact ⟨(set_far (set_far (set_far ‹_› (by dsimp only; omega)) (by dsimp only; omega)) (by dsimp only; omega)), (set_far (set_far (set_far ‹_› (by dsimp only; omega)) (by dsimp only; omega)) (by dsimp only; omega)), (set_far (set_far (set_far ‹_› (by dsimp only; omega)) (by dsimp only; omega)) (by dsimp only; omega))⟩) | (go_split_ands; exact ⟨(set_far ‹_› (by dsimp only; omega)), (set_far ‹_› (by dsimp only; omega)), (set_far ‹_› (by dsimp only; omega))⟩) | go_keep)
    (first | (go_at_call 22; refine (sFormatBig_t _ _ _ _ xs Ha.out HX.out.1 u HU).mono ?_; rintro e w3 ⟨rfl, hb3⟩; replace c0_0 := keep_cell (w1 := w3) hb3 c0_0; replace c0_1 := keep_cell (w1 := w3) hb3 c0_1; replace c0_2 := keep_cell (w1 := w3) hb3 c0_2; replace Ha := Lib.hid (Ha.out.below hb3 (Nat.le_refl _)); replace Hb := Lib.hid (Hb.out.below hb3 (Nat.le_refl _)); replace B0 := B0.trans (hb3.mono B0.size); clear hb3) | (go_at_call 23; refine (sFormatNat_t _ _ _ ys Hb.out HY.out q HQ).mono ?_; rintro e w4 ⟨rfl, hb4⟩; replace c0_0 := keep_cell (w1 := w4) hb4 c0_0; replace c0_1 := keep_cell (w1 := w4) hb4 c0_1; replace c0_2 := keep_cell (w1 := w4) hb4 c0_2; replace Ha := Lib.hid (Ha.out.below hb4 (Nat.le_refl _)); replace Hb := Lib.hid (Hb.out.below hb4 (Nat.le_refl _)); replace B0 := B0.trans (hb4.mono B0.size); clear hb4))
  go_wp2
  go_ret
  exact retT HC.out (BW.trans (B0.mono BW.size))

set_option maxHeartbeats 1000000 in
theorem sFormatRat_n (w : World) (b1 e1 : Nat) (s : Bool) (v1 u1 : Value) (xs ys : List Int) (h1 : Own w b1 v1 xs) (k1 : Own w e1 u1 ys) (hx : ¬ OkR s xs ys) :
    Calls Tryd.prog 11 #[.agg #[.bool s, v1, u1]] w (RetT w ByteArray.empty) := by
  have BW : Below w.heap.size w (w.alloc (.cells #[.bool s, v1, u1] 39)) := ((Below.refl w.heap.size w).alloc (Nat.le_refl _) _)
  obtain ⟨c0_0, c0_1, c0_2⟩ : World.cell? (w.alloc (.cells #[.bool s, v1, u1] 39)) ⟨w.heap.size, 0, none⟩ = some (.bool s) ∧ World.cell? (w.alloc (.cells #[.bool s, v1, u1] 39)) ⟨w.heap.size, 1, none⟩ = some (v1) ∧ World.cell? (w.alloc (.cells #[.bool s, v1, u1] 39)) ⟨w.heap.size, 2, none⟩ = some (u1) := by simp [go_sem]
  have Ha := Lib.hid (h1.below BW (Nat.le_refl _))
  have Hb := Lib.hid (k1.below BW (Nat.le_refl _))
  clear h1 k1
  have HX := Lib.hid hx
  clear hx
  go_enter Tryd.func11, Tryd.ntmps11
  go_wp2_with fail
  generalize (w.alloc (.cells #[.bool s, v1, u1] 39)) = w0 at *
  have B0 := Below.refl w0.heap.size w0
  refine (sRatOk_f _ _ _ _ _ _ _ _ Ha.out Hb.out HX.out).mono ?_
  rintro e w1 ⟨rfl, hb⟩
  replace c0_0 := keep_cell hb c0_0
  replace c0_1 := keep_cell hb c0_1
  replace c0_2 := keep_cell hb c0_2
  replace Ha := Lib.hid (Ha.out.below hb (Nat.le_refl _))
  replace Hb := Lib.hid (Hb.out.below hb (Nat.le_refl _))
  replace B0 := B0.trans (hb.mono B0.size)
  clear hb
  go_wp2
  go_ret
  exact retT rfl (BW.trans (B0.mono BW.size))

theorem sFormatRat_c (w : World) (b1 e1 : Nat) (s : Bool) (v1 u1 : Value) (xs ys : List Int) (h1 : Own w b1 v1 xs) (k1 : Own w e1 u1 ys) : Calls Tryd.prog 11 #[.agg #[.bool s, v1, u1]] w (RetT w (fRs s xs ys)) := by
  unfold fRs
  by_cases hx : OkR s xs ys
  · rw [if_pos hx]
    by_cases hne : ys = [1]
    · subst hne; exact sFormatRat_1 w b1 e1 s v1 u1 xs h1 k1 hx _ rfl
    · exact sFormatRat_2 w b1 e1 s v1 u1 xs ys h1 k1 hx hne _ rfl
  · rw [if_neg hx]; exact sFormatRat_n w b1 e1 s v1 u1 xs ys h1 k1 hx

end Go.Proofs.YtcmhpdhcpkhejaaDoor
