/- The program's fractions: the operations. -/
import Derived.Test.YtijeplcjbhkkoaaGreatDoorRatG
namespace Go.Proofs.YtijeplcjbhkkoaaGreatDoor
open Go.RowKit Lm

set_option maxHeartbeats 2000000 in
theorem copyRat_c (w : World) (b1 e1 : Nat) (v1 u1 : Value) (x : Int) (d : Nat) (h1 : Own w b1 v1 (limbs x.natAbs)) (k1 : Own w e1 u1 (limbs d)) (hl1 : (limbs x.natAbs).length ≤ 900) (hl2 : (limbs d).length ≤ 900) :
    Calls Tryz.prog 136 #[.agg #[.bool (ng x), v1, u1]] w (RetQ w x d) := by
  have BW : Below w.heap.size w ((w.alloc (.cells #[.bool (ng x), v1, u1] 27)).alloc (.cells #[.bool false, .slice none 0 0, .slice none 0 0] 27)) := (((Below.refl w.heap.size w).alloc (Nat.le_refl _) _).alloc (by simp) _)
  obtain ⟨c0_0, c0_1, c0_2, c1_0, c1_1, c1_2, q0, q1, q2⟩ : World.cell? ((w.alloc (.cells #[.bool (ng x), v1, u1] 27)).alloc (.cells #[.bool false, .slice none 0 0, .slice none 0 0] 27)) ⟨w.heap.size, 0, none⟩ = some (.bool (ng x)) ∧ World.cell? ((w.alloc (.cells #[.bool (ng x), v1, u1] 27)).alloc (.cells #[.bool false, .slice none 0 0, .slice none 0 0] 27)) ⟨w.heap.size, 1, none⟩ = some (v1) ∧ World.cell? ((w.alloc (.cells #[.bool (ng x), v1, u1] 27)).alloc (.cells #[.bool false, .slice none 0 0, .slice none 0 0] 27)) ⟨w.heap.size, 2, none⟩ = some (u1) ∧ World.cell? ((w.alloc (.cells #[.bool (ng x), v1, u1] 27)).alloc (.cells #[.bool false, .slice none 0 0, .slice none 0 0] 27)) ⟨w.heap.size + 1, 0, none⟩ = some (.bool false) ∧ World.cell? ((w.alloc (.cells #[.bool (ng x), v1, u1] 27)).alloc (.cells #[.bool false, .slice none 0 0, .slice none 0 0] 27)) ⟨w.heap.size + 1, 1, none⟩ = some (.slice none 0 0) ∧ World.cell? ((w.alloc (.cells #[.bool (ng x), v1, u1] 27)).alloc (.cells #[.bool false, .slice none 0 0, .slice none 0 0] 27)) ⟨w.heap.size + 1, 2, none⟩ = some (.slice none 0 0) ∧ World.frozen? ((w.alloc (.cells #[.bool (ng x), v1, u1] 27)).alloc (.cells #[.bool false, .slice none 0 0, .slice none 0 0] 27)) ⟨w.heap.size + 1, 0, none⟩ = false ∧ World.frozen? ((w.alloc (.cells #[.bool (ng x), v1, u1] 27)).alloc (.cells #[.bool false, .slice none 0 0, .slice none 0 0] 27)) ⟨w.heap.size + 1, 1, none⟩ = false ∧ World.frozen? ((w.alloc (.cells #[.bool (ng x), v1, u1] 27)).alloc (.cells #[.bool false, .slice none 0 0, .slice none 0 0] 27)) ⟨w.heap.size + 1, 2, none⟩ = false := by simp [go_sem]
  have hg0 : w.heap.size + 1 < (((w.alloc (.cells #[.bool (ng x), v1, u1] 27)).alloc (.cells #[.bool false, .slice none 0 0, .slice none 0 0] 27))).heap.size := World.block_lt_of_cell? _ _ c1_0
  have Ha := Lib.hid (h1.below BW (Nat.le_refl _))
  have Hb := Lib.hid (k1.below BW (Nat.le_refl _))
  clear h1 k1
  go_enter Tryz.func136, Tryz.ntmps136
  go_wp2_with fail
  generalize ((w.alloc (.cells #[.bool (ng x), v1, u1] 27)).alloc (.cells #[.bool false, .slice none 0 0, .slice none 0 0] 27)) = w0 at *
  have B0 := Below.refl w0.heap.size w0
  replace Ha := Lib.hid Ha.out.drew
  replace Hb := Lib.hid Hb.out.drew
  replace B0 := below_drew B0
  replace q0 := frozen_drew q0
  replace c1_0 := cell_drew c1_0
  replace q1 := frozen_drew q1
  replace c1_1 := cell_drew c1_1
  replace q2 := frozen_drew q2
  replace c1_2 := cell_drew c1_2
  replace c0_0 := cell_drew c0_0
  replace c0_1 := cell_drew c0_1
  replace c0_2 := cell_drew c0_2
  go_region_held3 (fun w' => w'.cell? ⟨w.heap.size, 0, none⟩ = some (.bool (ng x)) ∧ w'.cell? ⟨w.heap.size, 1, none⟩ = some (v1) ∧ w'.cell? ⟨w.heap.size, 2, none⟩ = some (u1)) (first | exact ⟨c0_0, c0_1, c0_2⟩ | (go_split_ands; exact ⟨(set_far (set_far ‹_› (by dsimp only; omega)) (by dsimp only; omega)), (set_far (set_far ‹_› (by dsimp only; omega)) (by dsimp only; omega)), (set_far (set_far ‹_› (by dsimp only; omega)) (by dsimp only; omega))⟩) | (go_split_ands; exact ⟨(set_far (set_far (set_far ‹_› (by dsimp only; omega)) (by dsimp only; omega)) (by dsimp only; omega)), (set_far (set_far (set_far ‹_› (by dsimp only; omega)) (by dsimp only; omega)) (by dsimp only; omega)), (set_far (set_far (set_far ‹_› (by dsimp only; omega)) (by dsimp only; omega)) (by dsimp only; omega))⟩) | (go_split_ands; exact ⟨(set_far ‹_› (by dsimp only; omega)), (set_far ‹_› (by dsimp only; omega)), (set_far ‹_› (by dsimp only; omega))⟩) | go_keep)
    (first | (go_at_call_of 64 (v1); refine (copyInts_c _ _ _ _ Ha.out (by omega)).mono ?_; rintro e w1 ⟨vr, rfl, ho1, hb1⟩; replace q0 := keep_frozen (w1 := w1) hb1 c1_0 q0; replace c1_0 := keep_cell (w1 := w1) hb1 c1_0; replace q1 := keep_frozen (w1 := w1) hb1 c1_1 q1; replace c1_1 := keep_cell (w1 := w1) hb1 c1_1; replace q2 := keep_frozen (w1 := w1) hb1 c1_2 q2; replace c1_2 := keep_cell (w1 := w1) hb1 c1_2; replace c0_0 := keep_cell (w1 := w1) hb1 c0_0; replace c0_1 := keep_cell (w1 := w1) hb1 c0_1; replace c0_2 := keep_cell (w1 := w1) hb1 c0_2; replace Ha := Lib.hid (Ha.out.below hb1 (Nat.le_refl _)); replace Hb := Lib.hid (Hb.out.below hb1 (Nat.le_refl _)); (try (replace Hs := Lib.hid (Hs.out.below hb1 (Nat.le_refl _)))); have Hr := Lib.hid (ho1.mono B0.size); clear ho1; obtain ⟨ar, cr, rfl, -, -, -, -, -⟩ := Hr.out.form; replace B0 := B0.trans (hb1.mono B0.size); clear hb1) | (go_at_call_of 64 (u1); refine (copyInts_c _ _ _ _ Hb.out (by omega)).mono ?_; rintro e w2 ⟨vs, rfl, ho1, hb2⟩; have HAP := apart_new Hr.out (.inr rfl) ho1; replace q0 := keep_frozen (w1 := w2) hb2 c1_0 q0; replace c1_0 := keep_cell (w1 := w2) hb2 c1_0; replace q1 := keep_frozen (w1 := w2) hb2 c1_1 q1; replace c1_1 := keep_cell (w1 := w2) hb2 c1_1; replace q2 := keep_frozen (w1 := w2) hb2 c1_2 q2; replace c1_2 := keep_cell (w1 := w2) hb2 c1_2; replace c0_0 := keep_cell (w1 := w2) hb2 c0_0; replace c0_1 := keep_cell (w1 := w2) hb2 c0_1; replace c0_2 := keep_cell (w1 := w2) hb2 c0_2; replace Ha := Lib.hid (Ha.out.below hb2 (Nat.le_refl _)); replace Hb := Lib.hid (Hb.out.below hb2 (Nat.le_refl _)); (try (replace Hr := Lib.hid (Hr.out.below hb2 (Nat.le_refl _)))); have Hs := Lib.hid (ho1.mono B0.size); clear ho1; obtain ⟨aS, cS, rfl, -, -, -, -, -⟩ := Hs.out.form; replace B0 := B0.trans (hb2.mono B0.size); clear hb2))
  go_wp2
  exact bodyPost_ret (v := .agg #[.bool (ng x), .slice ar (limbs x.natAbs).length cr, .slice aS (limbs d).length cS]) (by simp [results, Tryz.results136, go_sem, c1_0, c1_1, c1_2]) rfl (retR_end BW (by omega) hg0 B0 Hr.out Hs.out HAP)

/-- lowest, where its arguments lie apart from base b on. -/
theorem lowest_n (w : World) (b : Nat) (v1 v2 : Value) (x : Int) (d : Nat) (h1 : Own w b v1 (limbs x.natAbs)) (h2 : Own w b v2 (limbs d)) (hb : b ≤ w.heap.size) (hl1 : (limbs x.natAbs).length ≤ 900) (hl2 : (limbs d).length ≤ 900) (hd : 0 < d) (z : Int) (e : Nat) (hz : Hid (z = lowZ x d)) (he : Hid (e = lowD x d)) (ha : Apart v1 v2) :
    Calls Tryz.prog 60 #[.agg #[.bool (ng x), v1], v2] w (fun en w' => ∃ u v, en = .returned (.agg #[.bool (ng z), u, v]) ∧ Own w' b u (limbs z.natAbs) ∧ Own w' b v (limbs e) ∧ Apart u v ∧ Below w.heap.size w w') :=
  (lowest_c w b v1 v2 x d h1 h2 hb hl1 hl2 hd z e hz he).mono fun _ _ ⟨u, v, h3, h4, h5, h6, h7⟩ => ⟨u, v, h3, h4, h5, h6 ha, h7⟩
theorem bigMul_nat (w : World) (b1 b2 : Nat) (v1 v2 : Value) (x : Int) (f : Nat) (h1 : Own w b1 v1 (limbs x.natAbs)) (h2 : Own w b2 v2 (limbs f)) (hs1 : (limbs x.natAbs).length ≤ 900) (hs2 : (limbs f).length ≤ 900) (z : Int) (hz : z = x * (f : Int)) :
    Calls Tryz.prog 61 #[.agg #[.bool (ng x), v1], .agg #[.bool false, v2]] w (RetZ w z) :=
  bigMul_c w b1 b2 v1 v2 x (f : Int) h1 h2 hs1 hs2 z hz
theorem len_mulI {x y : Int} {i j : Nat} (h1 : (limbs x.natAbs).length ≤ i) (h2 : (limbs y.natAbs).length ≤ j) : (limbs (x * y).natAbs).length ≤ i + j := by
  rw [Int.natAbs_mul]; exact len_mul h1 h2
theorem len_mulN {x : Int} {f i j : Nat} (h1 : (limbs x.natAbs).length ≤ i) (h2 : (limbs f).length ≤ j) : (limbs (x * (f : Int)).natAbs).length ≤ i + j := by
  rw [Int.natAbs_mul, Int.natAbs_natCast]; exact len_mul h1 h2
theorem len_addI {x y : Int} {i : Nat} (h1 : (limbs x.natAbs).length ≤ i) (h2 : (limbs y.natAbs).length ≤ i) : (limbs (x + y).natAbs).length ≤ i + 1 :=
  Nat.le_trans (limbs_len_mono (Int.natAbs_add_le x y)) (len_add h1 h2)

set_option maxHeartbeats 2000000 in
theorem add_v1 (w : World) (e1 e2 : Nat) (v1 u1 v2 u2 : Value) (x y : Int) (d f : Nat) (k1 : Own w e1 u1 (limbs d)) (k2 : Own w e2 u2 (limbs f)) (hd : d = 0) :
    Calls Tryz.prog 31 #[.agg #[.bool (ng x), v1, u1], .agg #[.bool (ng y), v2, u2]] w (RetQ w 0 0) := by
  have BW : Below w.heap.size w (((w.alloc (.cells #[.bool (ng x), v1, u1] 27)).alloc (.cells #[.bool (ng y), v2, u2] 27)).alloc (.cells #[.bool false, .slice none 0 0, .slice none 0 0] 27)) := ((((Below.refl w.heap.size w).alloc (Nat.le_refl _) _).alloc (by simp) _).alloc (by simp; omega) _)
  obtain ⟨c0_0, c0_1, c0_2, c1_0, c1_1, c1_2, c2_0, c2_1, c2_2, q0, q1, q2⟩ : World.cell? (((w.alloc (.cells #[.bool (ng x), v1, u1] 27)).alloc (.cells #[.bool (ng y), v2, u2] 27)).alloc (.cells #[.bool false, .slice none 0 0, .slice none 0 0] 27)) ⟨w.heap.size, 0, none⟩ = some (.bool (ng x)) ∧ World.cell? (((w.alloc (.cells #[.bool (ng x), v1, u1] 27)).alloc (.cells #[.bool (ng y), v2, u2] 27)).alloc (.cells #[.bool false, .slice none 0 0, .slice none 0 0] 27)) ⟨w.heap.size, 1, none⟩ = some (v1) ∧ World.cell? (((w.alloc (.cells #[.bool (ng x), v1, u1] 27)).alloc (.cells #[.bool (ng y), v2, u2] 27)).alloc (.cells #[.bool false, .slice none 0 0, .slice none 0 0] 27)) ⟨w.heap.size, 2, none⟩ = some (u1) ∧ World.cell? (((w.alloc (.cells #[.bool (ng x), v1, u1] 27)).alloc (.cells #[.bool (ng y), v2, u2] 27)).alloc (.cells #[.bool false, .slice none 0 0, .slice none 0 0] 27)) ⟨w.heap.size + 1, 0, none⟩ = some (.bool (ng y)) ∧ World.cell? (((w.alloc (.cells #[.bool (ng x), v1, u1] 27)).alloc (.cells #[.bool (ng y), v2, u2] 27)).alloc (.cells #[.bool false, .slice none 0 0, .slice none 0 0] 27)) ⟨w.heap.size + 1, 1, none⟩ = some (v2) ∧ World.cell? (((w.alloc (.cells #[.bool (ng x), v1, u1] 27)).alloc (.cells #[.bool (ng y), v2, u2] 27)).alloc (.cells #[.bool false, .slice none 0 0, .slice none 0 0] 27)) ⟨w.heap.size + 1, 2, none⟩ = some (u2) ∧ World.cell? (((w.alloc (.cells #[.bool (ng x), v1, u1] 27)).alloc (.cells #[.bool (ng y), v2, u2] 27)).alloc (.cells #[.bool false, .slice none 0 0, .slice none 0 0] 27)) ⟨w.heap.size + 1 + 1, 0, none⟩ = some (.bool false) ∧ World.cell? (((w.alloc (.cells #[.bool (ng x), v1, u1] 27)).alloc (.cells #[.bool (ng y), v2, u2] 27)).alloc (.cells #[.bool false, .slice none 0 0, .slice none 0 0] 27)) ⟨w.heap.size + 1 + 1, 1, none⟩ = some (.slice none 0 0) ∧ World.cell? (((w.alloc (.cells #[.bool (ng x), v1, u1] 27)).alloc (.cells #[.bool (ng y), v2, u2] 27)).alloc (.cells #[.bool false, .slice none 0 0, .slice none 0 0] 27)) ⟨w.heap.size + 1 + 1, 2, none⟩ = some (.slice none 0 0) ∧ World.frozen? (((w.alloc (.cells #[.bool (ng x), v1, u1] 27)).alloc (.cells #[.bool (ng y), v2, u2] 27)).alloc (.cells #[.bool false, .slice none 0 0, .slice none 0 0] 27)) ⟨w.heap.size + 1 + 1, 0, none⟩ = false ∧ World.frozen? (((w.alloc (.cells #[.bool (ng x), v1, u1] 27)).alloc (.cells #[.bool (ng y), v2, u2] 27)).alloc (.cells #[.bool false, .slice none 0 0, .slice none 0 0] 27)) ⟨w.heap.size + 1 + 1, 1, none⟩ = false ∧ World.frozen? (((w.alloc (.cells #[.bool (ng x), v1, u1] 27)).alloc (.cells #[.bool (ng y), v2, u2] 27)).alloc (.cells #[.bool false, .slice none 0 0, .slice none 0 0] 27)) ⟨w.heap.size + 1 + 1, 2, none⟩ = false := by simp [go_sem]
  have hg0 : w.heap.size + 1 + 1 < ((((w.alloc (.cells #[.bool (ng x), v1, u1] 27)).alloc (.cells #[.bool (ng y), v2, u2] 27)).alloc (.cells #[.bool false, .slice none 0 0, .slice none 0 0] 27))).heap.size := World.block_lt_of_cell? _ _ c2_0
  have Hb := Lib.hid (k1.below BW (Nat.le_refl _))
  have Hd := Lib.hid (k2.below BW (Nat.le_refl _))
  clear k1 k2
  have HD := Lib.hid hd
  clear hd
  go_enter Tryz.func31, Tryz.ntmps31
  go_wp2_with fail
  generalize (((w.alloc (.cells #[.bool (ng x), v1, u1] 27)).alloc (.cells #[.bool (ng y), v2, u2] 27)).alloc (.cells #[.bool false, .slice none 0 0, .slice none 0 0] 27)) = w0 at *
  have B0 := Below.refl w0.heap.size w0
  refine (void_t _ _ _ _ _ d Hb.out HD.out).mono ?_
  rintro e w1 ⟨rfl, hb⟩
  replace c0_0 := keep_cell hb c0_0
  replace c0_1 := keep_cell hb c0_1
  replace c0_2 := keep_cell hb c0_2
  replace c1_0 := keep_cell hb c1_0
  replace c1_1 := keep_cell hb c1_1
  replace c1_2 := keep_cell hb c1_2
  replace q0 := keep_frozen (w1 := w1) hb c2_0 q0
  replace c2_0 := keep_cell (w1 := w1) hb c2_0
  replace q1 := keep_frozen (w1 := w1) hb c2_1 q1
  replace c2_1 := keep_cell (w1 := w1) hb c2_1
  replace q2 := keep_frozen (w1 := w1) hb c2_2 q2
  replace c2_2 := keep_cell (w1 := w1) hb c2_2
  replace Hb := Lib.hid (Hb.out.below hb (Nat.le_refl _))
  replace Hd := Lib.hid (Hd.out.below hb (Nat.le_refl _))
  replace B0 := B0.trans (hb.mono B0.size)
  clear hb
  go_wp2
  exact bodyPost_ret (v := .agg #[.bool false, .slice none 0 0, .slice none 0 0]) (by simp [results, Tryz.results31, go_sem, c2_0, c2_1, c2_2]) rfl (retQ_nil (set3_below (BW.trans (B0.mono BW.size)) (by omega)))

set_option maxHeartbeats 2000000 in
theorem add_v2 (w : World) (e1 e2 : Nat) (v1 u1 v2 u2 : Value) (x y : Int) (d f : Nat) (k1 : Own w e1 u1 (limbs d)) (k2 : Own w e2 u2 (limbs f)) (hd : 0 < d) (hf : f = 0) :
    Calls Tryz.prog 31 #[.agg #[.bool (ng x), v1, u1], .agg #[.bool (ng y), v2, u2]] w (RetQ w 0 0) := by
  have BW : Below w.heap.size w (((w.alloc (.cells #[.bool (ng x), v1, u1] 27)).alloc (.cells #[.bool (ng y), v2, u2] 27)).alloc (.cells #[.bool false, .slice none 0 0, .slice none 0 0] 27)) := ((((Below.refl w.heap.size w).alloc (Nat.le_refl _) _).alloc (by simp) _).alloc (by simp; omega) _)
  obtain ⟨c0_0, c0_1, c0_2, c1_0, c1_1, c1_2, c2_0, c2_1, c2_2, q0, q1, q2⟩ : World.cell? (((w.alloc (.cells #[.bool (ng x), v1, u1] 27)).alloc (.cells #[.bool (ng y), v2, u2] 27)).alloc (.cells #[.bool false, .slice none 0 0, .slice none 0 0] 27)) ⟨w.heap.size, 0, none⟩ = some (.bool (ng x)) ∧ World.cell? (((w.alloc (.cells #[.bool (ng x), v1, u1] 27)).alloc (.cells #[.bool (ng y), v2, u2] 27)).alloc (.cells #[.bool false, .slice none 0 0, .slice none 0 0] 27)) ⟨w.heap.size, 1, none⟩ = some (v1) ∧ World.cell? (((w.alloc (.cells #[.bool (ng x), v1, u1] 27)).alloc (.cells #[.bool (ng y), v2, u2] 27)).alloc (.cells #[.bool false, .slice none 0 0, .slice none 0 0] 27)) ⟨w.heap.size, 2, none⟩ = some (u1) ∧ World.cell? (((w.alloc (.cells #[.bool (ng x), v1, u1] 27)).alloc (.cells #[.bool (ng y), v2, u2] 27)).alloc (.cells #[.bool false, .slice none 0 0, .slice none 0 0] 27)) ⟨w.heap.size + 1, 0, none⟩ = some (.bool (ng y)) ∧ World.cell? (((w.alloc (.cells #[.bool (ng x), v1, u1] 27)).alloc (.cells #[.bool (ng y), v2, u2] 27)).alloc (.cells #[.bool false, .slice none 0 0, .slice none 0 0] 27)) ⟨w.heap.size + 1, 1, none⟩ = some (v2) ∧ World.cell? (((w.alloc (.cells #[.bool (ng x), v1, u1] 27)).alloc (.cells #[.bool (ng y), v2, u2] 27)).alloc (.cells #[.bool false, .slice none 0 0, .slice none 0 0] 27)) ⟨w.heap.size + 1, 2, none⟩ = some (u2) ∧ World.cell? (((w.alloc (.cells #[.bool (ng x), v1, u1] 27)).alloc (.cells #[.bool (ng y), v2, u2] 27)).alloc (.cells #[.bool false, .slice none 0 0, .slice none 0 0] 27)) ⟨w.heap.size + 1 + 1, 0, none⟩ = some (.bool false) ∧ World.cell? (((w.alloc (.cells #[.bool (ng x), v1, u1] 27)).alloc (.cells #[.bool (ng y), v2, u2] 27)).alloc (.cells #[.bool false, .slice none 0 0, .slice none 0 0] 27)) ⟨w.heap.size + 1 + 1, 1, none⟩ = some (.slice none 0 0) ∧ World.cell? (((w.alloc (.cells #[.bool (ng x), v1, u1] 27)).alloc (.cells #[.bool (ng y), v2, u2] 27)).alloc (.cells #[.bool false, .slice none 0 0, .slice none 0 0] 27)) ⟨w.heap.size + 1 + 1, 2, none⟩ = some (.slice none 0 0) ∧ World.frozen? (((w.alloc (.cells #[.bool (ng x), v1, u1] 27)).alloc (.cells #[.bool (ng y), v2, u2] 27)).alloc (.cells #[.bool false, .slice none 0 0, .slice none 0 0] 27)) ⟨w.heap.size + 1 + 1, 0, none⟩ = false ∧ World.frozen? (((w.alloc (.cells #[.bool (ng x), v1, u1] 27)).alloc (.cells #[.bool (ng y), v2, u2] 27)).alloc (.cells #[.bool false, .slice none 0 0, .slice none 0 0] 27)) ⟨w.heap.size + 1 + 1, 1, none⟩ = false ∧ World.frozen? (((w.alloc (.cells #[.bool (ng x), v1, u1] 27)).alloc (.cells #[.bool (ng y), v2, u2] 27)).alloc (.cells #[.bool false, .slice none 0 0, .slice none 0 0] 27)) ⟨w.heap.size + 1 + 1, 2, none⟩ = false := by simp [go_sem]
  have hg0 : w.heap.size + 1 + 1 < ((((w.alloc (.cells #[.bool (ng x), v1, u1] 27)).alloc (.cells #[.bool (ng y), v2, u2] 27)).alloc (.cells #[.bool false, .slice none 0 0, .slice none 0 0] 27))).heap.size := World.block_lt_of_cell? _ _ c2_0
  have Hb := Lib.hid (k1.below BW (Nat.le_refl _))
  have Hd := Lib.hid (k2.below BW (Nat.le_refl _))
  clear k1 k2
  have HD := Lib.hid hd
  have HF := Lib.hid hf
  clear hd hf
  go_enter Tryz.func31, Tryz.ntmps31
  go_wp2_with fail
  generalize (((w.alloc (.cells #[.bool (ng x), v1, u1] 27)).alloc (.cells #[.bool (ng y), v2, u2] 27)).alloc (.cells #[.bool false, .slice none 0 0, .slice none 0 0] 27)) = w0 at *
  have B0 := Below.refl w0.heap.size w0
  refine (void_f _ _ _ _ _ d Hb.out HD.out).mono ?_
  rintro e w1 ⟨rfl, hb⟩
  replace c0_0 := keep_cell hb c0_0
  replace c0_1 := keep_cell hb c0_1
  replace c0_2 := keep_cell hb c0_2
  replace c1_0 := keep_cell hb c1_0
  replace c1_1 := keep_cell hb c1_1
  replace c1_2 := keep_cell hb c1_2
  replace q0 := keep_frozen (w1 := w1) hb c2_0 q0
  replace c2_0 := keep_cell (w1 := w1) hb c2_0
  replace q1 := keep_frozen (w1 := w1) hb c2_1 q1
  replace c2_1 := keep_cell (w1 := w1) hb c2_1
  replace q2 := keep_frozen (w1 := w1) hb c2_2 q2
  replace c2_2 := keep_cell (w1 := w1) hb c2_2
  replace Hb := Lib.hid (Hb.out.below hb (Nat.le_refl _))
  replace Hd := Lib.hid (Hd.out.below hb (Nat.le_refl _))
  replace B0 := B0.trans (hb.mono B0.size)
  clear hb
  go_wp2_with fail
  refine (void_t _ _ _ _ _ f Hd.out HF.out).mono ?_
  rintro e w2 ⟨rfl, hb⟩
  replace c0_0 := keep_cell hb c0_0
  replace c0_1 := keep_cell hb c0_1
  replace c0_2 := keep_cell hb c0_2
  replace c1_0 := keep_cell hb c1_0
  replace c1_1 := keep_cell hb c1_1
  replace c1_2 := keep_cell hb c1_2
  replace q0 := keep_frozen (w1 := w2) hb c2_0 q0
  replace c2_0 := keep_cell (w1 := w2) hb c2_0
  replace q1 := keep_frozen (w1 := w2) hb c2_1 q1
  replace c2_1 := keep_cell (w1 := w2) hb c2_1
  replace q2 := keep_frozen (w1 := w2) hb c2_2 q2
  replace c2_2 := keep_cell (w1 := w2) hb c2_2
  replace Hb := Lib.hid (Hb.out.below hb (Nat.le_refl _))
  replace Hd := Lib.hid (Hd.out.below hb (Nat.le_refl _))
  replace B0 := B0.trans (hb.mono B0.size)
  clear hb
  go_wp2
  exact bodyPost_ret (v := .agg #[.bool false, .slice none 0 0, .slice none 0 0]) (by simp [results, Tryz.results31, go_sem, c2_0, c2_1, c2_2]) rfl (retQ_nil (set3_below (BW.trans (B0.mono BW.size)) (by omega)))

set_option maxHeartbeats 2000000 in
theorem add_same (w : World) (b1 e1 : Nat) (v1 u1 : Value) (x : Int) (d : Nat) (h1 : Own w b1 v1 (limbs x.natAbs)) (k1 : Own w e1 u1 (limbs d)) (b2 e2 : Nat) (v2 u2 : Value) (y : Int) (h2 : Own w b2 v2 (limbs y.natAbs)) (k2 : Own w e2 u2 (limbs d)) (hd : 0 < d) (l1 : (limbs x.natAbs).length ≤ 24) (l2 : (limbs d).length ≤ 24) (l3 : (limbs y.natAbs).length ≤ 24) (z : Int) (e : Nat) (hz : z = lowZ (x + y) (d)) (he : e = lowD (x + y) (d)) :
    Calls Tryz.prog 31 #[.agg #[.bool (ng x), v1, u1], .agg #[.bool (ng y), v2, u2]] w (RetQ w z e) := by
  have BW : Below w.heap.size w (((w.alloc (.cells #[.bool (ng x), v1, u1] 27)).alloc (.cells #[.bool (ng y), v2, u2] 27)).alloc (.cells #[.bool false, .slice none 0 0, .slice none 0 0] 27)) := ((((Below.refl w.heap.size w).alloc (Nat.le_refl _) _).alloc (by simp) _).alloc (by simp; omega) _)
  obtain ⟨c0_0, c0_1, c0_2, c1_0, c1_1, c1_2, c2_0, c2_1, c2_2, q0, q1, q2⟩ : World.cell? (((w.alloc (.cells #[.bool (ng x), v1, u1] 27)).alloc (.cells #[.bool (ng y), v2, u2] 27)).alloc (.cells #[.bool false, .slice none 0 0, .slice none 0 0] 27)) ⟨w.heap.size, 0, none⟩ = some (.bool (ng x)) ∧ World.cell? (((w.alloc (.cells #[.bool (ng x), v1, u1] 27)).alloc (.cells #[.bool (ng y), v2, u2] 27)).alloc (.cells #[.bool false, .slice none 0 0, .slice none 0 0] 27)) ⟨w.heap.size, 1, none⟩ = some (v1) ∧ World.cell? (((w.alloc (.cells #[.bool (ng x), v1, u1] 27)).alloc (.cells #[.bool (ng y), v2, u2] 27)).alloc (.cells #[.bool false, .slice none 0 0, .slice none 0 0] 27)) ⟨w.heap.size, 2, none⟩ = some (u1) ∧ World.cell? (((w.alloc (.cells #[.bool (ng x), v1, u1] 27)).alloc (.cells #[.bool (ng y), v2, u2] 27)).alloc (.cells #[.bool false, .slice none 0 0, .slice none 0 0] 27)) ⟨w.heap.size + 1, 0, none⟩ = some (.bool (ng y)) ∧ World.cell? (((w.alloc (.cells #[.bool (ng x), v1, u1] 27)).alloc (.cells #[.bool (ng y), v2, u2] 27)).alloc (.cells #[.bool false, .slice none 0 0, .slice none 0 0] 27)) ⟨w.heap.size + 1, 1, none⟩ = some (v2) ∧ World.cell? (((w.alloc (.cells #[.bool (ng x), v1, u1] 27)).alloc (.cells #[.bool (ng y), v2, u2] 27)).alloc (.cells #[.bool false, .slice none 0 0, .slice none 0 0] 27)) ⟨w.heap.size + 1, 2, none⟩ = some (u2) ∧ World.cell? (((w.alloc (.cells #[.bool (ng x), v1, u1] 27)).alloc (.cells #[.bool (ng y), v2, u2] 27)).alloc (.cells #[.bool false, .slice none 0 0, .slice none 0 0] 27)) ⟨w.heap.size + 1 + 1, 0, none⟩ = some (.bool false) ∧ World.cell? (((w.alloc (.cells #[.bool (ng x), v1, u1] 27)).alloc (.cells #[.bool (ng y), v2, u2] 27)).alloc (.cells #[.bool false, .slice none 0 0, .slice none 0 0] 27)) ⟨w.heap.size + 1 + 1, 1, none⟩ = some (.slice none 0 0) ∧ World.cell? (((w.alloc (.cells #[.bool (ng x), v1, u1] 27)).alloc (.cells #[.bool (ng y), v2, u2] 27)).alloc (.cells #[.bool false, .slice none 0 0, .slice none 0 0] 27)) ⟨w.heap.size + 1 + 1, 2, none⟩ = some (.slice none 0 0) ∧ World.frozen? (((w.alloc (.cells #[.bool (ng x), v1, u1] 27)).alloc (.cells #[.bool (ng y), v2, u2] 27)).alloc (.cells #[.bool false, .slice none 0 0, .slice none 0 0] 27)) ⟨w.heap.size + 1 + 1, 0, none⟩ = false ∧ World.frozen? (((w.alloc (.cells #[.bool (ng x), v1, u1] 27)).alloc (.cells #[.bool (ng y), v2, u2] 27)).alloc (.cells #[.bool false, .slice none 0 0, .slice none 0 0] 27)) ⟨w.heap.size + 1 + 1, 1, none⟩ = false ∧ World.frozen? (((w.alloc (.cells #[.bool (ng x), v1, u1] 27)).alloc (.cells #[.bool (ng y), v2, u2] 27)).alloc (.cells #[.bool false, .slice none 0 0, .slice none 0 0] 27)) ⟨w.heap.size + 1 + 1, 2, none⟩ = false := by simp [go_sem]
  have hg0 : w.heap.size + 1 + 1 < ((((w.alloc (.cells #[.bool (ng x), v1, u1] 27)).alloc (.cells #[.bool (ng y), v2, u2] 27)).alloc (.cells #[.bool false, .slice none 0 0, .slice none 0 0] 27))).heap.size := World.block_lt_of_cell? _ _ c2_0
  have Ha := Lib.hid (h1.below BW (Nat.le_refl _))
  have Hb := Lib.hid (k1.below BW (Nat.le_refl _))
  have Hc := Lib.hid (h2.below BW (Nat.le_refl _))
  have Hd := Lib.hid (k2.below BW (Nat.le_refl _))
  clear h1 k1 h2 k2
  have HD := Lib.hid hd
  have HZ := Lib.hid hz
  have HE := Lib.hid he
  obtain ⟨s, hs⟩ : ∃ s : Int, s = x + y := ⟨_, rfl⟩
  have ls : (limbs s.natAbs).length ≤ 900 := by rw [hs]; have := len_addI l1 l3; omega
  have HZ2 : Hid (z = lowZ s d) := by unfold Hid; rw [hs]; exact hz
  have HE2 : Hid (e = lowD s d) := by unfold Hid; rw [hs]; exact he
  have HS := Lib.hid hs
  have n1 : (limbs x.natAbs).length ≤ 900 := by omega
  have n2 : (limbs d).length ≤ 900 := by omega
  have n3 : (limbs y.natAbs).length ≤ 900 := by omega
  clear hd hz he hs
  go_enter Tryz.func31, Tryz.ntmps31
  go_wp2_with fail
  generalize (((w.alloc (.cells #[.bool (ng x), v1, u1] 27)).alloc (.cells #[.bool (ng y), v2, u2] 27)).alloc (.cells #[.bool false, .slice none 0 0, .slice none 0 0] 27)) = w0 at *
  have B0 := Below.refl w0.heap.size w0
  refine (void_f _ _ _ _ _ d Hb.out HD.out).mono ?_
  rintro e w1 ⟨rfl, hb⟩
  replace c0_0 := keep_cell hb c0_0
  replace c0_1 := keep_cell hb c0_1
  replace c0_2 := keep_cell hb c0_2
  replace c1_0 := keep_cell hb c1_0
  replace c1_1 := keep_cell hb c1_1
  replace c1_2 := keep_cell hb c1_2
  replace q0 := keep_frozen (w1 := w1) hb c2_0 q0
  replace c2_0 := keep_cell (w1 := w1) hb c2_0
  replace q1 := keep_frozen (w1 := w1) hb c2_1 q1
  replace c2_1 := keep_cell (w1 := w1) hb c2_1
  replace q2 := keep_frozen (w1 := w1) hb c2_2 q2
  replace c2_2 := keep_cell (w1 := w1) hb c2_2
  replace Ha := Lib.hid (Ha.out.below hb (Nat.le_refl _))
  replace Hb := Lib.hid (Hb.out.below hb (Nat.le_refl _))
  replace Hc := Lib.hid (Hc.out.below hb (Nat.le_refl _))
  replace Hd := Lib.hid (Hd.out.below hb (Nat.le_refl _))
  replace B0 := B0.trans (hb.mono B0.size)
  clear hb
  go_wp2_with fail
  refine (void_f _ _ _ _ _ d Hd.out HD.out).mono ?_
  rintro e w2 ⟨rfl, hb⟩
  replace c0_0 := keep_cell hb c0_0
  replace c0_1 := keep_cell hb c0_1
  replace c0_2 := keep_cell hb c0_2
  replace c1_0 := keep_cell hb c1_0
  replace c1_1 := keep_cell hb c1_1
  replace c1_2 := keep_cell hb c1_2
  replace q0 := keep_frozen (w1 := w2) hb c2_0 q0
  replace c2_0 := keep_cell (w1 := w2) hb c2_0
  replace q1 := keep_frozen (w1 := w2) hb c2_1 q1
  replace c2_1 := keep_cell (w1 := w2) hb c2_1
  replace q2 := keep_frozen (w1 := w2) hb c2_2 q2
  replace c2_2 := keep_cell (w1 := w2) hb c2_2
  replace Ha := Lib.hid (Ha.out.below hb (Nat.le_refl _))
  replace Hb := Lib.hid (Hb.out.below hb (Nat.le_refl _))
  replace Hc := Lib.hid (Hc.out.below hb (Nat.le_refl _))
  replace Hd := Lib.hid (Hd.out.below hb (Nat.le_refl _))
  replace B0 := B0.trans (hb.mono B0.size)
  clear hb
  go_wp2_with fail
  refine (sameInts_t _ _ _ _ _ _ Hb.out Hd.out).mono ?_
  rintro e w3 ⟨rfl, hb⟩
  replace c0_0 := keep_cell hb c0_0
  replace c0_1 := keep_cell hb c0_1
  replace c0_2 := keep_cell hb c0_2
  replace c1_0 := keep_cell hb c1_0
  replace c1_1 := keep_cell hb c1_1
  replace c1_2 := keep_cell hb c1_2
  replace q0 := keep_frozen (w1 := w3) hb c2_0 q0
  replace c2_0 := keep_cell (w1 := w3) hb c2_0
  replace q1 := keep_frozen (w1 := w3) hb c2_1 q1
  replace c2_1 := keep_cell (w1 := w3) hb c2_1
  replace q2 := keep_frozen (w1 := w3) hb c2_2 q2
  replace c2_2 := keep_cell (w1 := w3) hb c2_2
  replace Ha := Lib.hid (Ha.out.below hb (Nat.le_refl _))
  replace Hb := Lib.hid (Hb.out.below hb (Nat.le_refl _))
  replace Hc := Lib.hid (Hc.out.below hb (Nat.le_refl _))
  replace Hd := Lib.hid (Hd.out.below hb (Nat.le_refl _))
  replace B0 := B0.trans (hb.mono B0.size)
  clear hb
  go_wp2_with fail
  replace Ha := Lib.hid Ha.out.drew
  replace Hb := Lib.hid Hb.out.drew
  replace Hc := Lib.hid Hc.out.drew
  replace Hd := Lib.hid Hd.out.drew
  replace B0 := below_drew B0
  replace q0 := frozen_drew q0
  replace c2_0 := cell_drew c2_0
  replace q1 := frozen_drew q1
  replace c2_1 := cell_drew c2_1
  replace q2 := frozen_drew q2
  replace c2_2 := cell_drew c2_2
  replace c0_0 := cell_drew c0_0
  replace c0_1 := cell_drew c0_1
  replace c0_2 := cell_drew c0_2
  replace c1_0 := cell_drew c1_0
  replace c1_1 := cell_drew c1_1
  go_region_held3 (fun w' => w'.cell? ⟨w.heap.size, 0, none⟩ = some (.bool (ng x)) ∧ w'.cell? ⟨w.heap.size, 1, none⟩ = some (v1) ∧ w'.cell? ⟨w.heap.size, 2, none⟩ = some (u1) ∧ w'.cell? ⟨w.heap.size + 1, 0, none⟩ = some (.bool (ng y)) ∧ w'.cell? ⟨w.heap.size + 1, 1, none⟩ = some (v2)) (first | exact ⟨c0_0, c0_1, c0_2, c1_0, c1_1⟩ | (go_split_ands; exact ⟨(set_far (set_far ‹_› (by dsimp only; omega)) (by dsimp only; omega)), (set_far (set_far ‹_› (by dsimp only; omega)) (by dsimp only; omega)), (set_far (set_far ‹_› (by dsimp only; omega)) (by dsimp only; omega)), (set_far (set_far ‹_› (by dsimp only; omega)) (by dsimp only; omega)), (set_far (set_far ‹_› (by dsimp only; omega)) (by dsimp only; omega))⟩) | (go_split_ands; exact ⟨(set_far (set_far (set_far ‹_› (by dsimp only; omega)) (by dsimp only; omega)) (by dsimp only; omega)), (set_far (set_far (set_far ‹_› (by dsimp only; omega)) (by dsimp only; omega)) (by dsimp only; omega)), (set_far (set_far (set_far ‹_› (by dsimp only; omega)) (by dsimp only; omega)) (by dsimp only; omega)), (set_far (set_far (set_far ‹_› (by dsimp only; omega)) (by dsimp only; omega)) (by dsimp only; omega)), (set_far (set_far (set_far ‹_› (by dsimp only; omega)) (by dsimp only; omega)) (by dsimp only; omega))⟩) | (go_split_ands; exact ⟨(set_far ‹_› (by dsimp only; omega)), (set_far ‹_› (by dsimp only; omega)), (set_far ‹_› (by dsimp only; omega)), (set_far ‹_› (by dsimp only; omega)), (set_far ‹_› (by dsimp only; omega))⟩) | go_keep)
    (first | (go_at_call 63; refine (bigAdd_c _ _ _ _ _ x y Ha.out Hc.out n1 n3 s HS.out).mono ?_; rintro e w4 ⟨vo, rfl, ho1, hb4⟩; replace q0 := keep_frozen (w1 := w4) hb4 c2_0 q0; replace c2_0 := keep_cell (w1 := w4) hb4 c2_0; replace q1 := keep_frozen (w1 := w4) hb4 c2_1 q1; replace c2_1 := keep_cell (w1 := w4) hb4 c2_1; replace q2 := keep_frozen (w1 := w4) hb4 c2_2 q2; replace c2_2 := keep_cell (w1 := w4) hb4 c2_2; replace c0_0 := keep_cell (w1 := w4) hb4 c0_0; replace c0_1 := keep_cell (w1 := w4) hb4 c0_1; replace c0_2 := keep_cell (w1 := w4) hb4 c0_2; replace c1_0 := keep_cell (w1 := w4) hb4 c1_0; replace c1_1 := keep_cell (w1 := w4) hb4 c1_1; replace Ha := Lib.hid (Ha.out.below hb4 (Nat.le_refl _)); replace Hb := Lib.hid (Hb.out.below hb4 (Nat.le_refl _)); replace Hc := Lib.hid (Hc.out.below hb4 (Nat.le_refl _)); replace Hd := Lib.hid (Hd.out.below hb4 (Nat.le_refl _)); (try (replace Hp := Lib.hid (Hp.out.below hb4 (Nat.le_refl _)))); (try (replace Hr := Lib.hid (Hr.out.below hb4 (Nat.le_refl _)))); (try (replace Hs := Lib.hid (Hs.out.below hb4 (Nat.le_refl _)))); have Ho := Lib.hid (ho1.mono B0.size); clear ho1; replace B0 := B0.trans (hb4.mono B0.size); clear hb4) | (go_at_call 64; refine (copyInts_c _ _ _ _ Hb.out (by omega)).mono ?_; rintro e w5 ⟨vp, rfl, ho1, hb5⟩; have HAP0 := apart_new Ho.out (.inr rfl) ho1; replace q0 := keep_frozen (w1 := w5) hb5 c2_0 q0; replace c2_0 := keep_cell (w1 := w5) hb5 c2_0; replace q1 := keep_frozen (w1 := w5) hb5 c2_1 q1; replace c2_1 := keep_cell (w1 := w5) hb5 c2_1; replace q2 := keep_frozen (w1 := w5) hb5 c2_2 q2; replace c2_2 := keep_cell (w1 := w5) hb5 c2_2; replace c0_0 := keep_cell (w1 := w5) hb5 c0_0; replace c0_1 := keep_cell (w1 := w5) hb5 c0_1; replace c0_2 := keep_cell (w1 := w5) hb5 c0_2; replace c1_0 := keep_cell (w1 := w5) hb5 c1_0; replace c1_1 := keep_cell (w1 := w5) hb5 c1_1; replace Ha := Lib.hid (Ha.out.below hb5 (Nat.le_refl _)); replace Hb := Lib.hid (Hb.out.below hb5 (Nat.le_refl _)); replace Hc := Lib.hid (Hc.out.below hb5 (Nat.le_refl _)); replace Hd := Lib.hid (Hd.out.below hb5 (Nat.le_refl _)); (try (replace Ho := Lib.hid (Ho.out.below hb5 (Nat.le_refl _)))); (try (replace Hr := Lib.hid (Hr.out.below hb5 (Nat.le_refl _)))); (try (replace Hs := Lib.hid (Hs.out.below hb5 (Nat.le_refl _)))); have Hp := Lib.hid (ho1.mono B0.size); clear ho1; replace B0 := B0.trans (hb5.mono B0.size); clear hb5) | (go_at_call 60; refine (lowest_n _ _ _ _ s d Ho.out Hp.out B0.size ls n2 HD.out z e HZ2 HE2 HAP0).mono ?_; rintro e w6 ⟨vr, vs, rfl, ho1, ho2, HAP, hb6⟩; replace q0 := keep_frozen (w1 := w6) hb6 c2_0 q0; replace c2_0 := keep_cell (w1 := w6) hb6 c2_0; replace q1 := keep_frozen (w1 := w6) hb6 c2_1 q1; replace c2_1 := keep_cell (w1 := w6) hb6 c2_1; replace q2 := keep_frozen (w1 := w6) hb6 c2_2 q2; replace c2_2 := keep_cell (w1 := w6) hb6 c2_2; replace c0_0 := keep_cell (w1 := w6) hb6 c0_0; replace c0_1 := keep_cell (w1 := w6) hb6 c0_1; replace c0_2 := keep_cell (w1 := w6) hb6 c0_2; replace c1_0 := keep_cell (w1 := w6) hb6 c1_0; replace c1_1 := keep_cell (w1 := w6) hb6 c1_1; replace Ha := Lib.hid (Ha.out.below hb6 (Nat.le_refl _)); replace Hb := Lib.hid (Hb.out.below hb6 (Nat.le_refl _)); replace Hc := Lib.hid (Hc.out.below hb6 (Nat.le_refl _)); replace Hd := Lib.hid (Hd.out.below hb6 (Nat.le_refl _)); (try (replace Ho := Lib.hid (Ho.out.below hb6 (Nat.le_refl _)))); (try (replace Hp := Lib.hid (Hp.out.below hb6 (Nat.le_refl _)))); have Hr := Lib.hid ho1; clear ho1; have Hs := Lib.hid ho2; clear ho2; obtain ⟨ar, cr, rfl, -, -, -, -, -⟩ := Hr.out.form; obtain ⟨aS, cS, rfl, -, -, -, -, -⟩ := Hs.out.form; replace B0 := B0.trans (hb6.mono B0.size); clear hb6))
  go_wp2
  exact bodyPost_ret (v := .agg #[.bool (ng z), .slice ar (limbs z.natAbs).length cr, .slice aS (limbs e).length cS]) (by simp [results, Tryz.results31, go_sem, c2_0, c2_1, c2_2]) rfl (retR_end BW (by omega) hg0 B0 Hr.out Hs.out HAP)

theorem natMul_t (w : World) (b1 b2 : Nat) (v1 v2 : Value) (a b t : Nat) (h1 : Own w b1 v1 (limbs a)) (h2 : Own w b2 v2 (limbs b)) (hs1 : (limbs a).length ≤ 1000) (hs2 : (limbs b).length ≤ 1000) (ht : Hid (a * b = t)) :
    Calls Tryz.prog 62 #[v1, v2] w (RetS w (limbs t)) := by
  rw [← ht.out]; exact natMul_c w b1 b2 v1 v2 a b h1 h2 hs1 hs2

set_option maxHeartbeats 2000000 in
theorem add_far (w : World) (b1 e1 : Nat) (v1 u1 : Value) (x : Int) (d : Nat) (h1 : Own w b1 v1 (limbs x.natAbs)) (k1 : Own w e1 u1 (limbs d)) (b2 e2 : Nat) (v2 u2 : Value) (y : Int) (f : Nat) (h2 : Own w b2 v2 (limbs y.natAbs)) (k2 : Own w e2 u2 (limbs f)) (hd : 0 < d) (hf : 0 < f) (hne : d ≠ f) (l1 : (limbs x.natAbs).length ≤ 24) (l2 : (limbs d).length ≤ 24) (l3 : (limbs y.natAbs).length ≤ 24) (l4 : (limbs f).length ≤ 24) (z : Int) (e : Nat) (hz : z = lowZ (x * (f : Int) + y * (d : Int)) (d * f)) (he : e = lowD (x * (f : Int) + y * (d : Int)) (d * f)) :
    Calls Tryz.prog 31 #[.agg #[.bool (ng x), v1, u1], .agg #[.bool (ng y), v2, u2]] w (RetQ w z e) := by
  obtain ⟨a1, c1, rfl, -, -, -, -, -⟩ := h1.form
  obtain ⟨p1, kq1, rfl, -, -, -, -, -⟩ := k1.form
  obtain ⟨a2, c2, rfl, -, -, -, -, -⟩ := h2.form
  obtain ⟨p2, kq2, rfl, -, -, -, -, -⟩ := k2.form
  have BW : Below w.heap.size w (((w.alloc (.cells #[.bool (ng x), (.slice a1 (limbs x.natAbs).length c1), (.slice p1 (limbs d).length kq1)] 27)).alloc (.cells #[.bool (ng y), (.slice a2 (limbs y.natAbs).length c2), (.slice p2 (limbs f).length kq2)] 27)).alloc (.cells #[.bool false, .slice none 0 0, .slice none 0 0] 27)) := ((((Below.refl w.heap.size w).alloc (Nat.le_refl _) _).alloc (by simp) _).alloc (by simp; omega) _)
  obtain ⟨c0_0, c0_1, c0_2, c1_0, c1_1, c1_2, c2_0, c2_1, c2_2, q0, q1, q2⟩ : World.cell? (((w.alloc (.cells #[.bool (ng x), (.slice a1 (limbs x.natAbs).length c1), (.slice p1 (limbs d).length kq1)] 27)).alloc (.cells #[.bool (ng y), (.slice a2 (limbs y.natAbs).length c2), (.slice p2 (limbs f).length kq2)] 27)).alloc (.cells #[.bool false, .slice none 0 0, .slice none 0 0] 27)) ⟨w.heap.size, 0, none⟩ = some (.bool (ng x)) ∧ World.cell? (((w.alloc (.cells #[.bool (ng x), (.slice a1 (limbs x.natAbs).length c1), (.slice p1 (limbs d).length kq1)] 27)).alloc (.cells #[.bool (ng y), (.slice a2 (limbs y.natAbs).length c2), (.slice p2 (limbs f).length kq2)] 27)).alloc (.cells #[.bool false, .slice none 0 0, .slice none 0 0] 27)) ⟨w.heap.size, 1, none⟩ = some ((.slice a1 (limbs x.natAbs).length c1)) ∧ World.cell? (((w.alloc (.cells #[.bool (ng x), (.slice a1 (limbs x.natAbs).length c1), (.slice p1 (limbs d).length kq1)] 27)).alloc (.cells #[.bool (ng y), (.slice a2 (limbs y.natAbs).length c2), (.slice p2 (limbs f).length kq2)] 27)).alloc (.cells #[.bool false, .slice none 0 0, .slice none 0 0] 27)) ⟨w.heap.size, 2, none⟩ = some ((.slice p1 (limbs d).length kq1)) ∧ World.cell? (((w.alloc (.cells #[.bool (ng x), (.slice a1 (limbs x.natAbs).length c1), (.slice p1 (limbs d).length kq1)] 27)).alloc (.cells #[.bool (ng y), (.slice a2 (limbs y.natAbs).length c2), (.slice p2 (limbs f).length kq2)] 27)).alloc (.cells #[.bool false, .slice none 0 0, .slice none 0 0] 27)) ⟨w.heap.size + 1, 0, none⟩ = some (.bool (ng y)) ∧ World.cell? (((w.alloc (.cells #[.bool (ng x), (.slice a1 (limbs x.natAbs).length c1), (.slice p1 (limbs d).length kq1)] 27)).alloc (.cells #[.bool (ng y), (.slice a2 (limbs y.natAbs).length c2), (.slice p2 (limbs f).length kq2)] 27)).alloc (.cells #[.bool false, .slice none 0 0, .slice none 0 0] 27)) ⟨w.heap.size + 1, 1, none⟩ = some ((.slice a2 (limbs y.natAbs).length c2)) ∧ World.cell? (((w.alloc (.cells #[.bool (ng x), (.slice a1 (limbs x.natAbs).length c1), (.slice p1 (limbs d).length kq1)] 27)).alloc (.cells #[.bool (ng y), (.slice a2 (limbs y.natAbs).length c2), (.slice p2 (limbs f).length kq2)] 27)).alloc (.cells #[.bool false, .slice none 0 0, .slice none 0 0] 27)) ⟨w.heap.size + 1, 2, none⟩ = some ((.slice p2 (limbs f).length kq2)) ∧ World.cell? (((w.alloc (.cells #[.bool (ng x), (.slice a1 (limbs x.natAbs).length c1), (.slice p1 (limbs d).length kq1)] 27)).alloc (.cells #[.bool (ng y), (.slice a2 (limbs y.natAbs).length c2), (.slice p2 (limbs f).length kq2)] 27)).alloc (.cells #[.bool false, .slice none 0 0, .slice none 0 0] 27)) ⟨w.heap.size + 1 + 1, 0, none⟩ = some (.bool false) ∧ World.cell? (((w.alloc (.cells #[.bool (ng x), (.slice a1 (limbs x.natAbs).length c1), (.slice p1 (limbs d).length kq1)] 27)).alloc (.cells #[.bool (ng y), (.slice a2 (limbs y.natAbs).length c2), (.slice p2 (limbs f).length kq2)] 27)).alloc (.cells #[.bool false, .slice none 0 0, .slice none 0 0] 27)) ⟨w.heap.size + 1 + 1, 1, none⟩ = some (.slice none 0 0) ∧ World.cell? (((w.alloc (.cells #[.bool (ng x), (.slice a1 (limbs x.natAbs).length c1), (.slice p1 (limbs d).length kq1)] 27)).alloc (.cells #[.bool (ng y), (.slice a2 (limbs y.natAbs).length c2), (.slice p2 (limbs f).length kq2)] 27)).alloc (.cells #[.bool false, .slice none 0 0, .slice none 0 0] 27)) ⟨w.heap.size + 1 + 1, 2, none⟩ = some (.slice none 0 0) ∧ World.frozen? (((w.alloc (.cells #[.bool (ng x), (.slice a1 (limbs x.natAbs).length c1), (.slice p1 (limbs d).length kq1)] 27)).alloc (.cells #[.bool (ng y), (.slice a2 (limbs y.natAbs).length c2), (.slice p2 (limbs f).length kq2)] 27)).alloc (.cells #[.bool false, .slice none 0 0, .slice none 0 0] 27)) ⟨w.heap.size + 1 + 1, 0, none⟩ = false ∧ World.frozen? (((w.alloc (.cells #[.bool (ng x), (.slice a1 (limbs x.natAbs).length c1), (.slice p1 (limbs d).length kq1)] 27)).alloc (.cells #[.bool (ng y), (.slice a2 (limbs y.natAbs).length c2), (.slice p2 (limbs f).length kq2)] 27)).alloc (.cells #[.bool false, .slice none 0 0, .slice none 0 0] 27)) ⟨w.heap.size + 1 + 1, 1, none⟩ = false ∧ World.frozen? (((w.alloc (.cells #[.bool (ng x), (.slice a1 (limbs x.natAbs).length c1), (.slice p1 (limbs d).length kq1)] 27)).alloc (.cells #[.bool (ng y), (.slice a2 (limbs y.natAbs).length c2), (.slice p2 (limbs f).length kq2)] 27)).alloc (.cells #[.bool false, .slice none 0 0, .slice none 0 0] 27)) ⟨w.heap.size + 1 + 1, 2, none⟩ = false := by simp [go_sem]
  have hg0 : w.heap.size + 1 + 1 < ((((w.alloc (.cells #[.bool (ng x), (.slice a1 (limbs x.natAbs).length c1), (.slice p1 (limbs d).length kq1)] 27)).alloc (.cells #[.bool (ng y), (.slice a2 (limbs y.natAbs).length c2), (.slice p2 (limbs f).length kq2)] 27)).alloc (.cells #[.bool false, .slice none 0 0, .slice none 0 0] 27))).heap.size := World.block_lt_of_cell? _ _ c2_0
  have Ha := Lib.hid (h1.below BW (Nat.le_refl _))
  have Hb := Lib.hid (k1.below BW (Nat.le_refl _))
  have Hc := Lib.hid (h2.below BW (Nat.le_refl _))
  have Hd := Lib.hid (k2.below BW (Nat.le_refl _))
  clear h1 k1 h2 k2
  have HD := Lib.hid hd
  have HF := Lib.hid hf
  have HNE := Lib.hid hne
  obtain ⟨p, hp⟩ : ∃ p : Int, p = x * (f : Int) := ⟨_, rfl⟩
  obtain ⟨q, hq⟩ : ∃ q : Int, q = y * (d : Int) := ⟨_, rfl⟩
  obtain ⟨s, hs⟩ : ∃ s : Int, s = p + q := ⟨_, rfl⟩
  obtain ⟨t, ht⟩ : ∃ t : Nat, t = d * f := ⟨_, rfl⟩
  have lp : (limbs p.natAbs).length ≤ 48 := by rw [hp]; exact len_mulN l1 l4
  have lq : (limbs q.natAbs).length ≤ 48 := by rw [hq]; exact len_mulN l3 l2
  have ls : (limbs s.natAbs).length ≤ 900 := by rw [hs]; have := len_addI lp lq; omega
  have lt : (limbs t).length ≤ 900 := by rw [ht]; have := len_mul l2 l4; omega
  have htp : 0 < t := by rw [ht]; exact Nat.mul_pos hd hf
  have HZ : Hid (z = lowZ s t) := by unfold Hid; rw [hs, hp, hq, ht]; exact hz
  have HE : Hid (e = lowD s t) := by unfold Hid; rw [hs, hp, hq, ht]; exact he
  have HP := Lib.hid hp
  have HQ := Lib.hid hq
  have HS := Lib.hid hs
  have HT : Hid (d * f = t) := ht.symm
  have n1 : (limbs x.natAbs).length ≤ 900 := by omega
  have n2 : (limbs d).length ≤ 900 := by omega
  have n3 : (limbs y.natAbs).length ≤ 900 := by omega
  have n4 : (limbs f).length ≤ 900 := by omega
  have n5 : (limbs p.natAbs).length ≤ 900 := by omega
  have n6 : (limbs q.natAbs).length ≤ 900 := by omega
  clear hd hf hne hz he hs hp hq ht
  go_enter Tryz.func31, Tryz.ntmps31
  go_wp2_with fail
  generalize (((w.alloc (.cells #[.bool (ng x), (.slice a1 (limbs x.natAbs).length c1), (.slice p1 (limbs d).length kq1)] 27)).alloc (.cells #[.bool (ng y), (.slice a2 (limbs y.natAbs).length c2), (.slice p2 (limbs f).length kq2)] 27)).alloc (.cells #[.bool false, .slice none 0 0, .slice none 0 0] 27)) = w0 at *
  have B0 := Below.refl w0.heap.size w0
  refine (void_f _ _ _ _ _ d Hb.out HD.out).mono ?_
  rintro e w1 ⟨rfl, hb⟩
  replace c0_0 := keep_cell hb c0_0
  replace c0_1 := keep_cell hb c0_1
  replace c0_2 := keep_cell hb c0_2
  replace c1_0 := keep_cell hb c1_0
  replace c1_1 := keep_cell hb c1_1
  replace c1_2 := keep_cell hb c1_2
  replace q0 := keep_frozen (w1 := w1) hb c2_0 q0
  replace c2_0 := keep_cell (w1 := w1) hb c2_0
  replace q1 := keep_frozen (w1 := w1) hb c2_1 q1
  replace c2_1 := keep_cell (w1 := w1) hb c2_1
  replace q2 := keep_frozen (w1 := w1) hb c2_2 q2
  replace c2_2 := keep_cell (w1 := w1) hb c2_2
  replace Ha := Lib.hid (Ha.out.below hb (Nat.le_refl _))
  replace Hb := Lib.hid (Hb.out.below hb (Nat.le_refl _))
  replace Hc := Lib.hid (Hc.out.below hb (Nat.le_refl _))
  replace Hd := Lib.hid (Hd.out.below hb (Nat.le_refl _))
  replace B0 := B0.trans (hb.mono B0.size)
  clear hb
  go_wp2_with fail
  refine (void_f _ _ _ _ _ f Hd.out HF.out).mono ?_
  rintro e w2 ⟨rfl, hb⟩
  replace c0_0 := keep_cell hb c0_0
  replace c0_1 := keep_cell hb c0_1
  replace c0_2 := keep_cell hb c0_2
  replace c1_0 := keep_cell hb c1_0
  replace c1_1 := keep_cell hb c1_1
  replace c1_2 := keep_cell hb c1_2
  replace q0 := keep_frozen (w1 := w2) hb c2_0 q0
  replace c2_0 := keep_cell (w1 := w2) hb c2_0
  replace q1 := keep_frozen (w1 := w2) hb c2_1 q1
  replace c2_1 := keep_cell (w1 := w2) hb c2_1
  replace q2 := keep_frozen (w1 := w2) hb c2_2 q2
  replace c2_2 := keep_cell (w1 := w2) hb c2_2
  replace Ha := Lib.hid (Ha.out.below hb (Nat.le_refl _))
  replace Hb := Lib.hid (Hb.out.below hb (Nat.le_refl _))
  replace Hc := Lib.hid (Hc.out.below hb (Nat.le_refl _))
  replace Hd := Lib.hid (Hd.out.below hb (Nat.le_refl _))
  replace B0 := B0.trans (hb.mono B0.size)
  clear hb
  go_wp2_with fail
  refine (sameInts_f _ _ _ _ _ d f Hb.out Hd.out HNE.out).mono ?_
  rintro e w3 ⟨rfl, hb⟩
  replace c0_0 := keep_cell hb c0_0
  replace c0_1 := keep_cell hb c0_1
  replace c0_2 := keep_cell hb c0_2
  replace c1_0 := keep_cell hb c1_0
  replace c1_1 := keep_cell hb c1_1
  replace c1_2 := keep_cell hb c1_2
  replace q0 := keep_frozen (w1 := w3) hb c2_0 q0
  replace c2_0 := keep_cell (w1 := w3) hb c2_0
  replace q1 := keep_frozen (w1 := w3) hb c2_1 q1
  replace c2_1 := keep_cell (w1 := w3) hb c2_1
  replace q2 := keep_frozen (w1 := w3) hb c2_2 q2
  replace c2_2 := keep_cell (w1 := w3) hb c2_2
  replace Ha := Lib.hid (Ha.out.below hb (Nat.le_refl _))
  replace Hb := Lib.hid (Hb.out.below hb (Nat.le_refl _))
  replace Hc := Lib.hid (Hc.out.below hb (Nat.le_refl _))
  replace Hd := Lib.hid (Hd.out.below hb (Nat.le_refl _))
  replace B0 := B0.trans (hb.mono B0.size)
  clear hb
  go_wp2_with fail
  refine (bigMul_nat _ _ _ _ _ x f Ha.out Hd.out n1 n4 p HP.out).mono ?_
  rintro e w4 ⟨vp, rfl, ho1, hb⟩
  replace c0_0 := keep_cell hb c0_0
  replace c0_1 := keep_cell hb c0_1
  replace c0_2 := keep_cell hb c0_2
  replace c1_0 := keep_cell hb c1_0
  replace c1_1 := keep_cell hb c1_1
  replace c1_2 := keep_cell hb c1_2
  replace q0 := keep_frozen (w1 := w4) hb c2_0 q0
  replace c2_0 := keep_cell (w1 := w4) hb c2_0
  replace q1 := keep_frozen (w1 := w4) hb c2_1 q1
  replace c2_1 := keep_cell (w1 := w4) hb c2_1
  replace q2 := keep_frozen (w1 := w4) hb c2_2 q2
  replace c2_2 := keep_cell (w1 := w4) hb c2_2
  replace Ha := Lib.hid (Ha.out.below hb (Nat.le_refl _))
  replace Hb := Lib.hid (Hb.out.below hb (Nat.le_refl _))
  replace Hc := Lib.hid (Hc.out.below hb (Nat.le_refl _))
  replace Hd := Lib.hid (Hd.out.below hb (Nat.le_refl _))
  have Hp := Lib.hid (ho1.mono B0.size)
  clear ho1
  obtain ⟨ap, cp, rfl, -, -, -, -, -⟩ := Hp.out.form
  replace B0 := B0.trans (hb.mono B0.size)
  clear hb
  have hz_lx : w0.heap.size ≤ w4.heap.size := B0.size
  have hb := alloc_bel w4 (.cells #[.bool (ng p), .slice ap (limbs p.natAbs).length cp] 25)
  replace c0_0 := keep_cell hb c0_0
  replace c0_1 := keep_cell hb c0_1
  replace c0_2 := keep_cell hb c0_2
  replace c1_0 := keep_cell hb c1_0
  replace c1_1 := keep_cell hb c1_1
  replace c1_2 := keep_cell hb c1_2
  replace q0 := keep_frozen (w1 := _) hb c2_0 q0
  replace c2_0 := keep_cell (w1 := _) hb c2_0
  replace q1 := keep_frozen (w1 := _) hb c2_1 q1
  replace c2_1 := keep_cell (w1 := _) hb c2_1
  replace q2 := keep_frozen (w1 := _) hb c2_2 q2
  replace c2_2 := keep_cell (w1 := _) hb c2_2
  replace Ha := Lib.hid (Ha.out.below hb (Nat.le_refl _))
  replace Hb := Lib.hid (Hb.out.below hb (Nat.le_refl _))
  replace Hc := Lib.hid (Hc.out.below hb (Nat.le_refl _))
  replace Hd := Lib.hid (Hd.out.below hb (Nat.le_refl _))
  replace Hp := Lib.hid (Hp.out.below hb (Nat.le_refl _))
  obtain ⟨lx_0, lx_1⟩ : World.cell? (w4.alloc (.cells #[.bool (ng p), .slice ap (limbs p.natAbs).length cp] 25)) ⟨w4.heap.size, 0, none⟩ = some (.bool (ng p)) ∧ World.cell? (w4.alloc (.cells #[.bool (ng p), .slice ap (limbs p.natAbs).length cp] 25)) ⟨w4.heap.size, 1, none⟩ = some (.slice ap (limbs p.natAbs).length cp) := by simp [go_sem]
  replace B0 := B0.trans (hb.mono B0.size)
  clear hb
  go_wp2_with fail
  generalize w4.alloc (.cells #[.bool (ng p), .slice ap (limbs p.natAbs).length cp] 25) = w5 at *
  refine (bigMul_nat _ _ _ _ _ y d Hc.out Hb.out n3 n2 q HQ.out).mono ?_
  rintro e w6 ⟨vq, rfl, ho1, hb⟩
  replace c0_0 := keep_cell hb c0_0
  replace c0_1 := keep_cell hb c0_1
  replace c0_2 := keep_cell hb c0_2
  replace c1_0 := keep_cell hb c1_0
  replace c1_1 := keep_cell hb c1_1
  replace c1_2 := keep_cell hb c1_2
  replace lx_0 := keep_cell hb lx_0
  replace lx_1 := keep_cell hb lx_1
  replace q0 := keep_frozen (w1 := w6) hb c2_0 q0
  replace c2_0 := keep_cell (w1 := w6) hb c2_0
  replace q1 := keep_frozen (w1 := w6) hb c2_1 q1
  replace c2_1 := keep_cell (w1 := w6) hb c2_1
  replace q2 := keep_frozen (w1 := w6) hb c2_2 q2
  replace c2_2 := keep_cell (w1 := w6) hb c2_2
  replace Ha := Lib.hid (Ha.out.below hb (Nat.le_refl _))
  replace Hb := Lib.hid (Hb.out.below hb (Nat.le_refl _))
  replace Hc := Lib.hid (Hc.out.below hb (Nat.le_refl _))
  replace Hd := Lib.hid (Hd.out.below hb (Nat.le_refl _))
  replace Hp := Lib.hid (Hp.out.below hb (Nat.le_refl _))
  have Hq := Lib.hid (ho1.mono B0.size)
  clear ho1
  obtain ⟨aq, cq, rfl, -, -, -, -, -⟩ := Hq.out.form
  replace B0 := B0.trans (hb.mono B0.size)
  clear hb
  have hz_ly : w0.heap.size ≤ w6.heap.size := B0.size
  have hb := alloc_bel w6 (.cells #[.bool (ng q), .slice aq (limbs q.natAbs).length cq] 25)
  replace c0_0 := keep_cell hb c0_0
  replace c0_1 := keep_cell hb c0_1
  replace c0_2 := keep_cell hb c0_2
  replace c1_0 := keep_cell hb c1_0
  replace c1_1 := keep_cell hb c1_1
  replace c1_2 := keep_cell hb c1_2
  replace lx_0 := keep_cell hb lx_0
  replace lx_1 := keep_cell hb lx_1
  replace q0 := keep_frozen (w1 := _) hb c2_0 q0
  replace c2_0 := keep_cell (w1 := _) hb c2_0
  replace q1 := keep_frozen (w1 := _) hb c2_1 q1
  replace c2_1 := keep_cell (w1 := _) hb c2_1
  replace q2 := keep_frozen (w1 := _) hb c2_2 q2
  replace c2_2 := keep_cell (w1 := _) hb c2_2
  replace Ha := Lib.hid (Ha.out.below hb (Nat.le_refl _))
  replace Hb := Lib.hid (Hb.out.below hb (Nat.le_refl _))
  replace Hc := Lib.hid (Hc.out.below hb (Nat.le_refl _))
  replace Hd := Lib.hid (Hd.out.below hb (Nat.le_refl _))
  replace Hp := Lib.hid (Hp.out.below hb (Nat.le_refl _))
  replace Hq := Lib.hid (Hq.out.below hb (Nat.le_refl _))
  obtain ⟨ly_0, ly_1⟩ : World.cell? (w6.alloc (.cells #[.bool (ng q), .slice aq (limbs q.natAbs).length cq] 25)) ⟨w6.heap.size, 0, none⟩ = some (.bool (ng q)) ∧ World.cell? (w6.alloc (.cells #[.bool (ng q), .slice aq (limbs q.natAbs).length cq] 25)) ⟨w6.heap.size, 1, none⟩ = some (.slice aq (limbs q.natAbs).length cq) := by simp [go_sem]
  replace B0 := B0.trans (hb.mono B0.size)
  clear hb
  go_wp2_with fail
  generalize w6.alloc (.cells #[.bool (ng q), .slice aq (limbs q.natAbs).length cq] 25) = w7 at *
  replace Ha := Lib.hid Ha.out.drew
  replace Hb := Lib.hid Hb.out.drew
  replace Hc := Lib.hid Hc.out.drew
  replace Hd := Lib.hid Hd.out.drew
  replace Hp := Lib.hid Hp.out.drew
  replace Hq := Lib.hid Hq.out.drew
  replace B0 := below_drew B0
  replace q0 := frozen_drew q0
  replace c2_0 := cell_drew c2_0
  replace q1 := frozen_drew q1
  replace c2_1 := cell_drew c2_1
  replace q2 := frozen_drew q2
  replace c2_2 := cell_drew c2_2
  replace c0_2 := cell_drew c0_2
  replace c1_2 := cell_drew c1_2
  replace lx_0 := cell_drew lx_0
  replace lx_1 := cell_drew lx_1
  replace ly_0 := cell_drew ly_0
  replace ly_1 := cell_drew ly_1
  go_region_held3 (fun w' => w'.cell? ⟨w.heap.size, 2, none⟩ = some ((.slice p1 (limbs d).length kq1)) ∧ w'.cell? ⟨w.heap.size + 1, 2, none⟩ = some ((.slice p2 (limbs f).length kq2)) ∧ w'.cell? ⟨w4.heap.size, 0, none⟩ = some (.bool (ng p)) ∧ w'.cell? ⟨w4.heap.size, 1, none⟩ = some (.slice ap (limbs p.natAbs).length cp) ∧ w'.cell? ⟨w6.heap.size, 0, none⟩ = some (.bool (ng q)) ∧ w'.cell? ⟨w6.heap.size, 1, none⟩ = some (.slice aq (limbs q.natAbs).length cq)) (first | exact ⟨c0_2, c1_2, lx_0, lx_1, ly_0, ly_1⟩ | (go_split_ands; exact ⟨(set_far (set_far ‹_› (by dsimp only; omega)) (by dsimp only; omega)), (set_far (set_far ‹_› (by dsimp only; omega)) (by dsimp only; omega)), (set_far (set_far ‹_› (by dsimp only; omega)) (by dsimp only; omega)), (set_far (set_far ‹_› (by dsimp only; omega)) (by dsimp only; omega)), (set_far (set_far ‹_› (by dsimp only; omega)) (by dsimp only; omega)), (set_far (set_far ‹_› (by dsimp only; omega)) (by dsimp only; omega))⟩) | (go_split_ands; exact ⟨(set_far (set_far (set_far ‹_› (by dsimp only; omega)) (by dsimp only; omega)) (by dsimp only; omega)), (set_far (set_far (set_far ‹_› (by dsimp only; omega)) (by dsimp only; omega)) (by dsimp only; omega)), (set_far (set_far (set_far ‹_› (by dsimp only; omega)) (by dsimp only; omega)) (by dsimp only; omega)), (set_far (set_far (set_far ‹_› (by dsimp only; omega)) (by dsimp only; omega)) (by dsimp only; omega)), (set_far (set_far (set_far ‹_› (by dsimp only; omega)) (by dsimp only; omega)) (by dsimp only; omega)), (set_far (set_far (set_far ‹_› (by dsimp only; omega)) (by dsimp only; omega)) (by dsimp only; omega))⟩) | (go_split_ands; exact ⟨(set_far ‹_› (by dsimp only; omega)), (set_far ‹_› (by dsimp only; omega)), (set_far ‹_› (by dsimp only; omega)), (set_far ‹_› (by dsimp only; omega)), (set_far ‹_› (by dsimp only; omega)), (set_far ‹_› (by dsimp only; omega))⟩) | go_keep)
    (first | (go_at_call 63; refine (bigAdd_c _ _ _ _ _ p q Hp.out Hq.out n5 n6 s HS.out).mono ?_; rintro e w8 ⟨vo, rfl, ho1, hb8⟩; replace q0 := keep_frozen (w1 := w8) hb8 c2_0 q0; replace c2_0 := keep_cell (w1 := w8) hb8 c2_0; replace q1 := keep_frozen (w1 := w8) hb8 c2_1 q1; replace c2_1 := keep_cell (w1 := w8) hb8 c2_1; replace q2 := keep_frozen (w1 := w8) hb8 c2_2 q2; replace c2_2 := keep_cell (w1 := w8) hb8 c2_2; replace c0_2 := keep_cell (w1 := w8) hb8 c0_2; replace c1_2 := keep_cell (w1 := w8) hb8 c1_2; replace lx_0 := keep_cell (w1 := w8) hb8 lx_0; replace lx_1 := keep_cell (w1 := w8) hb8 lx_1; replace ly_0 := keep_cell (w1 := w8) hb8 ly_0; replace ly_1 := keep_cell (w1 := w8) hb8 ly_1; replace Ha := Lib.hid (Ha.out.below hb8 (Nat.le_refl _)); replace Hb := Lib.hid (Hb.out.below hb8 (Nat.le_refl _)); replace Hc := Lib.hid (Hc.out.below hb8 (Nat.le_refl _)); replace Hd := Lib.hid (Hd.out.below hb8 (Nat.le_refl _)); replace Hp := Lib.hid (Hp.out.below hb8 (Nat.le_refl _)); replace Hq := Lib.hid (Hq.out.below hb8 (Nat.le_refl _)); (try (replace Ht := Lib.hid (Ht.out.below hb8 (Nat.le_refl _)))); (try (replace Hr := Lib.hid (Hr.out.below hb8 (Nat.le_refl _)))); (try (replace Hs := Lib.hid (Hs.out.below hb8 (Nat.le_refl _)))); have Ho := Lib.hid (ho1.mono B0.size); clear ho1; replace B0 := B0.trans (hb8.mono B0.size); clear hb8) | (go_at_call 62; refine (natMul_t _ _ _ _ _ d f t Hb.out Hd.out (by omega) (by omega) HT).mono ?_; rintro e w9 ⟨vt, rfl, ho1, hb9⟩; have HAP0 := apart_new Ho.out (.inr rfl) ho1; replace q0 := keep_frozen (w1 := w9) hb9 c2_0 q0; replace c2_0 := keep_cell (w1 := w9) hb9 c2_0; replace q1 := keep_frozen (w1 := w9) hb9 c2_1 q1; replace c2_1 := keep_cell (w1 := w9) hb9 c2_1; replace q2 := keep_frozen (w1 := w9) hb9 c2_2 q2; replace c2_2 := keep_cell (w1 := w9) hb9 c2_2; replace c0_2 := keep_cell (w1 := w9) hb9 c0_2; replace c1_2 := keep_cell (w1 := w9) hb9 c1_2; replace lx_0 := keep_cell (w1 := w9) hb9 lx_0; replace lx_1 := keep_cell (w1 := w9) hb9 lx_1; replace ly_0 := keep_cell (w1 := w9) hb9 ly_0; replace ly_1 := keep_cell (w1 := w9) hb9 ly_1; replace Ha := Lib.hid (Ha.out.below hb9 (Nat.le_refl _)); replace Hb := Lib.hid (Hb.out.below hb9 (Nat.le_refl _)); replace Hc := Lib.hid (Hc.out.below hb9 (Nat.le_refl _)); replace Hd := Lib.hid (Hd.out.below hb9 (Nat.le_refl _)); replace Hp := Lib.hid (Hp.out.below hb9 (Nat.le_refl _)); replace Hq := Lib.hid (Hq.out.below hb9 (Nat.le_refl _)); (try (replace Ho := Lib.hid (Ho.out.below hb9 (Nat.le_refl _)))); (try (replace Hr := Lib.hid (Hr.out.below hb9 (Nat.le_refl _)))); (try (replace Hs := Lib.hid (Hs.out.below hb9 (Nat.le_refl _)))); have Ht := Lib.hid (ho1.mono B0.size); clear ho1; replace B0 := B0.trans (hb9.mono B0.size); clear hb9) | (go_at_call 60; refine (lowest_n _ _ _ _ s t Ho.out Ht.out B0.size ls lt htp z e HZ HE HAP0).mono ?_; rintro e w10 ⟨vr, vs, rfl, ho1, ho2, HAP, hb10⟩; replace q0 := keep_frozen (w1 := w10) hb10 c2_0 q0; replace c2_0 := keep_cell (w1 := w10) hb10 c2_0; replace q1 := keep_frozen (w1 := w10) hb10 c2_1 q1; replace c2_1 := keep_cell (w1 := w10) hb10 c2_1; replace q2 := keep_frozen (w1 := w10) hb10 c2_2 q2; replace c2_2 := keep_cell (w1 := w10) hb10 c2_2; replace c0_2 := keep_cell (w1 := w10) hb10 c0_2; replace c1_2 := keep_cell (w1 := w10) hb10 c1_2; replace lx_0 := keep_cell (w1 := w10) hb10 lx_0; replace lx_1 := keep_cell (w1 := w10) hb10 lx_1; replace ly_0 := keep_cell (w1 := w10) hb10 ly_0; replace ly_1 := keep_cell (w1 := w10) hb10 ly_1; replace Ha := Lib.hid (Ha.out.below hb10 (Nat.le_refl _)); replace Hb := Lib.hid (Hb.out.below hb10 (Nat.le_refl _)); replace Hc := Lib.hid (Hc.out.below hb10 (Nat.le_refl _)); replace Hd := Lib.hid (Hd.out.below hb10 (Nat.le_refl _)); replace Hp := Lib.hid (Hp.out.below hb10 (Nat.le_refl _)); replace Hq := Lib.hid (Hq.out.below hb10 (Nat.le_refl _)); (try (replace Ho := Lib.hid (Ho.out.below hb10 (Nat.le_refl _)))); (try (replace Ht := Lib.hid (Ht.out.below hb10 (Nat.le_refl _)))); have Hr := Lib.hid ho1; clear ho1; have Hs := Lib.hid ho2; clear ho2; obtain ⟨ar, cr, rfl, -, -, -, -, -⟩ := Hr.out.form; obtain ⟨aS, cS, rfl, -, -, -, -, -⟩ := Hs.out.form; replace B0 := B0.trans (hb10.mono B0.size); clear hb10))
  go_wp2
  exact bodyPost_ret (v := .agg #[.bool (ng z), .slice ar (limbs z.natAbs).length cr, .slice aS (limbs e).length cS]) (by simp [results, Tryz.results31, go_sem, c2_0, c2_1, c2_2]) rfl (retR_end BW (by omega) hg0 B0 Hr.out Hs.out HAP)

theorem add_c (w : World) (b1 e1 : Nat) (v1 u1 : Value) (x : Int) (d : Nat) (h1 : Own w b1 v1 (limbs x.natAbs)) (k1 : Own w e1 u1 (limbs d)) (b2 e2 : Nat) (v2 u2 : Value) (y : Int) (f : Nat) (h2 : Own w b2 v2 (limbs y.natAbs)) (k2 : Own w e2 u2 (limbs f)) (hq : IsQ0 x d) (hk : IsQ0 y f) (z : Int) (e : Nat) (hz : z = (qadd x d y f).1) (he : e = (qadd x d y f).2) :
    Calls Tryz.prog 31 #[.agg #[.bool (ng x), v1, u1], .agg #[.bool (ng y), v2, u2]] w (RetQ w z e) := by
  obtain ⟨l1, l2⟩ := hq.len
  obtain ⟨l3, l4⟩ := hk.len
  rcases Nat.eq_zero_or_pos d with hd | hd
  · rw [hz, he]
    unfold qadd qlow
    rw [hd, Nat.zero_mul, (low_den0 _).1, (low_den0 _).2]
    exact add_v1 w e1 e2 v1 u1 v2 u2 x y 0 f (by rw [← hd]; exact k1) k2 rfl
  rcases Nat.eq_zero_or_pos f with hf | hf
  · rw [hz, he]
    unfold qadd qlow
    rw [hf, Nat.mul_zero, (low_den0 _).1, (low_den0 _).2]
    exact add_v2 w e1 e2 v1 u1 v2 u2 x y d 0 k1 (by rw [← hf]; exact k2) hd rfl
  by_cases hne : d = f
  · subst hne
    rcases qadd_same x y d with h | h
    · rw [h] at hz he
      exact add_same w b1 e1 v1 u1 x d h1 k1 b2 e2 v2 u2 y h2 k2 hd l1 l2 l3 z e hz he
    · omega
  · exact add_far w b1 e1 v1 u1 x d h1 k1 b2 e2 v2 u2 y f h2 k2 hd hf hne l1 l2 l3 l4 z e hz he

set_option maxHeartbeats 2000000 in
theorem neg_f (w : World) (b1 e1 : Nat) (v1 u1 : Value) (x : Int) (d : Nat) (h1 : Own w b1 v1 (limbs x.natAbs)) (k1 : Own w e1 u1 (limbs d)) (hd : 0 < d) (l1 : (limbs x.natAbs).length ≤ 24) (l2 : (limbs d).length ≤ 24) (z : Int) (hz : z = -x) :
    Calls Tryz.prog 74 #[.agg #[.bool (ng x), v1, u1]] w (RetQ w z d) := by
  have BW : Below w.heap.size w ((w.alloc (.cells #[.bool (ng x), v1, u1] 27)).alloc (.cells #[.bool false, .slice none 0 0, .slice none 0 0] 27)) := (((Below.refl w.heap.size w).alloc (Nat.le_refl _) _).alloc (by simp) _)
  obtain ⟨c0_0, c0_1, c0_2, c1_0, c1_1, c1_2, q0, q1, q2⟩ : World.cell? ((w.alloc (.cells #[.bool (ng x), v1, u1] 27)).alloc (.cells #[.bool false, .slice none 0 0, .slice none 0 0] 27)) ⟨w.heap.size, 0, none⟩ = some (.bool (ng x)) ∧ World.cell? ((w.alloc (.cells #[.bool (ng x), v1, u1] 27)).alloc (.cells #[.bool false, .slice none 0 0, .slice none 0 0] 27)) ⟨w.heap.size, 1, none⟩ = some (v1) ∧ World.cell? ((w.alloc (.cells #[.bool (ng x), v1, u1] 27)).alloc (.cells #[.bool false, .slice none 0 0, .slice none 0 0] 27)) ⟨w.heap.size, 2, none⟩ = some (u1) ∧ World.cell? ((w.alloc (.cells #[.bool (ng x), v1, u1] 27)).alloc (.cells #[.bool false, .slice none 0 0, .slice none 0 0] 27)) ⟨w.heap.size + 1, 0, none⟩ = some (.bool false) ∧ World.cell? ((w.alloc (.cells #[.bool (ng x), v1, u1] 27)).alloc (.cells #[.bool false, .slice none 0 0, .slice none 0 0] 27)) ⟨w.heap.size + 1, 1, none⟩ = some (.slice none 0 0) ∧ World.cell? ((w.alloc (.cells #[.bool (ng x), v1, u1] 27)).alloc (.cells #[.bool false, .slice none 0 0, .slice none 0 0] 27)) ⟨w.heap.size + 1, 2, none⟩ = some (.slice none 0 0) ∧ World.frozen? ((w.alloc (.cells #[.bool (ng x), v1, u1] 27)).alloc (.cells #[.bool false, .slice none 0 0, .slice none 0 0] 27)) ⟨w.heap.size + 1, 0, none⟩ = false ∧ World.frozen? ((w.alloc (.cells #[.bool (ng x), v1, u1] 27)).alloc (.cells #[.bool false, .slice none 0 0, .slice none 0 0] 27)) ⟨w.heap.size + 1, 1, none⟩ = false ∧ World.frozen? ((w.alloc (.cells #[.bool (ng x), v1, u1] 27)).alloc (.cells #[.bool false, .slice none 0 0, .slice none 0 0] 27)) ⟨w.heap.size + 1, 2, none⟩ = false := by simp [go_sem]
  have hg0 : w.heap.size + 1 < (((w.alloc (.cells #[.bool (ng x), v1, u1] 27)).alloc (.cells #[.bool false, .slice none 0 0, .slice none 0 0] 27))).heap.size := World.block_lt_of_cell? _ _ c1_0
  have Ha := Lib.hid (h1.below BW (Nat.le_refl _))
  have Hb := Lib.hid (k1.below BW (Nat.le_refl _))
  clear h1 k1
  have HD := Lib.hid hd
  have HZ := Lib.hid hz
  have n1 : (limbs x.natAbs).length ≤ 900 := by omega
  clear hd hz
  go_enter Tryz.func74, Tryz.ntmps74
  go_wp2_with fail
  generalize ((w.alloc (.cells #[.bool (ng x), v1, u1] 27)).alloc (.cells #[.bool false, .slice none 0 0, .slice none 0 0] 27)) = w0 at *
  have B0 := Below.refl w0.heap.size w0
  refine (void_f _ _ _ _ _ d Hb.out HD.out).mono ?_
  rintro e w1 ⟨rfl, hb⟩
  replace c0_0 := keep_cell hb c0_0
  replace c0_1 := keep_cell hb c0_1
  replace c0_2 := keep_cell hb c0_2
  replace q0 := keep_frozen (w1 := w1) hb c1_0 q0
  replace c1_0 := keep_cell (w1 := w1) hb c1_0
  replace q1 := keep_frozen (w1 := w1) hb c1_1 q1
  replace c1_1 := keep_cell (w1 := w1) hb c1_1
  replace q2 := keep_frozen (w1 := w1) hb c1_2 q2
  replace c1_2 := keep_cell (w1 := w1) hb c1_2
  replace Ha := Lib.hid (Ha.out.below hb (Nat.le_refl _))
  replace Hb := Lib.hid (Hb.out.below hb (Nat.le_refl _))
  replace B0 := B0.trans (hb.mono B0.size)
  clear hb
  go_wp2_with fail
  replace Ha := Lib.hid Ha.out.drew
  replace Hb := Lib.hid Hb.out.drew
  replace B0 := below_drew B0
  replace q0 := frozen_drew q0
  replace c1_0 := cell_drew c1_0
  replace q1 := frozen_drew q1
  replace c1_1 := cell_drew c1_1
  replace q2 := frozen_drew q2
  replace c1_2 := cell_drew c1_2
  replace c0_0 := cell_drew c0_0
  replace c0_1 := cell_drew c0_1
  replace c0_2 := cell_drew c0_2
  go_region_held3 (fun w' => w'.cell? ⟨w.heap.size, 0, none⟩ = some (.bool (ng x)) ∧ w'.cell? ⟨w.heap.size, 1, none⟩ = some (v1) ∧ w'.cell? ⟨w.heap.size, 2, none⟩ = some (u1)) (first | exact ⟨c0_0, c0_1, c0_2⟩ | (go_split_ands; exact ⟨(set_far (set_far ‹_› (by dsimp only; omega)) (by dsimp only; omega)), (set_far (set_far ‹_› (by dsimp only; omega)) (by dsimp only; omega)), (set_far (set_far ‹_› (by dsimp only; omega)) (by dsimp only; omega))⟩) | (go_split_ands; exact ⟨(set_far (set_far (set_far ‹_› (by dsimp only; omega)) (by dsimp only; omega)) (by dsimp only; omega)), (set_far (set_far (set_far ‹_› (by dsimp only; omega)) (by dsimp only; omega)) (by dsimp only; omega)), (set_far (set_far (set_far ‹_› (by dsimp only; omega)) (by dsimp only; omega)) (by dsimp only; omega))⟩) | (go_split_ands; exact ⟨(set_far ‹_› (by dsimp only; omega)), (set_far ‹_› (by dsimp only; omega)), (set_far ‹_› (by dsimp only; omega))⟩) | go_keep)
    (first | (go_at_call 93; refine (bigNeg_c _ _ _ x Ha.out n1 z HZ.out).mono ?_; rintro e w2 ⟨vr, rfl, ho1, hb2⟩; replace q0 := keep_frozen (w1 := w2) hb2 c1_0 q0; replace c1_0 := keep_cell (w1 := w2) hb2 c1_0; replace q1 := keep_frozen (w1 := w2) hb2 c1_1 q1; replace c1_1 := keep_cell (w1 := w2) hb2 c1_1; replace q2 := keep_frozen (w1 := w2) hb2 c1_2 q2; replace c1_2 := keep_cell (w1 := w2) hb2 c1_2; replace c0_0 := keep_cell (w1 := w2) hb2 c0_0; replace c0_1 := keep_cell (w1 := w2) hb2 c0_1; replace c0_2 := keep_cell (w1 := w2) hb2 c0_2; replace Ha := Lib.hid (Ha.out.below hb2 (Nat.le_refl _)); replace Hb := Lib.hid (Hb.out.below hb2 (Nat.le_refl _)); (try (replace Hs := Lib.hid (Hs.out.below hb2 (Nat.le_refl _)))); have Hr := Lib.hid (ho1.mono B0.size); clear ho1; obtain ⟨ar, cr, rfl, -, -, -, -, -⟩ := Hr.out.form; replace B0 := B0.trans (hb2.mono B0.size); clear hb2) | (go_at_call 64; refine (copyInts_c _ _ _ _ Hb.out (by omega)).mono ?_; rintro e w3 ⟨vs, rfl, ho1, hb3⟩; have HAP := apart_new Hr.out (.inr rfl) ho1; replace q0 := keep_frozen (w1 := w3) hb3 c1_0 q0; replace c1_0 := keep_cell (w1 := w3) hb3 c1_0; replace q1 := keep_frozen (w1 := w3) hb3 c1_1 q1; replace c1_1 := keep_cell (w1 := w3) hb3 c1_1; replace q2 := keep_frozen (w1 := w3) hb3 c1_2 q2; replace c1_2 := keep_cell (w1 := w3) hb3 c1_2; replace c0_0 := keep_cell (w1 := w3) hb3 c0_0; replace c0_1 := keep_cell (w1 := w3) hb3 c0_1; replace c0_2 := keep_cell (w1 := w3) hb3 c0_2; replace Ha := Lib.hid (Ha.out.below hb3 (Nat.le_refl _)); replace Hb := Lib.hid (Hb.out.below hb3 (Nat.le_refl _)); (try (replace Hr := Lib.hid (Hr.out.below hb3 (Nat.le_refl _)))); have Hs := Lib.hid (ho1.mono B0.size); clear ho1; obtain ⟨aS, cS, rfl, -, -, -, -, -⟩ := Hs.out.form; replace B0 := B0.trans (hb3.mono B0.size); clear hb3))
  go_wp2
  exact bodyPost_ret (v := .agg #[.bool (ng z), .slice ar (limbs z.natAbs).length cr, .slice aS (limbs d).length cS]) (by simp [results, Tryz.results74, go_sem, c1_0, c1_1, c1_2]) rfl (retR_end BW (by omega) hg0 B0 Hr.out Hs.out HAP)

set_option maxHeartbeats 2000000 in
theorem neg_v (w : World) (e1 : Nat) (v1 u1 : Value) (x : Int) (d : Nat) (k1 : Own w e1 u1 (limbs d)) (hd : d = 0) :
    Calls Tryz.prog 74 #[.agg #[.bool (ng x), v1, u1]] w (RetQ w 0 0) := by
  have BW : Below w.heap.size w ((w.alloc (.cells #[.bool (ng x), v1, u1] 27)).alloc (.cells #[.bool false, .slice none 0 0, .slice none 0 0] 27)) := (((Below.refl w.heap.size w).alloc (Nat.le_refl _) _).alloc (by simp) _)
  obtain ⟨c0_0, c0_1, c0_2, c1_0, c1_1, c1_2, q0, q1, q2⟩ : World.cell? ((w.alloc (.cells #[.bool (ng x), v1, u1] 27)).alloc (.cells #[.bool false, .slice none 0 0, .slice none 0 0] 27)) ⟨w.heap.size, 0, none⟩ = some (.bool (ng x)) ∧ World.cell? ((w.alloc (.cells #[.bool (ng x), v1, u1] 27)).alloc (.cells #[.bool false, .slice none 0 0, .slice none 0 0] 27)) ⟨w.heap.size, 1, none⟩ = some (v1) ∧ World.cell? ((w.alloc (.cells #[.bool (ng x), v1, u1] 27)).alloc (.cells #[.bool false, .slice none 0 0, .slice none 0 0] 27)) ⟨w.heap.size, 2, none⟩ = some (u1) ∧ World.cell? ((w.alloc (.cells #[.bool (ng x), v1, u1] 27)).alloc (.cells #[.bool false, .slice none 0 0, .slice none 0 0] 27)) ⟨w.heap.size + 1, 0, none⟩ = some (.bool false) ∧ World.cell? ((w.alloc (.cells #[.bool (ng x), v1, u1] 27)).alloc (.cells #[.bool false, .slice none 0 0, .slice none 0 0] 27)) ⟨w.heap.size + 1, 1, none⟩ = some (.slice none 0 0) ∧ World.cell? ((w.alloc (.cells #[.bool (ng x), v1, u1] 27)).alloc (.cells #[.bool false, .slice none 0 0, .slice none 0 0] 27)) ⟨w.heap.size + 1, 2, none⟩ = some (.slice none 0 0) ∧ World.frozen? ((w.alloc (.cells #[.bool (ng x), v1, u1] 27)).alloc (.cells #[.bool false, .slice none 0 0, .slice none 0 0] 27)) ⟨w.heap.size + 1, 0, none⟩ = false ∧ World.frozen? ((w.alloc (.cells #[.bool (ng x), v1, u1] 27)).alloc (.cells #[.bool false, .slice none 0 0, .slice none 0 0] 27)) ⟨w.heap.size + 1, 1, none⟩ = false ∧ World.frozen? ((w.alloc (.cells #[.bool (ng x), v1, u1] 27)).alloc (.cells #[.bool false, .slice none 0 0, .slice none 0 0] 27)) ⟨w.heap.size + 1, 2, none⟩ = false := by simp [go_sem]
  have hg0 : w.heap.size + 1 < (((w.alloc (.cells #[.bool (ng x), v1, u1] 27)).alloc (.cells #[.bool false, .slice none 0 0, .slice none 0 0] 27))).heap.size := World.block_lt_of_cell? _ _ c1_0
  have Hb := Lib.hid (k1.below BW (Nat.le_refl _))
  clear k1
  have HD := Lib.hid hd
  clear hd
  go_enter Tryz.func74, Tryz.ntmps74
  go_wp2_with fail
  generalize ((w.alloc (.cells #[.bool (ng x), v1, u1] 27)).alloc (.cells #[.bool false, .slice none 0 0, .slice none 0 0] 27)) = w0 at *
  have B0 := Below.refl w0.heap.size w0
  refine (void_t _ _ _ _ _ d Hb.out HD.out).mono ?_
  rintro e w1 ⟨rfl, hb⟩
  replace c0_0 := keep_cell hb c0_0
  replace c0_1 := keep_cell hb c0_1
  replace c0_2 := keep_cell hb c0_2
  replace q0 := keep_frozen (w1 := w1) hb c1_0 q0
  replace c1_0 := keep_cell (w1 := w1) hb c1_0
  replace q1 := keep_frozen (w1 := w1) hb c1_1 q1
  replace c1_1 := keep_cell (w1 := w1) hb c1_1
  replace q2 := keep_frozen (w1 := w1) hb c1_2 q2
  replace c1_2 := keep_cell (w1 := w1) hb c1_2
  replace Hb := Lib.hid (Hb.out.below hb (Nat.le_refl _))
  replace B0 := B0.trans (hb.mono B0.size)
  clear hb
  go_wp2
  exact bodyPost_ret (v := .agg #[.bool false, .slice none 0 0, .slice none 0 0]) (by simp [results, Tryz.results74, go_sem, c1_0, c1_1, c1_2]) rfl (retQ_nil (set3_below (BW.trans (B0.mono BW.size)) (by omega)))

theorem neg_c (w : World) (b1 e1 : Nat) (v1 u1 : Value) (x : Int) (d : Nat) (h1 : Own w b1 v1 (limbs x.natAbs)) (k1 : Own w e1 u1 (limbs d)) (hq : IsQ0 x d) (z : Int) (hz : z = -x) : Calls Tryz.prog 74 #[.agg #[.bool (ng x), v1, u1]] w (RetQ w z d) := by
  rcases hq with hq | ⟨hx, hd⟩
  · exact neg_f w b1 e1 v1 u1 x d h1 k1 hq.1 hq.2.2.1 hq.2.2.2 z hz
  · rw [hz, hx, hd]; exact neg_v w e1 v1 u1 0 0 (by rw [← hd]; exact k1) rfl

set_option maxHeartbeats 2000000 in
theorem sub_c (w : World) (b1 e1 : Nat) (v1 u1 : Value) (x : Int) (d : Nat) (h1 : Own w b1 v1 (limbs x.natAbs)) (k1 : Own w e1 u1 (limbs d)) (b2 e2 : Nat) (v2 u2 : Value) (y : Int) (f : Nat) (h2 : Own w b2 v2 (limbs y.natAbs)) (k2 : Own w e2 u2 (limbs f)) (hq : IsQ0 x d) (hk : IsQ0 y f) (z : Int) (e : Nat) (hz : z = (qsub x d y f).1) (he : e = (qsub x d y f).2) :
    Calls Tryz.prog 42 #[.agg #[.bool (ng x), v1, u1], .agg #[.bool (ng y), v2, u2]] w (RetQ w z e) := by
  have BW : Below w.heap.size w (((w.alloc (.cells #[.bool (ng x), v1, u1] 27)).alloc (.cells #[.bool (ng y), v2, u2] 27)).alloc (.cells #[.bool false, .slice none 0 0, .slice none 0 0] 27)) := ((((Below.refl w.heap.size w).alloc (Nat.le_refl _) _).alloc (by simp) _).alloc (by simp; omega) _)
  obtain ⟨c0_0, c0_1, c0_2, c1_0, c1_1, c1_2, c2_0, c2_1, c2_2, q0, q1, q2⟩ : World.cell? (((w.alloc (.cells #[.bool (ng x), v1, u1] 27)).alloc (.cells #[.bool (ng y), v2, u2] 27)).alloc (.cells #[.bool false, .slice none 0 0, .slice none 0 0] 27)) ⟨w.heap.size, 0, none⟩ = some (.bool (ng x)) ∧ World.cell? (((w.alloc (.cells #[.bool (ng x), v1, u1] 27)).alloc (.cells #[.bool (ng y), v2, u2] 27)).alloc (.cells #[.bool false, .slice none 0 0, .slice none 0 0] 27)) ⟨w.heap.size, 1, none⟩ = some (v1) ∧ World.cell? (((w.alloc (.cells #[.bool (ng x), v1, u1] 27)).alloc (.cells #[.bool (ng y), v2, u2] 27)).alloc (.cells #[.bool false, .slice none 0 0, .slice none 0 0] 27)) ⟨w.heap.size, 2, none⟩ = some (u1) ∧ World.cell? (((w.alloc (.cells #[.bool (ng x), v1, u1] 27)).alloc (.cells #[.bool (ng y), v2, u2] 27)).alloc (.cells #[.bool false, .slice none 0 0, .slice none 0 0] 27)) ⟨w.heap.size + 1, 0, none⟩ = some (.bool (ng y)) ∧ World.cell? (((w.alloc (.cells #[.bool (ng x), v1, u1] 27)).alloc (.cells #[.bool (ng y), v2, u2] 27)).alloc (.cells #[.bool false, .slice none 0 0, .slice none 0 0] 27)) ⟨w.heap.size + 1, 1, none⟩ = some (v2) ∧ World.cell? (((w.alloc (.cells #[.bool (ng x), v1, u1] 27)).alloc (.cells #[.bool (ng y), v2, u2] 27)).alloc (.cells #[.bool false, .slice none 0 0, .slice none 0 0] 27)) ⟨w.heap.size + 1, 2, none⟩ = some (u2) ∧ World.cell? (((w.alloc (.cells #[.bool (ng x), v1, u1] 27)).alloc (.cells #[.bool (ng y), v2, u2] 27)).alloc (.cells #[.bool false, .slice none 0 0, .slice none 0 0] 27)) ⟨w.heap.size + 1 + 1, 0, none⟩ = some (.bool false) ∧ World.cell? (((w.alloc (.cells #[.bool (ng x), v1, u1] 27)).alloc (.cells #[.bool (ng y), v2, u2] 27)).alloc (.cells #[.bool false, .slice none 0 0, .slice none 0 0] 27)) ⟨w.heap.size + 1 + 1, 1, none⟩ = some (.slice none 0 0) ∧ World.cell? (((w.alloc (.cells #[.bool (ng x), v1, u1] 27)).alloc (.cells #[.bool (ng y), v2, u2] 27)).alloc (.cells #[.bool false, .slice none 0 0, .slice none 0 0] 27)) ⟨w.heap.size + 1 + 1, 2, none⟩ = some (.slice none 0 0) ∧ World.frozen? (((w.alloc (.cells #[.bool (ng x), v1, u1] 27)).alloc (.cells #[.bool (ng y), v2, u2] 27)).alloc (.cells #[.bool false, .slice none 0 0, .slice none 0 0] 27)) ⟨w.heap.size + 1 + 1, 0, none⟩ = false ∧ World.frozen? (((w.alloc (.cells #[.bool (ng x), v1, u1] 27)).alloc (.cells #[.bool (ng y), v2, u2] 27)).alloc (.cells #[.bool false, .slice none 0 0, .slice none 0 0] 27)) ⟨w.heap.size + 1 + 1, 1, none⟩ = false ∧ World.frozen? (((w.alloc (.cells #[.bool (ng x), v1, u1] 27)).alloc (.cells #[.bool (ng y), v2, u2] 27)).alloc (.cells #[.bool false, .slice none 0 0, .slice none 0 0] 27)) ⟨w.heap.size + 1 + 1, 2, none⟩ = false := by simp [go_sem]
  have hg0 : w.heap.size + 1 + 1 < ((((w.alloc (.cells #[.bool (ng x), v1, u1] 27)).alloc (.cells #[.bool (ng y), v2, u2] 27)).alloc (.cells #[.bool false, .slice none 0 0, .slice none 0 0] 27))).heap.size := World.block_lt_of_cell? _ _ c2_0
  have Ha := Lib.hid (h1.below BW (Nat.le_refl _))
  have Hb := Lib.hid (k1.below BW (Nat.le_refl _))
  have Hc := Lib.hid (h2.below BW (Nat.le_refl _))
  have Hd := Lib.hid (k2.below BW (Nat.le_refl _))
  clear h1 k1 h2 k2
  obtain ⟨yn, hyn⟩ : ∃ yn : Int, yn = -y := ⟨_, rfl⟩
  have HYN := Lib.hid hyn
  have hkn : IsQ0 yn f := by rw [hyn]; exact isQ0_neg hk
  have HK := Lib.hid hk
  have HKN := Lib.hid hkn
  have HQ0 := Lib.hid hq
  have HZ : Hid (z = (qadd x d yn f).1) := by unfold Hid; rw [hyn]; exact hz
  have HE : Hid (e = (qadd x d yn f).2) := by unfold Hid; rw [hyn]; exact he
  clear hyn hz he hq hk hkn
  go_enter Tryz.func42, Tryz.ntmps42
  go_wp2_with fail
  generalize (((w.alloc (.cells #[.bool (ng x), v1, u1] 27)).alloc (.cells #[.bool (ng y), v2, u2] 27)).alloc (.cells #[.bool false, .slice none 0 0, .slice none 0 0] 27)) = w0 at *
  have B0 := Below.refl w0.heap.size w0
  replace Ha := Lib.hid Ha.out.drew
  replace Hb := Lib.hid Hb.out.drew
  replace Hc := Lib.hid Hc.out.drew
  replace Hd := Lib.hid Hd.out.drew
  replace B0 := below_drew B0
  replace q0 := frozen_drew q0
  replace c2_0 := cell_drew c2_0
  replace q1 := frozen_drew q1
  replace c2_1 := cell_drew c2_1
  replace q2 := frozen_drew q2
  replace c2_2 := cell_drew c2_2
  replace c0_0 := cell_drew c0_0
  replace c0_1 := cell_drew c0_1
  replace c0_2 := cell_drew c0_2
  replace c1_0 := cell_drew c1_0
  replace c1_1 := cell_drew c1_1
  replace c1_2 := cell_drew c1_2
  go_region_held3 (fun w' => w'.cell? ⟨w.heap.size, 0, none⟩ = some (.bool (ng x)) ∧ w'.cell? ⟨w.heap.size, 1, none⟩ = some (v1) ∧ w'.cell? ⟨w.heap.size, 2, none⟩ = some (u1) ∧ w'.cell? ⟨w.heap.size + 1, 0, none⟩ = some (.bool (ng y)) ∧ w'.cell? ⟨w.heap.size + 1, 1, none⟩ = some (v2) ∧ w'.cell? ⟨w.heap.size + 1, 2, none⟩ = some (u2)) (first | exact ⟨c0_0, c0_1, c0_2, c1_0, c1_1, c1_2⟩ | (go_split_ands; exact ⟨(set_far (set_far ‹_› (by dsimp only; omega)) (by dsimp only; omega)), (set_far (set_far ‹_› (by dsimp only; omega)) (by dsimp only; omega)), (set_far (set_far ‹_› (by dsimp only; omega)) (by dsimp only; omega)), (set_far (set_far ‹_› (by dsimp only; omega)) (by dsimp only; omega)), (set_far (set_far ‹_› (by dsimp only; omega)) (by dsimp only; omega)), (set_far (set_far ‹_› (by dsimp only; omega)) (by dsimp only; omega))⟩) | (go_split_ands; exact ⟨(set_far (set_far (set_far ‹_› (by dsimp only; omega)) (by dsimp only; omega)) (by dsimp only; omega)), (set_far (set_far (set_far ‹_› (by dsimp only; omega)) (by dsimp only; omega)) (by dsimp only; omega)), (set_far (set_far (set_far ‹_› (by dsimp only; omega)) (by dsimp only; omega)) (by dsimp only; omega)), (set_far (set_far (set_far ‹_› (by dsimp only; omega)) (by dsimp only; omega)) (by dsimp only; omega)), (set_far (set_far (set_far ‹_› (by dsimp only; omega)) (by dsimp only; omega)) (by dsimp only; omega)), (set_far (set_far (set_far ‹_› (by dsimp only; omega)) (by dsimp only; omega)) (by dsimp only; omega))⟩) | (go_split_ands; exact ⟨(set_far ‹_› (by dsimp only; omega)), (set_far ‹_› (by dsimp only; omega)), (set_far ‹_› (by dsimp only; omega)), (set_far ‹_› (by dsimp only; omega)), (set_far ‹_› (by dsimp only; omega)), (set_far ‹_› (by dsimp only; omega))⟩) | go_keep)
    (first | (go_at_call 74; refine (neg_c _ _ _ _ _ y f Hc.out Hd.out HK.out yn HYN.out).mono ?_; rintro e w1 ⟨vn, vm, rfl, ho1, ho2, HAP1, hb1⟩; replace q0 := keep_frozen (w1 := w1) hb1 c2_0 q0; replace c2_0 := keep_cell (w1 := w1) hb1 c2_0; replace q1 := keep_frozen (w1 := w1) hb1 c2_1 q1; replace c2_1 := keep_cell (w1 := w1) hb1 c2_1; replace q2 := keep_frozen (w1 := w1) hb1 c2_2 q2; replace c2_2 := keep_cell (w1 := w1) hb1 c2_2; replace c0_0 := keep_cell (w1 := w1) hb1 c0_0; replace c0_1 := keep_cell (w1 := w1) hb1 c0_1; replace c0_2 := keep_cell (w1 := w1) hb1 c0_2; replace c1_0 := keep_cell (w1 := w1) hb1 c1_0; replace c1_1 := keep_cell (w1 := w1) hb1 c1_1; replace c1_2 := keep_cell (w1 := w1) hb1 c1_2; replace Ha := Lib.hid (Ha.out.below hb1 (Nat.le_refl _)); replace Hb := Lib.hid (Hb.out.below hb1 (Nat.le_refl _)); replace Hc := Lib.hid (Hc.out.below hb1 (Nat.le_refl _)); replace Hd := Lib.hid (Hd.out.below hb1 (Nat.le_refl _)); (try (replace Hr := Lib.hid (Hr.out.below hb1 (Nat.le_refl _)))); (try (replace Hs := Lib.hid (Hs.out.below hb1 (Nat.le_refl _)))); have Hn := Lib.hid (ho1.mono B0.size); clear ho1; have Hm := Lib.hid (ho2.mono B0.size); clear ho2; replace B0 := B0.trans (hb1.mono B0.size); clear hb1) | (go_at_call 31; refine (add_c _ _ _ _ _ x d Ha.out Hb.out _ _ _ _ yn f Hn.out Hm.out HQ0.out HKN.out z e HZ.out HE.out).mono ?_; rintro e w2 ⟨vr, vs, rfl, ho1, ho2, HAP, hb2⟩; replace q0 := keep_frozen (w1 := w2) hb2 c2_0 q0; replace c2_0 := keep_cell (w1 := w2) hb2 c2_0; replace q1 := keep_frozen (w1 := w2) hb2 c2_1 q1; replace c2_1 := keep_cell (w1 := w2) hb2 c2_1; replace q2 := keep_frozen (w1 := w2) hb2 c2_2 q2; replace c2_2 := keep_cell (w1 := w2) hb2 c2_2; replace c0_0 := keep_cell (w1 := w2) hb2 c0_0; replace c0_1 := keep_cell (w1 := w2) hb2 c0_1; replace c0_2 := keep_cell (w1 := w2) hb2 c0_2; replace c1_0 := keep_cell (w1 := w2) hb2 c1_0; replace c1_1 := keep_cell (w1 := w2) hb2 c1_1; replace c1_2 := keep_cell (w1 := w2) hb2 c1_2; replace Ha := Lib.hid (Ha.out.below hb2 (Nat.le_refl _)); replace Hb := Lib.hid (Hb.out.below hb2 (Nat.le_refl _)); replace Hc := Lib.hid (Hc.out.below hb2 (Nat.le_refl _)); replace Hd := Lib.hid (Hd.out.below hb2 (Nat.le_refl _)); (try (replace Hn := Lib.hid (Hn.out.below hb2 (Nat.le_refl _)))); (try (replace Hm := Lib.hid (Hm.out.below hb2 (Nat.le_refl _)))); have Hr := Lib.hid (ho1.mono B0.size); clear ho1; have Hs := Lib.hid (ho2.mono B0.size); clear ho2; obtain ⟨ar, cr, rfl, -, -, -, -, -⟩ := Hr.out.form; obtain ⟨aS, cS, rfl, -, -, -, -, -⟩ := Hs.out.form; replace B0 := B0.trans (hb2.mono B0.size); clear hb2))
  go_wp2
  exact bodyPost_ret (v := .agg #[.bool (ng z), .slice ar (limbs z.natAbs).length cr, .slice aS (limbs e).length cS]) (by simp [results, Tryz.results42, go_sem, c2_0, c2_1, c2_2]) rfl (retR_end BW (by omega) hg0 B0 Hr.out Hs.out HAP)

set_option maxHeartbeats 2000000 in
theorem mul_v1 (w : World) (e1 e2 : Nat) (v1 u1 v2 u2 : Value) (x y : Int) (d f : Nat) (k1 : Own w e1 u1 (limbs d)) (k2 : Own w e2 u2 (limbs f)) (hd : d = 0) :
    Calls Tryz.prog 30 #[.agg #[.bool (ng x), v1, u1], .agg #[.bool (ng y), v2, u2]] w (RetQ w 0 0) := by
  have BW : Below w.heap.size w (((w.alloc (.cells #[.bool (ng x), v1, u1] 27)).alloc (.cells #[.bool (ng y), v2, u2] 27)).alloc (.cells #[.bool false, .slice none 0 0, .slice none 0 0] 27)) := ((((Below.refl w.heap.size w).alloc (Nat.le_refl _) _).alloc (by simp) _).alloc (by simp; omega) _)
  obtain ⟨c0_0, c0_1, c0_2, c1_0, c1_1, c1_2, c2_0, c2_1, c2_2, q0, q1, q2⟩ : World.cell? (((w.alloc (.cells #[.bool (ng x), v1, u1] 27)).alloc (.cells #[.bool (ng y), v2, u2] 27)).alloc (.cells #[.bool false, .slice none 0 0, .slice none 0 0] 27)) ⟨w.heap.size, 0, none⟩ = some (.bool (ng x)) ∧ World.cell? (((w.alloc (.cells #[.bool (ng x), v1, u1] 27)).alloc (.cells #[.bool (ng y), v2, u2] 27)).alloc (.cells #[.bool false, .slice none 0 0, .slice none 0 0] 27)) ⟨w.heap.size, 1, none⟩ = some (v1) ∧ World.cell? (((w.alloc (.cells #[.bool (ng x), v1, u1] 27)).alloc (.cells #[.bool (ng y), v2, u2] 27)).alloc (.cells #[.bool false, .slice none 0 0, .slice none 0 0] 27)) ⟨w.heap.size, 2, none⟩ = some (u1) ∧ World.cell? (((w.alloc (.cells #[.bool (ng x), v1, u1] 27)).alloc (.cells #[.bool (ng y), v2, u2] 27)).alloc (.cells #[.bool false, .slice none 0 0, .slice none 0 0] 27)) ⟨w.heap.size + 1, 0, none⟩ = some (.bool (ng y)) ∧ World.cell? (((w.alloc (.cells #[.bool (ng x), v1, u1] 27)).alloc (.cells #[.bool (ng y), v2, u2] 27)).alloc (.cells #[.bool false, .slice none 0 0, .slice none 0 0] 27)) ⟨w.heap.size + 1, 1, none⟩ = some (v2) ∧ World.cell? (((w.alloc (.cells #[.bool (ng x), v1, u1] 27)).alloc (.cells #[.bool (ng y), v2, u2] 27)).alloc (.cells #[.bool false, .slice none 0 0, .slice none 0 0] 27)) ⟨w.heap.size + 1, 2, none⟩ = some (u2) ∧ World.cell? (((w.alloc (.cells #[.bool (ng x), v1, u1] 27)).alloc (.cells #[.bool (ng y), v2, u2] 27)).alloc (.cells #[.bool false, .slice none 0 0, .slice none 0 0] 27)) ⟨w.heap.size + 1 + 1, 0, none⟩ = some (.bool false) ∧ World.cell? (((w.alloc (.cells #[.bool (ng x), v1, u1] 27)).alloc (.cells #[.bool (ng y), v2, u2] 27)).alloc (.cells #[.bool false, .slice none 0 0, .slice none 0 0] 27)) ⟨w.heap.size + 1 + 1, 1, none⟩ = some (.slice none 0 0) ∧ World.cell? (((w.alloc (.cells #[.bool (ng x), v1, u1] 27)).alloc (.cells #[.bool (ng y), v2, u2] 27)).alloc (.cells #[.bool false, .slice none 0 0, .slice none 0 0] 27)) ⟨w.heap.size + 1 + 1, 2, none⟩ = some (.slice none 0 0) ∧ World.frozen? (((w.alloc (.cells #[.bool (ng x), v1, u1] 27)).alloc (.cells #[.bool (ng y), v2, u2] 27)).alloc (.cells #[.bool false, .slice none 0 0, .slice none 0 0] 27)) ⟨w.heap.size + 1 + 1, 0, none⟩ = false ∧ World.frozen? (((w.alloc (.cells #[.bool (ng x), v1, u1] 27)).alloc (.cells #[.bool (ng y), v2, u2] 27)).alloc (.cells #[.bool false, .slice none 0 0, .slice none 0 0] 27)) ⟨w.heap.size + 1 + 1, 1, none⟩ = false ∧ World.frozen? (((w.alloc (.cells #[.bool (ng x), v1, u1] 27)).alloc (.cells #[.bool (ng y), v2, u2] 27)).alloc (.cells #[.bool false, .slice none 0 0, .slice none 0 0] 27)) ⟨w.heap.size + 1 + 1, 2, none⟩ = false := by simp [go_sem]
  have hg0 : w.heap.size + 1 + 1 < ((((w.alloc (.cells #[.bool (ng x), v1, u1] 27)).alloc (.cells #[.bool (ng y), v2, u2] 27)).alloc (.cells #[.bool false, .slice none 0 0, .slice none 0 0] 27))).heap.size := World.block_lt_of_cell? _ _ c2_0
  have Hb := Lib.hid (k1.below BW (Nat.le_refl _))
  have Hd := Lib.hid (k2.below BW (Nat.le_refl _))
  clear k1 k2
  have HD := Lib.hid hd
  clear hd
  go_enter Tryz.func30, Tryz.ntmps30
  go_wp2_with fail
  generalize (((w.alloc (.cells #[.bool (ng x), v1, u1] 27)).alloc (.cells #[.bool (ng y), v2, u2] 27)).alloc (.cells #[.bool false, .slice none 0 0, .slice none 0 0] 27)) = w0 at *
  have B0 := Below.refl w0.heap.size w0
  refine (void_t _ _ _ _ _ d Hb.out HD.out).mono ?_
  rintro e w1 ⟨rfl, hb⟩
  replace c0_0 := keep_cell hb c0_0
  replace c0_1 := keep_cell hb c0_1
  replace c0_2 := keep_cell hb c0_2
  replace c1_0 := keep_cell hb c1_0
  replace c1_1 := keep_cell hb c1_1
  replace c1_2 := keep_cell hb c1_2
  replace q0 := keep_frozen (w1 := w1) hb c2_0 q0
  replace c2_0 := keep_cell (w1 := w1) hb c2_0
  replace q1 := keep_frozen (w1 := w1) hb c2_1 q1
  replace c2_1 := keep_cell (w1 := w1) hb c2_1
  replace q2 := keep_frozen (w1 := w1) hb c2_2 q2
  replace c2_2 := keep_cell (w1 := w1) hb c2_2
  replace Hb := Lib.hid (Hb.out.below hb (Nat.le_refl _))
  replace Hd := Lib.hid (Hd.out.below hb (Nat.le_refl _))
  replace B0 := B0.trans (hb.mono B0.size)
  clear hb
  go_wp2
  exact bodyPost_ret (v := .agg #[.bool false, .slice none 0 0, .slice none 0 0]) (by simp [results, Tryz.results30, go_sem, c2_0, c2_1, c2_2]) rfl (retQ_nil (set3_below (BW.trans (B0.mono BW.size)) (by omega)))

set_option maxHeartbeats 2000000 in
theorem mul_v2 (w : World) (e1 e2 : Nat) (v1 u1 v2 u2 : Value) (x y : Int) (d f : Nat) (k1 : Own w e1 u1 (limbs d)) (k2 : Own w e2 u2 (limbs f)) (hd : 0 < d) (hf : f = 0) :
    Calls Tryz.prog 30 #[.agg #[.bool (ng x), v1, u1], .agg #[.bool (ng y), v2, u2]] w (RetQ w 0 0) := by
  have BW : Below w.heap.size w (((w.alloc (.cells #[.bool (ng x), v1, u1] 27)).alloc (.cells #[.bool (ng y), v2, u2] 27)).alloc (.cells #[.bool false, .slice none 0 0, .slice none 0 0] 27)) := ((((Below.refl w.heap.size w).alloc (Nat.le_refl _) _).alloc (by simp) _).alloc (by simp; omega) _)
  obtain ⟨c0_0, c0_1, c0_2, c1_0, c1_1, c1_2, c2_0, c2_1, c2_2, q0, q1, q2⟩ : World.cell? (((w.alloc (.cells #[.bool (ng x), v1, u1] 27)).alloc (.cells #[.bool (ng y), v2, u2] 27)).alloc (.cells #[.bool false, .slice none 0 0, .slice none 0 0] 27)) ⟨w.heap.size, 0, none⟩ = some (.bool (ng x)) ∧ World.cell? (((w.alloc (.cells #[.bool (ng x), v1, u1] 27)).alloc (.cells #[.bool (ng y), v2, u2] 27)).alloc (.cells #[.bool false, .slice none 0 0, .slice none 0 0] 27)) ⟨w.heap.size, 1, none⟩ = some (v1) ∧ World.cell? (((w.alloc (.cells #[.bool (ng x), v1, u1] 27)).alloc (.cells #[.bool (ng y), v2, u2] 27)).alloc (.cells #[.bool false, .slice none 0 0, .slice none 0 0] 27)) ⟨w.heap.size, 2, none⟩ = some (u1) ∧ World.cell? (((w.alloc (.cells #[.bool (ng x), v1, u1] 27)).alloc (.cells #[.bool (ng y), v2, u2] 27)).alloc (.cells #[.bool false, .slice none 0 0, .slice none 0 0] 27)) ⟨w.heap.size + 1, 0, none⟩ = some (.bool (ng y)) ∧ World.cell? (((w.alloc (.cells #[.bool (ng x), v1, u1] 27)).alloc (.cells #[.bool (ng y), v2, u2] 27)).alloc (.cells #[.bool false, .slice none 0 0, .slice none 0 0] 27)) ⟨w.heap.size + 1, 1, none⟩ = some (v2) ∧ World.cell? (((w.alloc (.cells #[.bool (ng x), v1, u1] 27)).alloc (.cells #[.bool (ng y), v2, u2] 27)).alloc (.cells #[.bool false, .slice none 0 0, .slice none 0 0] 27)) ⟨w.heap.size + 1, 2, none⟩ = some (u2) ∧ World.cell? (((w.alloc (.cells #[.bool (ng x), v1, u1] 27)).alloc (.cells #[.bool (ng y), v2, u2] 27)).alloc (.cells #[.bool false, .slice none 0 0, .slice none 0 0] 27)) ⟨w.heap.size + 1 + 1, 0, none⟩ = some (.bool false) ∧ World.cell? (((w.alloc (.cells #[.bool (ng x), v1, u1] 27)).alloc (.cells #[.bool (ng y), v2, u2] 27)).alloc (.cells #[.bool false, .slice none 0 0, .slice none 0 0] 27)) ⟨w.heap.size + 1 + 1, 1, none⟩ = some (.slice none 0 0) ∧ World.cell? (((w.alloc (.cells #[.bool (ng x), v1, u1] 27)).alloc (.cells #[.bool (ng y), v2, u2] 27)).alloc (.cells #[.bool false, .slice none 0 0, .slice none 0 0] 27)) ⟨w.heap.size + 1 + 1, 2, none⟩ = some (.slice none 0 0) ∧ World.frozen? (((w.alloc (.cells #[.bool (ng x), v1, u1] 27)).alloc (.cells #[.bool (ng y), v2, u2] 27)).alloc (.cells #[.bool false, .slice none 0 0, .slice none 0 0] 27)) ⟨w.heap.size + 1 + 1, 0, none⟩ = false ∧ World.frozen? (((w.alloc (.cells #[.bool (ng x), v1, u1] 27)).alloc (.cells #[.bool (ng y), v2, u2] 27)).alloc (.cells #[.bool false, .slice none 0 0, .slice none 0 0] 27)) ⟨w.heap.size + 1 + 1, 1, none⟩ = false ∧ World.frozen? (((w.alloc (.cells #[.bool (ng x), v1, u1] 27)).alloc (.cells #[.bool (ng y), v2, u2] 27)).alloc (.cells #[.bool false, .slice none 0 0, .slice none 0 0] 27)) ⟨w.heap.size + 1 + 1, 2, none⟩ = false := by simp [go_sem]
  have hg0 : w.heap.size + 1 + 1 < ((((w.alloc (.cells #[.bool (ng x), v1, u1] 27)).alloc (.cells #[.bool (ng y), v2, u2] 27)).alloc (.cells #[.bool false, .slice none 0 0, .slice none 0 0] 27))).heap.size := World.block_lt_of_cell? _ _ c2_0
  have Hb := Lib.hid (k1.below BW (Nat.le_refl _))
  have Hd := Lib.hid (k2.below BW (Nat.le_refl _))
  clear k1 k2
  have HD := Lib.hid hd
  have HF := Lib.hid hf
  clear hd hf
  go_enter Tryz.func30, Tryz.ntmps30
  go_wp2_with fail
  generalize (((w.alloc (.cells #[.bool (ng x), v1, u1] 27)).alloc (.cells #[.bool (ng y), v2, u2] 27)).alloc (.cells #[.bool false, .slice none 0 0, .slice none 0 0] 27)) = w0 at *
  have B0 := Below.refl w0.heap.size w0
  refine (void_f _ _ _ _ _ d Hb.out HD.out).mono ?_
  rintro e w1 ⟨rfl, hb⟩
  replace c0_0 := keep_cell hb c0_0
  replace c0_1 := keep_cell hb c0_1
  replace c0_2 := keep_cell hb c0_2
  replace c1_0 := keep_cell hb c1_0
  replace c1_1 := keep_cell hb c1_1
  replace c1_2 := keep_cell hb c1_2
  replace q0 := keep_frozen (w1 := w1) hb c2_0 q0
  replace c2_0 := keep_cell (w1 := w1) hb c2_0
  replace q1 := keep_frozen (w1 := w1) hb c2_1 q1
  replace c2_1 := keep_cell (w1 := w1) hb c2_1
  replace q2 := keep_frozen (w1 := w1) hb c2_2 q2
  replace c2_2 := keep_cell (w1 := w1) hb c2_2
  replace Hb := Lib.hid (Hb.out.below hb (Nat.le_refl _))
  replace Hd := Lib.hid (Hd.out.below hb (Nat.le_refl _))
  replace B0 := B0.trans (hb.mono B0.size)
  clear hb
  go_wp2_with fail
  refine (void_t _ _ _ _ _ f Hd.out HF.out).mono ?_
  rintro e w2 ⟨rfl, hb⟩
  replace c0_0 := keep_cell hb c0_0
  replace c0_1 := keep_cell hb c0_1
  replace c0_2 := keep_cell hb c0_2
  replace c1_0 := keep_cell hb c1_0
  replace c1_1 := keep_cell hb c1_1
  replace c1_2 := keep_cell hb c1_2
  replace q0 := keep_frozen (w1 := w2) hb c2_0 q0
  replace c2_0 := keep_cell (w1 := w2) hb c2_0
  replace q1 := keep_frozen (w1 := w2) hb c2_1 q1
  replace c2_1 := keep_cell (w1 := w2) hb c2_1
  replace q2 := keep_frozen (w1 := w2) hb c2_2 q2
  replace c2_2 := keep_cell (w1 := w2) hb c2_2
  replace Hb := Lib.hid (Hb.out.below hb (Nat.le_refl _))
  replace Hd := Lib.hid (Hd.out.below hb (Nat.le_refl _))
  replace B0 := B0.trans (hb.mono B0.size)
  clear hb
  go_wp2
  exact bodyPost_ret (v := .agg #[.bool false, .slice none 0 0, .slice none 0 0]) (by simp [results, Tryz.results30, go_sem, c2_0, c2_1, c2_2]) rfl (retQ_nil (set3_below (BW.trans (B0.mono BW.size)) (by omega)))

set_option maxHeartbeats 2000000 in
theorem mul_f (w : World) (b1 e1 : Nat) (v1 u1 : Value) (x : Int) (d : Nat) (h1 : Own w b1 v1 (limbs x.natAbs)) (k1 : Own w e1 u1 (limbs d)) (b2 e2 : Nat) (v2 u2 : Value) (y : Int) (f : Nat) (h2 : Own w b2 v2 (limbs y.natAbs)) (k2 : Own w e2 u2 (limbs f)) (hd : 0 < d) (hf : 0 < f) (l1 : (limbs x.natAbs).length ≤ 24) (l2 : (limbs d).length ≤ 24) (l3 : (limbs y.natAbs).length ≤ 24) (l4 : (limbs f).length ≤ 24) (z : Int) (e : Nat) (hz : z = lowZ (x * y) (d * f)) (he : e = lowD (x * y) (d * f)) :
    Calls Tryz.prog 30 #[.agg #[.bool (ng x), v1, u1], .agg #[.bool (ng y), v2, u2]] w (RetQ w z e) := by
  have BW : Below w.heap.size w (((w.alloc (.cells #[.bool (ng x), v1, u1] 27)).alloc (.cells #[.bool (ng y), v2, u2] 27)).alloc (.cells #[.bool false, .slice none 0 0, .slice none 0 0] 27)) := ((((Below.refl w.heap.size w).alloc (Nat.le_refl _) _).alloc (by simp) _).alloc (by simp; omega) _)
  obtain ⟨c0_0, c0_1, c0_2, c1_0, c1_1, c1_2, c2_0, c2_1, c2_2, q0, q1, q2⟩ : World.cell? (((w.alloc (.cells #[.bool (ng x), v1, u1] 27)).alloc (.cells #[.bool (ng y), v2, u2] 27)).alloc (.cells #[.bool false, .slice none 0 0, .slice none 0 0] 27)) ⟨w.heap.size, 0, none⟩ = some (.bool (ng x)) ∧ World.cell? (((w.alloc (.cells #[.bool (ng x), v1, u1] 27)).alloc (.cells #[.bool (ng y), v2, u2] 27)).alloc (.cells #[.bool false, .slice none 0 0, .slice none 0 0] 27)) ⟨w.heap.size, 1, none⟩ = some (v1) ∧ World.cell? (((w.alloc (.cells #[.bool (ng x), v1, u1] 27)).alloc (.cells #[.bool (ng y), v2, u2] 27)).alloc (.cells #[.bool false, .slice none 0 0, .slice none 0 0] 27)) ⟨w.heap.size, 2, none⟩ = some (u1) ∧ World.cell? (((w.alloc (.cells #[.bool (ng x), v1, u1] 27)).alloc (.cells #[.bool (ng y), v2, u2] 27)).alloc (.cells #[.bool false, .slice none 0 0, .slice none 0 0] 27)) ⟨w.heap.size + 1, 0, none⟩ = some (.bool (ng y)) ∧ World.cell? (((w.alloc (.cells #[.bool (ng x), v1, u1] 27)).alloc (.cells #[.bool (ng y), v2, u2] 27)).alloc (.cells #[.bool false, .slice none 0 0, .slice none 0 0] 27)) ⟨w.heap.size + 1, 1, none⟩ = some (v2) ∧ World.cell? (((w.alloc (.cells #[.bool (ng x), v1, u1] 27)).alloc (.cells #[.bool (ng y), v2, u2] 27)).alloc (.cells #[.bool false, .slice none 0 0, .slice none 0 0] 27)) ⟨w.heap.size + 1, 2, none⟩ = some (u2) ∧ World.cell? (((w.alloc (.cells #[.bool (ng x), v1, u1] 27)).alloc (.cells #[.bool (ng y), v2, u2] 27)).alloc (.cells #[.bool false, .slice none 0 0, .slice none 0 0] 27)) ⟨w.heap.size + 1 + 1, 0, none⟩ = some (.bool false) ∧ World.cell? (((w.alloc (.cells #[.bool (ng x), v1, u1] 27)).alloc (.cells #[.bool (ng y), v2, u2] 27)).alloc (.cells #[.bool false, .slice none 0 0, .slice none 0 0] 27)) ⟨w.heap.size + 1 + 1, 1, none⟩ = some (.slice none 0 0) ∧ World.cell? (((w.alloc (.cells #[.bool (ng x), v1, u1] 27)).alloc (.cells #[.bool (ng y), v2, u2] 27)).alloc (.cells #[.bool false, .slice none 0 0, .slice none 0 0] 27)) ⟨w.heap.size + 1 + 1, 2, none⟩ = some (.slice none 0 0) ∧ World.frozen? (((w.alloc (.cells #[.bool (ng x), v1, u1] 27)).alloc (.cells #[.bool (ng y), v2, u2] 27)).alloc (.cells #[.bool false, .slice none 0 0, .slice none 0 0] 27)) ⟨w.heap.size + 1 + 1, 0, none⟩ = false ∧ World.frozen? (((w.alloc (.cells #[.bool (ng x), v1, u1] 27)).alloc (.cells #[.bool (ng y), v2, u2] 27)).alloc (.cells #[.bool false, .slice none 0 0, .slice none 0 0] 27)) ⟨w.heap.size + 1 + 1, 1, none⟩ = false ∧ World.frozen? (((w.alloc (.cells #[.bool (ng x), v1, u1] 27)).alloc (.cells #[.bool (ng y), v2, u2] 27)).alloc (.cells #[.bool false, .slice none 0 0, .slice none 0 0] 27)) ⟨w.heap.size + 1 + 1, 2, none⟩ = false := by simp [go_sem]
  have hg0 : w.heap.size + 1 + 1 < ((((w.alloc (.cells #[.bool (ng x), v1, u1] 27)).alloc (.cells #[.bool (ng y), v2, u2] 27)).alloc (.cells #[.bool false, .slice none 0 0, .slice none 0 0] 27))).heap.size := World.block_lt_of_cell? _ _ c2_0
  have Ha := Lib.hid (h1.below BW (Nat.le_refl _))
  have Hb := Lib.hid (k1.below BW (Nat.le_refl _))
  have Hc := Lib.hid (h2.below BW (Nat.le_refl _))
  have Hd := Lib.hid (k2.below BW (Nat.le_refl _))
  clear h1 k1 h2 k2
  have HD := Lib.hid hd
  have HF := Lib.hid hf
  obtain ⟨s, hs⟩ : ∃ s : Int, s = x * y := ⟨_, rfl⟩
  obtain ⟨t, ht⟩ : ∃ t : Nat, t = d * f := ⟨_, rfl⟩
  have ls : (limbs s.natAbs).length ≤ 900 := by rw [hs]; have := len_mulI l1 l3; omega
  have lt : (limbs t).length ≤ 900 := by rw [ht]; have := len_mul l2 l4; omega
  have htp : 0 < t := by rw [ht]; exact Nat.mul_pos hd hf
  have HZ : Hid (z = lowZ s t) := by unfold Hid; rw [hs, ht]; exact hz
  have HE : Hid (e = lowD s t) := by unfold Hid; rw [hs, ht]; exact he
  have HS := Lib.hid hs
  have HT : Hid (d * f = t) := ht.symm
  have n1 : (limbs x.natAbs).length ≤ 900 := by omega
  have n3 : (limbs y.natAbs).length ≤ 900 := by omega
  clear hd hf hz he hs ht
  go_enter Tryz.func30, Tryz.ntmps30
  go_wp2_with fail
  generalize (((w.alloc (.cells #[.bool (ng x), v1, u1] 27)).alloc (.cells #[.bool (ng y), v2, u2] 27)).alloc (.cells #[.bool false, .slice none 0 0, .slice none 0 0] 27)) = w0 at *
  have B0 := Below.refl w0.heap.size w0
  refine (void_f _ _ _ _ _ d Hb.out HD.out).mono ?_
  rintro e w1 ⟨rfl, hb⟩
  replace c0_0 := keep_cell hb c0_0
  replace c0_1 := keep_cell hb c0_1
  replace c0_2 := keep_cell hb c0_2
  replace c1_0 := keep_cell hb c1_0
  replace c1_1 := keep_cell hb c1_1
  replace c1_2 := keep_cell hb c1_2
  replace q0 := keep_frozen (w1 := w1) hb c2_0 q0
  replace c2_0 := keep_cell (w1 := w1) hb c2_0
  replace q1 := keep_frozen (w1 := w1) hb c2_1 q1
  replace c2_1 := keep_cell (w1 := w1) hb c2_1
  replace q2 := keep_frozen (w1 := w1) hb c2_2 q2
  replace c2_2 := keep_cell (w1 := w1) hb c2_2
  replace Ha := Lib.hid (Ha.out.below hb (Nat.le_refl _))
  replace Hb := Lib.hid (Hb.out.below hb (Nat.le_refl _))
  replace Hc := Lib.hid (Hc.out.below hb (Nat.le_refl _))
  replace Hd := Lib.hid (Hd.out.below hb (Nat.le_refl _))
  replace B0 := B0.trans (hb.mono B0.size)
  clear hb
  go_wp2_with fail
  refine (void_f _ _ _ _ _ f Hd.out HF.out).mono ?_
  rintro e w2 ⟨rfl, hb⟩
  replace c0_0 := keep_cell hb c0_0
  replace c0_1 := keep_cell hb c0_1
  replace c0_2 := keep_cell hb c0_2
  replace c1_0 := keep_cell hb c1_0
  replace c1_1 := keep_cell hb c1_1
  replace c1_2 := keep_cell hb c1_2
  replace q0 := keep_frozen (w1 := w2) hb c2_0 q0
  replace c2_0 := keep_cell (w1 := w2) hb c2_0
  replace q1 := keep_frozen (w1 := w2) hb c2_1 q1
  replace c2_1 := keep_cell (w1 := w2) hb c2_1
  replace q2 := keep_frozen (w1 := w2) hb c2_2 q2
  replace c2_2 := keep_cell (w1 := w2) hb c2_2
  replace Ha := Lib.hid (Ha.out.below hb (Nat.le_refl _))
  replace Hb := Lib.hid (Hb.out.below hb (Nat.le_refl _))
  replace Hc := Lib.hid (Hc.out.below hb (Nat.le_refl _))
  replace Hd := Lib.hid (Hd.out.below hb (Nat.le_refl _))
  replace B0 := B0.trans (hb.mono B0.size)
  clear hb
  go_wp2_with fail
  replace Ha := Lib.hid Ha.out.drew
  replace Hb := Lib.hid Hb.out.drew
  replace Hc := Lib.hid Hc.out.drew
  replace Hd := Lib.hid Hd.out.drew
  replace B0 := below_drew B0
  replace q0 := frozen_drew q0
  replace c2_0 := cell_drew c2_0
  replace q1 := frozen_drew q1
  replace c2_1 := cell_drew c2_1
  replace q2 := frozen_drew q2
  replace c2_2 := cell_drew c2_2
  replace c0_0 := cell_drew c0_0
  replace c0_1 := cell_drew c0_1
  replace c0_2 := cell_drew c0_2
  replace c1_0 := cell_drew c1_0
  replace c1_1 := cell_drew c1_1
  replace c1_2 := cell_drew c1_2
  go_region_held3 (fun w' => w'.cell? ⟨w.heap.size, 0, none⟩ = some (.bool (ng x)) ∧ w'.cell? ⟨w.heap.size, 1, none⟩ = some (v1) ∧ w'.cell? ⟨w.heap.size, 2, none⟩ = some (u1) ∧ w'.cell? ⟨w.heap.size + 1, 0, none⟩ = some (.bool (ng y)) ∧ w'.cell? ⟨w.heap.size + 1, 1, none⟩ = some (v2) ∧ w'.cell? ⟨w.heap.size + 1, 2, none⟩ = some (u2)) (first | exact ⟨c0_0, c0_1, c0_2, c1_0, c1_1, c1_2⟩ | (go_split_ands; exact ⟨(set_far (set_far ‹_› (by dsimp only; omega)) (by dsimp only; omega)), (set_far (set_far ‹_› (by dsimp only; omega)) (by dsimp only; omega)), (set_far (set_far ‹_› (by dsimp only; omega)) (by dsimp only; omega)), (set_far (set_far ‹_› (by dsimp only; omega)) (by dsimp only; omega)), (set_far (set_far ‹_› (by dsimp only; omega)) (by dsimp only; omega)), (set_far (set_far ‹_› (by dsimp only; omega)) (by dsimp only; omega))⟩) | (go_split_ands; exact ⟨(set_far (set_far (set_far ‹_› (by dsimp only; omega)) (by dsimp only; omega)) (by dsimp only; omega)), (set_far (set_far (set_far ‹_› (by dsimp only; omega)) (by dsimp only; omega)) (by dsimp only; omega)), (set_far (set_far (set_far ‹_› (by dsimp only; omega)) (by dsimp only; omega)) (by dsimp only; omega)), (set_far (set_far (set_far ‹_› (by dsimp only; omega)) (by dsimp only; omega)) (by dsimp only; omega)), (set_far (set_far (set_far ‹_› (by dsimp only; omega)) (by dsimp only; omega)) (by dsimp only; omega)), (set_far (set_far (set_far ‹_› (by dsimp only; omega)) (by dsimp only; omega)) (by dsimp only; omega))⟩) | (go_split_ands; exact ⟨(set_far ‹_› (by dsimp only; omega)), (set_far ‹_› (by dsimp only; omega)), (set_far ‹_› (by dsimp only; omega)), (set_far ‹_› (by dsimp only; omega)), (set_far ‹_› (by dsimp only; omega)), (set_far ‹_› (by dsimp only; omega))⟩) | go_keep)
    (first | (go_at_call 61; refine (bigMul_c _ _ _ _ _ x y Ha.out Hc.out n1 n3 s HS.out).mono ?_; rintro e w3 ⟨vo, rfl, ho1, hb3⟩; replace q0 := keep_frozen (w1 := w3) hb3 c2_0 q0; replace c2_0 := keep_cell (w1 := w3) hb3 c2_0; replace q1 := keep_frozen (w1 := w3) hb3 c2_1 q1; replace c2_1 := keep_cell (w1 := w3) hb3 c2_1; replace q2 := keep_frozen (w1 := w3) hb3 c2_2 q2; replace c2_2 := keep_cell (w1 := w3) hb3 c2_2; replace c0_0 := keep_cell (w1 := w3) hb3 c0_0; replace c0_1 := keep_cell (w1 := w3) hb3 c0_1; replace c0_2 := keep_cell (w1 := w3) hb3 c0_2; replace c1_0 := keep_cell (w1 := w3) hb3 c1_0; replace c1_1 := keep_cell (w1 := w3) hb3 c1_1; replace c1_2 := keep_cell (w1 := w3) hb3 c1_2; replace Ha := Lib.hid (Ha.out.below hb3 (Nat.le_refl _)); replace Hb := Lib.hid (Hb.out.below hb3 (Nat.le_refl _)); replace Hc := Lib.hid (Hc.out.below hb3 (Nat.le_refl _)); replace Hd := Lib.hid (Hd.out.below hb3 (Nat.le_refl _)); (try (replace Ht := Lib.hid (Ht.out.below hb3 (Nat.le_refl _)))); (try (replace Hr := Lib.hid (Hr.out.below hb3 (Nat.le_refl _)))); (try (replace Hs := Lib.hid (Hs.out.below hb3 (Nat.le_refl _)))); have Ho := Lib.hid (ho1.mono B0.size); clear ho1; replace B0 := B0.trans (hb3.mono B0.size); clear hb3) | (go_at_call 62; refine (natMul_t _ _ _ _ _ d f t Hb.out Hd.out (by omega) (by omega) HT).mono ?_; rintro e w4 ⟨vt, rfl, ho1, hb4⟩; have HAP0 := apart_new Ho.out (.inr rfl) ho1; replace q0 := keep_frozen (w1 := w4) hb4 c2_0 q0; replace c2_0 := keep_cell (w1 := w4) hb4 c2_0; replace q1 := keep_frozen (w1 := w4) hb4 c2_1 q1; replace c2_1 := keep_cell (w1 := w4) hb4 c2_1; replace q2 := keep_frozen (w1 := w4) hb4 c2_2 q2; replace c2_2 := keep_cell (w1 := w4) hb4 c2_2; replace c0_0 := keep_cell (w1 := w4) hb4 c0_0; replace c0_1 := keep_cell (w1 := w4) hb4 c0_1; replace c0_2 := keep_cell (w1 := w4) hb4 c0_2; replace c1_0 := keep_cell (w1 := w4) hb4 c1_0; replace c1_1 := keep_cell (w1 := w4) hb4 c1_1; replace c1_2 := keep_cell (w1 := w4) hb4 c1_2; replace Ha := Lib.hid (Ha.out.below hb4 (Nat.le_refl _)); replace Hb := Lib.hid (Hb.out.below hb4 (Nat.le_refl _)); replace Hc := Lib.hid (Hc.out.below hb4 (Nat.le_refl _)); replace Hd := Lib.hid (Hd.out.below hb4 (Nat.le_refl _)); (try (replace Ho := Lib.hid (Ho.out.below hb4 (Nat.le_refl _)))); (try (replace Hr := Lib.hid (Hr.out.below hb4 (Nat.le_refl _)))); (try (replace Hs := Lib.hid (Hs.out.below hb4 (Nat.le_refl _)))); have Ht := Lib.hid (ho1.mono B0.size); clear ho1; replace B0 := B0.trans (hb4.mono B0.size); clear hb4) | (go_at_call 60; refine (lowest_n _ _ _ _ s t Ho.out Ht.out B0.size ls lt htp z e HZ HE HAP0).mono ?_; rintro e w5 ⟨vr, vs, rfl, ho1, ho2, HAP, hb5⟩; replace q0 := keep_frozen (w1 := w5) hb5 c2_0 q0; replace c2_0 := keep_cell (w1 := w5) hb5 c2_0; replace q1 := keep_frozen (w1 := w5) hb5 c2_1 q1; replace c2_1 := keep_cell (w1 := w5) hb5 c2_1; replace q2 := keep_frozen (w1 := w5) hb5 c2_2 q2; replace c2_2 := keep_cell (w1 := w5) hb5 c2_2; replace c0_0 := keep_cell (w1 := w5) hb5 c0_0; replace c0_1 := keep_cell (w1 := w5) hb5 c0_1; replace c0_2 := keep_cell (w1 := w5) hb5 c0_2; replace c1_0 := keep_cell (w1 := w5) hb5 c1_0; replace c1_1 := keep_cell (w1 := w5) hb5 c1_1; replace c1_2 := keep_cell (w1 := w5) hb5 c1_2; replace Ha := Lib.hid (Ha.out.below hb5 (Nat.le_refl _)); replace Hb := Lib.hid (Hb.out.below hb5 (Nat.le_refl _)); replace Hc := Lib.hid (Hc.out.below hb5 (Nat.le_refl _)); replace Hd := Lib.hid (Hd.out.below hb5 (Nat.le_refl _)); (try (replace Ho := Lib.hid (Ho.out.below hb5 (Nat.le_refl _)))); (try (replace Ht := Lib.hid (Ht.out.below hb5 (Nat.le_refl _)))); have Hr := Lib.hid ho1; clear ho1; have Hs := Lib.hid ho2; clear ho2; obtain ⟨ar, cr, rfl, -, -, -, -, -⟩ := Hr.out.form; obtain ⟨aS, cS, rfl, -, -, -, -, -⟩ := Hs.out.form; replace B0 := B0.trans (hb5.mono B0.size); clear hb5))
  go_wp2
  exact bodyPost_ret (v := .agg #[.bool (ng z), .slice ar (limbs z.natAbs).length cr, .slice aS (limbs e).length cS]) (by simp [results, Tryz.results30, go_sem, c2_0, c2_1, c2_2]) rfl (retR_end BW (by omega) hg0 B0 Hr.out Hs.out HAP)

theorem mul_c (w : World) (b1 e1 : Nat) (v1 u1 : Value) (x : Int) (d : Nat) (h1 : Own w b1 v1 (limbs x.natAbs)) (k1 : Own w e1 u1 (limbs d)) (b2 e2 : Nat) (v2 u2 : Value) (y : Int) (f : Nat) (h2 : Own w b2 v2 (limbs y.natAbs)) (k2 : Own w e2 u2 (limbs f)) (hq : IsQ0 x d) (hk : IsQ0 y f) (z : Int) (e : Nat) (hz : z = (qmul x d y f).1) (he : e = (qmul x d y f).2) :
    Calls Tryz.prog 30 #[.agg #[.bool (ng x), v1, u1], .agg #[.bool (ng y), v2, u2]] w (RetQ w z e) := by
  obtain ⟨l1, l2⟩ := hq.len
  obtain ⟨l3, l4⟩ := hk.len
  rcases Nat.eq_zero_or_pos d with hd | hd
  · rw [hz, he]
    unfold qmul qlow
    rw [hd, Nat.zero_mul, (low_den0 _).1, (low_den0 _).2]
    exact mul_v1 w e1 e2 v1 u1 v2 u2 x y 0 f (by rw [← hd]; exact k1) k2 rfl
  rcases Nat.eq_zero_or_pos f with hf | hf
  · rw [hz, he]
    unfold qmul qlow
    rw [hf, Nat.mul_zero, (low_den0 _).1, (low_den0 _).2]
    exact mul_v2 w e1 e2 v1 u1 v2 u2 x y d 0 k1 (by rw [← hf]; exact k2) hd rfl
  exact mul_f w b1 e1 v1 u1 x d h1 k1 b2 e2 v2 u2 y f h2 k2 hd hf l1 l2 l3 l4 z e hz he

end Go.Proofs.YtijeplcjbhkkoaaGreatDoor
