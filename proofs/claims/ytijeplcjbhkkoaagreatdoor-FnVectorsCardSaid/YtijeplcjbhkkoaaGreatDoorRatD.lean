/- The program's fractions: the exported functions. -/
import Derived.Test.YtijeplcjbhkkoaaGreatDoorRatC
namespace Go.Proofs.YtijeplcjbhkkoaaGreatDoor
open Go.RowKit Lm

set_option maxHeartbeats 2000000 in
theorem div_z (w : World) (e1 b2 e2 : Nat) (v1 u1 v2 u2 : Value) (x : Int) (d f : Nat) (k1 : Own w e1 u1 (limbs d)) (h2 : Own w b2 v2 []) (k2 : Own w e2 u2 (limbs f)) (hd : 0 < d) (hf : 0 < f) :
    Calls Tryz.prog 44 #[.agg #[.bool (ng x), v1, u1], .agg #[.bool (ng 0), v2, u2]] w (RetQ w 0 0) := by
  obtain ⟨a2, c2, rfl, -, -, -, -, -⟩ := h2.form
  have BW : Below w.heap.size w (((w.alloc (.cells #[.bool (ng x), v1, u1] 27)).alloc (.cells #[.bool (ng 0), (.slice a2 ([] : List Int).length c2), u2] 27)).alloc (.cells #[.bool false, .slice none 0 0, .slice none 0 0] 27)) := ((((Below.refl w.heap.size w).alloc (Nat.le_refl _) _).alloc (by simp) _).alloc (by simp; omega) _)
  obtain ⟨c0_0, c0_1, c0_2, c1_0, c1_1, c1_2, c2_0, c2_1, c2_2, q0, q1, q2⟩ : World.cell? (((w.alloc (.cells #[.bool (ng x), v1, u1] 27)).alloc (.cells #[.bool (ng 0), (.slice a2 ([] : List Int).length c2), u2] 27)).alloc (.cells #[.bool false, .slice none 0 0, .slice none 0 0] 27)) ⟨w.heap.size, 0, none⟩ = some (.bool (ng x)) ∧ World.cell? (((w.alloc (.cells #[.bool (ng x), v1, u1] 27)).alloc (.cells #[.bool (ng 0), (.slice a2 ([] : List Int).length c2), u2] 27)).alloc (.cells #[.bool false, .slice none 0 0, .slice none 0 0] 27)) ⟨w.heap.size, 1, none⟩ = some (v1) ∧ World.cell? (((w.alloc (.cells #[.bool (ng x), v1, u1] 27)).alloc (.cells #[.bool (ng 0), (.slice a2 ([] : List Int).length c2), u2] 27)).alloc (.cells #[.bool false, .slice none 0 0, .slice none 0 0] 27)) ⟨w.heap.size, 2, none⟩ = some (u1) ∧ World.cell? (((w.alloc (.cells #[.bool (ng x), v1, u1] 27)).alloc (.cells #[.bool (ng 0), (.slice a2 ([] : List Int).length c2), u2] 27)).alloc (.cells #[.bool false, .slice none 0 0, .slice none 0 0] 27)) ⟨w.heap.size + 1, 0, none⟩ = some (.bool (ng 0)) ∧ World.cell? (((w.alloc (.cells #[.bool (ng x), v1, u1] 27)).alloc (.cells #[.bool (ng 0), (.slice a2 ([] : List Int).length c2), u2] 27)).alloc (.cells #[.bool false, .slice none 0 0, .slice none 0 0] 27)) ⟨w.heap.size + 1, 1, none⟩ = some ((.slice a2 ([] : List Int).length c2)) ∧ World.cell? (((w.alloc (.cells #[.bool (ng x), v1, u1] 27)).alloc (.cells #[.bool (ng 0), (.slice a2 ([] : List Int).length c2), u2] 27)).alloc (.cells #[.bool false, .slice none 0 0, .slice none 0 0] 27)) ⟨w.heap.size + 1, 2, none⟩ = some (u2) ∧ World.cell? (((w.alloc (.cells #[.bool (ng x), v1, u1] 27)).alloc (.cells #[.bool (ng 0), (.slice a2 ([] : List Int).length c2), u2] 27)).alloc (.cells #[.bool false, .slice none 0 0, .slice none 0 0] 27)) ⟨w.heap.size + 1 + 1, 0, none⟩ = some (.bool false) ∧ World.cell? (((w.alloc (.cells #[.bool (ng x), v1, u1] 27)).alloc (.cells #[.bool (ng 0), (.slice a2 ([] : List Int).length c2), u2] 27)).alloc (.cells #[.bool false, .slice none 0 0, .slice none 0 0] 27)) ⟨w.heap.size + 1 + 1, 1, none⟩ = some (.slice none 0 0) ∧ World.cell? (((w.alloc (.cells #[.bool (ng x), v1, u1] 27)).alloc (.cells #[.bool (ng 0), (.slice a2 ([] : List Int).length c2), u2] 27)).alloc (.cells #[.bool false, .slice none 0 0, .slice none 0 0] 27)) ⟨w.heap.size + 1 + 1, 2, none⟩ = some (.slice none 0 0) ∧ World.frozen? (((w.alloc (.cells #[.bool (ng x), v1, u1] 27)).alloc (.cells #[.bool (ng 0), (.slice a2 ([] : List Int).length c2), u2] 27)).alloc (.cells #[.bool false, .slice none 0 0, .slice none 0 0] 27)) ⟨w.heap.size + 1 + 1, 0, none⟩ = false ∧ World.frozen? (((w.alloc (.cells #[.bool (ng x), v1, u1] 27)).alloc (.cells #[.bool (ng 0), (.slice a2 ([] : List Int).length c2), u2] 27)).alloc (.cells #[.bool false, .slice none 0 0, .slice none 0 0] 27)) ⟨w.heap.size + 1 + 1, 1, none⟩ = false ∧ World.frozen? (((w.alloc (.cells #[.bool (ng x), v1, u1] 27)).alloc (.cells #[.bool (ng 0), (.slice a2 ([] : List Int).length c2), u2] 27)).alloc (.cells #[.bool false, .slice none 0 0, .slice none 0 0] 27)) ⟨w.heap.size + 1 + 1, 2, none⟩ = false := by simp [go_sem]
  have hg0 : w.heap.size + 1 + 1 < ((((w.alloc (.cells #[.bool (ng x), v1, u1] 27)).alloc (.cells #[.bool (ng 0), (.slice a2 ([] : List Int).length c2), u2] 27)).alloc (.cells #[.bool false, .slice none 0 0, .slice none 0 0] 27))).heap.size := World.block_lt_of_cell? _ _ c2_0
  have Hb := Lib.hid (k1.below BW (Nat.le_refl _))
  have Hd := Lib.hid (k2.below BW (Nat.le_refl _))
  clear k1 k2
  have HD := Lib.hid hd
  have HF := Lib.hid hf
  have dz : (([] : List Int).length == 0) = true := rfl
  have dy : ((([] : List Int).length : Int) == 0) = true := rfl
  clear hd hf
  go_enter Tryz.func44, Tryz.ntmps44
  go_wp2_with fail
  generalize (((w.alloc (.cells #[.bool (ng x), v1, u1] 27)).alloc (.cells #[.bool (ng 0), (.slice a2 ([] : List Int).length c2), u2] 27)).alloc (.cells #[.bool false, .slice none 0 0, .slice none 0 0] 27)) = w0 at *
  have B0 := Below.refl w0.heap.size w0
  refine (void_f _ _ _ _ _ d Hb.out HD.out).mono ?_
  rintro e w1 ⟨rfl, hb⟩
  replace c0_0 := keep_cell hb c0_0
  replace c0_1 := keep_cell hb c0_1
  replace c0_2 := keep_cell hb c0_2
  replace c1_0 := keep_cell hb c1_0
  replace c1_1 := keep_cell hb c1_1
  replace c1_2 := keep_cell hb c1_2
  replace q0 := keep_frozen (w1 := w1) hb c2_0 q0
  replace c2_0 := keep_cell (w1 := w1) hb c2_0
  replace q1 := keep_frozen (w1 := w1) hb c2_1 q1
  replace c2_1 := keep_cell (w1 := w1) hb c2_1
  replace q2 := keep_frozen (w1 := w1) hb c2_2 q2
  replace c2_2 := keep_cell (w1 := w1) hb c2_2
  replace Hb := Lib.hid (Hb.out.below hb (Nat.le_refl _))
  replace Hd := Lib.hid (Hd.out.below hb (Nat.le_refl _))
  replace B0 := B0.trans (hb.mono B0.size)
  clear hb
  go_wp2_with fail
  refine (void_f _ _ _ _ _ f Hd.out HF.out).mono ?_
  rintro e w2 ⟨rfl, hb⟩
  replace c0_0 := keep_cell hb c0_0
  replace c0_1 := keep_cell hb c0_1
  replace c0_2 := keep_cell hb c0_2
  replace c1_0 := keep_cell hb c1_0
  replace c1_1 := keep_cell hb c1_1
  replace c1_2 := keep_cell hb c1_2
  replace q0 := keep_frozen (w1 := w2) hb c2_0 q0
  replace c2_0 := keep_cell (w1 := w2) hb c2_0
  replace q1 := keep_frozen (w1 := w2) hb c2_1 q1
  replace c2_1 := keep_cell (w1 := w2) hb c2_1
  replace q2 := keep_frozen (w1 := w2) hb c2_2 q2
  replace c2_2 := keep_cell (w1 := w2) hb c2_2
  replace Hb := Lib.hid (Hb.out.below hb (Nat.le_refl _))
  replace Hd := Lib.hid (Hd.out.below hb (Nat.le_refl _))
  replace B0 := B0.trans (hb.mono B0.size)
  clear hb
  go_wp2
  exact bodyPost_ret (v := .agg #[.bool false, .slice none 0 0, .slice none 0 0]) (by simp [results, Tryz.results44, go_sem, c2_0, c2_1, c2_2]) rfl (retQ_nil (set3_below (BW.trans (B0.mono BW.size)) (by omega)))

theorem mul_inv (w : World) (b1 e1 : Nat) (v1 u1 : Value) (x : Int) (d : Nat) (h1 : Own w b1 v1 (limbs x.natAbs)) (k1 : Own w e1 u1 (limbs d)) (b2 e2 : Nat) (v2 u2 : Value) (y : Int) (f : Nat) (h2 : Own w b2 v2 (limbs f)) (k2 : Own w e2 u2 (limbs y.natAbs)) (hq : Hid (IsQ x d)) (hi : Hid (IsQ (sgnd y f) y.natAbs)) (hs : Hid (ng (sgnd y f) = ng y)) (z : Int) (e : Nat) (hz : Hid (z = (qdiv x d y f).1)) (he : Hid (e = (qdiv x d y f).2)) :
    Calls Tryz.prog 30 #[.agg #[.bool (ng x), v1, u1], .agg #[.bool (ng y), v2, u2]] w (RetQ w z e) := by
  rw [← hs.out]
  exact mul_c w b1 e1 v1 u1 x d h1 k1 b2 e2 v2 u2 (sgnd y f) y.natAbs (by rw [sgnd_abs]; exact h2) k2 (.inl hq.out) (.inl hi.out) z e hz.out he.out

set_option maxHeartbeats 2000000 in
theorem div_f (w : World) (b1 e1 : Nat) (v1 u1 : Value) (x : Int) (d : Nat) (h1 : Own w b1 v1 (limbs x.natAbs)) (k1 : Own w e1 u1 (limbs d)) (b2 e2 : Nat) (v2 u2 : Value) (y : Int) (f : Nat) (h2 : Own w b2 v2 (limbs y.natAbs)) (k2 : Own w e2 u2 (limbs f)) (hq : IsQ x d) (hk : IsQ y f) (hy : y ≠ 0) (z : Int) (e : Nat) (hz : z = (qdiv x d y f).1) (he : e = (qdiv x d y f).2) :
    Calls Tryz.prog 44 #[.agg #[.bool (ng x), v1, u1], .agg #[.bool (ng y), v2, u2]] w (RetQ w z e) := by
  obtain ⟨a1, c1, rfl, -, -, -, -, -⟩ := h1.form
  obtain ⟨p1, kq1, rfl, -, -, -, -, -⟩ := k1.form
  obtain ⟨a2, c2, rfl, -, -, -, -, -⟩ := h2.form
  obtain ⟨p2, kq2, rfl, -, -, -, -, -⟩ := k2.form
  have BW : Below w.heap.size w (((w.alloc (.cells #[.bool (ng x), (.slice a1 (limbs x.natAbs).length c1), (.slice p1 (limbs d).length kq1)] 27)).alloc (.cells #[.bool (ng y), (.slice a2 (limbs y.natAbs).length c2), (.slice p2 (limbs f).length kq2)] 27)).alloc (.cells #[.bool false, .slice none 0 0, .slice none 0 0] 27)) := ((((Below.refl w.heap.size w).alloc (Nat.le_refl _) _).alloc (by simp) _).alloc (by simp; omega) _)
  obtain ⟨c0_0, c0_1, c0_2, c1_0, c1_1, c1_2, c2_0, c2_1, c2_2, q0, q1, q2⟩ : World.cell? (((w.alloc (.cells #[.bool (ng x), (.slice a1 (limbs x.natAbs).length c1), (.slice p1 (limbs d).length kq1)] 27)).alloc (.cells #[.bool (ng y), (.slice a2 (limbs y.natAbs).length c2), (.slice p2 (limbs f).length kq2)] 27)).alloc (.cells #[.bool false, .slice none 0 0, .slice none 0 0] 27)) ⟨w.heap.size, 0, none⟩ = some (.bool (ng x)) ∧ World.cell? (((w.alloc (.cells #[.bool (ng x), (.slice a1 (limbs x.natAbs).length c1), (.slice p1 (limbs d).length kq1)] 27)).alloc (.cells #[.bool (ng y), (.slice a2 (limbs y.natAbs).length c2), (.slice p2 (limbs f).length kq2)] 27)).alloc (.cells #[.bool false, .slice none 0 0, .slice none 0 0] 27)) ⟨w.heap.size, 1, none⟩ = some ((.slice a1 (limbs x.natAbs).length c1)) ∧ World.cell? (((w.alloc (.cells #[.bool (ng x), (.slice a1 (limbs x.natAbs).length c1), (.slice p1 (limbs d).length kq1)] 27)).alloc (.cells #[.bool (ng y), (.slice a2 (limbs y.natAbs).length c2), (.slice p2 (limbs f).length kq2)] 27)).alloc (.cells #[.bool false, .slice none 0 0, .slice none 0 0] 27)) ⟨w.heap.size, 2, none⟩ = some ((.slice p1 (limbs d).length kq1)) ∧ World.cell? (((w.alloc (.cells #[.bool (ng x), (.slice a1 (limbs x.natAbs).length c1), (.slice p1 (limbs d).length kq1)] 27)).alloc (.cells #[.bool (ng y), (.slice a2 (limbs y.natAbs).length c2), (.slice p2 (limbs f).length kq2)] 27)).alloc (.cells #[.bool false, .slice none 0 0, .slice none 0 0] 27)) ⟨w.heap.size + 1, 0, none⟩ = some (.bool (ng y)) ∧ World.cell? (((w.alloc (.cells #[.bool (ng x), (.slice a1 (limbs x.natAbs).length c1), (.slice p1 (limbs d).length kq1)] 27)).alloc (.cells #[.bool (ng y), (.slice a2 (limbs y.natAbs).length c2), (.slice p2 (limbs f).length kq2)] 27)).alloc (.cells #[.bool false, .slice none 0 0, .slice none 0 0] 27)) ⟨w.heap.size + 1, 1, none⟩ = some ((.slice a2 (limbs y.natAbs).length c2)) ∧ World.cell? (((w.alloc (.cells #[.bool (ng x), (.slice a1 (limbs x.natAbs).length c1), (.slice p1 (limbs d).length kq1)] 27)).alloc (.cells #[.bool (ng y), (.slice a2 (limbs y.natAbs).length c2), (.slice p2 (limbs f).length kq2)] 27)).alloc (.cells #[.bool false, .slice none 0 0, .slice none 0 0] 27)) ⟨w.heap.size + 1, 2, none⟩ = some ((.slice p2 (limbs f).length kq2)) ∧ World.cell? (((w.alloc (.cells #[.bool (ng x), (.slice a1 (limbs x.natAbs).length c1), (.slice p1 (limbs d).length kq1)] 27)).alloc (.cells #[.bool (ng y), (.slice a2 (limbs y.natAbs).length c2), (.slice p2 (limbs f).length kq2)] 27)).alloc (.cells #[.bool false, .slice none 0 0, .slice none 0 0] 27)) ⟨w.heap.size + 1 + 1, 0, none⟩ = some (.bool false) ∧ World.cell? (((w.alloc (.cells #[.bool (ng x), (.slice a1 (limbs x.natAbs).length c1), (.slice p1 (limbs d).length kq1)] 27)).alloc (.cells #[.bool (ng y), (.slice a2 (limbs y.natAbs).length c2), (.slice p2 (limbs f).length kq2)] 27)).alloc (.cells #[.bool false, .slice none 0 0, .slice none 0 0] 27)) ⟨w.heap.size + 1 + 1, 1, none⟩ = some (.slice none 0 0) ∧ World.cell? (((w.alloc (.cells #[.bool (ng x), (.slice a1 (limbs x.natAbs).length c1), (.slice p1 (limbs d).length kq1)] 27)).alloc (.cells #[.bool (ng y), (.slice a2 (limbs y.natAbs).length c2), (.slice p2 (limbs f).length kq2)] 27)).alloc (.cells #[.bool false, .slice none 0 0, .slice none 0 0] 27)) ⟨w.heap.size + 1 + 1, 2, none⟩ = some (.slice none 0 0) ∧ World.frozen? (((w.alloc (.cells #[.bool (ng x), (.slice a1 (limbs x.natAbs).length c1), (.slice p1 (limbs d).length kq1)] 27)).alloc (.cells #[.bool (ng y), (.slice a2 (limbs y.natAbs).length c2), (.slice p2 (limbs f).length kq2)] 27)).alloc (.cells #[.bool false, .slice none 0 0, .slice none 0 0] 27)) ⟨w.heap.size + 1 + 1, 0, none⟩ = false ∧ World.frozen? (((w.alloc (.cells #[.bool (ng x), (.slice a1 (limbs x.natAbs).length c1), (.slice p1 (limbs d).length kq1)] 27)).alloc (.cells #[.bool (ng y), (.slice a2 (limbs y.natAbs).length c2), (.slice p2 (limbs f).length kq2)] 27)).alloc (.cells #[.bool false, .slice none 0 0, .slice none 0 0] 27)) ⟨w.heap.size + 1 + 1, 1, none⟩ = false ∧ World.frozen? (((w.alloc (.cells #[.bool (ng x), (.slice a1 (limbs x.natAbs).length c1), (.slice p1 (limbs d).length kq1)] 27)).alloc (.cells #[.bool (ng y), (.slice a2 (limbs y.natAbs).length c2), (.slice p2 (limbs f).length kq2)] 27)).alloc (.cells #[.bool false, .slice none 0 0, .slice none 0 0] 27)) ⟨w.heap.size + 1 + 1, 2, none⟩ = false := by simp [go_sem]
  have hg0 : w.heap.size + 1 + 1 < ((((w.alloc (.cells #[.bool (ng x), (.slice a1 (limbs x.natAbs).length c1), (.slice p1 (limbs d).length kq1)] 27)).alloc (.cells #[.bool (ng y), (.slice a2 (limbs y.natAbs).length c2), (.slice p2 (limbs f).length kq2)] 27)).alloc (.cells #[.bool false, .slice none 0 0, .slice none 0 0] 27))).heap.size := World.block_lt_of_cell? _ _ c2_0
  have Ha := Lib.hid (h1.below BW (Nat.le_refl _))
  have Hb := Lib.hid (k1.below BW (Nat.le_refl _))
  have Hc := Lib.hid (h2.below BW (Nat.le_refl _))
  have Hd := Lib.hid (k2.below BW (Nat.le_refl _))
  clear h1 k1 h2 k2
  have HQ := Lib.hid hq
  have HD := Lib.hid hq.1
  have HF := Lib.hid hk.1
  have HI := Lib.hid (isQ_inv hk hy)
  have hny : (limbs y.natAbs).length ≠ 0 := fun e => hy (by have := limbs_nil.1 (List.length_eq_zero_iff.1 e); omega)
  have dz : ((limbs y.natAbs).length == 0) = false := beq_eq_false_iff_ne.2 hny
  have dy : (((limbs y.natAbs).length : Int) == 0) = false := beq_eq_false_iff_ne.2 (by omega)
  have HZ := Lib.hid hz
  have HE := Lib.hid he
  have HS := Lib.hid (sgnd_ng (y := y) hk.1)
  clear hz he hq hk hy
  go_enter Tryz.func44, Tryz.ntmps44
  go_wp2_with fail
  generalize (((w.alloc (.cells #[.bool (ng x), (.slice a1 (limbs x.natAbs).length c1), (.slice p1 (limbs d).length kq1)] 27)).alloc (.cells #[.bool (ng y), (.slice a2 (limbs y.natAbs).length c2), (.slice p2 (limbs f).length kq2)] 27)).alloc (.cells #[.bool false, .slice none 0 0, .slice none 0 0] 27)) = w0 at *
  have B0 := Below.refl w0.heap.size w0
  refine (void_f _ _ _ _ _ d Hb.out HD.out).mono ?_
  rintro e w1 ⟨rfl, hb⟩
  replace c0_0 := keep_cell hb c0_0
  replace c0_1 := keep_cell hb c0_1
  replace c0_2 := keep_cell hb c0_2
  replace c1_0 := keep_cell hb c1_0
  replace c1_1 := keep_cell hb c1_1
  replace c1_2 := keep_cell hb c1_2
  replace q0 := keep_frozen (w1 := w1) hb c2_0 q0
  replace c2_0 := keep_cell (w1 := w1) hb c2_0
  replace q1 := keep_frozen (w1 := w1) hb c2_1 q1
  replace c2_1 := keep_cell (w1 := w1) hb c2_1
  replace q2 := keep_frozen (w1 := w1) hb c2_2 q2
  replace c2_2 := keep_cell (w1 := w1) hb c2_2
  replace Ha := Lib.hid (Ha.out.below hb (Nat.le_refl _))
  replace Hb := Lib.hid (Hb.out.below hb (Nat.le_refl _))
  replace Hc := Lib.hid (Hc.out.below hb (Nat.le_refl _))
  replace Hd := Lib.hid (Hd.out.below hb (Nat.le_refl _))
  replace B0 := B0.trans (hb.mono B0.size)
  clear hb
  go_wp2_with fail
  refine (void_f _ _ _ _ _ f Hd.out HF.out).mono ?_
  rintro e w2 ⟨rfl, hb⟩
  replace c0_0 := keep_cell hb c0_0
  replace c0_1 := keep_cell hb c0_1
  replace c0_2 := keep_cell hb c0_2
  replace c1_0 := keep_cell hb c1_0
  replace c1_1 := keep_cell hb c1_1
  replace c1_2 := keep_cell hb c1_2
  replace q0 := keep_frozen (w1 := w2) hb c2_0 q0
  replace c2_0 := keep_cell (w1 := w2) hb c2_0
  replace q1 := keep_frozen (w1 := w2) hb c2_1 q1
  replace c2_1 := keep_cell (w1 := w2) hb c2_1
  replace q2 := keep_frozen (w1 := w2) hb c2_2 q2
  replace c2_2 := keep_cell (w1 := w2) hb c2_2
  replace Ha := Lib.hid (Ha.out.below hb (Nat.le_refl _))
  replace Hb := Lib.hid (Hb.out.below hb (Nat.le_refl _))
  replace Hc := Lib.hid (Hc.out.below hb (Nat.le_refl _))
  replace Hd := Lib.hid (Hd.out.below hb (Nat.le_refl _))
  replace B0 := B0.trans (hb.mono B0.size)
  clear hb
  go_wp2_with fail
  refine (mul_inv _ _ _ _ _ x d Ha.out Hb.out _ _ _ _ y f Hd.out Hc.out HQ HI HS z e HZ HE).mono ?_
  rintro e w3 ⟨vr, vs, rfl, ho1, ho2, HAP, hb⟩
  replace c0_0 := keep_cell hb c0_0
  replace c0_1 := keep_cell hb c0_1
  replace c0_2 := keep_cell hb c0_2
  replace c1_0 := keep_cell hb c1_0
  replace c1_1 := keep_cell hb c1_1
  replace c1_2 := keep_cell hb c1_2
  replace q0 := keep_frozen (w1 := w3) hb c2_0 q0
  replace c2_0 := keep_cell (w1 := w3) hb c2_0
  replace q1 := keep_frozen (w1 := w3) hb c2_1 q1
  replace c2_1 := keep_cell (w1 := w3) hb c2_1
  replace q2 := keep_frozen (w1 := w3) hb c2_2 q2
  replace c2_2 := keep_cell (w1 := w3) hb c2_2
  replace Ha := Lib.hid (Ha.out.below hb (Nat.le_refl _))
  replace Hb := Lib.hid (Hb.out.below hb (Nat.le_refl _))
  replace Hc := Lib.hid (Hc.out.below hb (Nat.le_refl _))
  replace Hd := Lib.hid (Hd.out.below hb (Nat.le_refl _))
  have Hr := Lib.hid (ho1.mono B0.size)
  clear ho1
  have Hs := Lib.hid (ho2.mono B0.size)
  clear ho2
  obtain ⟨ar, cr, rfl, -, -, -, -, -⟩ := Hr.out.form
  obtain ⟨aS, cS, rfl, -, -, -, -, -⟩ := Hs.out.form
  replace B0 := B0.trans (hb.mono B0.size)
  clear hb
  go_wp2
  exact bodyPost_ret (v := .agg #[.bool (ng z), .slice ar (limbs z.natAbs).length cr, .slice aS (limbs e).length cS]) (by simp [results, Tryz.results44, go_sem, c2_0, c2_1, c2_2]) rfl (retR_end BW (by omega) hg0 B0 Hr.out Hs.out HAP)

theorem div_c (w : World) (b1 e1 : Nat) (v1 u1 : Value) (x : Int) (d : Nat) (h1 : Own w b1 v1 (limbs x.natAbs)) (k1 : Own w e1 u1 (limbs d)) (b2 e2 : Nat) (v2 u2 : Value) (y : Int) (f : Nat) (h2 : Own w b2 v2 (limbs y.natAbs)) (k2 : Own w e2 u2 (limbs f)) (hq : IsQ x d) (hk : IsQ y f) (z : Int) (e : Nat) (hz : z = (qdiv x d y f).1) (he : e = (qdiv x d y f).2) :
    Calls Tryz.prog 44 #[.agg #[.bool (ng x), v1, u1], .agg #[.bool (ng y), v2, u2]] w (RetQ w z e) := by
  by_cases hy : y = 0
  · subst hy
    have e0 : (qdiv x d 0 f).1 = 0 ∧ (qdiv x d 0 f).2 = 0 := by
      unfold qdiv qlow
      rw [show d * (0 : Int).natAbs = 0 by simp]
      exact low_den0 _
    rw [hz, he, e0.1, e0.2]
    exact div_z w e1 b2 e2 v1 u1 v2 u2 x d f k1 h2 k2 hq.1 hk.1
  · exact div_f w b1 e1 v1 u1 x d h1 k1 b2 e2 v2 u2 y f h2 k2 hq hk hy z e hz he

set_option maxHeartbeats 2000000 in
theorem both_1 (w : World) (b1 e1 : Nat) (s : Bool) (v1 u1 : Value) (xs ys : List Int) (h1 : Own w b1 v1 xs) (k1 : Own w e1 u1 ys) (t : Bool) (v2 u2 : Value) (hx : ¬ OkR s xs ys) :
    Calls Tryz.prog 29 #[.agg #[.bool s, v1, u1], .agg #[.bool t, v2, u2]] w (RetB w false) := by
  have BW : Below w.heap.size w ((w.alloc (.cells #[.bool s, v1, u1] 27)).alloc (.cells #[.bool t, v2, u2] 27)) := (((Below.refl w.heap.size w).alloc (Nat.le_refl _) _).alloc (by simp) _)
  obtain ⟨c0_0, c0_1, c0_2, c1_0, c1_1, c1_2⟩ : World.cell? ((w.alloc (.cells #[.bool s, v1, u1] 27)).alloc (.cells #[.bool t, v2, u2] 27)) ⟨w.heap.size, 0, none⟩ = some (.bool s) ∧ World.cell? ((w.alloc (.cells #[.bool s, v1, u1] 27)).alloc (.cells #[.bool t, v2, u2] 27)) ⟨w.heap.size, 1, none⟩ = some (v1) ∧ World.cell? ((w.alloc (.cells #[.bool s, v1, u1] 27)).alloc (.cells #[.bool t, v2, u2] 27)) ⟨w.heap.size, 2, none⟩ = some (u1) ∧ World.cell? ((w.alloc (.cells #[.bool s, v1, u1] 27)).alloc (.cells #[.bool t, v2, u2] 27)) ⟨w.heap.size + 1, 0, none⟩ = some (.bool t) ∧ World.cell? ((w.alloc (.cells #[.bool s, v1, u1] 27)).alloc (.cells #[.bool t, v2, u2] 27)) ⟨w.heap.size + 1, 1, none⟩ = some (v2) ∧ World.cell? ((w.alloc (.cells #[.bool s, v1, u1] 27)).alloc (.cells #[.bool t, v2, u2] 27)) ⟨w.heap.size + 1, 2, none⟩ = some (u2) := by simp [go_sem]
  have Ha := Lib.hid (h1.below BW (Nat.le_refl _))
  have Hb := Lib.hid (k1.below BW (Nat.le_refl _))
  clear h1 k1
  have HX := Lib.hid hx
  clear hx
  go_enter Tryz.func29, Tryz.ntmps29
  go_wp2_with fail
  generalize ((w.alloc (.cells #[.bool s, v1, u1] 27)).alloc (.cells #[.bool t, v2, u2] 27)) = w0 at *
  have B0 := Below.refl w0.heap.size w0
  refine (ratOk_f _ _ _ _ _ _ _ _ Ha.out Hb.out HX.out).mono ?_
  rintro e w1 ⟨rfl, hb⟩
  replace c0_0 := keep_cell hb c0_0
  replace c0_1 := keep_cell hb c0_1
  replace c0_2 := keep_cell hb c0_2
  replace c1_0 := keep_cell hb c1_0
  replace c1_1 := keep_cell hb c1_1
  replace c1_2 := keep_cell hb c1_2
  replace Ha := Lib.hid (Ha.out.below hb (Nat.le_refl _))
  replace Hb := Lib.hid (Hb.out.below hb (Nat.le_refl _))
  replace B0 := B0.trans (hb.mono B0.size)
  clear hb
  go_wp2
  go_ret
  exact retB rfl (BW.trans (B0.mono BW.size))

set_option maxHeartbeats 2000000 in
theorem both_2 (w : World) (b1 e1 : Nat) (s : Bool) (v1 u1 : Value) (xs ys : List Int) (h1 : Own w b1 v1 xs) (k1 : Own w e1 u1 ys) (b2 e2 : Nat) (t : Bool) (v2 u2 : Value) (zs ws : List Int) (h2 : Own w b2 v2 zs) (k2 : Own w e2 u2 ws) (hx : OkR s xs ys) (hy : ¬ OkR t zs ws) :
    Calls Tryz.prog 29 #[.agg #[.bool s, v1, u1], .agg #[.bool t, v2, u2]] w (RetB w false) := by
  have BW : Below w.heap.size w ((w.alloc (.cells #[.bool s, v1, u1] 27)).alloc (.cells #[.bool t, v2, u2] 27)) := (((Below.refl w.heap.size w).alloc (Nat.le_refl _) _).alloc (by simp) _)
  obtain ⟨c0_0, c0_1, c0_2, c1_0, c1_1, c1_2⟩ : World.cell? ((w.alloc (.cells #[.bool s, v1, u1] 27)).alloc (.cells #[.bool t, v2, u2] 27)) ⟨w.heap.size, 0, none⟩ = some (.bool s) ∧ World.cell? ((w.alloc (.cells #[.bool s, v1, u1] 27)).alloc (.cells #[.bool t, v2, u2] 27)) ⟨w.heap.size, 1, none⟩ = some (v1) ∧ World.cell? ((w.alloc (.cells #[.bool s, v1, u1] 27)).alloc (.cells #[.bool t, v2, u2] 27)) ⟨w.heap.size, 2, none⟩ = some (u1) ∧ World.cell? ((w.alloc (.cells #[.bool s, v1, u1] 27)).alloc (.cells #[.bool t, v2, u2] 27)) ⟨w.heap.size + 1, 0, none⟩ = some (.bool t) ∧ World.cell? ((w.alloc (.cells #[.bool s, v1, u1] 27)).alloc (.cells #[.bool t, v2, u2] 27)) ⟨w.heap.size + 1, 1, none⟩ = some (v2) ∧ World.cell? ((w.alloc (.cells #[.bool s, v1, u1] 27)).alloc (.cells #[.bool t, v2, u2] 27)) ⟨w.heap.size + 1, 2, none⟩ = some (u2) := by simp [go_sem]
  have Ha := Lib.hid (h1.below BW (Nat.le_refl _))
  have Hb := Lib.hid (k1.below BW (Nat.le_refl _))
  have Hc := Lib.hid (h2.below BW (Nat.le_refl _))
  have Hd := Lib.hid (k2.below BW (Nat.le_refl _))
  clear h1 k1 h2 k2
  have HX := Lib.hid hx
  have HY := Lib.hid hy
  clear hx hy
  go_enter Tryz.func29, Tryz.ntmps29
  go_wp2_with fail
  generalize ((w.alloc (.cells #[.bool s, v1, u1] 27)).alloc (.cells #[.bool t, v2, u2] 27)) = w0 at *
  have B0 := Below.refl w0.heap.size w0
  refine (ratOk_t _ _ _ _ _ _ _ _ Ha.out Hb.out HX.out).mono ?_
  rintro e w1 ⟨rfl, hb⟩
  replace c0_0 := keep_cell hb c0_0
  replace c0_1 := keep_cell hb c0_1
  replace c0_2 := keep_cell hb c0_2
  replace c1_0 := keep_cell hb c1_0
  replace c1_1 := keep_cell hb c1_1
  replace c1_2 := keep_cell hb c1_2
  replace Ha := Lib.hid (Ha.out.below hb (Nat.le_refl _))
  replace Hb := Lib.hid (Hb.out.below hb (Nat.le_refl _))
  replace Hc := Lib.hid (Hc.out.below hb (Nat.le_refl _))
  replace Hd := Lib.hid (Hd.out.below hb (Nat.le_refl _))
  replace B0 := B0.trans (hb.mono B0.size)
  clear hb
  go_wp2_with fail
  refine (ratOk_f _ _ _ _ _ _ _ _ Hc.out Hd.out HY.out).mono ?_
  rintro e w2 ⟨rfl, hb⟩
  replace c0_0 := keep_cell hb c0_0
  replace c0_1 := keep_cell hb c0_1
  replace c0_2 := keep_cell hb c0_2
  replace c1_0 := keep_cell hb c1_0
  replace c1_1 := keep_cell hb c1_1
  replace c1_2 := keep_cell hb c1_2
  replace Ha := Lib.hid (Ha.out.below hb (Nat.le_refl _))
  replace Hb := Lib.hid (Hb.out.below hb (Nat.le_refl _))
  replace Hc := Lib.hid (Hc.out.below hb (Nat.le_refl _))
  replace Hd := Lib.hid (Hd.out.below hb (Nat.le_refl _))
  replace B0 := B0.trans (hb.mono B0.size)
  clear hb
  go_wp2
  go_ret
  exact retB rfl (BW.trans (B0.mono BW.size))

set_option maxHeartbeats 2000000 in
theorem both_t (w : World) (b1 e1 : Nat) (v1 u1 : Value) (x : Int) (d : Nat) (h1 : Own w b1 v1 (limbs x.natAbs)) (k1 : Own w e1 u1 (limbs d)) (b2 e2 : Nat) (v2 u2 : Value) (y : Int) (f : Nat) (h2 : Own w b2 v2 (limbs y.natAbs)) (k2 : Own w e2 u2 (limbs f)) (hq : IsQ x d) (hk : IsQ y f) :
    Calls Tryz.prog 29 #[.agg #[.bool (ng x), v1, u1], .agg #[.bool (ng y), v2, u2]] w (RetB w true) := by
  have BW : Below w.heap.size w ((w.alloc (.cells #[.bool (ng x), v1, u1] 27)).alloc (.cells #[.bool (ng y), v2, u2] 27)) := (((Below.refl w.heap.size w).alloc (Nat.le_refl _) _).alloc (by simp) _)
  obtain ⟨c0_0, c0_1, c0_2, c1_0, c1_1, c1_2⟩ : World.cell? ((w.alloc (.cells #[.bool (ng x), v1, u1] 27)).alloc (.cells #[.bool (ng y), v2, u2] 27)) ⟨w.heap.size, 0, none⟩ = some (.bool (ng x)) ∧ World.cell? ((w.alloc (.cells #[.bool (ng x), v1, u1] 27)).alloc (.cells #[.bool (ng y), v2, u2] 27)) ⟨w.heap.size, 1, none⟩ = some (v1) ∧ World.cell? ((w.alloc (.cells #[.bool (ng x), v1, u1] 27)).alloc (.cells #[.bool (ng y), v2, u2] 27)) ⟨w.heap.size, 2, none⟩ = some (u1) ∧ World.cell? ((w.alloc (.cells #[.bool (ng x), v1, u1] 27)).alloc (.cells #[.bool (ng y), v2, u2] 27)) ⟨w.heap.size + 1, 0, none⟩ = some (.bool (ng y)) ∧ World.cell? ((w.alloc (.cells #[.bool (ng x), v1, u1] 27)).alloc (.cells #[.bool (ng y), v2, u2] 27)) ⟨w.heap.size + 1, 1, none⟩ = some (v2) ∧ World.cell? ((w.alloc (.cells #[.bool (ng x), v1, u1] 27)).alloc (.cells #[.bool (ng y), v2, u2] 27)) ⟨w.heap.size + 1, 2, none⟩ = some (u2) := by simp [go_sem]
  have Ha := Lib.hid (h1.below BW (Nat.le_refl _))
  have Hb := Lib.hid (k1.below BW (Nat.le_refl _))
  have Hc := Lib.hid (h2.below BW (Nat.le_refl _))
  have Hd := Lib.hid (k2.below BW (Nat.le_refl _))
  clear h1 k1 h2 k2
  have HX := Lib.hid hq
  have HY := Lib.hid hk
  clear hq hk
  go_enter Tryz.func29, Tryz.ntmps29
  go_wp2_with fail
  generalize ((w.alloc (.cells #[.bool (ng x), v1, u1] 27)).alloc (.cells #[.bool (ng y), v2, u2] 27)) = w0 at *
  have B0 := Below.refl w0.heap.size w0
  refine (ratOk_q _ _ _ _ _ x d Ha.out Hb.out HX.out).mono ?_
  rintro e w1 ⟨rfl, hb⟩
  replace c0_0 := keep_cell hb c0_0
  replace c0_1 := keep_cell hb c0_1
  replace c0_2 := keep_cell hb c0_2
  replace c1_0 := keep_cell hb c1_0
  replace c1_1 := keep_cell hb c1_1
  replace c1_2 := keep_cell hb c1_2
  replace Ha := Lib.hid (Ha.out.below hb (Nat.le_refl _))
  replace Hb := Lib.hid (Hb.out.below hb (Nat.le_refl _))
  replace Hc := Lib.hid (Hc.out.below hb (Nat.le_refl _))
  replace Hd := Lib.hid (Hd.out.below hb (Nat.le_refl _))
  replace B0 := B0.trans (hb.mono B0.size)
  clear hb
  go_wp2_with fail
  refine (ratOk_q _ _ _ _ _ y f Hc.out Hd.out HY.out).mono ?_
  rintro e w2 ⟨rfl, hb⟩
  replace c0_0 := keep_cell hb c0_0
  replace c0_1 := keep_cell hb c0_1
  replace c0_2 := keep_cell hb c0_2
  replace c1_0 := keep_cell hb c1_0
  replace c1_1 := keep_cell hb c1_1
  replace c1_2 := keep_cell hb c1_2
  replace Ha := Lib.hid (Ha.out.below hb (Nat.le_refl _))
  replace Hb := Lib.hid (Hb.out.below hb (Nat.le_refl _))
  replace Hc := Lib.hid (Hc.out.below hb (Nat.le_refl _))
  replace Hd := Lib.hid (Hd.out.below hb (Nat.le_refl _))
  replace B0 := B0.trans (hb.mono B0.size)
  clear hb
  go_wp2
  go_ret
  exact retB rfl (BW.trans (B0.mono BW.size))

theorem both_f (w : World) (b1 e1 : Nat) (s : Bool) (v1 u1 : Value) (xs ys : List Int) (h1 : Own w b1 v1 xs) (k1 : Own w e1 u1 ys) (b2 e2 : Nat) (t : Bool) (v2 u2 : Value) (zs ws : List Int) (h2 : Own w b2 v2 zs) (k2 : Own w e2 u2 ws) (h : ¬ (OkR s xs ys ∧ OkR t zs ws)) : Calls Tryz.prog 29 #[.agg #[.bool s, v1, u1], .agg #[.bool t, v2, u2]] w (RetB w false) := by
  by_cases hx : OkR s xs ys
  · exact both_2 w b1 e1 s v1 u1 xs ys h1 k1 b2 e2 t v2 u2 zs ws h2 k2 hx (fun hy => h ⟨hx, hy⟩)
  · exact both_1 w b1 e1 s v1 u1 xs ys h1 k1 t v2 u2 hx

set_option maxHeartbeats 2000000 in
theorem RatAdd_bad (w : World) (b1 e1 : Nat) (s : Bool) (v1 u1 : Value) (xs ys : List Int) (h1 : Own w b1 v1 xs) (k1 : Own w e1 u1 ys) (b2 e2 : Nat) (t : Bool) (v2 u2 : Value) (zs ws : List Int) (h2 : Own w b2 v2 zs) (k2 : Own w e2 u2 ws) (hx : ¬ (OkR s xs ys ∧ OkR t zs ws)) :
    Calls Tryz.prog 7 #[.agg #[.bool s, v1, u1], .agg #[.bool t, v2, u2]] w (RetQ w 0 0) := by
  have BW : Below w.heap.size w (((w.alloc (.cells #[.bool s, v1, u1] 27)).alloc (.cells #[.bool t, v2, u2] 27)).alloc (.cells #[.bool false, .slice none 0 0, .slice none 0 0] 27)) := ((((Below.refl w.heap.size w).alloc (Nat.le_refl _) _).alloc (by simp) _).alloc (by simp; omega) _)
  obtain ⟨c0_0, c0_1, c0_2, c1_0, c1_1, c1_2, c2_0, c2_1, c2_2, q0, q1, q2⟩ : World.cell? (((w.alloc (.cells #[.bool s, v1, u1] 27)).alloc (.cells #[.bool t, v2, u2] 27)).alloc (.cells #[.bool false, .slice none 0 0, .slice none 0 0] 27)) ⟨w.heap.size, 0, none⟩ = some (.bool s) ∧ World.cell? (((w.alloc (.cells #[.bool s, v1, u1] 27)).alloc (.cells #[.bool t, v2, u2] 27)).alloc (.cells #[.bool false, .slice none 0 0, .slice none 0 0] 27)) ⟨w.heap.size, 1, none⟩ = some (v1) ∧ World.cell? (((w.alloc (.cells #[.bool s, v1, u1] 27)).alloc (.cells #[.bool t, v2, u2] 27)).alloc (.cells #[.bool false, .slice none 0 0, .slice none 0 0] 27)) ⟨w.heap.size, 2, none⟩ = some (u1) ∧ World.cell? (((w.alloc (.cells #[.bool s, v1, u1] 27)).alloc (.cells #[.bool t, v2, u2] 27)).alloc (.cells #[.bool false, .slice none 0 0, .slice none 0 0] 27)) ⟨w.heap.size + 1, 0, none⟩ = some (.bool t) ∧ World.cell? (((w.alloc (.cells #[.bool s, v1, u1] 27)).alloc (.cells #[.bool t, v2, u2] 27)).alloc (.cells #[.bool false, .slice none 0 0, .slice none 0 0] 27)) ⟨w.heap.size + 1, 1, none⟩ = some (v2) ∧ World.cell? (((w.alloc (.cells #[.bool s, v1, u1] 27)).alloc (.cells #[.bool t, v2, u2] 27)).alloc (.cells #[.bool false, .slice none 0 0, .slice none 0 0] 27)) ⟨w.heap.size + 1, 2, none⟩ = some (u2) ∧ World.cell? (((w.alloc (.cells #[.bool s, v1, u1] 27)).alloc (.cells #[.bool t, v2, u2] 27)).alloc (.cells #[.bool false, .slice none 0 0, .slice none 0 0] 27)) ⟨w.heap.size + 1 + 1, 0, none⟩ = some (.bool false) ∧ World.cell? (((w.alloc (.cells #[.bool s, v1, u1] 27)).alloc (.cells #[.bool t, v2, u2] 27)).alloc (.cells #[.bool false, .slice none 0 0, .slice none 0 0] 27)) ⟨w.heap.size + 1 + 1, 1, none⟩ = some (.slice none 0 0) ∧ World.cell? (((w.alloc (.cells #[.bool s, v1, u1] 27)).alloc (.cells #[.bool t, v2, u2] 27)).alloc (.cells #[.bool false, .slice none 0 0, .slice none 0 0] 27)) ⟨w.heap.size + 1 + 1, 2, none⟩ = some (.slice none 0 0) ∧ World.frozen? (((w.alloc (.cells #[.bool s, v1, u1] 27)).alloc (.cells #[.bool t, v2, u2] 27)).alloc (.cells #[.bool false, .slice none 0 0, .slice none 0 0] 27)) ⟨w.heap.size + 1 + 1, 0, none⟩ = false ∧ World.frozen? (((w.alloc (.cells #[.bool s, v1, u1] 27)).alloc (.cells #[.bool t, v2, u2] 27)).alloc (.cells #[.bool false, .slice none 0 0, .slice none 0 0] 27)) ⟨w.heap.size + 1 + 1, 1, none⟩ = false ∧ World.frozen? (((w.alloc (.cells #[.bool s, v1, u1] 27)).alloc (.cells #[.bool t, v2, u2] 27)).alloc (.cells #[.bool false, .slice none 0 0, .slice none 0 0] 27)) ⟨w.heap.size + 1 + 1, 2, none⟩ = false := by simp [go_sem]
  have hg0 : w.heap.size + 1 + 1 < ((((w.alloc (.cells #[.bool s, v1, u1] 27)).alloc (.cells #[.bool t, v2, u2] 27)).alloc (.cells #[.bool false, .slice none 0 0, .slice none 0 0] 27))).heap.size := World.block_lt_of_cell? _ _ c2_0
  have Ha := Lib.hid (h1.below BW (Nat.le_refl _))
  have Hb := Lib.hid (k1.below BW (Nat.le_refl _))
  have Hc := Lib.hid (h2.below BW (Nat.le_refl _))
  have Hd := Lib.hid (k2.below BW (Nat.le_refl _))
  clear h1 k1 h2 k2
  have HX := Lib.hid hx
  clear hx
  go_enter Tryz.func7, Tryz.ntmps7
  go_wp2_with fail
  generalize (((w.alloc (.cells #[.bool s, v1, u1] 27)).alloc (.cells #[.bool t, v2, u2] 27)).alloc (.cells #[.bool false, .slice none 0 0, .slice none 0 0] 27)) = w0 at *
  have B0 := Below.refl w0.heap.size w0
  refine (both_f _ _ _ _ _ _ _ _ Ha.out Hb.out _ _ _ _ _ _ _ Hc.out Hd.out HX.out).mono ?_
  rintro e w1 ⟨rfl, hb⟩
  replace c0_0 := keep_cell hb c0_0
  replace c0_1 := keep_cell hb c0_1
  replace c0_2 := keep_cell hb c0_2
  replace c1_0 := keep_cell hb c1_0
  replace c1_1 := keep_cell hb c1_1
  replace c1_2 := keep_cell hb c1_2
  replace q0 := keep_frozen (w1 := w1) hb c2_0 q0
  replace c2_0 := keep_cell (w1 := w1) hb c2_0
  replace q1 := keep_frozen (w1 := w1) hb c2_1 q1
  replace c2_1 := keep_cell (w1 := w1) hb c2_1
  replace q2 := keep_frozen (w1 := w1) hb c2_2 q2
  replace c2_2 := keep_cell (w1 := w1) hb c2_2
  replace Ha := Lib.hid (Ha.out.below hb (Nat.le_refl _))
  replace Hb := Lib.hid (Hb.out.below hb (Nat.le_refl _))
  replace Hc := Lib.hid (Hc.out.below hb (Nat.le_refl _))
  replace Hd := Lib.hid (Hd.out.below hb (Nat.le_refl _))
  replace B0 := B0.trans (hb.mono B0.size)
  clear hb
  go_wp2
  exact bodyPost_ret (v := .agg #[.bool false, .slice none 0 0, .slice none 0 0]) (by simp [results, Tryz.results7, go_sem, c2_0, c2_1, c2_2]) rfl (retQ_nil (set3_below (BW.trans (B0.mono BW.size)) (by omega)))

set_option maxHeartbeats 2000000 in
theorem RatAdd_good (w : World) (b1 e1 : Nat) (v1 u1 : Value) (x : Int) (d : Nat) (h1 : Own w b1 v1 (limbs x.natAbs)) (k1 : Own w e1 u1 (limbs d)) (b2 e2 : Nat) (v2 u2 : Value) (y : Int) (f : Nat) (h2 : Own w b2 v2 (limbs y.natAbs)) (k2 : Own w e2 u2 (limbs f)) (hq : IsQ x d) (hk : IsQ y f) (z : Int) (e : Nat) (hz : z = (qadd x d y f).1) (he : e = (qadd x d y f).2) :
    Calls Tryz.prog 7 #[.agg #[.bool (ng x), v1, u1], .agg #[.bool (ng y), v2, u2]] w (RetQ w z e) := by
  have BW : Below w.heap.size w (((w.alloc (.cells #[.bool (ng x), v1, u1] 27)).alloc (.cells #[.bool (ng y), v2, u2] 27)).alloc (.cells #[.bool false, .slice none 0 0, .slice none 0 0] 27)) := ((((Below.refl w.heap.size w).alloc (Nat.le_refl _) _).alloc (by simp) _).alloc (by simp; omega) _)
  obtain ⟨c0_0, c0_1, c0_2, c1_0, c1_1, c1_2, c2_0, c2_1, c2_2, q0, q1, q2⟩ : World.cell? (((w.alloc (.cells #[.bool (ng x), v1, u1] 27)).alloc (.cells #[.bool (ng y), v2, u2] 27)).alloc (.cells #[.bool false, .slice none 0 0, .slice none 0 0] 27)) ⟨w.heap.size, 0, none⟩ = some (.bool (ng x)) ∧ World.cell? (((w.alloc (.cells #[.bool (ng x), v1, u1] 27)).alloc (.cells #[.bool (ng y), v2, u2] 27)).alloc (.cells #[.bool false, .slice none 0 0, .slice none 0 0] 27)) ⟨w.heap.size, 1, none⟩ = some (v1) ∧ World.cell? (((w.alloc (.cells #[.bool (ng x), v1, u1] 27)).alloc (.cells #[.bool (ng y), v2, u2] 27)).alloc (.cells #[.bool false, .slice none 0 0, .slice none 0 0] 27)) ⟨w.heap.size, 2, none⟩ = some (u1) ∧ World.cell? (((w.alloc (.cells #[.bool (ng x), v1, u1] 27)).alloc (.cells #[.bool (ng y), v2, u2] 27)).alloc (.cells #[.bool false, .slice none 0 0, .slice none 0 0] 27)) ⟨w.heap.size + 1, 0, none⟩ = some (.bool (ng y)) ∧ World.cell? (((w.alloc (.cells #[.bool (ng x), v1, u1] 27)).alloc (.cells #[.bool (ng y), v2, u2] 27)).alloc (.cells #[.bool false, .slice none 0 0, .slice none 0 0] 27)) ⟨w.heap.size + 1, 1, none⟩ = some (v2) ∧ World.cell? (((w.alloc (.cells #[.bool (ng x), v1, u1] 27)).alloc (.cells #[.bool (ng y), v2, u2] 27)).alloc (.cells #[.bool false, .slice none 0 0, .slice none 0 0] 27)) ⟨w.heap.size + 1, 2, none⟩ = some (u2) ∧ World.cell? (((w.alloc (.cells #[.bool (ng x), v1, u1] 27)).alloc (.cells #[.bool (ng y), v2, u2] 27)).alloc (.cells #[.bool false, .slice none 0 0, .slice none 0 0] 27)) ⟨w.heap.size + 1 + 1, 0, none⟩ = some (.bool false) ∧ World.cell? (((w.alloc (.cells #[.bool (ng x), v1, u1] 27)).alloc (.cells #[.bool (ng y), v2, u2] 27)).alloc (.cells #[.bool false, .slice none 0 0, .slice none 0 0] 27)) ⟨w.heap.size + 1 + 1, 1, none⟩ = some (.slice none 0 0) ∧ World.cell? (((w.alloc (.cells #[.bool (ng x), v1, u1] 27)).alloc (.cells #[.bool (ng y), v2, u2] 27)).alloc (.cells #[.bool false, .slice none 0 0, .slice none 0 0] 27)) ⟨w.heap.size + 1 + 1, 2, none⟩ = some (.slice none 0 0) ∧ World.frozen? (((w.alloc (.cells #[.bool (ng x), v1, u1] 27)).alloc (.cells #[.bool (ng y), v2, u2] 27)).alloc (.cells #[.bool false, .slice none 0 0, .slice none 0 0] 27)) ⟨w.heap.size + 1 + 1, 0, none⟩ = false ∧ World.frozen? (((w.alloc (.cells #[.bool (ng x), v1, u1] 27)).alloc (.cells #[.bool (ng y), v2, u2] 27)).alloc (.cells #[.bool false, .slice none 0 0, .slice none 0 0] 27)) ⟨w.heap.size + 1 + 1, 1, none⟩ = false ∧ World.frozen? (((w.alloc (.cells #[.bool (ng x), v1, u1] 27)).alloc (.cells #[.bool (ng y), v2, u2] 27)).alloc (.cells #[.bool false, .slice none 0 0, .slice none 0 0] 27)) ⟨w.heap.size + 1 + 1, 2, none⟩ = false := by simp [go_sem]
  have hg0 : w.heap.size + 1 + 1 < ((((w.alloc (.cells #[.bool (ng x), v1, u1] 27)).alloc (.cells #[.bool (ng y), v2, u2] 27)).alloc (.cells #[.bool false, .slice none 0 0, .slice none 0 0] 27))).heap.size := World.block_lt_of_cell? _ _ c2_0
  have Ha := Lib.hid (h1.below BW (Nat.le_refl _))
  have Hb := Lib.hid (k1.below BW (Nat.le_refl _))
  have Hc := Lib.hid (h2.below BW (Nat.le_refl _))
  have Hd := Lib.hid (k2.below BW (Nat.le_refl _))
  clear h1 k1 h2 k2
  have HX := Lib.hid hq
  have HY := Lib.hid hk
  have HZ := Lib.hid hz
  have HE := Lib.hid he
  clear hq hk hz he
  go_enter Tryz.func7, Tryz.ntmps7
  go_wp2_with fail
  generalize (((w.alloc (.cells #[.bool (ng x), v1, u1] 27)).alloc (.cells #[.bool (ng y), v2, u2] 27)).alloc (.cells #[.bool false, .slice none 0 0, .slice none 0 0] 27)) = w0 at *
  have B0 := Below.refl w0.heap.size w0
  refine (both_t _ _ _ _ _ x d Ha.out Hb.out _ _ _ _ y f Hc.out Hd.out HX.out HY.out).mono ?_
  rintro e w1 ⟨rfl, hb⟩
  replace c0_0 := keep_cell hb c0_0
  replace c0_1 := keep_cell hb c0_1
  replace c0_2 := keep_cell hb c0_2
  replace c1_0 := keep_cell hb c1_0
  replace c1_1 := keep_cell hb c1_1
  replace c1_2 := keep_cell hb c1_2
  replace q0 := keep_frozen (w1 := w1) hb c2_0 q0
  replace c2_0 := keep_cell (w1 := w1) hb c2_0
  replace q1 := keep_frozen (w1 := w1) hb c2_1 q1
  replace c2_1 := keep_cell (w1 := w1) hb c2_1
  replace q2 := keep_frozen (w1 := w1) hb c2_2 q2
  replace c2_2 := keep_cell (w1 := w1) hb c2_2
  replace Ha := Lib.hid (Ha.out.below hb (Nat.le_refl _))
  replace Hb := Lib.hid (Hb.out.below hb (Nat.le_refl _))
  replace Hc := Lib.hid (Hc.out.below hb (Nat.le_refl _))
  replace Hd := Lib.hid (Hd.out.below hb (Nat.le_refl _))
  replace B0 := B0.trans (hb.mono B0.size)
  clear hb
  go_wp2_with fail
  refine (add_c _ _ _ _ _ x d Ha.out Hb.out _ _ _ _ y f Hc.out Hd.out (.inl HX.out) (.inl HY.out) z e HZ.out HE.out).mono ?_
  rintro e w2 ⟨vr, vs, rfl, ho1, ho2, HAP, hb⟩
  replace c0_0 := keep_cell hb c0_0
  replace c0_1 := keep_cell hb c0_1
  replace c0_2 := keep_cell hb c0_2
  replace c1_0 := keep_cell hb c1_0
  replace c1_1 := keep_cell hb c1_1
  replace c1_2 := keep_cell hb c1_2
  replace q0 := keep_frozen (w1 := w2) hb c2_0 q0
  replace c2_0 := keep_cell (w1 := w2) hb c2_0
  replace q1 := keep_frozen (w1 := w2) hb c2_1 q1
  replace c2_1 := keep_cell (w1 := w2) hb c2_1
  replace q2 := keep_frozen (w1 := w2) hb c2_2 q2
  replace c2_2 := keep_cell (w1 := w2) hb c2_2
  replace Ha := Lib.hid (Ha.out.below hb (Nat.le_refl _))
  replace Hb := Lib.hid (Hb.out.below hb (Nat.le_refl _))
  replace Hc := Lib.hid (Hc.out.below hb (Nat.le_refl _))
  replace Hd := Lib.hid (Hd.out.below hb (Nat.le_refl _))
  have Hr := Lib.hid (ho1.mono B0.size)
  clear ho1
  have Hs := Lib.hid (ho2.mono B0.size)
  clear ho2
  obtain ⟨ar, cr, rfl, -, -, -, -, -⟩ := Hr.out.form
  obtain ⟨aS, cS, rfl, -, -, -, -, -⟩ := Hs.out.form
  replace B0 := B0.trans (hb.mono B0.size)
  clear hb
  go_wp2
  exact bodyPost_ret (v := .agg #[.bool (ng z), .slice ar (limbs z.natAbs).length cr, .slice aS (limbs e).length cS]) (by simp [results, Tryz.results7, go_sem, c2_0, c2_1, c2_2]) rfl (retR_end BW (by omega) hg0 B0 Hr.out Hs.out HAP)

theorem RatAdd_c (w : World) (b1 e1 : Nat) (s : Bool) (v1 u1 : Value) (xs ys : List Int) (h1 : Own w b1 v1 xs) (k1 : Own w e1 u1 ys) (b2 e2 : Nat) (t : Bool) (v2 u2 : Value) (zs ws : List Int) (h2 : Own w b2 v2 zs) (k2 : Own w e2 u2 ws) : Calls Tryz.prog 7 #[.agg #[.bool s, v1, u1], .agg #[.bool t, v2, u2]] w (RetQ w (q2 qadd s xs ys t zs ws).1 (q2 qadd s xs ys t zs ws).2) := by
  by_cases h : OkR s xs ys ∧ OkR t zs ws
  · rw [show q2 qadd s xs ys t zs ws = qadd (zv s xs) (nv ys).toNat (zv t zs) (nv ws).toNat from if_pos h]
    obtain ⟨x, d, rfl, rfl, rfl, hq, e3, e4⟩ := okR_q h.1
    obtain ⟨y, f, rfl, rfl, rfl, hk, e5, e6⟩ := okR_q h.2
    rw [e3, e4, e5, e6]
    exact RatAdd_good w b1 e1 v1 u1 x d h1 k1 b2 e2 v2 u2 y f h2 k2 hq hk _ _ rfl rfl
  · rw [show q2 qadd s xs ys t zs ws = (0, 0) from if_neg h]
    exact RatAdd_bad w b1 e1 s v1 u1 xs ys h1 k1 b2 e2 t v2 u2 zs ws h2 k2 h

set_option maxHeartbeats 2000000 in
theorem RatSub_bad (w : World) (b1 e1 : Nat) (s : Bool) (v1 u1 : Value) (xs ys : List Int) (h1 : Own w b1 v1 xs) (k1 : Own w e1 u1 ys) (b2 e2 : Nat) (t : Bool) (v2 u2 : Value) (zs ws : List Int) (h2 : Own w b2 v2 zs) (k2 : Own w e2 u2 ws) (hx : ¬ (OkR s xs ys ∧ OkR t zs ws)) :
    Calls Tryz.prog 13 #[.agg #[.bool s, v1, u1], .agg #[.bool t, v2, u2]] w (RetQ w 0 0) := by
  have BW : Below w.heap.size w (((w.alloc (.cells #[.bool s, v1, u1] 27)).alloc (.cells #[.bool t, v2, u2] 27)).alloc (.cells #[.bool false, .slice none 0 0, .slice none 0 0] 27)) := ((((Below.refl w.heap.size w).alloc (Nat.le_refl _) _).alloc (by simp) _).alloc (by simp; omega) _)
  obtain ⟨c0_0, c0_1, c0_2, c1_0, c1_1, c1_2, c2_0, c2_1, c2_2, q0, q1, q2⟩ : World.cell? (((w.alloc (.cells #[.bool s, v1, u1] 27)).alloc (.cells #[.bool t, v2, u2] 27)).alloc (.cells #[.bool false, .slice none 0 0, .slice none 0 0] 27)) ⟨w.heap.size, 0, none⟩ = some (.bool s) ∧ World.cell? (((w.alloc (.cells #[.bool s, v1, u1] 27)).alloc (.cells #[.bool t, v2, u2] 27)).alloc (.cells #[.bool false, .slice none 0 0, .slice none 0 0] 27)) ⟨w.heap.size, 1, none⟩ = some (v1) ∧ World.cell? (((w.alloc (.cells #[.bool s, v1, u1] 27)).alloc (.cells #[.bool t, v2, u2] 27)).alloc (.cells #[.bool false, .slice none 0 0, .slice none 0 0] 27)) ⟨w.heap.size, 2, none⟩ = some (u1) ∧ World.cell? (((w.alloc (.cells #[.bool s, v1, u1] 27)).alloc (.cells #[.bool t, v2, u2] 27)).alloc (.cells #[.bool false, .slice none 0 0, .slice none 0 0] 27)) ⟨w.heap.size + 1, 0, none⟩ = some (.bool t) ∧ World.cell? (((w.alloc (.cells #[.bool s, v1, u1] 27)).alloc (.cells #[.bool t, v2, u2] 27)).alloc (.cells #[.bool false, .slice none 0 0, .slice none 0 0] 27)) ⟨w.heap.size + 1, 1, none⟩ = some (v2) ∧ World.cell? (((w.alloc (.cells #[.bool s, v1, u1] 27)).alloc (.cells #[.bool t, v2, u2] 27)).alloc (.cells #[.bool false, .slice none 0 0, .slice none 0 0] 27)) ⟨w.heap.size + 1, 2, none⟩ = some (u2) ∧ World.cell? (((w.alloc (.cells #[.bool s, v1, u1] 27)).alloc (.cells #[.bool t, v2, u2] 27)).alloc (.cells #[.bool false, .slice none 0 0, .slice none 0 0] 27)) ⟨w.heap.size + 1 + 1, 0, none⟩ = some (.bool false) ∧ World.cell? (((w.alloc (.cells #[.bool s, v1, u1] 27)).alloc (.cells #[.bool t, v2, u2] 27)).alloc (.cells #[.bool false, .slice none 0 0, .slice none 0 0] 27)) ⟨w.heap.size + 1 + 1, 1, none⟩ = some (.slice none 0 0) ∧ World.cell? (((w.alloc (.cells #[.bool s, v1, u1] 27)).alloc (.cells #[.bool t, v2, u2] 27)).alloc (.cells #[.bool false, .slice none 0 0, .slice none 0 0] 27)) ⟨w.heap.size + 1 + 1, 2, none⟩ = some (.slice none 0 0) ∧ World.frozen? (((w.alloc (.cells #[.bool s, v1, u1] 27)).alloc (.cells #[.bool t, v2, u2] 27)).alloc (.cells #[.bool false, .slice none 0 0, .slice none 0 0] 27)) ⟨w.heap.size + 1 + 1, 0, none⟩ = false ∧ World.frozen? (((w.alloc (.cells #[.bool s, v1, u1] 27)).alloc (.cells #[.bool t, v2, u2] 27)).alloc (.cells #[.bool false, .slice none 0 0, .slice none 0 0] 27)) ⟨w.heap.size + 1 + 1, 1, none⟩ = false ∧ World.frozen? (((w.alloc (.cells #[.bool s, v1, u1] 27)).alloc (.cells #[.bool t, v2, u2] 27)).alloc (.cells #[.bool false, .slice none 0 0, .slice none 0 0] 27)) ⟨w.heap.size + 1 + 1, 2, none⟩ = false := by simp [go_sem]
  have hg0 : w.heap.size + 1 + 1 < ((((w.alloc (.cells #[.bool s, v1, u1] 27)).alloc (.cells #[.bool t, v2, u2] 27)).alloc (.cells #[.bool false, .slice none 0 0, .slice none 0 0] 27))).heap.size := World.block_lt_of_cell? _ _ c2_0
  have Ha := Lib.hid (h1.below BW (Nat.le_refl _))
  have Hb := Lib.hid (k1.below BW (Nat.le_refl _))
  have Hc := Lib.hid (h2.below BW (Nat.le_refl _))
  have Hd := Lib.hid (k2.below BW (Nat.le_refl _))
  clear h1 k1 h2 k2
  have HX := Lib.hid hx
  clear hx
  go_enter Tryz.func13, Tryz.ntmps13
  go_wp2_with fail
  generalize (((w.alloc (.cells #[.bool s, v1, u1] 27)).alloc (.cells #[.bool t, v2, u2] 27)).alloc (.cells #[.bool false, .slice none 0 0, .slice none 0 0] 27)) = w0 at *
  have B0 := Below.refl w0.heap.size w0
  refine (both_f _ _ _ _ _ _ _ _ Ha.out Hb.out _ _ _ _ _ _ _ Hc.out Hd.out HX.out).mono ?_
  rintro e w1 ⟨rfl, hb⟩
  replace c0_0 := keep_cell hb c0_0
  replace c0_1 := keep_cell hb c0_1
  replace c0_2 := keep_cell hb c0_2
  replace c1_0 := keep_cell hb c1_0
  replace c1_1 := keep_cell hb c1_1
  replace c1_2 := keep_cell hb c1_2
  replace q0 := keep_frozen (w1 := w1) hb c2_0 q0
  replace c2_0 := keep_cell (w1 := w1) hb c2_0
  replace q1 := keep_frozen (w1 := w1) hb c2_1 q1
  replace c2_1 := keep_cell (w1 := w1) hb c2_1
  replace q2 := keep_frozen (w1 := w1) hb c2_2 q2
  replace c2_2 := keep_cell (w1 := w1) hb c2_2
  replace Ha := Lib.hid (Ha.out.below hb (Nat.le_refl _))
  replace Hb := Lib.hid (Hb.out.below hb (Nat.le_refl _))
  replace Hc := Lib.hid (Hc.out.below hb (Nat.le_refl _))
  replace Hd := Lib.hid (Hd.out.below hb (Nat.le_refl _))
  replace B0 := B0.trans (hb.mono B0.size)
  clear hb
  go_wp2
  exact bodyPost_ret (v := .agg #[.bool false, .slice none 0 0, .slice none 0 0]) (by simp [results, Tryz.results13, go_sem, c2_0, c2_1, c2_2]) rfl (retQ_nil (set3_below (BW.trans (B0.mono BW.size)) (by omega)))

set_option maxHeartbeats 2000000 in
theorem RatSub_good (w : World) (b1 e1 : Nat) (v1 u1 : Value) (x : Int) (d : Nat) (h1 : Own w b1 v1 (limbs x.natAbs)) (k1 : Own w e1 u1 (limbs d)) (b2 e2 : Nat) (v2 u2 : Value) (y : Int) (f : Nat) (h2 : Own w b2 v2 (limbs y.natAbs)) (k2 : Own w e2 u2 (limbs f)) (hq : IsQ x d) (hk : IsQ y f) (z : Int) (e : Nat) (hz : z = (qsub x d y f).1) (he : e = (qsub x d y f).2) :
    Calls Tryz.prog 13 #[.agg #[.bool (ng x), v1, u1], .agg #[.bool (ng y), v2, u2]] w (RetQ w z e) := by
  have BW : Below w.heap.size w (((w.alloc (.cells #[.bool (ng x), v1, u1] 27)).alloc (.cells #[.bool (ng y), v2, u2] 27)).alloc (.cells #[.bool false, .slice none 0 0, .slice none 0 0] 27)) := ((((Below.refl w.heap.size w).alloc (Nat.le_refl _) _).alloc (by simp) _).alloc (by simp; omega) _)
  obtain ⟨c0_0, c0_1, c0_2, c1_0, c1_1, c1_2, c2_0, c2_1, c2_2, q0, q1, q2⟩ : World.cell? (((w.alloc (.cells #[.bool (ng x), v1, u1] 27)).alloc (.cells #[.bool (ng y), v2, u2] 27)).alloc (.cells #[.bool false, .slice none 0 0, .slice none 0 0] 27)) ⟨w.heap.size, 0, none⟩ = some (.bool (ng x)) ∧ World.cell? (((w.alloc (.cells #[.bool (ng x), v1, u1] 27)).alloc (.cells #[.bool (ng y), v2, u2] 27)).alloc (.cells #[.bool false, .slice none 0 0, .slice none 0 0] 27)) ⟨w.heap.size, 1, none⟩ = some (v1) ∧ World.cell? (((w.alloc (.cells #[.bool (ng x), v1, u1] 27)).alloc (.cells #[.bool (ng y), v2, u2] 27)).alloc (.cells #[.bool false, .slice none 0 0, .slice none 0 0] 27)) ⟨w.heap.size, 2, none⟩ = some (u1) ∧ World.cell? (((w.alloc (.cells #[.bool (ng x), v1, u1] 27)).alloc (.cells #[.bool (ng y), v2, u2] 27)).alloc (.cells #[.bool false, .slice none 0 0, .slice none 0 0] 27)) ⟨w.heap.size + 1, 0, none⟩ = some (.bool (ng y)) ∧ World.cell? (((w.alloc (.cells #[.bool (ng x), v1, u1] 27)).alloc (.cells #[.bool (ng y), v2, u2] 27)).alloc (.cells #[.bool false, .slice none 0 0, .slice none 0 0] 27)) ⟨w.heap.size + 1, 1, none⟩ = some (v2) ∧ World.cell? (((w.alloc (.cells #[.bool (ng x), v1, u1] 27)).alloc (.cells #[.bool (ng y), v2, u2] 27)).alloc (.cells #[.bool false, .slice none 0 0, .slice none 0 0] 27)) ⟨w.heap.size + 1, 2, none⟩ = some (u2) ∧ World.cell? (((w.alloc (.cells #[.bool (ng x), v1, u1] 27)).alloc (.cells #[.bool (ng y), v2, u2] 27)).alloc (.cells #[.bool false, .slice none 0 0, .slice none 0 0] 27)) ⟨w.heap.size + 1 + 1, 0, none⟩ = some (.bool false) ∧ World.cell? (((w.alloc (.cells #[.bool (ng x), v1, u1] 27)).alloc (.cells #[.bool (ng y), v2, u2] 27)).alloc (.cells #[.bool false, .slice none 0 0, .slice none 0 0] 27)) ⟨w.heap.size + 1 + 1, 1, none⟩ = some (.slice none 0 0) ∧ World.cell? (((w.alloc (.cells #[.bool (ng x), v1, u1] 27)).alloc (.cells #[.bool (ng y), v2, u2] 27)).alloc (.cells #[.bool false, .slice none 0 0, .slice none 0 0] 27)) ⟨w.heap.size + 1 + 1, 2, none⟩ = some (.slice none 0 0) ∧ World.frozen? (((w.alloc (.cells #[.bool (ng x), v1, u1] 27)).alloc (.cells #[.bool (ng y), v2, u2] 27)).alloc (.cells #[.bool false, .slice none 0 0, .slice none 0 0] 27)) ⟨w.heap.size + 1 + 1, 0, none⟩ = false ∧ World.frozen? (((w.alloc (.cells #[.bool (ng x), v1, u1] 27)).alloc (.cells #[.bool (ng y), v2, u2] 27)).alloc (.cells #[.bool false, .slice none 0 0, .slice none 0 0] 27)) ⟨w.heap.size + 1 + 1, 1, none⟩ = false ∧ World.frozen? (((w.alloc (.cells #[.bool (ng x), v1, u1] 27)).alloc (.cells #[.bool (ng y), v2, u2] 27)).alloc (.cells #[.bool false, .slice none 0 0, .slice none 0 0] 27)) ⟨w.heap.size + 1 + 1, 2, none⟩ = false := by simp [go_sem]
  have hg0 : w.heap.size + 1 + 1 < ((((w.alloc (.cells #[.bool (ng x), v1, u1] 27)).alloc (.cells #[.bool (ng y), v2, u2] 27)).alloc (.cells #[.bool false, .slice none 0 0, .slice none 0 0] 27))).heap.size := World.block_lt_of_cell? _ _ c2_0
  have Ha := Lib.hid (h1.below BW (Nat.le_refl _))
  have Hb := Lib.hid (k1.below BW (Nat.le_refl _))
  have Hc := Lib.hid (h2.below BW (Nat.le_refl _))
  have Hd := Lib.hid (k2.below BW (Nat.le_refl _))
  clear h1 k1 h2 k2
  have HX := Lib.hid hq
  have HY := Lib.hid hk
  have HZ := Lib.hid hz
  have HE := Lib.hid he
  clear hq hk hz he
  go_enter Tryz.func13, Tryz.ntmps13
  go_wp2_with fail
  generalize (((w.alloc (.cells #[.bool (ng x), v1, u1] 27)).alloc (.cells #[.bool (ng y), v2, u2] 27)).alloc (.cells #[.bool false, .slice none 0 0, .slice none 0 0] 27)) = w0 at *
  have B0 := Below.refl w0.heap.size w0
  refine (both_t _ _ _ _ _ x d Ha.out Hb.out _ _ _ _ y f Hc.out Hd.out HX.out HY.out).mono ?_
  rintro e w1 ⟨rfl, hb⟩
  replace c0_0 := keep_cell hb c0_0
  replace c0_1 := keep_cell hb c0_1
  replace c0_2 := keep_cell hb c0_2
  replace c1_0 := keep_cell hb c1_0
  replace c1_1 := keep_cell hb c1_1
  replace c1_2 := keep_cell hb c1_2
  replace q0 := keep_frozen (w1 := w1) hb c2_0 q0
  replace c2_0 := keep_cell (w1 := w1) hb c2_0
  replace q1 := keep_frozen (w1 := w1) hb c2_1 q1
  replace c2_1 := keep_cell (w1 := w1) hb c2_1
  replace q2 := keep_frozen (w1 := w1) hb c2_2 q2
  replace c2_2 := keep_cell (w1 := w1) hb c2_2
  replace Ha := Lib.hid (Ha.out.below hb (Nat.le_refl _))
  replace Hb := Lib.hid (Hb.out.below hb (Nat.le_refl _))
  replace Hc := Lib.hid (Hc.out.below hb (Nat.le_refl _))
  replace Hd := Lib.hid (Hd.out.below hb (Nat.le_refl _))
  replace B0 := B0.trans (hb.mono B0.size)
  clear hb
  go_wp2_with fail
  refine (sub_c _ _ _ _ _ x d Ha.out Hb.out _ _ _ _ y f Hc.out Hd.out (.inl HX.out) (.inl HY.out) z e HZ.out HE.out).mono ?_
  rintro e w2 ⟨vr, vs, rfl, ho1, ho2, HAP, hb⟩
  replace c0_0 := keep_cell hb c0_0
  replace c0_1 := keep_cell hb c0_1
  replace c0_2 := keep_cell hb c0_2
  replace c1_0 := keep_cell hb c1_0
  replace c1_1 := keep_cell hb c1_1
  replace c1_2 := keep_cell hb c1_2
  replace q0 := keep_frozen (w1 := w2) hb c2_0 q0
  replace c2_0 := keep_cell (w1 := w2) hb c2_0
  replace q1 := keep_frozen (w1 := w2) hb c2_1 q1
  replace c2_1 := keep_cell (w1 := w2) hb c2_1
  replace q2 := keep_frozen (w1 := w2) hb c2_2 q2
  replace c2_2 := keep_cell (w1 := w2) hb c2_2
  replace Ha := Lib.hid (Ha.out.below hb (Nat.le_refl _))
  replace Hb := Lib.hid (Hb.out.below hb (Nat.le_refl _))
  replace Hc := Lib.hid (Hc.out.below hb (Nat.le_refl _))
  replace Hd := Lib.hid (Hd.out.below hb (Nat.le_refl _))
  have Hr := Lib.hid (ho1.mono B0.size)
  clear ho1
  have Hs := Lib.hid (ho2.mono B0.size)
  clear ho2
  obtain ⟨ar, cr, rfl, -, -, -, -, -⟩ := Hr.out.form
  obtain ⟨aS, cS, rfl, -, -, -, -, -⟩ := Hs.out.form
  replace B0 := B0.trans (hb.mono B0.size)
  clear hb
  go_wp2
  exact bodyPost_ret (v := .agg #[.bool (ng z), .slice ar (limbs z.natAbs).length cr, .slice aS (limbs e).length cS]) (by simp [results, Tryz.results13, go_sem, c2_0, c2_1, c2_2]) rfl (retR_end BW (by omega) hg0 B0 Hr.out Hs.out HAP)

theorem RatSub_c (w : World) (b1 e1 : Nat) (s : Bool) (v1 u1 : Value) (xs ys : List Int) (h1 : Own w b1 v1 xs) (k1 : Own w e1 u1 ys) (b2 e2 : Nat) (t : Bool) (v2 u2 : Value) (zs ws : List Int) (h2 : Own w b2 v2 zs) (k2 : Own w e2 u2 ws) : Calls Tryz.prog 13 #[.agg #[.bool s, v1, u1], .agg #[.bool t, v2, u2]] w (RetQ w (q2 qsub s xs ys t zs ws).1 (q2 qsub s xs ys t zs ws).2) := by
  by_cases h : OkR s xs ys ∧ OkR t zs ws
  · rw [show q2 qsub s xs ys t zs ws = qsub (zv s xs) (nv ys).toNat (zv t zs) (nv ws).toNat from if_pos h]
    obtain ⟨x, d, rfl, rfl, rfl, hq, e3, e4⟩ := okR_q h.1
    obtain ⟨y, f, rfl, rfl, rfl, hk, e5, e6⟩ := okR_q h.2
    rw [e3, e4, e5, e6]
    exact RatSub_good w b1 e1 v1 u1 x d h1 k1 b2 e2 v2 u2 y f h2 k2 hq hk _ _ rfl rfl
  · rw [show q2 qsub s xs ys t zs ws = (0, 0) from if_neg h]
    exact RatSub_bad w b1 e1 s v1 u1 xs ys h1 k1 b2 e2 t v2 u2 zs ws h2 k2 h

set_option maxHeartbeats 2000000 in
theorem RatMul_bad (w : World) (b1 e1 : Nat) (s : Bool) (v1 u1 : Value) (xs ys : List Int) (h1 : Own w b1 v1 xs) (k1 : Own w e1 u1 ys) (b2 e2 : Nat) (t : Bool) (v2 u2 : Value) (zs ws : List Int) (h2 : Own w b2 v2 zs) (k2 : Own w e2 u2 ws) (hx : ¬ (OkR s xs ys ∧ OkR t zs ws)) :
    Calls Tryz.prog 6 #[.agg #[.bool s, v1, u1], .agg #[.bool t, v2, u2]] w (RetQ w 0 0) := by
  have BW : Below w.heap.size w (((w.alloc (.cells #[.bool s, v1, u1] 27)).alloc (.cells #[.bool t, v2, u2] 27)).alloc (.cells #[.bool false, .slice none 0 0, .slice none 0 0] 27)) := ((((Below.refl w.heap.size w).alloc (Nat.le_refl _) _).alloc (by simp) _).alloc (by simp; omega) _)
  obtain ⟨c0_0, c0_1, c0_2, c1_0, c1_1, c1_2, c2_0, c2_1, c2_2, q0, q1, q2⟩ : World.cell? (((w.alloc (.cells #[.bool s, v1, u1] 27)).alloc (.cells #[.bool t, v2, u2] 27)).alloc (.cells #[.bool false, .slice none 0 0, .slice none 0 0] 27)) ⟨w.heap.size, 0, none⟩ = some (.bool s) ∧ World.cell? (((w.alloc (.cells #[.bool s, v1, u1] 27)).alloc (.cells #[.bool t, v2, u2] 27)).alloc (.cells #[.bool false, .slice none 0 0, .slice none 0 0] 27)) ⟨w.heap.size, 1, none⟩ = some (v1) ∧ World.cell? (((w.alloc (.cells #[.bool s, v1, u1] 27)).alloc (.cells #[.bool t, v2, u2] 27)).alloc (.cells #[.bool false, .slice none 0 0, .slice none 0 0] 27)) ⟨w.heap.size, 2, none⟩ = some (u1) ∧ World.cell? (((w.alloc (.cells #[.bool s, v1, u1] 27)).alloc (.cells #[.bool t, v2, u2] 27)).alloc (.cells #[.bool false, .slice none 0 0, .slice none 0 0] 27)) ⟨w.heap.size + 1, 0, none⟩ = some (.bool t) ∧ World.cell? (((w.alloc (.cells #[.bool s, v1, u1] 27)).alloc (.cells #[.bool t, v2, u2] 27)).alloc (.cells #[.bool false, .slice none 0 0, .slice none 0 0] 27)) ⟨w.heap.size + 1, 1, none⟩ = some (v2) ∧ World.cell? (((w.alloc (.cells #[.bool s, v1, u1] 27)).alloc (.cells #[.bool t, v2, u2] 27)).alloc (.cells #[.bool false, .slice none 0 0, .slice none 0 0] 27)) ⟨w.heap.size + 1, 2, none⟩ = some (u2) ∧ World.cell? (((w.alloc (.cells #[.bool s, v1, u1] 27)).alloc (.cells #[.bool t, v2, u2] 27)).alloc (.cells #[.bool false, .slice none 0 0, .slice none 0 0] 27)) ⟨w.heap.size + 1 + 1, 0, none⟩ = some (.bool false) ∧ World.cell? (((w.alloc (.cells #[.bool s, v1, u1] 27)).alloc (.cells #[.bool t, v2, u2] 27)).alloc (.cells #[.bool false, .slice none 0 0, .slice none 0 0] 27)) ⟨w.heap.size + 1 + 1, 1, none⟩ = some (.slice none 0 0) ∧ World.cell? (((w.alloc (.cells #[.bool s, v1, u1] 27)).alloc (.cells #[.bool t, v2, u2] 27)).alloc (.cells #[.bool false, .slice none 0 0, .slice none 0 0] 27)) ⟨w.heap.size + 1 + 1, 2, none⟩ = some (.slice none 0 0) ∧ World.frozen? (((w.alloc (.cells #[.bool s, v1, u1] 27)).alloc (.cells #[.bool t, v2, u2] 27)).alloc (.cells #[.bool false, .slice none 0 0, .slice none 0 0] 27)) ⟨w.heap.size + 1 + 1, 0, none⟩ = false ∧ World.frozen? (((w.alloc (.cells #[.bool s, v1, u1] 27)).alloc (.cells #[.bool t, v2, u2] 27)).alloc (.cells #[.bool false, .slice none 0 0, .slice none 0 0] 27)) ⟨w.heap.size + 1 + 1, 1, none⟩ = false ∧ World.frozen? (((w.alloc (.cells #[.bool s, v1, u1] 27)).alloc (.cells #[.bool t, v2, u2] 27)).alloc (.cells #[.bool false, .slice none 0 0, .slice none 0 0] 27)) ⟨w.heap.size + 1 + 1, 2, none⟩ = false := by simp [go_sem]
  have hg0 : w.heap.size + 1 + 1 < ((((w.alloc (.cells #[.bool s, v1, u1] 27)).alloc (.cells #[.bool t, v2, u2] 27)).alloc (.cells #[.bool false, .slice none 0 0, .slice none 0 0] 27))).heap.size := World.block_lt_of_cell? _ _ c2_0
  have Ha := Lib.hid (h1.below BW (Nat.le_refl _))
  have Hb := Lib.hid (k1.below BW (Nat.le_refl _))
  have Hc := Lib.hid (h2.below BW (Nat.le_refl _))
  have Hd := Lib.hid (k2.below BW (Nat.le_refl _))
  clear h1 k1 h2 k2
  have HX := Lib.hid hx
  clear hx
  go_enter Tryz.func6, Tryz.ntmps6
  go_wp2_with fail
  generalize (((w.alloc (.cells #[.bool s, v1, u1] 27)).alloc (.cells #[.bool t, v2, u2] 27)).alloc (.cells #[.bool false, .slice none 0 0, .slice none 0 0] 27)) = w0 at *
  have B0 := Below.refl w0.heap.size w0
  refine (both_f _ _ _ _ _ _ _ _ Ha.out Hb.out _ _ _ _ _ _ _ Hc.out Hd.out HX.out).mono ?_
  rintro e w1 ⟨rfl, hb⟩
  replace c0_0 := keep_cell hb c0_0
  replace c0_1 := keep_cell hb c0_1
  replace c0_2 := keep_cell hb c0_2
  replace c1_0 := keep_cell hb c1_0
  replace c1_1 := keep_cell hb c1_1
  replace c1_2 := keep_cell hb c1_2
  replace q0 := keep_frozen (w1 := w1) hb c2_0 q0
  replace c2_0 := keep_cell (w1 := w1) hb c2_0
  replace q1 := keep_frozen (w1 := w1) hb c2_1 q1
  replace c2_1 := keep_cell (w1 := w1) hb c2_1
  replace q2 := keep_frozen (w1 := w1) hb c2_2 q2
  replace c2_2 := keep_cell (w1 := w1) hb c2_2
  replace Ha := Lib.hid (Ha.out.below hb (Nat.le_refl _))
  replace Hb := Lib.hid (Hb.out.below hb (Nat.le_refl _))
  replace Hc := Lib.hid (Hc.out.below hb (Nat.le_refl _))
  replace Hd := Lib.hid (Hd.out.below hb (Nat.le_refl _))
  replace B0 := B0.trans (hb.mono B0.size)
  clear hb
  go_wp2
  exact bodyPost_ret (v := .agg #[.bool false, .slice none 0 0, .slice none 0 0]) (by simp [results, Tryz.results6, go_sem, c2_0, c2_1, c2_2]) rfl (retQ_nil (set3_below (BW.trans (B0.mono BW.size)) (by omega)))

set_option maxHeartbeats 2000000 in
theorem RatMul_good (w : World) (b1 e1 : Nat) (v1 u1 : Value) (x : Int) (d : Nat) (h1 : Own w b1 v1 (limbs x.natAbs)) (k1 : Own w e1 u1 (limbs d)) (b2 e2 : Nat) (v2 u2 : Value) (y : Int) (f : Nat) (h2 : Own w b2 v2 (limbs y.natAbs)) (k2 : Own w e2 u2 (limbs f)) (hq : IsQ x d) (hk : IsQ y f) (z : Int) (e : Nat) (hz : z = (qmul x d y f).1) (he : e = (qmul x d y f).2) :
    Calls Tryz.prog 6 #[.agg #[.bool (ng x), v1, u1], .agg #[.bool (ng y), v2, u2]] w (RetQ w z e) := by
  have BW : Below w.heap.size w (((w.alloc (.cells #[.bool (ng x), v1, u1] 27)).alloc (.cells #[.bool (ng y), v2, u2] 27)).alloc (.cells #[.bool false, .slice none 0 0, .slice none 0 0] 27)) := ((((Below.refl w.heap.size w).alloc (Nat.le_refl _) _).alloc (by simp) _).alloc (by simp; omega) _)
  obtain ⟨c0_0, c0_1, c0_2, c1_0, c1_1, c1_2, c2_0, c2_1, c2_2, q0, q1, q2⟩ : World.cell? (((w.alloc (.cells #[.bool (ng x), v1, u1] 27)).alloc (.cells #[.bool (ng y), v2, u2] 27)).alloc (.cells #[.bool false, .slice none 0 0, .slice none 0 0] 27)) ⟨w.heap.size, 0, none⟩ = some (.bool (ng x)) ∧ World.cell? (((w.alloc (.cells #[.bool (ng x), v1, u1] 27)).alloc (.cells #[.bool (ng y), v2, u2] 27)).alloc (.cells #[.bool false, .slice none 0 0, .slice none 0 0] 27)) ⟨w.heap.size, 1, none⟩ = some (v1) ∧ World.cell? (((w.alloc (.cells #[.bool (ng x), v1, u1] 27)).alloc (.cells #[.bool (ng y), v2, u2] 27)).alloc (.cells #[.bool false, .slice none 0 0, .slice none 0 0] 27)) ⟨w.heap.size, 2, none⟩ = some (u1) ∧ World.cell? (((w.alloc (.cells #[.bool (ng x), v1, u1] 27)).alloc (.cells #[.bool (ng y), v2, u2] 27)).alloc (.cells #[.bool false, .slice none 0 0, .slice none 0 0] 27)) ⟨w.heap.size + 1, 0, none⟩ = some (.bool (ng y)) ∧ World.cell? (((w.alloc (.cells #[.bool (ng x), v1, u1] 27)).alloc (.cells #[.bool (ng y), v2, u2] 27)).alloc (.cells #[.bool false, .slice none 0 0, .slice none 0 0] 27)) ⟨w.heap.size + 1, 1, none⟩ = some (v2) ∧ World.cell? (((w.alloc (.cells #[.bool (ng x), v1, u1] 27)).alloc (.cells #[.bool (ng y), v2, u2] 27)).alloc (.cells #[.bool false, .slice none 0 0, .slice none 0 0] 27)) ⟨w.heap.size + 1, 2, none⟩ = some (u2) ∧ World.cell? (((w.alloc (.cells #[.bool (ng x), v1, u1] 27)).alloc (.cells #[.bool (ng y), v2, u2] 27)).alloc (.cells #[.bool false, .slice none 0 0, .slice none 0 0] 27)) ⟨w.heap.size + 1 + 1, 0, none⟩ = some (.bool false) ∧ World.cell? (((w.alloc (.cells #[.bool (ng x), v1, u1] 27)).alloc (.cells #[.bool (ng y), v2, u2] 27)).alloc (.cells #[.bool false, .slice none 0 0, .slice none 0 0] 27)) ⟨w.heap.size + 1 + 1, 1, none⟩ = some (.slice none 0 0) ∧ World.cell? (((w.alloc (.cells #[.bool (ng x), v1, u1] 27)).alloc (.cells #[.bool (ng y), v2, u2] 27)).alloc (.cells #[.bool false, .slice none 0 0, .slice none 0 0] 27)) ⟨w.heap.size + 1 + 1, 2, none⟩ = some (.slice none 0 0) ∧ World.frozen? (((w.alloc (.cells #[.bool (ng x), v1, u1] 27)).alloc (.cells #[.bool (ng y), v2, u2] 27)).alloc (.cells #[.bool false, .slice none 0 0, .slice none 0 0] 27)) ⟨w.heap.size + 1 + 1, 0, none⟩ = false ∧ World.frozen? (((w.alloc (.cells #[.bool (ng x), v1, u1] 27)).alloc (.cells #[.bool (ng y), v2, u2] 27)).alloc (.cells #[.bool false, .slice none 0 0, .slice none 0 0] 27)) ⟨w.heap.size + 1 + 1, 1, none⟩ = false ∧ World.frozen? (((w.alloc (.cells #[.bool (ng x), v1, u1] 27)).alloc (.cells #[.bool (ng y), v2, u2] 27)).alloc (.cells #[.bool false, .slice none 0 0, .slice none 0 0] 27)) ⟨w.heap.size + 1 + 1, 2, none⟩ = false := by simp [go_sem]
  have hg0 : w.heap.size + 1 + 1 < ((((w.alloc (.cells #[.bool (ng x), v1, u1] 27)).alloc (.cells #[.bool (ng y), v2, u2] 27)).alloc (.cells #[.bool false, .slice none 0 0, .slice none 0 0] 27))).heap.size := World.block_lt_of_cell? _ _ c2_0
  have Ha := Lib.hid (h1.below BW (Nat.le_refl _))
  have Hb := Lib.hid (k1.below BW (Nat.le_refl _))
  have Hc := Lib.hid (h2.below BW (Nat.le_refl _))
  have Hd := Lib.hid (k2.below BW (Nat.le_refl _))
  clear h1 k1 h2 k2
  have HX := Lib.hid hq
  have HY := Lib.hid hk
  have HZ := Lib.hid hz
  have HE := Lib.hid he
  clear hq hk hz he
  go_enter Tryz.func6, Tryz.ntmps6
  go_wp2_with fail
  generalize (((w.alloc (.cells #[.bool (ng x), v1, u1] 27)).alloc (.cells #[.bool (ng y), v2, u2] 27)).alloc (.cells #[.bool false, .slice none 0 0, .slice none 0 0] 27)) = w0 at *
  have B0 := Below.refl w0.heap.size w0
  refine (both_t _ _ _ _ _ x d Ha.out Hb.out _ _ _ _ y f Hc.out Hd.out HX.out HY.out).mono ?_
  rintro e w1 ⟨rfl, hb⟩
  replace c0_0 := keep_cell hb c0_0
  replace c0_1 := keep_cell hb c0_1
  replace c0_2 := keep_cell hb c0_2
  replace c1_0 := keep_cell hb c1_0
  replace c1_1 := keep_cell hb c1_1
  replace c1_2 := keep_cell hb c1_2
  replace q0 := keep_frozen (w1 := w1) hb c2_0 q0
  replace c2_0 := keep_cell (w1 := w1) hb c2_0
  replace q1 := keep_frozen (w1 := w1) hb c2_1 q1
  replace c2_1 := keep_cell (w1 := w1) hb c2_1
  replace q2 := keep_frozen (w1 := w1) hb c2_2 q2
  replace c2_2 := keep_cell (w1 := w1) hb c2_2
  replace Ha := Lib.hid (Ha.out.below hb (Nat.le_refl _))
  replace Hb := Lib.hid (Hb.out.below hb (Nat.le_refl _))
  replace Hc := Lib.hid (Hc.out.below hb (Nat.le_refl _))
  replace Hd := Lib.hid (Hd.out.below hb (Nat.le_refl _))
  replace B0 := B0.trans (hb.mono B0.size)
  clear hb
  go_wp2_with fail
  refine (mul_c _ _ _ _ _ x d Ha.out Hb.out _ _ _ _ y f Hc.out Hd.out (.inl HX.out) (.inl HY.out) z e HZ.out HE.out).mono ?_
  rintro e w2 ⟨vr, vs, rfl, ho1, ho2, HAP, hb⟩
  replace c0_0 := keep_cell hb c0_0
  replace c0_1 := keep_cell hb c0_1
  replace c0_2 := keep_cell hb c0_2
  replace c1_0 := keep_cell hb c1_0
  replace c1_1 := keep_cell hb c1_1
  replace c1_2 := keep_cell hb c1_2
  replace q0 := keep_frozen (w1 := w2) hb c2_0 q0
  replace c2_0 := keep_cell (w1 := w2) hb c2_0
  replace q1 := keep_frozen (w1 := w2) hb c2_1 q1
  replace c2_1 := keep_cell (w1 := w2) hb c2_1
  replace q2 := keep_frozen (w1 := w2) hb c2_2 q2
  replace c2_2 := keep_cell (w1 := w2) hb c2_2
  replace Ha := Lib.hid (Ha.out.below hb (Nat.le_refl _))
  replace Hb := Lib.hid (Hb.out.below hb (Nat.le_refl _))
  replace Hc := Lib.hid (Hc.out.below hb (Nat.le_refl _))
  replace Hd := Lib.hid (Hd.out.below hb (Nat.le_refl _))
  have Hr := Lib.hid (ho1.mono B0.size)
  clear ho1
  have Hs := Lib.hid (ho2.mono B0.size)
  clear ho2
  obtain ⟨ar, cr, rfl, -, -, -, -, -⟩ := Hr.out.form
  obtain ⟨aS, cS, rfl, -, -, -, -, -⟩ := Hs.out.form
  replace B0 := B0.trans (hb.mono B0.size)
  clear hb
  go_wp2
  exact bodyPost_ret (v := .agg #[.bool (ng z), .slice ar (limbs z.natAbs).length cr, .slice aS (limbs e).length cS]) (by simp [results, Tryz.results6, go_sem, c2_0, c2_1, c2_2]) rfl (retR_end BW (by omega) hg0 B0 Hr.out Hs.out HAP)

theorem RatMul_c (w : World) (b1 e1 : Nat) (s : Bool) (v1 u1 : Value) (xs ys : List Int) (h1 : Own w b1 v1 xs) (k1 : Own w e1 u1 ys) (b2 e2 : Nat) (t : Bool) (v2 u2 : Value) (zs ws : List Int) (h2 : Own w b2 v2 zs) (k2 : Own w e2 u2 ws) : Calls Tryz.prog 6 #[.agg #[.bool s, v1, u1], .agg #[.bool t, v2, u2]] w (RetQ w (q2 qmul s xs ys t zs ws).1 (q2 qmul s xs ys t zs ws).2) := by
  by_cases h : OkR s xs ys ∧ OkR t zs ws
  · rw [show q2 qmul s xs ys t zs ws = qmul (zv s xs) (nv ys).toNat (zv t zs) (nv ws).toNat from if_pos h]
    obtain ⟨x, d, rfl, rfl, rfl, hq, e3, e4⟩ := okR_q h.1
    obtain ⟨y, f, rfl, rfl, rfl, hk, e5, e6⟩ := okR_q h.2
    rw [e3, e4, e5, e6]
    exact RatMul_good w b1 e1 v1 u1 x d h1 k1 b2 e2 v2 u2 y f h2 k2 hq hk _ _ rfl rfl
  · rw [show q2 qmul s xs ys t zs ws = (0, 0) from if_neg h]
    exact RatMul_bad w b1 e1 s v1 u1 xs ys h1 k1 b2 e2 t v2 u2 zs ws h2 k2 h

set_option maxHeartbeats 2000000 in
theorem RatDiv_bad (w : World) (b1 e1 : Nat) (s : Bool) (v1 u1 : Value) (xs ys : List Int) (h1 : Own w b1 v1 xs) (k1 : Own w e1 u1 ys) (b2 e2 : Nat) (t : Bool) (v2 u2 : Value) (zs ws : List Int) (h2 : Own w b2 v2 zs) (k2 : Own w e2 u2 ws) (hx : ¬ (OkR s xs ys ∧ OkR t zs ws)) :
    Calls Tryz.prog 15 #[.agg #[.bool s, v1, u1], .agg #[.bool t, v2, u2]] w (RetQ w 0 0) := by
  have BW : Below w.heap.size w (((w.alloc (.cells #[.bool s, v1, u1] 27)).alloc (.cells #[.bool t, v2, u2] 27)).alloc (.cells #[.bool false, .slice none 0 0, .slice none 0 0] 27)) := ((((Below.refl w.heap.size w).alloc (Nat.le_refl _) _).alloc (by simp) _).alloc (by simp; omega) _)
  obtain ⟨c0_0, c0_1, c0_2, c1_0, c1_1, c1_2, c2_0, c2_1, c2_2, q0, q1, q2⟩ : World.cell? (((w.alloc (.cells #[.bool s, v1, u1] 27)).alloc (.cells #[.bool t, v2, u2] 27)).alloc (.cells #[.bool false, .slice none 0 0, .slice none 0 0] 27)) ⟨w.heap.size, 0, none⟩ = some (.bool s) ∧ World.cell? (((w.alloc (.cells #[.bool s, v1, u1] 27)).alloc (.cells #[.bool t, v2, u2] 27)).alloc (.cells #[.bool false, .slice none 0 0, .slice none 0 0] 27)) ⟨w.heap.size, 1, none⟩ = some (v1) ∧ World.cell? (((w.alloc (.cells #[.bool s, v1, u1] 27)).alloc (.cells #[.bool t, v2, u2] 27)).alloc (.cells #[.bool false, .slice none 0 0, .slice none 0 0] 27)) ⟨w.heap.size, 2, none⟩ = some (u1) ∧ World.cell? (((w.alloc (.cells #[.bool s, v1, u1] 27)).alloc (.cells #[.bool t, v2, u2] 27)).alloc (.cells #[.bool false, .slice none 0 0, .slice none 0 0] 27)) ⟨w.heap.size + 1, 0, none⟩ = some (.bool t) ∧ World.cell? (((w.alloc (.cells #[.bool s, v1, u1] 27)).alloc (.cells #[.bool t, v2, u2] 27)).alloc (.cells #[.bool false, .slice none 0 0, .slice none 0 0] 27)) ⟨w.heap.size + 1, 1, none⟩ = some (v2) ∧ World.cell? (((w.alloc (.cells #[.bool s, v1, u1] 27)).alloc (.cells #[.bool t, v2, u2] 27)).alloc (.cells #[.bool false, .slice none 0 0, .slice none 0 0] 27)) ⟨w.heap.size + 1, 2, none⟩ = some (u2) ∧ World.cell? (((w.alloc (.cells #[.bool s, v1, u1] 27)).alloc (.cells #[.bool t, v2, u2] 27)).alloc (.cells #[.bool false, .slice none 0 0, .slice none 0 0] 27)) ⟨w.heap.size + 1 + 1, 0, none⟩ = some (.bool false) ∧ World.cell? (((w.alloc (.cells #[.bool s, v1, u1] 27)).alloc (.cells #[.bool t, v2, u2] 27)).alloc (.cells #[.bool false, .slice none 0 0, .slice none 0 0] 27)) ⟨w.heap.size + 1 + 1, 1, none⟩ = some (.slice none 0 0) ∧ World.cell? (((w.alloc (.cells #[.bool s, v1, u1] 27)).alloc (.cells #[.bool t, v2, u2] 27)).alloc (.cells #[.bool false, .slice none 0 0, .slice none 0 0] 27)) ⟨w.heap.size + 1 + 1, 2, none⟩ = some (.slice none 0 0) ∧ World.frozen? (((w.alloc (.cells #[.bool s, v1, u1] 27)).alloc (.cells #[.bool t, v2, u2] 27)).alloc (.cells #[.bool false, .slice none 0 0, .slice none 0 0] 27)) ⟨w.heap.size + 1 + 1, 0, none⟩ = false ∧ World.frozen? (((w.alloc (.cells #[.bool s, v1, u1] 27)).alloc (.cells #[.bool t, v2, u2] 27)).alloc (.cells #[.bool false, .slice none 0 0, .slice none 0 0] 27)) ⟨w.heap.size + 1 + 1, 1, none⟩ = false ∧ World.frozen? (((w.alloc (.cells #[.bool s, v1, u1] 27)).alloc (.cells #[.bool t, v2, u2] 27)).alloc (.cells #[.bool false, .slice none 0 0, .slice none 0 0] 27)) ⟨w.heap.size + 1 + 1, 2, none⟩ = false := by simp [go_sem]
  have hg0 : w.heap.size + 1 + 1 < ((((w.alloc (.cells #[.bool s, v1, u1] 27)).alloc (.cells #[.bool t, v2, u2] 27)).alloc (.cells #[.bool false, .slice none 0 0, .slice none 0 0] 27))).heap.size := World.block_lt_of_cell? _ _ c2_0
  have Ha := Lib.hid (h1.below BW (Nat.le_refl _))
  have Hb := Lib.hid (k1.below BW (Nat.le_refl _))
  have Hc := Lib.hid (h2.below BW (Nat.le_refl _))
  have Hd := Lib.hid (k2.below BW (Nat.le_refl _))
  clear h1 k1 h2 k2
  have HX := Lib.hid hx
  clear hx
  go_enter Tryz.func15, Tryz.ntmps15
  go_wp2_with fail
  generalize (((w.alloc (.cells #[.bool s, v1, u1] 27)).alloc (.cells #[.bool t, v2, u2] 27)).alloc (.cells #[.bool false, .slice none 0 0, .slice none 0 0] 27)) = w0 at *
  have B0 := Below.refl w0.heap.size w0
  refine (both_f _ _ _ _ _ _ _ _ Ha.out Hb.out _ _ _ _ _ _ _ Hc.out Hd.out HX.out).mono ?_
  rintro e w1 ⟨rfl, hb⟩
  replace c0_0 := keep_cell hb c0_0
  replace c0_1 := keep_cell hb c0_1
  replace c0_2 := keep_cell hb c0_2
  replace c1_0 := keep_cell hb c1_0
  replace c1_1 := keep_cell hb c1_1
  replace c1_2 := keep_cell hb c1_2
  replace q0 := keep_frozen (w1 := w1) hb c2_0 q0
  replace c2_0 := keep_cell (w1 := w1) hb c2_0
  replace q1 := keep_frozen (w1 := w1) hb c2_1 q1
  replace c2_1 := keep_cell (w1 := w1) hb c2_1
  replace q2 := keep_frozen (w1 := w1) hb c2_2 q2
  replace c2_2 := keep_cell (w1 := w1) hb c2_2
  replace Ha := Lib.hid (Ha.out.below hb (Nat.le_refl _))
  replace Hb := Lib.hid (Hb.out.below hb (Nat.le_refl _))
  replace Hc := Lib.hid (Hc.out.below hb (Nat.le_refl _))
  replace Hd := Lib.hid (Hd.out.below hb (Nat.le_refl _))
  replace B0 := B0.trans (hb.mono B0.size)
  clear hb
  go_wp2
  exact bodyPost_ret (v := .agg #[.bool false, .slice none 0 0, .slice none 0 0]) (by simp [results, Tryz.results15, go_sem, c2_0, c2_1, c2_2]) rfl (retQ_nil (set3_below (BW.trans (B0.mono BW.size)) (by omega)))

set_option maxHeartbeats 2000000 in
theorem RatDiv_good (w : World) (b1 e1 : Nat) (v1 u1 : Value) (x : Int) (d : Nat) (h1 : Own w b1 v1 (limbs x.natAbs)) (k1 : Own w e1 u1 (limbs d)) (b2 e2 : Nat) (v2 u2 : Value) (y : Int) (f : Nat) (h2 : Own w b2 v2 (limbs y.natAbs)) (k2 : Own w e2 u2 (limbs f)) (hq : IsQ x d) (hk : IsQ y f) (z : Int) (e : Nat) (hz : z = (qdiv x d y f).1) (he : e = (qdiv x d y f).2) :
    Calls Tryz.prog 15 #[.agg #[.bool (ng x), v1, u1], .agg #[.bool (ng y), v2, u2]] w (RetQ w z e) := by
  have BW : Below w.heap.size w (((w.alloc (.cells #[.bool (ng x), v1, u1] 27)).alloc (.cells #[.bool (ng y), v2, u2] 27)).alloc (.cells #[.bool false, .slice none 0 0, .slice none 0 0] 27)) := ((((Below.refl w.heap.size w).alloc (Nat.le_refl _) _).alloc (by simp) _).alloc (by simp; omega) _)
  obtain ⟨c0_0, c0_1, c0_2, c1_0, c1_1, c1_2, c2_0, c2_1, c2_2, q0, q1, q2⟩ : World.cell? (((w.alloc (.cells #[.bool (ng x), v1, u1] 27)).alloc (.cells #[.bool (ng y), v2, u2] 27)).alloc (.cells #[.bool false, .slice none 0 0, .slice none 0 0] 27)) ⟨w.heap.size, 0, none⟩ = some (.bool (ng x)) ∧ World.cell? (((w.alloc (.cells #[.bool (ng x), v1, u1] 27)).alloc (.cells #[.bool (ng y), v2, u2] 27)).alloc (.cells #[.bool false, .slice none 0 0, .slice none 0 0] 27)) ⟨w.heap.size, 1, none⟩ = some (v1) ∧ World.cell? (((w.alloc (.cells #[.bool (ng x), v1, u1] 27)).alloc (.cells #[.bool (ng y), v2, u2] 27)).alloc (.cells #[.bool false, .slice none 0 0, .slice none 0 0] 27)) ⟨w.heap.size, 2, none⟩ = some (u1) ∧ World.cell? (((w.alloc (.cells #[.bool (ng x), v1, u1] 27)).alloc (.cells #[.bool (ng y), v2, u2] 27)).alloc (.cells #[.bool false, .slice none 0 0, .slice none 0 0] 27)) ⟨w.heap.size + 1, 0, none⟩ = some (.bool (ng y)) ∧ World.cell? (((w.alloc (.cells #[.bool (ng x), v1, u1] 27)).alloc (.cells #[.bool (ng y), v2, u2] 27)).alloc (.cells #[.bool false, .slice none 0 0, .slice none 0 0] 27)) ⟨w.heap.size + 1, 1, none⟩ = some (v2) ∧ World.cell? (((w.alloc (.cells #[.bool (ng x), v1, u1] 27)).alloc (.cells #[.bool (ng y), v2, u2] 27)).alloc (.cells #[.bool false, .slice none 0 0, .slice none 0 0] 27)) ⟨w.heap.size + 1, 2, none⟩ = some (u2) ∧ World.cell? (((w.alloc (.cells #[.bool (ng x), v1, u1] 27)).alloc (.cells #[.bool (ng y), v2, u2] 27)).alloc (.cells #[.bool false, .slice none 0 0, .slice none 0 0] 27)) ⟨w.heap.size + 1 + 1, 0, none⟩ = some (.bool false) ∧ World.cell? (((w.alloc (.cells #[.bool (ng x), v1, u1] 27)).alloc (.cells #[.bool (ng y), v2, u2] 27)).alloc (.cells #[.bool false, .slice none 0 0, .slice none 0 0] 27)) ⟨w.heap.size + 1 + 1, 1, none⟩ = some (.slice none 0 0) ∧ World.cell? (((w.alloc (.cells #[.bool (ng x), v1, u1] 27)).alloc (.cells #[.bool (ng y), v2, u2] 27)).alloc (.cells #[.bool false, .slice none 0 0, .slice none 0 0] 27)) ⟨w.heap.size + 1 + 1, 2, none⟩ = some (.slice none 0 0) ∧ World.frozen? (((w.alloc (.cells #[.bool (ng x), v1, u1] 27)).alloc (.cells #[.bool (ng y), v2, u2] 27)).alloc (.cells #[.bool false, .slice none 0 0, .slice none 0 0] 27)) ⟨w.heap.size + 1 + 1, 0, none⟩ = false ∧ World.frozen? (((w.alloc (.cells #[.bool (ng x), v1, u1] 27)).alloc (.cells #[.bool (ng y), v2, u2] 27)).alloc (.cells #[.bool false, .slice none 0 0, .slice none 0 0] 27)) ⟨w.heap.size + 1 + 1, 1, none⟩ = false ∧ World.frozen? (((w.alloc (.cells #[.bool (ng x), v1, u1] 27)).alloc (.cells #[.bool (ng y), v2, u2] 27)).alloc (.cells #[.bool false, .slice none 0 0, .slice none 0 0] 27)) ⟨w.heap.size + 1 + 1, 2, none⟩ = false := by simp [go_sem]
  have hg0 : w.heap.size + 1 + 1 < ((((w.alloc (.cells #[.bool (ng x), v1, u1] 27)).alloc (.cells #[.bool (ng y), v2, u2] 27)).alloc (.cells #[.bool false, .slice none 0 0, .slice none 0 0] 27))).heap.size := World.block_lt_of_cell? _ _ c2_0
  have Ha := Lib.hid (h1.below BW (Nat.le_refl _))
  have Hb := Lib.hid (k1.below BW (Nat.le_refl _))
  have Hc := Lib.hid (h2.below BW (Nat.le_refl _))
  have Hd := Lib.hid (k2.below BW (Nat.le_refl _))
  clear h1 k1 h2 k2
  have HX := Lib.hid hq
  have HY := Lib.hid hk
  have HZ := Lib.hid hz
  have HE := Lib.hid he
  clear hq hk hz he
  go_enter Tryz.func15, Tryz.ntmps15
  go_wp2_with fail
  generalize (((w.alloc (.cells #[.bool (ng x), v1, u1] 27)).alloc (.cells #[.bool (ng y), v2, u2] 27)).alloc (.cells #[.bool false, .slice none 0 0, .slice none 0 0] 27)) = w0 at *
  have B0 := Below.refl w0.heap.size w0
  refine (both_t _ _ _ _ _ x d Ha.out Hb.out _ _ _ _ y f Hc.out Hd.out HX.out HY.out).mono ?_
  rintro e w1 ⟨rfl, hb⟩
  replace c0_0 := keep_cell hb c0_0
  replace c0_1 := keep_cell hb c0_1
  replace c0_2 := keep_cell hb c0_2
  replace c1_0 := keep_cell hb c1_0
  replace c1_1 := keep_cell hb c1_1
  replace c1_2 := keep_cell hb c1_2
  replace q0 := keep_frozen (w1 := w1) hb c2_0 q0
  replace c2_0 := keep_cell (w1 := w1) hb c2_0
  replace q1 := keep_frozen (w1 := w1) hb c2_1 q1
  replace c2_1 := keep_cell (w1 := w1) hb c2_1
  replace q2 := keep_frozen (w1 := w1) hb c2_2 q2
  replace c2_2 := keep_cell (w1 := w1) hb c2_2
  replace Ha := Lib.hid (Ha.out.below hb (Nat.le_refl _))
  replace Hb := Lib.hid (Hb.out.below hb (Nat.le_refl _))
  replace Hc := Lib.hid (Hc.out.below hb (Nat.le_refl _))
  replace Hd := Lib.hid (Hd.out.below hb (Nat.le_refl _))
  replace B0 := B0.trans (hb.mono B0.size)
  clear hb
  go_wp2_with fail
  refine (div_c _ _ _ _ _ x d Ha.out Hb.out _ _ _ _ y f Hc.out Hd.out HX.out HY.out z e HZ.out HE.out).mono ?_
  rintro e w2 ⟨vr, vs, rfl, ho1, ho2, HAP, hb⟩
  replace c0_0 := keep_cell hb c0_0
  replace c0_1 := keep_cell hb c0_1
  replace c0_2 := keep_cell hb c0_2
  replace c1_0 := keep_cell hb c1_0
  replace c1_1 := keep_cell hb c1_1
  replace c1_2 := keep_cell hb c1_2
  replace q0 := keep_frozen (w1 := w2) hb c2_0 q0
  replace c2_0 := keep_cell (w1 := w2) hb c2_0
  replace q1 := keep_frozen (w1 := w2) hb c2_1 q1
  replace c2_1 := keep_cell (w1 := w2) hb c2_1
  replace q2 := keep_frozen (w1 := w2) hb c2_2 q2
  replace c2_2 := keep_cell (w1 := w2) hb c2_2
  replace Ha := Lib.hid (Ha.out.below hb (Nat.le_refl _))
  replace Hb := Lib.hid (Hb.out.below hb (Nat.le_refl _))
  replace Hc := Lib.hid (Hc.out.below hb (Nat.le_refl _))
  replace Hd := Lib.hid (Hd.out.below hb (Nat.le_refl _))
  have Hr := Lib.hid (ho1.mono B0.size)
  clear ho1
  have Hs := Lib.hid (ho2.mono B0.size)
  clear ho2
  obtain ⟨ar, cr, rfl, -, -, -, -, -⟩ := Hr.out.form
  obtain ⟨aS, cS, rfl, -, -, -, -, -⟩ := Hs.out.form
  replace B0 := B0.trans (hb.mono B0.size)
  clear hb
  go_wp2
  exact bodyPost_ret (v := .agg #[.bool (ng z), .slice ar (limbs z.natAbs).length cr, .slice aS (limbs e).length cS]) (by simp [results, Tryz.results15, go_sem, c2_0, c2_1, c2_2]) rfl (retR_end BW (by omega) hg0 B0 Hr.out Hs.out HAP)

theorem RatDiv_c (w : World) (b1 e1 : Nat) (s : Bool) (v1 u1 : Value) (xs ys : List Int) (h1 : Own w b1 v1 xs) (k1 : Own w e1 u1 ys) (b2 e2 : Nat) (t : Bool) (v2 u2 : Value) (zs ws : List Int) (h2 : Own w b2 v2 zs) (k2 : Own w e2 u2 ws) : Calls Tryz.prog 15 #[.agg #[.bool s, v1, u1], .agg #[.bool t, v2, u2]] w (RetQ w (q2 qdiv s xs ys t zs ws).1 (q2 qdiv s xs ys t zs ws).2) := by
  by_cases h : OkR s xs ys ∧ OkR t zs ws
  · rw [show q2 qdiv s xs ys t zs ws = qdiv (zv s xs) (nv ys).toNat (zv t zs) (nv ws).toNat from if_pos h]
    obtain ⟨x, d, rfl, rfl, rfl, hq, e3, e4⟩ := okR_q h.1
    obtain ⟨y, f, rfl, rfl, rfl, hk, e5, e6⟩ := okR_q h.2
    rw [e3, e4, e5, e6]
    exact RatDiv_good w b1 e1 v1 u1 x d h1 k1 b2 e2 v2 u2 y f h2 k2 hq hk _ _ rfl rfl
  · rw [show q2 qdiv s xs ys t zs ws = (0, 0) from if_neg h]
    exact RatDiv_bad w b1 e1 s v1 u1 xs ys h1 k1 b2 e2 t v2 u2 zs ws h2 k2 h

noncomputable def qneg (z : Int) (d : Nat) : Int × Nat := (-z, d)
theorem qneg_len (z : Int) (d : Nat) (h : IsQ z d) : (limbs (qneg z d).1.natAbs).length ≤ 1000 ∧ (limbs (qneg z d).2).length ≤ 1000 := isQ_len (isQ_neg h)
theorem bigCmp_k (w : World) (b1 b2 : Nat) (v1 v2 : Value) (x y c : Int) (h1 : Own w b1 v1 (limbs x.natAbs)) (h2 : Own w b2 v2 (limbs y.natAbs)) (hc : Hid (cmp3 x y = c)) :
    Calls Tryz.prog 75 #[.agg #[.bool (ng x), v1], .agg #[.bool (ng y), v2]] w (RetI w c) := by
  rw [← hc.out]; exact bigCmp_c w b1 b2 v1 v2 x y h1 h2

set_option maxHeartbeats 2000000 in
theorem cmp_c (w : World) (b1 e1 : Nat) (v1 u1 : Value) (x : Int) (d : Nat) (h1 : Own w b1 v1 (limbs x.natAbs)) (k1 : Own w e1 u1 (limbs d)) (b2 e2 : Nat) (v2 u2 : Value) (y : Int) (f : Nat) (h2 : Own w b2 v2 (limbs y.natAbs)) (k2 : Own w e2 u2 (limbs f)) (l1 : (limbs x.natAbs).length ≤ 24) (l2 : (limbs d).length ≤ 24) (l3 : (limbs y.natAbs).length ≤ 24) (l4 : (limbs f).length ≤ 24) (c : Int) (hc : c = qcmp x d y f) :
    Calls Tryz.prog 43 #[.agg #[.bool (ng x), v1, u1], .agg #[.bool (ng y), v2, u2]] w (RetI w c) := by
  obtain ⟨a1, c1, rfl, -, -, -, -, -⟩ := h1.form
  obtain ⟨p1, kq1, rfl, -, -, -, -, -⟩ := k1.form
  obtain ⟨a2, c2, rfl, -, -, -, -, -⟩ := h2.form
  obtain ⟨p2, kq2, rfl, -, -, -, -, -⟩ := k2.form
  have BW : Below w.heap.size w ((w.alloc (.cells #[.bool (ng x), (.slice a1 (limbs x.natAbs).length c1), (.slice p1 (limbs d).length kq1)] 27)).alloc (.cells #[.bool (ng y), (.slice a2 (limbs y.natAbs).length c2), (.slice p2 (limbs f).length kq2)] 27)) := (((Below.refl w.heap.size w).alloc (Nat.le_refl _) _).alloc (by simp) _)
  obtain ⟨c0_0, c0_1, c0_2, c1_0, c1_1, c1_2⟩ : World.cell? ((w.alloc (.cells #[.bool (ng x), (.slice a1 (limbs x.natAbs).length c1), (.slice p1 (limbs d).length kq1)] 27)).alloc (.cells #[.bool (ng y), (.slice a2 (limbs y.natAbs).length c2), (.slice p2 (limbs f).length kq2)] 27)) ⟨w.heap.size, 0, none⟩ = some (.bool (ng x)) ∧ World.cell? ((w.alloc (.cells #[.bool (ng x), (.slice a1 (limbs x.natAbs).length c1), (.slice p1 (limbs d).length kq1)] 27)).alloc (.cells #[.bool (ng y), (.slice a2 (limbs y.natAbs).length c2), (.slice p2 (limbs f).length kq2)] 27)) ⟨w.heap.size, 1, none⟩ = some ((.slice a1 (limbs x.natAbs).length c1)) ∧ World.cell? ((w.alloc (.cells #[.bool (ng x), (.slice a1 (limbs x.natAbs).length c1), (.slice p1 (limbs d).length kq1)] 27)).alloc (.cells #[.bool (ng y), (.slice a2 (limbs y.natAbs).length c2), (.slice p2 (limbs f).length kq2)] 27)) ⟨w.heap.size, 2, none⟩ = some ((.slice p1 (limbs d).length kq1)) ∧ World.cell? ((w.alloc (.cells #[.bool (ng x), (.slice a1 (limbs x.natAbs).length c1), (.slice p1 (limbs d).length kq1)] 27)).alloc (.cells #[.bool (ng y), (.slice a2 (limbs y.natAbs).length c2), (.slice p2 (limbs f).length kq2)] 27)) ⟨w.heap.size + 1, 0, none⟩ = some (.bool (ng y)) ∧ World.cell? ((w.alloc (.cells #[.bool (ng x), (.slice a1 (limbs x.natAbs).length c1), (.slice p1 (limbs d).length kq1)] 27)).alloc (.cells #[.bool (ng y), (.slice a2 (limbs y.natAbs).length c2), (.slice p2 (limbs f).length kq2)] 27)) ⟨w.heap.size + 1, 1, none⟩ = some ((.slice a2 (limbs y.natAbs).length c2)) ∧ World.cell? ((w.alloc (.cells #[.bool (ng x), (.slice a1 (limbs x.natAbs).length c1), (.slice p1 (limbs d).length kq1)] 27)).alloc (.cells #[.bool (ng y), (.slice a2 (limbs y.natAbs).length c2), (.slice p2 (limbs f).length kq2)] 27)) ⟨w.heap.size + 1, 2, none⟩ = some ((.slice p2 (limbs f).length kq2)) := by simp [go_sem]
  have Ha := Lib.hid (h1.below BW (Nat.le_refl _))
  have Hb := Lib.hid (k1.below BW (Nat.le_refl _))
  have Hc := Lib.hid (h2.below BW (Nat.le_refl _))
  have Hd := Lib.hid (k2.below BW (Nat.le_refl _))
  clear h1 k1 h2 k2
  obtain ⟨p, hp⟩ : ∃ p : Int, p = x * (f : Int) := ⟨_, rfl⟩
  obtain ⟨q, hq0⟩ : ∃ q : Int, q = y * (d : Int) := ⟨_, rfl⟩
  have HC : Hid (cmp3 p q = c) := by unfold Hid; rw [hp, hq0]; exact hc.symm
  have HP := Lib.hid hp
  have HQ := Lib.hid hq0
  have n1 : (limbs x.natAbs).length ≤ 900 := by omega
  have n2 : (limbs d).length ≤ 900 := by omega
  have n3 : (limbs y.natAbs).length ≤ 900 := by omega
  have n4 : (limbs f).length ≤ 900 := by omega
  clear hp hq0 hc
  go_enter Tryz.func43, Tryz.ntmps43
  go_wp2_with fail
  generalize ((w.alloc (.cells #[.bool (ng x), (.slice a1 (limbs x.natAbs).length c1), (.slice p1 (limbs d).length kq1)] 27)).alloc (.cells #[.bool (ng y), (.slice a2 (limbs y.natAbs).length c2), (.slice p2 (limbs f).length kq2)] 27)) = w0 at *
  have B0 := Below.refl w0.heap.size w0
  replace Ha := Lib.hid Ha.out.drew
  replace Hb := Lib.hid Hb.out.drew
  replace Hc := Lib.hid Hc.out.drew
  replace Hd := Lib.hid Hd.out.drew
  replace B0 := below_drew B0
  replace c0_0 := cell_drew c0_0
  replace c0_1 := cell_drew c0_1
  replace c0_2 := cell_drew c0_2
  replace c1_0 := cell_drew c1_0
  replace c1_1 := cell_drew c1_1
  replace c1_2 := cell_drew c1_2
  go_region_held3 (fun w' => w'.cell? ⟨w.heap.size, 0, none⟩ = some (.bool (ng x)) ∧ w'.cell? ⟨w.heap.size, 1, none⟩ = some ((.slice a1 (limbs x.natAbs).length c1)) ∧ w'.cell? ⟨w.heap.size, 2, none⟩ = some ((.slice p1 (limbs d).length kq1)) ∧ w'.cell? ⟨w.heap.size + 1, 0, none⟩ = some (.bool (ng y)) ∧ w'.cell? ⟨w.heap.size + 1, 1, none⟩ = some ((.slice a2 (limbs y.natAbs).length c2)) ∧ w'.cell? ⟨w.heap.size + 1, 2, none⟩ = some ((.slice p2 (limbs f).length kq2))) (first | exact ⟨c0_0, c0_1, c0_2, c1_0, c1_1, c1_2⟩ | (go_split_ands; exact ⟨(set_far (set_far ‹_› (by dsimp only; omega)) (by dsimp only; omega)), (set_far (set_far ‹_› (by dsimp only; omega)) (by dsimp only; omega)), (set_far (set_far ‹_› (by dsimp only; omega)) (by dsimp only; omega)), (set_far (set_far ‹_› (by dsimp only; omega)) (by dsimp only; omega)), (set_far (set_far ‹_› (by dsimp only; omega)) (by dsimp only; omega)), (set_far (set_far ‹_› (by dsimp only; omega)) (by dsimp only; omega))⟩) | (go_split_ands; exact ⟨(set_far (set_far (set_far ‹_› (by dsimp only; omega)) (by dsimp only; omega)) (by dsimp only; omega)), (set_far (set_far (set_far ‹_› (by dsimp only; omega)) (by dsimp only; omega)) (by dsimp only; omega)), (set_far (set_far (set_far ‹_› (by dsimp only; omega)) (by dsimp only; omega)) (by dsimp only; omega)), (set_far (set_far (set_far ‹_› (by dsimp only; omega)) (by dsimp only; omega)) (by dsimp only; omega)), (set_far (set_far (set_far ‹_› (by dsimp only; omega)) (by dsimp only; omega)) (by dsimp only; omega)), (set_far (set_far (set_far ‹_› (by dsimp only; omega)) (by dsimp only; omega)) (by dsimp only; omega))⟩) | (go_split_ands; exact ⟨(set_far ‹_› (by dsimp only; omega)), (set_far ‹_› (by dsimp only; omega)), (set_far ‹_› (by dsimp only; omega)), (set_far ‹_› (by dsimp only; omega)), (set_far ‹_› (by dsimp only; omega)), (set_far ‹_› (by dsimp only; omega))⟩) | go_keep)
    (first | (go_at_call_of 61 (Value.agg #[Value.bool (ng x), Value.slice a1 (limbs x.natAbs).length c1]); refine (bigMul_nat _ _ _ _ _ x f Ha.out Hd.out n1 n4 p HP.out).mono ?_; rintro e w1 ⟨vp, rfl, ho1, hb1⟩; replace c0_0 := keep_cell (w1 := w1) hb1 c0_0; replace c0_1 := keep_cell (w1 := w1) hb1 c0_1; replace c0_2 := keep_cell (w1 := w1) hb1 c0_2; replace c1_0 := keep_cell (w1 := w1) hb1 c1_0; replace c1_1 := keep_cell (w1 := w1) hb1 c1_1; replace c1_2 := keep_cell (w1 := w1) hb1 c1_2; replace Ha := Lib.hid (Ha.out.below hb1 (Nat.le_refl _)); replace Hb := Lib.hid (Hb.out.below hb1 (Nat.le_refl _)); replace Hc := Lib.hid (Hc.out.below hb1 (Nat.le_refl _)); replace Hd := Lib.hid (Hd.out.below hb1 (Nat.le_refl _)); (try (replace Hq := Lib.hid (Hq.out.below hb1 (Nat.le_refl _)))); have Hp := Lib.hid (ho1.mono B0.size); clear ho1; obtain ⟨ap, cp, rfl, -, -, -, -, -⟩ := Hp.out.form; replace B0 := B0.trans (hb1.mono B0.size); clear hb1) | (go_at_call_of 61 (Value.agg #[Value.bool (ng y), Value.slice a2 (limbs y.natAbs).length c2]); refine (bigMul_nat _ _ _ _ _ y d Hc.out Hb.out n3 n2 q HQ.out).mono ?_; rintro e w2 ⟨vq, rfl, ho1, hb2⟩; replace c0_0 := keep_cell (w1 := w2) hb2 c0_0; replace c0_1 := keep_cell (w1 := w2) hb2 c0_1; replace c0_2 := keep_cell (w1 := w2) hb2 c0_2; replace c1_0 := keep_cell (w1 := w2) hb2 c1_0; replace c1_1 := keep_cell (w1 := w2) hb2 c1_1; replace c1_2 := keep_cell (w1 := w2) hb2 c1_2; replace Ha := Lib.hid (Ha.out.below hb2 (Nat.le_refl _)); replace Hb := Lib.hid (Hb.out.below hb2 (Nat.le_refl _)); replace Hc := Lib.hid (Hc.out.below hb2 (Nat.le_refl _)); replace Hd := Lib.hid (Hd.out.below hb2 (Nat.le_refl _)); (try (replace Hp := Lib.hid (Hp.out.below hb2 (Nat.le_refl _)))); have Hq := Lib.hid (ho1.mono B0.size); clear ho1; obtain ⟨aq, cq, rfl, -, -, -, -, -⟩ := Hq.out.form; replace B0 := B0.trans (hb2.mono B0.size); clear hb2) | (go_at_call 75; refine (bigCmp_k _ _ _ _ _ p q c Hp.out Hq.out HC).mono ?_; rintro e w3 ⟨rfl, hb3⟩; replace c0_0 := keep_cell (w1 := w3) hb3 c0_0; replace c0_1 := keep_cell (w1 := w3) hb3 c0_1; replace c0_2 := keep_cell (w1 := w3) hb3 c0_2; replace c1_0 := keep_cell (w1 := w3) hb3 c1_0; replace c1_1 := keep_cell (w1 := w3) hb3 c1_1; replace c1_2 := keep_cell (w1 := w3) hb3 c1_2; replace Ha := Lib.hid (Ha.out.below hb3 (Nat.le_refl _)); replace Hb := Lib.hid (Hb.out.below hb3 (Nat.le_refl _)); replace Hc := Lib.hid (Hc.out.below hb3 (Nat.le_refl _)); replace Hd := Lib.hid (Hd.out.below hb3 (Nat.le_refl _)); (try (replace Hp := Lib.hid (Hp.out.below hb3 (Nat.le_refl _)))); (try (replace Hq := Lib.hid (Hq.out.below hb3 (Nat.le_refl _)))); replace B0 := B0.trans (hb3.mono B0.size); clear hb3))
  go_wp2
  go_ret
  exact retI rfl (BW.trans (B0.mono BW.size))

set_option maxHeartbeats 2000000 in
theorem RatCmp_bad (w : World) (b1 e1 : Nat) (s : Bool) (v1 u1 : Value) (xs ys : List Int) (h1 : Own w b1 v1 xs) (k1 : Own w e1 u1 ys) (b2 e2 : Nat) (t : Bool) (v2 u2 : Value) (zs ws : List Int) (h2 : Own w b2 v2 zs) (k2 : Own w e2 u2 ws) (hx : ¬ (OkR s xs ys ∧ OkR t zs ws)) :
    Calls Tryz.prog 14 #[.agg #[.bool s, v1, u1], .agg #[.bool t, v2, u2]] w (RetI w 0) := by
  have BW : Below w.heap.size w ((w.alloc (.cells #[.bool s, v1, u1] 27)).alloc (.cells #[.bool t, v2, u2] 27)) := (((Below.refl w.heap.size w).alloc (Nat.le_refl _) _).alloc (by simp) _)
  obtain ⟨c0_0, c0_1, c0_2, c1_0, c1_1, c1_2⟩ : World.cell? ((w.alloc (.cells #[.bool s, v1, u1] 27)).alloc (.cells #[.bool t, v2, u2] 27)) ⟨w.heap.size, 0, none⟩ = some (.bool s) ∧ World.cell? ((w.alloc (.cells #[.bool s, v1, u1] 27)).alloc (.cells #[.bool t, v2, u2] 27)) ⟨w.heap.size, 1, none⟩ = some (v1) ∧ World.cell? ((w.alloc (.cells #[.bool s, v1, u1] 27)).alloc (.cells #[.bool t, v2, u2] 27)) ⟨w.heap.size, 2, none⟩ = some (u1) ∧ World.cell? ((w.alloc (.cells #[.bool s, v1, u1] 27)).alloc (.cells #[.bool t, v2, u2] 27)) ⟨w.heap.size + 1, 0, none⟩ = some (.bool t) ∧ World.cell? ((w.alloc (.cells #[.bool s, v1, u1] 27)).alloc (.cells #[.bool t, v2, u2] 27)) ⟨w.heap.size + 1, 1, none⟩ = some (v2) ∧ World.cell? ((w.alloc (.cells #[.bool s, v1, u1] 27)).alloc (.cells #[.bool t, v2, u2] 27)) ⟨w.heap.size + 1, 2, none⟩ = some (u2) := by simp [go_sem]
  have Ha := Lib.hid (h1.below BW (Nat.le_refl _))
  have Hb := Lib.hid (k1.below BW (Nat.le_refl _))
  have Hc := Lib.hid (h2.below BW (Nat.le_refl _))
  have Hd := Lib.hid (k2.below BW (Nat.le_refl _))
  clear h1 k1 h2 k2
  have HX := Lib.hid hx
  clear hx
  go_enter Tryz.func14, Tryz.ntmps14
  go_wp2_with fail
  generalize ((w.alloc (.cells #[.bool s, v1, u1] 27)).alloc (.cells #[.bool t, v2, u2] 27)) = w0 at *
  have B0 := Below.refl w0.heap.size w0
  refine (both_f _ _ _ _ _ _ _ _ Ha.out Hb.out _ _ _ _ _ _ _ Hc.out Hd.out HX.out).mono ?_
  rintro e w1 ⟨rfl, hb⟩
  replace c0_0 := keep_cell hb c0_0
  replace c0_1 := keep_cell hb c0_1
  replace c0_2 := keep_cell hb c0_2
  replace c1_0 := keep_cell hb c1_0
  replace c1_1 := keep_cell hb c1_1
  replace c1_2 := keep_cell hb c1_2
  replace Ha := Lib.hid (Ha.out.below hb (Nat.le_refl _))
  replace Hb := Lib.hid (Hb.out.below hb (Nat.le_refl _))
  replace Hc := Lib.hid (Hc.out.below hb (Nat.le_refl _))
  replace Hd := Lib.hid (Hd.out.below hb (Nat.le_refl _))
  replace B0 := B0.trans (hb.mono B0.size)
  clear hb
  go_wp2
  go_ret
  exact retI rfl (BW.trans (B0.mono BW.size))

set_option maxHeartbeats 2000000 in
theorem RatCmp_good (w : World) (b1 e1 : Nat) (v1 u1 : Value) (x : Int) (d : Nat) (h1 : Own w b1 v1 (limbs x.natAbs)) (k1 : Own w e1 u1 (limbs d)) (b2 e2 : Nat) (v2 u2 : Value) (y : Int) (f : Nat) (h2 : Own w b2 v2 (limbs y.natAbs)) (k2 : Own w e2 u2 (limbs f)) (hq : IsQ x d) (hk : IsQ y f) (c : Int) (hc : c = qcmp x d y f) :
    Calls Tryz.prog 14 #[.agg #[.bool (ng x), v1, u1], .agg #[.bool (ng y), v2, u2]] w (RetI w c) := by
  have BW : Below w.heap.size w ((w.alloc (.cells #[.bool (ng x), v1, u1] 27)).alloc (.cells #[.bool (ng y), v2, u2] 27)) := (((Below.refl w.heap.size w).alloc (Nat.le_refl _) _).alloc (by simp) _)
  obtain ⟨c0_0, c0_1, c0_2, c1_0, c1_1, c1_2⟩ : World.cell? ((w.alloc (.cells #[.bool (ng x), v1, u1] 27)).alloc (.cells #[.bool (ng y), v2, u2] 27)) ⟨w.heap.size, 0, none⟩ = some (.bool (ng x)) ∧ World.cell? ((w.alloc (.cells #[.bool (ng x), v1, u1] 27)).alloc (.cells #[.bool (ng y), v2, u2] 27)) ⟨w.heap.size, 1, none⟩ = some (v1) ∧ World.cell? ((w.alloc (.cells #[.bool (ng x), v1, u1] 27)).alloc (.cells #[.bool (ng y), v2, u2] 27)) ⟨w.heap.size, 2, none⟩ = some (u1) ∧ World.cell? ((w.alloc (.cells #[.bool (ng x), v1, u1] 27)).alloc (.cells #[.bool (ng y), v2, u2] 27)) ⟨w.heap.size + 1, 0, none⟩ = some (.bool (ng y)) ∧ World.cell? ((w.alloc (.cells #[.bool (ng x), v1, u1] 27)).alloc (.cells #[.bool (ng y), v2, u2] 27)) ⟨w.heap.size + 1, 1, none⟩ = some (v2) ∧ World.cell? ((w.alloc (.cells #[.bool (ng x), v1, u1] 27)).alloc (.cells #[.bool (ng y), v2, u2] 27)) ⟨w.heap.size + 1, 2, none⟩ = some (u2) := by simp [go_sem]
  have Ha := Lib.hid (h1.below BW (Nat.le_refl _))
  have Hb := Lib.hid (k1.below BW (Nat.le_refl _))
  have Hc := Lib.hid (h2.below BW (Nat.le_refl _))
  have Hd := Lib.hid (k2.below BW (Nat.le_refl _))
  clear h1 k1 h2 k2
  have HX := Lib.hid hq
  have HY := Lib.hid hk
  have l1 := hq.2.2.1
  have l2 := hq.2.2.2
  have l3 := hk.2.2.1
  have l4 := hk.2.2.2
  unfold Fit at l1 l2 l3 l4
  have HC := Lib.hid hc
  clear hq hk hc
  go_enter Tryz.func14, Tryz.ntmps14
  go_wp2_with fail
  generalize ((w.alloc (.cells #[.bool (ng x), v1, u1] 27)).alloc (.cells #[.bool (ng y), v2, u2] 27)) = w0 at *
  have B0 := Below.refl w0.heap.size w0
  refine (both_t _ _ _ _ _ x d Ha.out Hb.out _ _ _ _ y f Hc.out Hd.out HX.out HY.out).mono ?_
  rintro e w1 ⟨rfl, hb⟩
  replace c0_0 := keep_cell hb c0_0
  replace c0_1 := keep_cell hb c0_1
  replace c0_2 := keep_cell hb c0_2
  replace c1_0 := keep_cell hb c1_0
  replace c1_1 := keep_cell hb c1_1
  replace c1_2 := keep_cell hb c1_2
  replace Ha := Lib.hid (Ha.out.below hb (Nat.le_refl _))
  replace Hb := Lib.hid (Hb.out.below hb (Nat.le_refl _))
  replace Hc := Lib.hid (Hc.out.below hb (Nat.le_refl _))
  replace Hd := Lib.hid (Hd.out.below hb (Nat.le_refl _))
  replace B0 := B0.trans (hb.mono B0.size)
  clear hb
  go_wp2_with fail
  refine (cmp_c _ _ _ _ _ x d Ha.out Hb.out _ _ _ _ y f Hc.out Hd.out l1 l2 l3 l4 c HC.out).mono ?_
  rintro e w2 ⟨rfl, hb⟩
  replace c0_0 := keep_cell hb c0_0
  replace c0_1 := keep_cell hb c0_1
  replace c0_2 := keep_cell hb c0_2
  replace c1_0 := keep_cell hb c1_0
  replace c1_1 := keep_cell hb c1_1
  replace c1_2 := keep_cell hb c1_2
  replace Ha := Lib.hid (Ha.out.below hb (Nat.le_refl _))
  replace Hb := Lib.hid (Hb.out.below hb (Nat.le_refl _))
  replace Hc := Lib.hid (Hc.out.below hb (Nat.le_refl _))
  replace Hd := Lib.hid (Hd.out.below hb (Nat.le_refl _))
  replace B0 := B0.trans (hb.mono B0.size)
  clear hb
  go_wp2
  go_ret
  exact retI rfl (BW.trans (B0.mono BW.size))

theorem RatCmp_c (w : World) (b1 e1 : Nat) (s : Bool) (v1 u1 : Value) (xs ys : List Int) (h1 : Own w b1 v1 xs) (k1 : Own w e1 u1 ys) (b2 e2 : Nat) (t : Bool) (v2 u2 : Value) (zs ws : List Int) (h2 : Own w b2 v2 zs) (k2 : Own w e2 u2 ws) : Calls Tryz.prog 14 #[.agg #[.bool s, v1, u1], .agg #[.bool t, v2, u2]] w (RetI w (qi2 qcmp s xs ys t zs ws)) := by
  by_cases h : OkR s xs ys ∧ OkR t zs ws
  · rw [show qi2 qcmp s xs ys t zs ws = qcmp (zv s xs) (nv ys).toNat (zv t zs) (nv ws).toNat from if_pos h]
    obtain ⟨x, d, rfl, rfl, rfl, hq, e3, e4⟩ := okR_q h.1
    obtain ⟨y, f, rfl, rfl, rfl, hk, e5, e6⟩ := okR_q h.2
    rw [e3, e4, e5, e6]
    exact RatCmp_good w b1 e1 v1 u1 x d h1 k1 b2 e2 v2 u2 y f h2 k2 hq hk _ rfl
  · rw [show qi2 qcmp s xs ys t zs ws = 0 from if_neg h]
    exact RatCmp_bad w b1 e1 s v1 u1 xs ys h1 k1 b2 e2 t v2 u2 zs ws h2 k2 h

end Go.Proofs.YtijeplcjbhkkoaaGreatDoor
