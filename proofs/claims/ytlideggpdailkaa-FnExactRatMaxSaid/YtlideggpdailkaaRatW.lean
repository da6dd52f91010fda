/- The reference's fractions: RatAdd, RatSub, RatNeg, RatMin, RatMax. -/
import Derived.Test.YtlideggpdailkaaRatU
namespace Go.Proofs.Ytlideggpdailkaa
open Go.RowKit Lm

theorem l04Add_c (w : World) (b1 e1 : Nat) (v1 u1 : Value) (x : Int) (d : Nat) (h1 : Own w b1 v1 (limbs x.natAbs)) (k1 : Own w e1 u1 (limbs d)) (b2 e2 : Nat) (v2 u2 : Value) (y : Int) (f : Nat) (h2 : Own w b2 v2 (limbs y.natAbs)) (k2 : Own w e2 u2 (limbs f)) (hq : IsQ0 x d) (hk : IsQ0 y f) (z : Int) (e : Nat) (hz : z = (qadd x d y f).1) (he : e = (qadd x d y f).2) :
    Calls Try.prog 87 #[.agg #[.bool (ng x), v1, u1], .agg #[.bool (ng y), v2, u2]] w (RetQ w z e) := by
  obtain ⟨l1, l2⟩ := hq.len
  obtain ⟨l3, l4⟩ := hk.len
  by_cases hd : d = 1
  · by_cases hf : f = 1
    · subst hd; subst hf
      have e0 : qadd x 1 y 1 = qlow (x + y) 1 := by
        unfold qadd
        rw [show x * ((1 : Nat) : Int) + y * ((1 : Nat) : Int) = x + y by omega, Nat.mul_one]
      rw [e0] at hz he
      exact l04Add_w w b1 e1 v1 u1 x h1 k1 b2 e2 v2 u2 y h2 k2 l1 l3 z e hz he
    · exact l04Add_2 w b1 e1 v1 u1 x d h1 k1 b2 e2 v2 u2 y f h2 k2 hd hf l1 l2 l3 l4 z e hz he
  · exact l04Add_1 w b1 e1 v1 u1 x d h1 k1 b2 e2 v2 u2 y f h2 k2 hd l1 l2 l3 l4 z e hz he

set_option maxHeartbeats 2000000 in
theorem sRatAdd_1 (w : World) (b1 e1 : Nat) (s : Bool) (v1 u1 : Value) (xs ys : List Int) (h1 : Own w b1 v1 xs) (k1 : Own w e1 u1 ys) (t : Bool) (v2 u2 : Value) (hx : ¬ OkR s xs ys) :
    Calls Try.prog 50 #[.agg #[.bool s, v1, u1], .agg #[.bool t, v2, u2]] w (RetQ w 0 0) := by
  have BW : Below w.heap.size w (((w.alloc (.cells #[.bool s, v1, u1] 31)).alloc (.cells #[.bool t, v2, u2] 31)).alloc (.cells #[.bool false, .slice none 0 0, .slice none 0 0] 31)) := ((((Below.refl w.heap.size w).alloc (Nat.le_refl _) _).alloc (by simp) _).alloc (by simp; omega) _)
  obtain ⟨c0_0, c0_1, c0_2, c1_0, c1_1, c1_2, c2_0, c2_1, c2_2, q0, q1, q2⟩ : World.cell? (((w.alloc (.cells #[.bool s, v1, u1] 31)).alloc (.cells #[.bool t, v2, u2] 31)).alloc (.cells #[.bool false, .slice none 0 0, .slice none 0 0] 31)) ⟨w.heap.size, 0, none⟩ = some (.bool s) ∧ World.cell? (((w.alloc (.cells #[.bool s, v1, u1] 31)).alloc (.cells #[.bool t, v2, u2] 31)).alloc (.cells #[.bool false, .slice none 0 0, .slice none 0 0] 31)) ⟨w.heap.size, 1, none⟩ = some (v1) ∧ World.cell? (((w.alloc (.cells #[.bool s, v1, u1] 31)).alloc (.cells #[.bool t, v2, u2] 31)).alloc (.cells #[.bool false, .slice none 0 0, .slice none 0 0] 31)) ⟨w.heap.size, 2, none⟩ = some (u1) ∧ World.cell? (((w.alloc (.cells #[.bool s, v1, u1] 31)).alloc (.cells #[.bool t, v2, u2] 31)).alloc (.cells #[.bool false, .slice none 0 0, .slice none 0 0] 31)) ⟨w.heap.size + 1, 0, none⟩ = some (.bool t) ∧ World.cell? (((w.alloc (.cells #[.bool s, v1, u1] 31)).alloc (.cells #[.bool t, v2, u2] 31)).alloc (.cells #[.bool false, .slice none 0 0, .slice none 0 0] 31)) ⟨w.heap.size + 1, 1, none⟩ = some (v2) ∧ World.cell? (((w.alloc (.cells #[.bool s, v1, u1] 31)).alloc (.cells #[.bool t, v2, u2] 31)).alloc (.cells #[.bool false, .slice none 0 0, .slice none 0 0] 31)) ⟨w.heap.size + 1, 2, none⟩ = some (u2) ∧ World.cell? (((w.alloc (.cells #[.bool s, v1, u1] 31)).alloc (.cells #[.bool t, v2, u2] 31)).alloc (.cells #[.bool false, .slice none 0 0, .slice none 0 0] 31)) ⟨w.heap.size + 1 + 1, 0, none⟩ = some (.bool false) ∧ World.cell? (((w.alloc (.cells #[.bool s, v1, u1] 31)).alloc (.cells #[.bool t, v2, u2] 31)).alloc (.cells #[.bool false, .slice none 0 0, .slice none 0 0] 31)) ⟨w.heap.size + 1 + 1, 1, none⟩ = some (.slice none 0 0) ∧ World.cell? (((w.alloc (.cells #[.bool s, v1, u1] 31)).alloc (.cells #[.bool t, v2, u2] 31)).alloc (.cells #[.bool false, .slice none 0 0, .slice none 0 0] 31)) ⟨w.heap.size + 1 + 1, 2, none⟩ = some (.slice none 0 0) ∧ World.frozen? (((w.alloc (.cells #[.bool s, v1, u1] 31)).alloc (.cells #[.bool t, v2, u2] 31)).alloc (.cells #[.bool false, .slice none 0 0, .slice none 0 0] 31)) ⟨w.heap.size + 1 + 1, 0, none⟩ = false ∧ World.frozen? (((w.alloc (.cells #[.bool s, v1, u1] 31)).alloc (.cells #[.bool t, v2, u2] 31)).alloc (.cells #[.bool false, .slice none 0 0, .slice none 0 0] 31)) ⟨w.heap.size + 1 + 1, 1, none⟩ = false ∧ World.frozen? (((w.alloc (.cells #[.bool s, v1, u1] 31)).alloc (.cells #[.bool t, v2, u2] 31)).alloc (.cells #[.bool false, .slice none 0 0, .slice none 0 0] 31)) ⟨w.heap.size + 1 + 1, 2, none⟩ = false := by simp [go_sem]
  have hg0 : w.heap.size + 1 + 1 < ((((w.alloc (.cells #[.bool s, v1, u1] 31)).alloc (.cells #[.bool t, v2, u2] 31)).alloc (.cells #[.bool false, .slice none 0 0, .slice none 0 0] 31))).heap.size := World.block_lt_of_cell? _ _ c2_0
  have Ha := Lib.hid (h1.below BW (Nat.le_refl _))
  have Hb := Lib.hid (k1.below BW (Nat.le_refl _))
  clear h1 k1
  have HX := Lib.hid hx
  clear hx
  go_enter Try.func50, Try.ntmps50
  go_wp2_with fail
  generalize (((w.alloc (.cells #[.bool s, v1, u1] 31)).alloc (.cells #[.bool t, v2, u2] 31)).alloc (.cells #[.bool false, .slice none 0 0, .slice none 0 0] 31)) = w0 at *
  have B0 := Below.refl w0.heap.size w0
  refine (sRatOk_f _ _ _ _ _ _ _ _ Ha.out Hb.out HX.out).mono ?_
  rintro e w1 ⟨rfl, hb⟩
  replace c0_0 := keep_cell hb c0_0
  replace c0_1 := keep_cell hb c0_1
  replace c0_2 := keep_cell hb c0_2
  replace c1_0 := keep_cell hb c1_0
  replace c1_1 := keep_cell hb c1_1
  replace c1_2 := keep_cell hb c1_2
  replace q0 := keep_frozen (w1 := w1) hb c2_0 q0
  replace c2_0 := keep_cell (w1 := w1) hb c2_0
  replace q1 := keep_frozen (w1 := w1) hb c2_1 q1
  replace c2_1 := keep_cell (w1 := w1) hb c2_1
  replace q2 := keep_frozen (w1 := w1) hb c2_2 q2
  replace c2_2 := keep_cell (w1 := w1) hb c2_2
  replace Ha := Lib.hid (Ha.out.below hb (Nat.le_refl _))
  replace Hb := Lib.hid (Hb.out.below hb (Nat.le_refl _))
  replace B0 := B0.trans (hb.mono B0.size)
  clear hb
  go_wp2
  exact bodyPost_ret (v := .agg #[.bool false, .slice none 0 0, .slice none 0 0]) (by simp [results, Try.results50, go_sem, c2_0, c2_1, c2_2]) rfl (retQ_nil (set3_below (BW.trans (B0.mono BW.size)) (by omega)))

set_option maxHeartbeats 2000000 in
theorem sRatAdd_2 (w : World) (b1 e1 : Nat) (s : Bool) (v1 u1 : Value) (xs ys : List Int) (h1 : Own w b1 v1 xs) (k1 : Own w e1 u1 ys) (b2 e2 : Nat) (t : Bool) (v2 u2 : Value) (zs ws : List Int) (h2 : Own w b2 v2 zs) (k2 : Own w e2 u2 ws) (hx : OkR s xs ys) (hy : ¬ OkR t zs ws) :
    Calls Try.prog 50 #[.agg #[.bool s, v1, u1], .agg #[.bool t, v2, u2]] w (RetQ w 0 0) := by
  have BW : Below w.heap.size w (((w.alloc (.cells #[.bool s, v1, u1] 31)).alloc (.cells #[.bool t, v2, u2] 31)).alloc (.cells #[.bool false, .slice none 0 0, .slice none 0 0] 31)) := ((((Below.refl w.heap.size w).alloc (Nat.le_refl _) _).alloc (by simp) _).alloc (by simp; omega) _)
  obtain ⟨c0_0, c0_1, c0_2, c1_0, c1_1, c1_2, c2_0, c2_1, c2_2, q0, q1, q2⟩ : World.cell? (((w.alloc (.cells #[.bool s, v1, u1] 31)).alloc (.cells #[.bool t, v2, u2] 31)).alloc (.cells #[.bool false, .slice none 0 0, .slice none 0 0] 31)) ⟨w.heap.size, 0, none⟩ = some (.bool s) ∧ World.cell? (((w.alloc (.cells #[.bool s, v1, u1] 31)).alloc (.cells #[.bool t, v2, u2] 31)).alloc (.cells #[.bool false, .slice none 0 0, .slice none 0 0] 31)) ⟨w.heap.size, 1, none⟩ = some (v1) ∧ World.cell? (((w.alloc (.cells #[.bool s, v1, u1] 31)).alloc (.cells #[.bool t, v2, u2] 31)).alloc (.cells #[.bool false, .slice none 0 0, .slice none 0 0] 31)) ⟨w.heap.size, 2, none⟩ = some (u1) ∧ World.cell? (((w.alloc (.cells #[.bool s, v1, u1] 31)).alloc (.cells #[.bool t, v2, u2] 31)).alloc (.cells #[.bool false, .slice none 0 0, .slice none 0 0] 31)) ⟨w.heap.size + 1, 0, none⟩ = some (.bool t) ∧ World.cell? (((w.alloc (.cells #[.bool s, v1, u1] 31)).alloc (.cells #[.bool t, v2, u2] 31)).alloc (.cells #[.bool false, .slice none 0 0, .slice none 0 0] 31)) ⟨w.heap.size + 1, 1, none⟩ = some (v2) ∧ World.cell? (((w.alloc (.cells #[.bool s, v1, u1] 31)).alloc (.cells #[.bool t, v2, u2] 31)).alloc (.cells #[.bool false, .slice none 0 0, .slice none 0 0] 31)) ⟨w.heap.size + 1, 2, none⟩ = some (u2) ∧ World.cell? (((w.alloc (.cells #[.bool s, v1, u1] 31)).alloc (.cells #[.bool t, v2, u2] 31)).alloc (.cells #[.bool false, .slice none 0 0, .slice none 0 0] 31)) ⟨w.heap.size + 1 + 1, 0, none⟩ = some (.bool false) ∧ World.cell? (((w.alloc (.cells #[.bool s, v1, u1] 31)).alloc (.cells #[.bool t, v2, u2] 31)).alloc (.cells #[.bool false, .slice none 0 0, .slice none 0 0] 31)) ⟨w.heap.size + 1 + 1, 1, none⟩ = some (.slice none 0 0) ∧ World.cell? (((w.alloc (.cells #[.bool s, v1, u1] 31)).alloc (.cells #[.bool t, v2, u2] 31)).alloc (.cells #[.bool false, .slice none 0 0, .slice none 0 0] 31)) ⟨w.heap.size + 1 + 1, 2, none⟩ = some (.slice none 0 0) ∧ World.frozen? (((w.alloc (.cells #[.bool s, v1, u1] 31)).alloc (.cells #[.bool t, v2, u2] 31)).alloc (.cells #[.bool false, .slice none 0 0, .slice none 0 0] 31)) ⟨w.heap.size + 1 + 1, 0, none⟩ = false ∧ World.frozen? (((w.alloc (.cells #[.bool s, v1, u1] 31)).alloc (.cells #[.bool t, v2, u2] 31)).alloc (.cells #[.bool false, .slice none 0 0, .slice none 0 0] 31)) ⟨w.heap.size + 1 + 1, 1, none⟩ = false ∧ World.frozen? (((w.alloc (.cells #[.bool s, v1, u1] 31)).alloc (.cells #[.bool t, v2, u2] 31)).alloc (.cells #[.bool false, .slice none 0 0, .slice none 0 0] 31)) ⟨w.heap.size + 1 + 1, 2, none⟩ = false := by simp [go_sem]
  have hg0 : w.heap.size + 1 + 1 < ((((w.alloc (.cells #[.bool s, v1, u1] 31)).alloc (.cells #[.bool t, v2, u2] 31)).alloc (.cells #[.bool false, .slice none 0 0, .slice none 0 0] 31))).heap.size := World.block_lt_of_cell? _ _ c2_0
  have Ha := Lib.hid (h1.below BW (Nat.le_refl _))
  have Hb := Lib.hid (k1.below BW (Nat.le_refl _))
  have Hc := Lib.hid (h2.below BW (Nat.le_refl _))
  have Hd := Lib.hid (k2.below BW (Nat.le_refl _))
  clear h1 k1 h2 k2
  have HX := Lib.hid hx
  have HY := Lib.hid hy
  clear hx hy
  go_enter Try.func50, Try.ntmps50
  go_wp2_with fail
  generalize (((w.alloc (.cells #[.bool s, v1, u1] 31)).alloc (.cells #[.bool t, v2, u2] 31)).alloc (.cells #[.bool false, .slice none 0 0, .slice none 0 0] 31)) = w0 at *
  have B0 := Below.refl w0.heap.size w0
  refine (sRatOk_t _ _ _ _ _ _ _ _ Ha.out Hb.out HX.out).mono ?_
  rintro e w1 ⟨rfl, hb⟩
  replace c0_0 := keep_cell hb c0_0
  replace c0_1 := keep_cell hb c0_1
  replace c0_2 := keep_cell hb c0_2
  replace c1_0 := keep_cell hb c1_0
  replace c1_1 := keep_cell hb c1_1
  replace c1_2 := keep_cell hb c1_2
  replace q0 := keep_frozen (w1 := w1) hb c2_0 q0
  replace c2_0 := keep_cell (w1 := w1) hb c2_0
  replace q1 := keep_frozen (w1 := w1) hb c2_1 q1
  replace c2_1 := keep_cell (w1 := w1) hb c2_1
  replace q2 := keep_frozen (w1 := w1) hb c2_2 q2
  replace c2_2 := keep_cell (w1 := w1) hb c2_2
  replace Ha := Lib.hid (Ha.out.below hb (Nat.le_refl _))
  replace Hb := Lib.hid (Hb.out.below hb (Nat.le_refl _))
  replace Hc := Lib.hid (Hc.out.below hb (Nat.le_refl _))
  replace Hd := Lib.hid (Hd.out.below hb (Nat.le_refl _))
  replace B0 := B0.trans (hb.mono B0.size)
  clear hb
  go_wp2_with fail
  refine (sRatOk_f _ _ _ _ _ _ _ _ Hc.out Hd.out HY.out).mono ?_
  rintro e w2 ⟨rfl, hb⟩
  replace c0_0 := keep_cell hb c0_0
  replace c0_1 := keep_cell hb c0_1
  replace c0_2 := keep_cell hb c0_2
  replace c1_0 := keep_cell hb c1_0
  replace c1_1 := keep_cell hb c1_1
  replace c1_2 := keep_cell hb c1_2
  replace q0 := keep_frozen (w1 := w2) hb c2_0 q0
  replace c2_0 := keep_cell (w1 := w2) hb c2_0
  replace q1 := keep_frozen (w1 := w2) hb c2_1 q1
  replace c2_1 := keep_cell (w1 := w2) hb c2_1
  replace q2 := keep_frozen (w1 := w2) hb c2_2 q2
  replace c2_2 := keep_cell (w1 := w2) hb c2_2
  replace Ha := Lib.hid (Ha.out.below hb (Nat.le_refl _))
  replace Hb := Lib.hid (Hb.out.below hb (Nat.le_refl _))
  replace Hc := Lib.hid (Hc.out.below hb (Nat.le_refl _))
  replace Hd := Lib.hid (Hd.out.below hb (Nat.le_refl _))
  replace B0 := B0.trans (hb.mono B0.size)
  clear hb
  go_wp2
  exact bodyPost_ret (v := .agg #[.bool false, .slice none 0 0, .slice none 0 0]) (by simp [results, Try.results50, go_sem, c2_0, c2_1, c2_2]) rfl (retQ_nil (set3_below (BW.trans (B0.mono BW.size)) (by omega)))

set_option maxHeartbeats 2000000 in
theorem sRatAdd_good (w : World) (b1 e1 : Nat) (v1 u1 : Value) (x : Int) (d : Nat) (h1 : Own w b1 v1 (limbs x.natAbs)) (k1 : Own w e1 u1 (limbs d)) (b2 e2 : Nat) (v2 u2 : Value) (y : Int) (f : Nat) (h2 : Own w b2 v2 (limbs y.natAbs)) (k2 : Own w e2 u2 (limbs f)) (hq : IsQ x d) (hk : IsQ y f) (z : Int) (e : Nat) (hz : z = (qadd x d y f).1) (he : e = (qadd x d y f).2) :
    Calls Try.prog 50 #[.agg #[.bool (ng x), v1, u1], .agg #[.bool (ng y), v2, u2]] w (RetQ w z e) := by
  have BW : Below w.heap.size w (((w.alloc (.cells #[.bool (ng x), v1, u1] 31)).alloc (.cells #[.bool (ng y), v2, u2] 31)).alloc (.cells #[.bool false, .slice none 0 0, .slice none 0 0] 31)) := ((((Below.refl w.heap.size w).alloc (Nat.le_refl _) _).alloc (by simp) _).alloc (by simp; omega) _)
  obtain ⟨c0_0, c0_1, c0_2, c1_0, c1_1, c1_2, c2_0, c2_1, c2_2, q0, q1, q2⟩ : World.cell? (((w.alloc (.cells #[.bool (ng x), v1, u1] 31)).alloc (.cells #[.bool (ng y), v2, u2] 31)).alloc (.cells #[.bool false, .slice none 0 0, .slice none 0 0] 31)) ⟨w.heap.size, 0, none⟩ = some (.bool (ng x)) ∧ World.cell? (((w.alloc (.cells #[.bool (ng x), v1, u1] 31)).alloc (.cells #[.bool (ng y), v2, u2] 31)).alloc (.cells #[.bool false, .slice none 0 0, .slice none 0 0] 31)) ⟨w.heap.size, 1, none⟩ = some (v1) ∧ World.cell? (((w.alloc (.cells #[.bool (ng x), v1, u1] 31)).alloc (.cells #[.bool (ng y), v2, u2] 31)).alloc (.cells #[.bool false, .slice none 0 0, .slice none 0 0] 31)) ⟨w.heap.size, 2, none⟩ = some (u1) ∧ World.cell? (((w.alloc (.cells #[.bool (ng x), v1, u1] 31)).alloc (.cells #[.bool (ng y), v2, u2] 31)).alloc (.cells #[.bool false, .slice none 0 0, .slice none 0 0] 31)) ⟨w.heap.size + 1, 0, none⟩ = some (.bool (ng y)) ∧ World.cell? (((w.alloc (.cells #[.bool (ng x), v1, u1] 31)).alloc (.cells #[.bool (ng y), v2, u2] 31)).alloc (.cells #[.bool false, .slice none 0 0, .slice none 0 0] 31)) ⟨w.heap.size + 1, 1, none⟩ = some (v2) ∧ World.cell? (((w.alloc (.cells #[.bool (ng x), v1, u1] 31)).alloc (.cells #[.bool (ng y), v2, u2] 31)).alloc (.cells #[.bool false, .slice none 0 0, .slice none 0 0] 31)) ⟨w.heap.size + 1, 2, none⟩ = some (u2) ∧ World.cell? (((w.alloc (.cells #[.bool (ng x), v1, u1] 31)).alloc (.cells #[.bool (ng y), v2, u2] 31)).alloc (.cells #[.bool false, .slice none 0 0, .slice none 0 0] 31)) ⟨w.heap.size + 1 + 1, 0, none⟩ = some (.bool false) ∧ World.cell? (((w.alloc (.cells #[.bool (ng x), v1, u1] 31)).alloc (.cells #[.bool (ng y), v2, u2] 31)).alloc (.cells #[.bool false, .slice none 0 0, .slice none 0 0] 31)) ⟨w.heap.size + 1 + 1, 1, none⟩ = some (.slice none 0 0) ∧ World.cell? (((w.alloc (.cells #[.bool (ng x), v1, u1] 31)).alloc (.cells #[.bool (ng y), v2, u2] 31)).alloc (.cells #[.bool false, .slice none 0 0, .slice none 0 0] 31)) ⟨w.heap.size + 1 + 1, 2, none⟩ = some (.slice none 0 0) ∧ World.frozen? (((w.alloc (.cells #[.bool (ng x), v1, u1] 31)).alloc (.cells #[.bool (ng y), v2, u2] 31)).alloc (.cells #[.bool false, .slice none 0 0, .slice none 0 0] 31)) ⟨w.heap.size + 1 + 1, 0, none⟩ = false ∧ World.frozen? (((w.alloc (.cells #[.bool (ng x), v1, u1] 31)).alloc (.cells #[.bool (ng y), v2, u2] 31)).alloc (.cells #[.bool false, .slice none 0 0, .slice none 0 0] 31)) ⟨w.heap.size + 1 + 1, 1, none⟩ = false ∧ World.frozen? (((w.alloc (.cells #[.bool (ng x), v1, u1] 31)).alloc (.cells #[.bool (ng y), v2, u2] 31)).alloc (.cells #[.bool false, .slice none 0 0, .slice none 0 0] 31)) ⟨w.heap.size + 1 + 1, 2, none⟩ = false := by simp [go_sem]
  have hg0 : w.heap.size + 1 + 1 < ((((w.alloc (.cells #[.bool (ng x), v1, u1] 31)).alloc (.cells #[.bool (ng y), v2, u2] 31)).alloc (.cells #[.bool false, .slice none 0 0, .slice none 0 0] 31))).heap.size := World.block_lt_of_cell? _ _ c2_0
  have Ha := Lib.hid (h1.below BW (Nat.le_refl _))
  have Hb := Lib.hid (k1.below BW (Nat.le_refl _))
  have Hc := Lib.hid (h2.below BW (Nat.le_refl _))
  have Hd := Lib.hid (k2.below BW (Nat.le_refl _))
  clear h1 k1 h2 k2
  have HX := Lib.hid hq
  have HY := Lib.hid hk
  have HZ := Lib.hid hz
  have HE := Lib.hid he
  clear hq hk hz he
  go_enter Try.func50, Try.ntmps50
  go_wp2_with fail
  generalize (((w.alloc (.cells #[.bool (ng x), v1, u1] 31)).alloc (.cells #[.bool (ng y), v2, u2] 31)).alloc (.cells #[.bool false, .slice none 0 0, .slice none 0 0] 31)) = w0 at *
  have B0 := Below.refl w0.heap.size w0
  refine (sRatOk_q _ _ _ _ _ x d Ha.out Hb.out HX.out).mono ?_
  rintro e w1 ⟨rfl, hb⟩
  replace c0_0 := keep_cell hb c0_0
  replace c0_1 := keep_cell hb c0_1
  replace c0_2 := keep_cell hb c0_2
  replace c1_0 := keep_cell hb c1_0
  replace c1_1 := keep_cell hb c1_1
  replace c1_2 := keep_cell hb c1_2
  replace q0 := keep_frozen (w1 := w1) hb c2_0 q0
  replace c2_0 := keep_cell (w1 := w1) hb c2_0
  replace q1 := keep_frozen (w1 := w1) hb c2_1 q1
  replace c2_1 := keep_cell (w1 := w1) hb c2_1
  replace q2 := keep_frozen (w1 := w1) hb c2_2 q2
  replace c2_2 := keep_cell (w1 := w1) hb c2_2
  replace Ha := Lib.hid (Ha.out.below hb (Nat.le_refl _))
  replace Hb := Lib.hid (Hb.out.below hb (Nat.le_refl _))
  replace Hc := Lib.hid (Hc.out.below hb (Nat.le_refl _))
  replace Hd := Lib.hid (Hd.out.below hb (Nat.le_refl _))
  replace B0 := B0.trans (hb.mono B0.size)
  clear hb
  go_wp2_with fail
  refine (sRatOk_q _ _ _ _ _ y f Hc.out Hd.out HY.out).mono ?_
  rintro e w2 ⟨rfl, hb⟩
  replace c0_0 := keep_cell hb c0_0
  replace c0_1 := keep_cell hb c0_1
  replace c0_2 := keep_cell hb c0_2
  replace c1_0 := keep_cell hb c1_0
  replace c1_1 := keep_cell hb c1_1
  replace c1_2 := keep_cell hb c1_2
  replace q0 := keep_frozen (w1 := w2) hb c2_0 q0
  replace c2_0 := keep_cell (w1 := w2) hb c2_0
  replace q1 := keep_frozen (w1 := w2) hb c2_1 q1
  replace c2_1 := keep_cell (w1 := w2) hb c2_1
  replace q2 := keep_frozen (w1 := w2) hb c2_2 q2
  replace c2_2 := keep_cell (w1 := w2) hb c2_2
  replace Ha := Lib.hid (Ha.out.below hb (Nat.le_refl _))
  replace Hb := Lib.hid (Hb.out.below hb (Nat.le_refl _))
  replace Hc := Lib.hid (Hc.out.below hb (Nat.le_refl _))
  replace Hd := Lib.hid (Hd.out.below hb (Nat.le_refl _))
  replace B0 := B0.trans (hb.mono B0.size)
  clear hb
  go_wp2_with fail
  refine (l04Add_c _ _ _ _ _ x d Ha.out Hb.out _ _ _ _ y f Hc.out Hd.out (.inl HX.out) (.inl HY.out) z e HZ.out HE.out).mono ?_
  rintro e w3 ⟨vr, vs, rfl, ho1, ho2, HAP, hb⟩
  replace c0_0 := keep_cell hb c0_0
  replace c0_1 := keep_cell hb c0_1
  replace c0_2 := keep_cell hb c0_2
  replace c1_0 := keep_cell hb c1_0
  replace c1_1 := keep_cell hb c1_1
  replace c1_2 := keep_cell hb c1_2
  replace q0 := keep_frozen (w1 := w3) hb c2_0 q0
  replace c2_0 := keep_cell (w1 := w3) hb c2_0
  replace q1 := keep_frozen (w1 := w3) hb c2_1 q1
  replace c2_1 := keep_cell (w1 := w3) hb c2_1
  replace q2 := keep_frozen (w1 := w3) hb c2_2 q2
  replace c2_2 := keep_cell (w1 := w3) hb c2_2
  replace Ha := Lib.hid (Ha.out.below hb (Nat.le_refl _))
  replace Hb := Lib.hid (Hb.out.below hb (Nat.le_refl _))
  replace Hc := Lib.hid (Hc.out.below hb (Nat.le_refl _))
  replace Hd := Lib.hid (Hd.out.below hb (Nat.le_refl _))
  have Hr := Lib.hid (ho1.mono B0.size)
  clear ho1
  have Hs := Lib.hid (ho2.mono B0.size)
  clear ho2
  obtain ⟨ar, cr, rfl, -, -, -, -, -⟩ := Hr.out.form
  obtain ⟨aS, cS, rfl, -, -, -, -, -⟩ := Hs.out.form
  replace B0 := B0.trans (hb.mono B0.size)
  clear hb
  go_wp2
  exact bodyPost_ret (v := .agg #[.bool (ng z), .slice ar (limbs z.natAbs).length cr, .slice aS (limbs e).length cS]) (by simp [results, Try.results50, go_sem, c2_0, c2_1, c2_2]) rfl (retR_end BW (by omega) hg0 B0 Hr.out Hs.out HAP)

theorem sRatAdd_c (w : World) (b1 e1 : Nat) (s : Bool) (v1 u1 : Value) (xs ys : List Int) (h1 : Own w b1 v1 xs) (k1 : Own w e1 u1 ys) (b2 e2 : Nat) (t : Bool) (v2 u2 : Value) (zs ws : List Int) (h2 : Own w b2 v2 zs) (k2 : Own w e2 u2 ws) : Calls Try.prog 50 #[.agg #[.bool s, v1, u1], .agg #[.bool t, v2, u2]] w (RetQ w (q2 qadd s xs ys t zs ws).1 (q2 qadd s xs ys t zs ws).2) := by
  by_cases hx : OkR s xs ys
  · by_cases hy : OkR t zs ws
    · rw [show q2 qadd s xs ys t zs ws = qadd (zv s xs) (nv ys).toNat (zv t zs) (nv ws).toNat from if_pos ⟨hx, hy⟩]
      obtain ⟨x, d, rfl, rfl, rfl, hq, e3, e4⟩ := okR_q hx
      obtain ⟨y, f, rfl, rfl, rfl, hk, e5, e6⟩ := okR_q hy
      rw [e3, e4, e5, e6]
      exact sRatAdd_good w b1 e1 v1 u1 x d h1 k1 b2 e2 v2 u2 y f h2 k2 hq hk _ _ rfl rfl
    · rw [show q2 qadd s xs ys t zs ws = (0, 0) from if_neg fun h => hy h.2]
      exact sRatAdd_2 w b1 e1 s v1 u1 xs ys h1 k1 b2 e2 t v2 u2 zs ws h2 k2 hx hy
  · rw [show q2 qadd s xs ys t zs ws = (0, 0) from if_neg fun h => hx h.1]
    exact sRatAdd_1 w b1 e1 s v1 u1 xs ys h1 k1 t v2 u2 hx

set_option maxHeartbeats 2000000 in
theorem sRatSub_1 (w : World) (b1 e1 : Nat) (s : Bool) (v1 u1 : Value) (xs ys : List Int) (h1 : Own w b1 v1 xs) (k1 : Own w e1 u1 ys) (t : Bool) (v2 u2 : Value) (hx : ¬ OkR s xs ys) :
    Calls Try.prog 52 #[.agg #[.bool s, v1, u1], .agg #[.bool t, v2, u2]] w (RetQ w 0 0) := by
  have BW : Below w.heap.size w (((w.alloc (.cells #[.bool s, v1, u1] 31)).alloc (.cells #[.bool t, v2, u2] 31)).alloc (.cells #[.bool false, .slice none 0 0, .slice none 0 0] 31)) := ((((Below.refl w.heap.size w).alloc (Nat.le_refl _) _).alloc (by simp) _).alloc (by simp; omega) _)
  obtain ⟨c0_0, c0_1, c0_2, c1_0, c1_1, c1_2, c2_0, c2_1, c2_2, q0, q1, q2⟩ : World.cell? (((w.alloc (.cells #[.bool s, v1, u1] 31)).alloc (.cells #[.bool t, v2, u2] 31)).alloc (.cells #[.bool false, .slice none 0 0, .slice none 0 0] 31)) ⟨w.heap.size, 0, none⟩ = some (.bool s) ∧ World.cell? (((w.alloc (.cells #[.bool s, v1, u1] 31)).alloc (.cells #[.bool t, v2, u2] 31)).alloc (.cells #[.bool false, .slice none 0 0, .slice none 0 0] 31)) ⟨w.heap.size, 1, none⟩ = some (v1) ∧ World.cell? (((w.alloc (.cells #[.bool s, v1, u1] 31)).alloc (.cells #[.bool t, v2, u2] 31)).alloc (.cells #[.bool false, .slice none 0 0, .slice none 0 0] 31)) ⟨w.heap.size, 2, none⟩ = some (u1) ∧ World.cell? (((w.alloc (.cells #[.bool s, v1, u1] 31)).alloc (.cells #[.bool t, v2, u2] 31)).alloc (.cells #[.bool false, .slice none 0 0, .slice none 0 0] 31)) ⟨w.heap.size + 1, 0, none⟩ = some (.bool t) ∧ World.cell? (((w.alloc (.cells #[.bool s, v1, u1] 31)).alloc (.cells #[.bool t, v2, u2] 31)).alloc (.cells #[.bool false, .slice none 0 0, .slice none 0 0] 31)) ⟨w.heap.size + 1, 1, none⟩ = some (v2) ∧ World.cell? (((w.alloc (.cells #[.bool s, v1, u1] 31)).alloc (.cells #[.bool t, v2, u2] 31)).alloc (.cells #[.bool false, .slice none 0 0, .slice none 0 0] 31)) ⟨w.heap.size + 1, 2, none⟩ = some (u2) ∧ World.cell? (((w.alloc (.cells #[.bool s, v1, u1] 31)).alloc (.cells #[.bool t, v2, u2] 31)).alloc (.cells #[.bool false, .slice none 0 0, .slice none 0 0] 31)) ⟨w.heap.size + 1 + 1, 0, none⟩ = some (.bool false) ∧ World.cell? (((w.alloc (.cells #[.bool s, v1, u1] 31)).alloc (.cells #[.bool t, v2, u2] 31)).alloc (.cells #[.bool false, .slice none 0 0, .slice none 0 0] 31)) ⟨w.heap.size + 1 + 1, 1, none⟩ = some (.slice none 0 0) ∧ World.cell? (((w.alloc (.cells #[.bool s, v1, u1] 31)).alloc (.cells #[.bool t, v2, u2] 31)).alloc (.cells #[.bool false, .slice none 0 0, .slice none 0 0] 31)) ⟨w.heap.size + 1 + 1, 2, none⟩ = some (.slice none 0 0) ∧ World.frozen? (((w.alloc (.cells #[.bool s, v1, u1] 31)).alloc (.cells #[.bool t, v2, u2] 31)).alloc (.cells #[.bool false, .slice none 0 0, .slice none 0 0] 31)) ⟨w.heap.size + 1 + 1, 0, none⟩ = false ∧ World.frozen? (((w.alloc (.cells #[.bool s, v1, u1] 31)).alloc (.cells #[.bool t, v2, u2] 31)).alloc (.cells #[.bool false, .slice none 0 0, .slice none 0 0] 31)) ⟨w.heap.size + 1 + 1, 1, none⟩ = false ∧ World.frozen? (((w.alloc (.cells #[.bool s, v1, u1] 31)).alloc (.cells #[.bool t, v2, u2] 31)).alloc (.cells #[.bool false, .slice none 0 0, .slice none 0 0] 31)) ⟨w.heap.size + 1 + 1, 2, none⟩ = false := by simp [go_sem]
  have hg0 : w.heap.size + 1 + 1 < ((((w.alloc (.cells #[.bool s, v1, u1] 31)).alloc (.cells #[.bool t, v2, u2] 31)).alloc (.cells #[.bool false, .slice none 0 0, .slice none 0 0] 31))).heap.size := World.block_lt_of_cell? _ _ c2_0
  have Ha := Lib.hid (h1.below BW (Nat.le_refl _))
  have Hb := Lib.hid (k1.below BW (Nat.le_refl _))
  clear h1 k1
  have HX := Lib.hid hx
  clear hx
  go_enter Try.func52, Try.ntmps52
  go_wp2_with fail
  generalize (((w.alloc (.cells #[.bool s, v1, u1] 31)).alloc (.cells #[.bool t, v2, u2] 31)).alloc (.cells #[.bool false, .slice none 0 0, .slice none 0 0] 31)) = w0 at *
  have B0 := Below.refl w0.heap.size w0
  refine (sRatOk_f _ _ _ _ _ _ _ _ Ha.out Hb.out HX.out).mono ?_
  rintro e w1 ⟨rfl, hb⟩
  replace c0_0 := keep_cell hb c0_0
  replace c0_1 := keep_cell hb c0_1
  replace c0_2 := keep_cell hb c0_2
  replace c1_0 := keep_cell hb c1_0
  replace c1_1 := keep_cell hb c1_1
  replace c1_2 := keep_cell hb c1_2
  replace q0 := keep_frozen (w1 := w1) hb c2_0 q0
  replace c2_0 := keep_cell (w1 := w1) hb c2_0
  replace q1 := keep_frozen (w1 := w1) hb c2_1 q1
  replace c2_1 := keep_cell (w1 := w1) hb c2_1
  replace q2 := keep_frozen (w1 := w1) hb c2_2 q2
  replace c2_2 := keep_cell (w1 := w1) hb c2_2
  replace Ha := Lib.hid (Ha.out.below hb (Nat.le_refl _))
  replace Hb := Lib.hid (Hb.out.below hb (Nat.le_refl _))
  replace B0 := B0.trans (hb.mono B0.size)
  clear hb
  go_wp2
  exact bodyPost_ret (v := .agg #[.bool false, .slice none 0 0, .slice none 0 0]) (by simp [results, Try.results52, go_sem, c2_0, c2_1, c2_2]) rfl (retQ_nil (set3_below (BW.trans (B0.mono BW.size)) (by omega)))

set_option maxHeartbeats 2000000 in
theorem sRatSub_2 (w : World) (b1 e1 : Nat) (s : Bool) (v1 u1 : Value) (xs ys : List Int) (h1 : Own w b1 v1 xs) (k1 : Own w e1 u1 ys) (b2 e2 : Nat) (t : Bool) (v2 u2 : Value) (zs ws : List Int) (h2 : Own w b2 v2 zs) (k2 : Own w e2 u2 ws) (hx : OkR s xs ys) (hy : ¬ OkR t zs ws) :
    Calls Try.prog 52 #[.agg #[.bool s, v1, u1], .agg #[.bool t, v2, u2]] w (RetQ w 0 0) := by
  have BW : Below w.heap.size w (((w.alloc (.cells #[.bool s, v1, u1] 31)).alloc (.cells #[.bool t, v2, u2] 31)).alloc (.cells #[.bool false, .slice none 0 0, .slice none 0 0] 31)) := ((((Below.refl w.heap.size w).alloc (Nat.le_refl _) _).alloc (by simp) _).alloc (by simp; omega) _)
  obtain ⟨c0_0, c0_1, c0_2, c1_0, c1_1, c1_2, c2_0, c2_1, c2_2, q0, q1, q2⟩ : World.cell? (((w.alloc (.cells #[.bool s, v1, u1] 31)).alloc (.cells #[.bool t, v2, u2] 31)).alloc (.cells #[.bool false, .slice none 0 0, .slice none 0 0] 31)) ⟨w.heap.size, 0, none⟩ = some (.bool s) ∧ World.cell? (((w.alloc (.cells #[.bool s, v1, u1] 31)).alloc (.cells #[.bool t, v2, u2] 31)).alloc (.cells #[.bool false, .slice none 0 0, .slice none 0 0] 31)) ⟨w.heap.size, 1, none⟩ = some (v1) ∧ World.cell? (((w.alloc (.cells #[.bool s, v1, u1] 31)).alloc (.cells #[.bool t, v2, u2] 31)).alloc (.cells #[.bool false, .slice none 0 0, .slice none 0 0] 31)) ⟨w.heap.size, 2, none⟩ = some (u1) ∧ World.cell? (((w.alloc (.cells #[.bool s, v1, u1] 31)).alloc (.cells #[.bool t, v2, u2] 31)).alloc (.cells #[.bool false, .slice none 0 0, .slice none 0 0] 31)) ⟨w.heap.size + 1, 0, none⟩ = some (.bool t) ∧ World.cell? (((w.alloc (.cells #[.bool s, v1, u1] 31)).alloc (.cells #[.bool t, v2, u2] 31)).alloc (.cells #[.bool false, .slice none 0 0, .slice none 0 0] 31)) ⟨w.heap.size + 1, 1, none⟩ = some (v2) ∧ World.cell? (((w.alloc (.cells #[.bool s, v1, u1] 31)).alloc (.cells #[.bool t, v2, u2] 31)).alloc (.cells #[.bool false, .slice none 0 0, .slice none 0 0] 31)) ⟨w.heap.size + 1, 2, none⟩ = some (u2) ∧ World.cell? (((w.alloc (.cells #[.bool s, v1, u1] 31)).alloc (.cells #[.bool t, v2, u2] 31)).alloc (.cells #[.bool false, .slice none 0 0, .slice none 0 0] 31)) ⟨w.heap.size + 1 + 1, 0, none⟩ = some (.bool false) ∧ World.cell? (((w.alloc (.cells #[.bool s, v1, u1] 31)).alloc (.cells #[.bool t, v2, u2] 31)).alloc (.cells #[.bool false, .slice none 0 0, .slice none 0 0] 31)) ⟨w.heap.size + 1 + 1, 1, none⟩ = some (.slice none 0 0) ∧ World.cell? (((w.alloc (.cells #[.bool s, v1, u1] 31)).alloc (.cells #[.bool t, v2, u2] 31)).alloc (.cells #[.bool false, .slice none 0 0, .slice none 0 0] 31)) ⟨w.heap.size + 1 + 1, 2, none⟩ = some (.slice none 0 0) ∧ World.frozen? (((w.alloc (.cells #[.bool s, v1, u1] 31)).alloc (.cells #[.bool t, v2, u2] 31)).alloc (.cells #[.bool false, .slice none 0 0, .slice none 0 0] 31)) ⟨w.heap.size + 1 + 1, 0, none⟩ = false ∧ World.frozen? (((w.alloc (.cells #[.bool s, v1, u1] 31)).alloc (.cells #[.bool t, v2, u2] 31)).alloc (.cells #[.bool false, .slice none 0 0, .slice none 0 0] 31)) ⟨w.heap.size + 1 + 1, 1, none⟩ = false ∧ World.frozen? (((w.alloc (.cells #[.bool s, v1, u1] 31)).alloc (.cells #[.bool t, v2, u2] 31)).alloc (.cells #[.bool false, .slice none 0 0, .slice none 0 0] 31)) ⟨w.heap.size + 1 + 1, 2, none⟩ = false := by simp [go_sem]
  have hg0 : w.heap.size + 1 + 1 < ((((w.alloc (.cells #[.bool s, v1, u1] 31)).alloc (.cells #[.bool t, v2, u2] 31)).alloc (.cells #[.bool false, .slice none 0 0, .slice none 0 0] 31))).heap.size := World.block_lt_of_cell? _ _ c2_0
  have Ha := Lib.hid (h1.below BW (Nat.le_refl _))
  have Hb := Lib.hid (k1.below BW (Nat.le_refl _))
  have Hc := Lib.hid (h2.below BW (Nat.le_refl _))
  have Hd := Lib.hid (k2.below BW (Nat.le_refl _))
  clear h1 k1 h2 k2
  have HX := Lib.hid hx
  have HY := Lib.hid hy
  clear hx hy
  go_enter Try.func52, Try.ntmps52
  go_wp2_with fail
  generalize (((w.alloc (.cells #[.bool s, v1, u1] 31)).alloc (.cells #[.bool t, v2, u2] 31)).alloc (.cells #[.bool false, .slice none 0 0, .slice none 0 0] 31)) = w0 at *
  have B0 := Below.refl w0.heap.size w0
  refine (sRatOk_t _ _ _ _ _ _ _ _ Ha.out Hb.out HX.out).mono ?_
  rintro e w1 ⟨rfl, hb⟩
  replace c0_0 := keep_cell hb c0_0
  replace c0_1 := keep_cell hb c0_1
  replace c0_2 := keep_cell hb c0_2
  replace c1_0 := keep_cell hb c1_0
  replace c1_1 := keep_cell hb c1_1
  replace c1_2 := keep_cell hb c1_2
  replace q0 := keep_frozen (w1 := w1) hb c2_0 q0
  replace c2_0 := keep_cell (w1 := w1) hb c2_0
  replace q1 := keep_frozen (w1 := w1) hb c2_1 q1
  replace c2_1 := keep_cell (w1 := w1) hb c2_1
  replace q2 := keep_frozen (w1 := w1) hb c2_2 q2
  replace c2_2 := keep_cell (w1 := w1) hb c2_2
  replace Ha := Lib.hid (Ha.out.below hb (Nat.le_refl _))
  replace Hb := Lib.hid (Hb.out.below hb (Nat.le_refl _))
  replace Hc := Lib.hid (Hc.out.below hb (Nat.le_refl _))
  replace Hd := Lib.hid (Hd.out.below hb (Nat.le_refl _))
  replace B0 := B0.trans (hb.mono B0.size)
  clear hb
  go_wp2_with fail
  refine (sRatOk_f _ _ _ _ _ _ _ _ Hc.out Hd.out HY.out).mono ?_
  rintro e w2 ⟨rfl, hb⟩
  replace c0_0 := keep_cell hb c0_0
  replace c0_1 := keep_cell hb c0_1
  replace c0_2 := keep_cell hb c0_2
  replace c1_0 := keep_cell hb c1_0
  replace c1_1 := keep_cell hb c1_1
  replace c1_2 := keep_cell hb c1_2
  replace q0 := keep_frozen (w1 := w2) hb c2_0 q0
  replace c2_0 := keep_cell (w1 := w2) hb c2_0
  replace q1 := keep_frozen (w1 := w2) hb c2_1 q1
  replace c2_1 := keep_cell (w1 := w2) hb c2_1
  replace q2 := keep_frozen (w1 := w2) hb c2_2 q2
  replace c2_2 := keep_cell (w1 := w2) hb c2_2
  replace Ha := Lib.hid (Ha.out.below hb (Nat.le_refl _))
  replace Hb := Lib.hid (Hb.out.below hb (Nat.le_refl _))
  replace Hc := Lib.hid (Hc.out.below hb (Nat.le_refl _))
  replace Hd := Lib.hid (Hd.out.below hb (Nat.le_refl _))
  replace B0 := B0.trans (hb.mono B0.size)
  clear hb
  go_wp2
  exact bodyPost_ret (v := .agg #[.bool false, .slice none 0 0, .slice none 0 0]) (by simp [results, Try.results52, go_sem, c2_0, c2_1, c2_2]) rfl (retQ_nil (set3_below (BW.trans (B0.mono BW.size)) (by omega)))

set_option maxHeartbeats 2000000 in
theorem sRatSub_good (w : World) (b1 e1 : Nat) (v1 u1 : Value) (x : Int) (d : Nat) (h1 : Own w b1 v1 (limbs x.natAbs)) (k1 : Own w e1 u1 (limbs d)) (b2 e2 : Nat) (v2 u2 : Value) (y : Int) (f : Nat) (h2 : Own w b2 v2 (limbs y.natAbs)) (k2 : Own w e2 u2 (limbs f)) (hq : IsQ x d) (hk : IsQ y f) (z : Int) (e : Nat) (hz : z = (qsub x d y f).1) (he : e = (qsub x d y f).2) :
    Calls Try.prog 52 #[.agg #[.bool (ng x), v1, u1], .agg #[.bool (ng y), v2, u2]] w (RetQ w z e) := by
  have BW : Below w.heap.size w (((w.alloc (.cells #[.bool (ng x), v1, u1] 31)).alloc (.cells #[.bool (ng y), v2, u2] 31)).alloc (.cells #[.bool false, .slice none 0 0, .slice none 0 0] 31)) := ((((Below.refl w.heap.size w).alloc (Nat.le_refl _) _).alloc (by simp) _).alloc (by simp; omega) _)
  obtain ⟨c0_0, c0_1, c0_2, c1_0, c1_1, c1_2, c2_0, c2_1, c2_2, q0, q1, q2⟩ : World.cell? (((w.alloc (.cells #[.bool (ng x), v1, u1] 31)).alloc (.cells #[.bool (ng y), v2, u2] 31)).alloc (.cells #[.bool false, .slice none 0 0, .slice none 0 0] 31)) ⟨w.heap.size, 0, none⟩ = some (.bool (ng x)) ∧ World.cell? (((w.alloc (.cells #[.bool (ng x), v1, u1] 31)).alloc (.cells #[.bool (ng y), v2, u2] 31)).alloc (.cells #[.bool false, .slice none 0 0, .slice none 0 0] 31)) ⟨w.heap.size, 1, none⟩ = some (v1) ∧ World.cell? (((w.alloc (.cells #[.bool (ng x), v1, u1] 31)).alloc (.cells #[.bool (ng y), v2, u2] 31)).alloc (.cells #[.bool false, .slice none 0 0, .slice none 0 0] 31)) ⟨w.heap.size, 2, none⟩ = some (u1) ∧ World.cell? (((w.alloc (.cells #[.bool (ng x), v1, u1] 31)).alloc (.cells #[.bool (ng y), v2, u2] 31)).alloc (.cells #[.bool false, .slice none 0 0, .slice none 0 0] 31)) ⟨w.heap.size + 1, 0, none⟩ = some (.bool (ng y)) ∧ World.cell? (((w.alloc (.cells #[.bool (ng x), v1, u1] 31)).alloc (.cells #[.bool (ng y), v2, u2] 31)).alloc (.cells #[.bool false, .slice none 0 0, .slice none 0 0] 31)) ⟨w.heap.size + 1, 1, none⟩ = some (v2) ∧ World.cell? (((w.alloc (.cells #[.bool (ng x), v1, u1] 31)).alloc (.cells #[.bool (ng y), v2, u2] 31)).alloc (.cells #[.bool false, .slice none 0 0, .slice none 0 0] 31)) ⟨w.heap.size + 1, 2, none⟩ = some (u2) ∧ World.cell? (((w.alloc (.cells #[.bool (ng x), v1, u1] 31)).alloc (.cells #[.bool (ng y), v2, u2] 31)).alloc (.cells #[.bool false, .slice none 0 0, .slice none 0 0] 31)) ⟨w.heap.size + 1 + 1, 0, none⟩ = some (.bool false) ∧ World.cell? (((w.alloc (.cells #[.bool (ng x), v1, u1] 31)).alloc (.cells #[.bool (ng y), v2, u2] 31)).alloc (.cells #[.bool false, .slice none 0 0, .slice none 0 0] 31)) ⟨w.heap.size + 1 + 1, 1, none⟩ = some (.slice none 0 0) ∧ World.cell? (((w.alloc (.cells #[.bool (ng x), v1, u1] 31)).alloc (.cells #[.bool (ng y), v2, u2] 31)).alloc (.cells #[.bool false, .slice none 0 0, .slice none 0 0] 31)) ⟨w.heap.size + 1 + 1, 2, none⟩ = some (.slice none 0 0) ∧ World.frozen? (((w.alloc (.cells #[.bool (ng x), v1, u1] 31)).alloc (.cells #[.bool (ng y), v2, u2] 31)).alloc (.cells #[.bool false, .slice none 0 0, .slice none 0 0] 31)) ⟨w.heap.size + 1 + 1, 0, none⟩ = false ∧ World.frozen? (((w.alloc (.cells #[.bool (ng x), v1, u1] 31)).alloc (.cells #[.bool (ng y), v2, u2] 31)).alloc (.cells #[.bool false, .slice none 0 0, .slice none 0 0] 31)) ⟨w.heap.size + 1 + 1, 1, none⟩ = false ∧ World.frozen? (((w.alloc (.cells #[.bool (ng x), v1, u1] 31)).alloc (.cells #[.bool (ng y), v2, u2] 31)).alloc (.cells #[.bool false, .slice none 0 0, .slice none 0 0] 31)) ⟨w.heap.size + 1 + 1, 2, none⟩ = false := by simp [go_sem]
  have hg0 : w.heap.size + 1 + 1 < ((((w.alloc (.cells #[.bool (ng x), v1, u1] 31)).alloc (.cells #[.bool (ng y), v2, u2] 31)).alloc (.cells #[.bool false, .slice none 0 0, .slice none 0 0] 31))).heap.size := World.block_lt_of_cell? _ _ c2_0
  have Ha := Lib.hid (h1.below BW (Nat.le_refl _))
  have Hb := Lib.hid (k1.below BW (Nat.le_refl _))
  have Hc := Lib.hid (h2.below BW (Nat.le_refl _))
  have Hd := Lib.hid (k2.below BW (Nat.le_refl _))
  clear h1 k1 h2 k2
  have HX := Lib.hid hq
  have HY := Lib.hid hk
  have m3 := hk.2.2.1
  have m4 := hk.2.2.2
  unfold Fit at m3 m4
  obtain ⟨yn, hyn⟩ : ∃ yn : Int, yn = -y := ⟨_, rfl⟩
  have HYN := Lib.hid hyn
  have HX0 : Hid (IsQ0 x d) := .inl hq
  have HYN0 : Hid (IsQ0 yn f) := by unfold Hid; rw [hyn]; exact .inl (isQ_neg hk)
  have HZ : Hid (z = (qadd x d yn f).1) := by unfold Hid; rw [hyn]; exact hz
  have HE : Hid (e = (qadd x d yn f).2) := by unfold Hid; rw [hyn]; exact he
  clear hq hk hz he hyn
  go_enter Try.func52, Try.ntmps52
  go_wp2_with fail
  generalize (((w.alloc (.cells #[.bool (ng x), v1, u1] 31)).alloc (.cells #[.bool (ng y), v2, u2] 31)).alloc (.cells #[.bool false, .slice none 0 0, .slice none 0 0] 31)) = w0 at *
  have B0 := Below.refl w0.heap.size w0
  refine (sRatOk_q _ _ _ _ _ x d Ha.out Hb.out HX.out).mono ?_
  rintro e w1 ⟨rfl, hb⟩
  replace c0_0 := keep_cell hb c0_0
  replace c0_1 := keep_cell hb c0_1
  replace c0_2 := keep_cell hb c0_2
  replace c1_0 := keep_cell hb c1_0
  replace c1_1 := keep_cell hb c1_1
  replace c1_2 := keep_cell hb c1_2
  replace q0 := keep_frozen (w1 := w1) hb c2_0 q0
  replace c2_0 := keep_cell (w1 := w1) hb c2_0
  replace q1 := keep_frozen (w1 := w1) hb c2_1 q1
  replace c2_1 := keep_cell (w1 := w1) hb c2_1
  replace q2 := keep_frozen (w1 := w1) hb c2_2 q2
  replace c2_2 := keep_cell (w1 := w1) hb c2_2
  replace Ha := Lib.hid (Ha.out.below hb (Nat.le_refl _))
  replace Hb := Lib.hid (Hb.out.below hb (Nat.le_refl _))
  replace Hc := Lib.hid (Hc.out.below hb (Nat.le_refl _))
  replace Hd := Lib.hid (Hd.out.below hb (Nat.le_refl _))
  replace B0 := B0.trans (hb.mono B0.size)
  clear hb
  go_wp2_with fail
  refine (sRatOk_q _ _ _ _ _ y f Hc.out Hd.out HY.out).mono ?_
  rintro e w2 ⟨rfl, hb⟩
  replace c0_0 := keep_cell hb c0_0
  replace c0_1 := keep_cell hb c0_1
  replace c0_2 := keep_cell hb c0_2
  replace c1_0 := keep_cell hb c1_0
  replace c1_1 := keep_cell hb c1_1
  replace c1_2 := keep_cell hb c1_2
  replace q0 := keep_frozen (w1 := w2) hb c2_0 q0
  replace c2_0 := keep_cell (w1 := w2) hb c2_0
  replace q1 := keep_frozen (w1 := w2) hb c2_1 q1
  replace c2_1 := keep_cell (w1 := w2) hb c2_1
  replace q2 := keep_frozen (w1 := w2) hb c2_2 q2
  replace c2_2 := keep_cell (w1 := w2) hb c2_2
  replace Ha := Lib.hid (Ha.out.below hb (Nat.le_refl _))
  replace Hb := Lib.hid (Hb.out.below hb (Nat.le_refl _))
  replace Hc := Lib.hid (Hc.out.below hb (Nat.le_refl _))
  replace Hd := Lib.hid (Hd.out.below hb (Nat.le_refl _))
  replace B0 := B0.trans (hb.mono B0.size)
  clear hb
  go_wp2_with fail
  replace Ha := Lib.hid Ha.out.drew
  replace Hb := Lib.hid Hb.out.drew
  replace Hc := Lib.hid Hc.out.drew
  replace Hd := Lib.hid Hd.out.drew
  replace B0 := below_drew B0
  replace q0 := frozen_drew q0
  replace c2_0 := cell_drew c2_0
  replace q1 := frozen_drew q1
  replace c2_1 := cell_drew c2_1
  replace q2 := frozen_drew q2
  replace c2_2 := cell_drew c2_2
  replace c0_0 := cell_drew c0_0
  replace c0_1 := cell_drew c0_1
  replace c0_2 := cell_drew c0_2
  replace c1_0 := cell_drew c1_0
  replace c1_1 := cell_drew c1_1
  replace c1_2 := cell_drew c1_2
  go_region_held3 (fun w' => w'.cell? ⟨w.heap.size, 0, none⟩ = some (.bool (ng x)) ∧ w'.cell? ⟨w.heap.size, 1, none⟩ = some (v1) ∧ w'.cell? ⟨w.heap.size, 2, none⟩ = some (u1) ∧ w'.cell? ⟨w.heap.size + 1, 0, none⟩ = some (.bool (ng y)) ∧ w'.cell? ⟨w.heap.size + 1, 1, none⟩ = some (v2) ∧ w'.cell? ⟨w.heap.size + 1, 2, none⟩ = some (u2)) (first | exact ⟨c0_0, c0_1, c0_2, c1_0, c1_1, c1_2⟩ | (go_split_ands; exact ⟨(set_far (set_far ‹_› (by dsimp only; omega)) (by dsimp only; omega)), (set_far (set_far ‹_› (by dsimp only; omega)) (by dsimp only; omega)), (set_far (set_far ‹_› (by dsimp only; omega)) (by dsimp only; omega)), (set_far (set_far ‹_› (by dsimp only; omega)) (by dsimp only; omega)), (set_far (set_far ‹_› (by dsimp only; omega)) (by dsimp only; omega)), (set_far (set_far ‹_› (by dsimp only; omega)) (by dsimp only; omega))⟩) | (go_split_ands; exact ⟨(set_far (set_far (set_far ‹_› (by dsimp only; omega)) (by dsimp only; omega)) (by dsimp only; omega)), (set_far (set_far (set_far ‹_› (by dsimp only; omega)) (by dsimp only; omega)) (by dsimp only; omega)), (set_far (set_far (set_far ‹_› (by dsimp only; omega)) (by dsimp only; omega)) (by dsimp only; omega)), (set_far (set_far (set_far ‹_› (by dsimp only; omega)) (by dsimp only; omega)) (by dsimp only; omega)), (set_far (set_far (set_far ‹_› (by dsimp only; omega)) (by dsimp only; omega)) (by dsimp only; omega)), (set_far (set_far (set_far ‹_› (by dsimp only; omega)) (by dsimp only; omega)) (by dsimp only; omega))⟩) | (go_split_ands; exact ⟨(set_far ‹_› (by dsimp only; omega)), (set_far ‹_› (by dsimp only; omega)), (set_far ‹_› (by dsimp only; omega)), (set_far ‹_› (by dsimp only; omega)), (set_far ‹_› (by dsimp only; omega)), (set_far ‹_› (by dsimp only; omega))⟩) | go_keep)
    (first | (go_at_call 79; refine (l04Neg_f _ _ _ _ _ y f Hc.out Hd.out m3 m4 yn HYN.out).mono ?_; rintro e w3 ⟨vn, vo, rfl, ho1, ho2, hap, hb3⟩; replace q0 := keep_frozen (w1 := w3) hb3 c2_0 q0; replace c2_0 := keep_cell (w1 := w3) hb3 c2_0; replace q1 := keep_frozen (w1 := w3) hb3 c2_1 q1; replace c2_1 := keep_cell (w1 := w3) hb3 c2_1; replace q2 := keep_frozen (w1 := w3) hb3 c2_2 q2; replace c2_2 := keep_cell (w1 := w3) hb3 c2_2; replace c0_0 := keep_cell (w1 := w3) hb3 c0_0; replace c0_1 := keep_cell (w1 := w3) hb3 c0_1; replace c0_2 := keep_cell (w1 := w3) hb3 c0_2; replace c1_0 := keep_cell (w1 := w3) hb3 c1_0; replace c1_1 := keep_cell (w1 := w3) hb3 c1_1; replace c1_2 := keep_cell (w1 := w3) hb3 c1_2; replace Ha := Lib.hid (Ha.out.below hb3 (Nat.le_refl _)); replace Hb := Lib.hid (Hb.out.below hb3 (Nat.le_refl _)); replace Hc := Lib.hid (Hc.out.below hb3 (Nat.le_refl _)); replace Hd := Lib.hid (Hd.out.below hb3 (Nat.le_refl _)); (try (replace Hr := Lib.hid (Hr.out.below hb3 (Nat.le_refl _)))); (try (replace Hs := Lib.hid (Hs.out.below hb3 (Nat.le_refl _)))); have Hn := Lib.hid (ho1.mono B0.size); clear ho1; have Ho := Lib.hid (ho2.mono B0.size); clear ho2; clear hap; replace B0 := B0.trans (hb3.mono B0.size); clear hb3) | (go_at_call 87; refine (l04Add_c _ _ _ _ _ x d Ha.out Hb.out _ _ _ _ yn f Hn.out Ho.out HX0.out HYN0.out z e HZ.out HE.out).mono ?_; rintro e w4 ⟨vr, vs, rfl, ho1, ho2, HAP, hb4⟩; replace q0 := keep_frozen (w1 := w4) hb4 c2_0 q0; replace c2_0 := keep_cell (w1 := w4) hb4 c2_0; replace q1 := keep_frozen (w1 := w4) hb4 c2_1 q1; replace c2_1 := keep_cell (w1 := w4) hb4 c2_1; replace q2 := keep_frozen (w1 := w4) hb4 c2_2 q2; replace c2_2 := keep_cell (w1 := w4) hb4 c2_2; replace c0_0 := keep_cell (w1 := w4) hb4 c0_0; replace c0_1 := keep_cell (w1 := w4) hb4 c0_1; replace c0_2 := keep_cell (w1 := w4) hb4 c0_2; replace c1_0 := keep_cell (w1 := w4) hb4 c1_0; replace c1_1 := keep_cell (w1 := w4) hb4 c1_1; replace c1_2 := keep_cell (w1 := w4) hb4 c1_2; replace Ha := Lib.hid (Ha.out.below hb4 (Nat.le_refl _)); replace Hb := Lib.hid (Hb.out.below hb4 (Nat.le_refl _)); replace Hc := Lib.hid (Hc.out.below hb4 (Nat.le_refl _)); replace Hd := Lib.hid (Hd.out.below hb4 (Nat.le_refl _)); (try (replace Hn := Lib.hid (Hn.out.below hb4 (Nat.le_refl _)))); (try (replace Ho := Lib.hid (Ho.out.below hb4 (Nat.le_refl _)))); have Hr := Lib.hid (ho1.mono B0.size); clear ho1; have Hs := Lib.hid (ho2.mono B0.size); clear ho2; obtain ⟨ar, cr, rfl, -, -, -, -, -⟩ := Hr.out.form; obtain ⟨aS, cS, rfl, -, -, -, -, -⟩ := Hs.out.form; replace B0 := B0.trans (hb4.mono B0.size); clear hb4))
  go_wp2
  exact bodyPost_ret (v := .agg #[.bool (ng z), .slice ar (limbs z.natAbs).length cr, .slice aS (limbs e).length cS]) (by simp [results, Try.results52, go_sem, c2_0, c2_1, c2_2]) rfl (retR_end BW (by omega) hg0 B0 Hr.out Hs.out HAP)

theorem sRatSub_c (w : World) (b1 e1 : Nat) (s : Bool) (v1 u1 : Value) (xs ys : List Int) (h1 : Own w b1 v1 xs) (k1 : Own w e1 u1 ys) (b2 e2 : Nat) (t : Bool) (v2 u2 : Value) (zs ws : List Int) (h2 : Own w b2 v2 zs) (k2 : Own w e2 u2 ws) : Calls Try.prog 52 #[.agg #[.bool s, v1, u1], .agg #[.bool t, v2, u2]] w (RetQ w (q2 qsub s xs ys t zs ws).1 (q2 qsub s xs ys t zs ws).2) := by
  by_cases hx : OkR s xs ys
  · by_cases hy : OkR t zs ws
    · rw [show q2 qsub s xs ys t zs ws = qsub (zv s xs) (nv ys).toNat (zv t zs) (nv ws).toNat from if_pos ⟨hx, hy⟩]
      obtain ⟨x, d, rfl, rfl, rfl, hq, e3, e4⟩ := okR_q hx
      obtain ⟨y, f, rfl, rfl, rfl, hk, e5, e6⟩ := okR_q hy
      rw [e3, e4, e5, e6]
      exact sRatSub_good w b1 e1 v1 u1 x d h1 k1 b2 e2 v2 u2 y f h2 k2 hq hk _ _ rfl rfl
    · rw [show q2 qsub s xs ys t zs ws = (0, 0) from if_neg fun h => hy h.2]
      exact sRatSub_2 w b1 e1 s v1 u1 xs ys h1 k1 b2 e2 t v2 u2 zs ws h2 k2 hx hy
  · rw [show q2 qsub s xs ys t zs ws = (0, 0) from if_neg fun h => hx h.1]
    exact sRatSub_1 w b1 e1 s v1 u1 xs ys h1 k1 t v2 u2 hx

set_option maxHeartbeats 2000000 in
theorem sRatNeg_bad (w : World) (b1 e1 : Nat) (s : Bool) (v1 u1 : Value) (xs ys : List Int) (h1 : Own w b1 v1 xs) (k1 : Own w e1 u1 ys) (hx : ¬ OkR s xs ys) :
    Calls Try.prog 38 #[.agg #[.bool s, v1, u1]] w (RetQ w 0 0) := by
  have BW : Below w.heap.size w ((w.alloc (.cells #[.bool s, v1, u1] 31)).alloc (.cells #[.bool false, .slice none 0 0, .slice none 0 0] 31)) := (((Below.refl w.heap.size w).alloc (Nat.le_refl _) _).alloc (by simp) _)
  obtain ⟨c0_0, c0_1, c0_2, c1_0, c1_1, c1_2, q0, q1, q2⟩ : World.cell? ((w.alloc (.cells #[.bool s, v1, u1] 31)).alloc (.cells #[.bool false, .slice none 0 0, .slice none 0 0] 31)) ⟨w.heap.size, 0, none⟩ = some (.bool s) ∧ World.cell? ((w.alloc (.cells #[.bool s, v1, u1] 31)).alloc (.cells #[.bool false, .slice none 0 0, .slice none 0 0] 31)) ⟨w.heap.size, 1, none⟩ = some (v1) ∧ World.cell? ((w.alloc (.cells #[.bool s, v1, u1] 31)).alloc (.cells #[.bool false, .slice none 0 0, .slice none 0 0] 31)) ⟨w.heap.size, 2, none⟩ = some (u1) ∧ World.cell? ((w.alloc (.cells #[.bool s, v1, u1] 31)).alloc (.cells #[.bool false, .slice none 0 0, .slice none 0 0] 31)) ⟨w.heap.size + 1, 0, none⟩ = some (.bool false) ∧ World.cell? ((w.alloc (.cells #[.bool s, v1, u1] 31)).alloc (.cells #[.bool false, .slice none 0 0, .slice none 0 0] 31)) ⟨w.heap.size + 1, 1, none⟩ = some (.slice none 0 0) ∧ World.cell? ((w.alloc (.cells #[.bool s, v1, u1] 31)).alloc (.cells #[.bool false, .slice none 0 0, .slice none 0 0] 31)) ⟨w.heap.size + 1, 2, none⟩ = some (.slice none 0 0) ∧ World.frozen? ((w.alloc (.cells #[.bool s, v1, u1] 31)).alloc (.cells #[.bool false, .slice none 0 0, .slice none 0 0] 31)) ⟨w.heap.size + 1, 0, none⟩ = false ∧ World.frozen? ((w.alloc (.cells #[.bool s, v1, u1] 31)).alloc (.cells #[.bool false, .slice none 0 0, .slice none 0 0] 31)) ⟨w.heap.size + 1, 1, none⟩ = false ∧ World.frozen? ((w.alloc (.cells #[.bool s, v1, u1] 31)).alloc (.cells #[.bool false, .slice none 0 0, .slice none 0 0] 31)) ⟨w.heap.size + 1, 2, none⟩ = false := by simp [go_sem]
  have hg0 : w.heap.size + 1 < (((w.alloc (.cells #[.bool s, v1, u1] 31)).alloc (.cells #[.bool false, .slice none 0 0, .slice none 0 0] 31))).heap.size := World.block_lt_of_cell? _ _ c1_0
  have Ha := Lib.hid (h1.below BW (Nat.le_refl _))
  have Hb := Lib.hid (k1.below BW (Nat.le_refl _))
  clear h1 k1
  have HX := Lib.hid hx
  clear hx
  go_enter Try.func38, Try.ntmps38
  go_wp2_with fail
  generalize ((w.alloc (.cells #[.bool s, v1, u1] 31)).alloc (.cells #[.bool false, .slice none 0 0, .slice none 0 0] 31)) = w0 at *
  have B0 := Below.refl w0.heap.size w0
  refine (sRatOk_f _ _ _ _ _ _ _ _ Ha.out Hb.out HX.out).mono ?_
  rintro e w1 ⟨rfl, hb⟩
  replace c0_0 := keep_cell hb c0_0
  replace c0_1 := keep_cell hb c0_1
  replace c0_2 := keep_cell hb c0_2
  replace q0 := keep_frozen (w1 := w1) hb c1_0 q0
  replace c1_0 := keep_cell (w1 := w1) hb c1_0
  replace q1 := keep_frozen (w1 := w1) hb c1_1 q1
  replace c1_1 := keep_cell (w1 := w1) hb c1_1
  replace q2 := keep_frozen (w1 := w1) hb c1_2 q2
  replace c1_2 := keep_cell (w1 := w1) hb c1_2
  replace Ha := Lib.hid (Ha.out.below hb (Nat.le_refl _))
  replace Hb := Lib.hid (Hb.out.below hb (Nat.le_refl _))
  replace B0 := B0.trans (hb.mono B0.size)
  clear hb
  go_wp2
  exact bodyPost_ret (v := .agg #[.bool false, .slice none 0 0, .slice none 0 0]) (by simp [results, Try.results38, go_sem, c1_0, c1_1, c1_2]) rfl (retQ_nil (set3_below (BW.trans (B0.mono BW.size)) (by omega)))

set_option maxHeartbeats 2000000 in
theorem sRatNeg_good (w : World) (b1 e1 : Nat) (v1 u1 : Value) (x : Int) (d : Nat) (h1 : Own w b1 v1 (limbs x.natAbs)) (k1 : Own w e1 u1 (limbs d)) (hq : IsQ x d) (z : Int) (hz : z = -x) :
    Calls Try.prog 38 #[.agg #[.bool (ng x), v1, u1]] w (RetQ w z d) := by
  have BW : Below w.heap.size w ((w.alloc (.cells #[.bool (ng x), v1, u1] 31)).alloc (.cells #[.bool false, .slice none 0 0, .slice none 0 0] 31)) := (((Below.refl w.heap.size w).alloc (Nat.le_refl _) _).alloc (by simp) _)
  obtain ⟨c0_0, c0_1, c0_2, c1_0, c1_1, c1_2, q0, q1, q2⟩ : World.cell? ((w.alloc (.cells #[.bool (ng x), v1, u1] 31)).alloc (.cells #[.bool false, .slice none 0 0, .slice none 0 0] 31)) ⟨w.heap.size, 0, none⟩ = some (.bool (ng x)) ∧ World.cell? ((w.alloc (.cells #[.bool (ng x), v1, u1] 31)).alloc (.cells #[.bool false, .slice none 0 0, .slice none 0 0] 31)) ⟨w.heap.size, 1, none⟩ = some (v1) ∧ World.cell? ((w.alloc (.cells #[.bool (ng x), v1, u1] 31)).alloc (.cells #[.bool false, .slice none 0 0, .slice none 0 0] 31)) ⟨w.heap.size, 2, none⟩ = some (u1) ∧ World.cell? ((w.alloc (.cells #[.bool (ng x), v1, u1] 31)).alloc (.cells #[.bool false, .slice none 0 0, .slice none 0 0] 31)) ⟨w.heap.size + 1, 0, none⟩ = some (.bool false) ∧ World.cell? ((w.alloc (.cells #[.bool (ng x), v1, u1] 31)).alloc (.cells #[.bool false, .slice none 0 0, .slice none 0 0] 31)) ⟨w.heap.size + 1, 1, none⟩ = some (.slice none 0 0) ∧ World.cell? ((w.alloc (.cells #[.bool (ng x), v1, u1] 31)).alloc (.cells #[.bool false, .slice none 0 0, .slice none 0 0] 31)) ⟨w.heap.size + 1, 2, none⟩ = some (.slice none 0 0) ∧ World.frozen? ((w.alloc (.cells #[.bool (ng x), v1, u1] 31)).alloc (.cells #[.bool false, .slice none 0 0, .slice none 0 0] 31)) ⟨w.heap.size + 1, 0, none⟩ = false ∧ World.frozen? ((w.alloc (.cells #[.bool (ng x), v1, u1] 31)).alloc (.cells #[.bool false, .slice none 0 0, .slice none 0 0] 31)) ⟨w.heap.size + 1, 1, none⟩ = false ∧ World.frozen? ((w.alloc (.cells #[.bool (ng x), v1, u1] 31)).alloc (.cells #[.bool false, .slice none 0 0, .slice none 0 0] 31)) ⟨w.heap.size + 1, 2, none⟩ = false := by simp [go_sem]
  have hg0 : w.heap.size + 1 < (((w.alloc (.cells #[.bool (ng x), v1, u1] 31)).alloc (.cells #[.bool false, .slice none 0 0, .slice none 0 0] 31))).heap.size := World.block_lt_of_cell? _ _ c1_0
  have Ha := Lib.hid (h1.below BW (Nat.le_refl _))
  have Hb := Lib.hid (k1.below BW (Nat.le_refl _))
  clear h1 k1
  have HX := Lib.hid hq
  have m1 := hq.2.2.1
  have m2 := hq.2.2.2
  unfold Fit at m1 m2
  have HZ := Lib.hid hz
  clear hq hz
  go_enter Try.func38, Try.ntmps38
  go_wp2_with fail
  generalize ((w.alloc (.cells #[.bool (ng x), v1, u1] 31)).alloc (.cells #[.bool false, .slice none 0 0, .slice none 0 0] 31)) = w0 at *
  have B0 := Below.refl w0.heap.size w0
  refine (sRatOk_q _ _ _ _ _ x d Ha.out Hb.out HX.out).mono ?_
  rintro e w1 ⟨rfl, hb⟩
  replace c0_0 := keep_cell hb c0_0
  replace c0_1 := keep_cell hb c0_1
  replace c0_2 := keep_cell hb c0_2
  replace q0 := keep_frozen (w1 := w1) hb c1_0 q0
  replace c1_0 := keep_cell (w1 := w1) hb c1_0
  replace q1 := keep_frozen (w1 := w1) hb c1_1 q1
  replace c1_1 := keep_cell (w1 := w1) hb c1_1
  replace q2 := keep_frozen (w1 := w1) hb c1_2 q2
  replace c1_2 := keep_cell (w1 := w1) hb c1_2
  replace Ha := Lib.hid (Ha.out.below hb (Nat.le_refl _))
  replace Hb := Lib.hid (Hb.out.below hb (Nat.le_refl _))
  replace B0 := B0.trans (hb.mono B0.size)
  clear hb
  go_wp2_with fail
  refine (l04Neg_f _ _ _ _ _ x d Ha.out Hb.out m1 m2 z HZ.out).mono ?_
  rintro e w2 ⟨vr, vs, rfl, ho1, ho2, HAP, hb⟩
  replace c0_0 := keep_cell hb c0_0
  replace c0_1 := keep_cell hb c0_1
  replace c0_2 := keep_cell hb c0_2
  replace q0 := keep_frozen (w1 := w2) hb c1_0 q0
  replace c1_0 := keep_cell (w1 := w2) hb c1_0
  replace q1 := keep_frozen (w1 := w2) hb c1_1 q1
  replace c1_1 := keep_cell (w1 := w2) hb c1_1
  replace q2 := keep_frozen (w1 := w2) hb c1_2 q2
  replace c1_2 := keep_cell (w1 := w2) hb c1_2
  replace Ha := Lib.hid (Ha.out.below hb (Nat.le_refl _))
  replace Hb := Lib.hid (Hb.out.below hb (Nat.le_refl _))
  have Hr := Lib.hid (ho1.mono B0.size)
  clear ho1
  have Hs := Lib.hid (ho2.mono B0.size)
  clear ho2
  obtain ⟨ar, cr, rfl, -, -, -, -, -⟩ := Hr.out.form
  obtain ⟨aS, cS, rfl, -, -, -, -, -⟩ := Hs.out.form
  replace B0 := B0.trans (hb.mono B0.size)
  clear hb
  go_wp2
  exact bodyPost_ret (v := .agg #[.bool (ng z), .slice ar (limbs z.natAbs).length cr, .slice aS (limbs d).length cS]) (by simp [results, Try.results38, go_sem, c1_0, c1_1, c1_2]) rfl (retR_end BW (by omega) hg0 B0 Hr.out Hs.out HAP)

theorem sRatNeg_c (w : World) (b1 e1 : Nat) (s : Bool) (v1 u1 : Value) (xs ys : List Int) (h1 : Own w b1 v1 xs) (k1 : Own w e1 u1 ys) : Calls Try.prog 38 #[.agg #[.bool s, v1, u1]] w (RetQ w (q1 qneg s xs ys).1 (q1 qneg s xs ys).2) := by
  by_cases h : OkR s xs ys
  · rw [show q1 qneg s xs ys = qneg (zv s xs) (nv ys).toNat from if_pos h]
    obtain ⟨x, d, rfl, rfl, rfl, hq, e3, e4⟩ := okR_q h
    rw [e3, e4]
    exact sRatNeg_good w b1 e1 v1 u1 x d h1 k1 hq _ rfl
  · rw [show q1 qneg s xs ys = (0, 0) from if_neg h]
    exact sRatNeg_bad w b1 e1 s v1 u1 xs ys h1 k1 h

set_option maxHeartbeats 2000000 in
theorem sRatMin_1 (w : World) (b1 e1 : Nat) (s : Bool) (v1 u1 : Value) (xs ys : List Int) (h1 : Own w b1 v1 xs) (k1 : Own w e1 u1 ys) (t : Bool) (v2 u2 : Value) (hx : ¬ OkR s xs ys) :
    Calls Try.prog 44 #[.agg #[.bool s, v1, u1], .agg #[.bool t, v2, u2]] w (RetQ w 0 0) := by
  have BW : Below w.heap.size w (((w.alloc (.cells #[.bool s, v1, u1] 31)).alloc (.cells #[.bool t, v2, u2] 31)).alloc (.cells #[.bool false, .slice none 0 0, .slice none 0 0] 31)) := ((((Below.refl w.heap.size w).alloc (Nat.le_refl _) _).alloc (by simp) _).alloc (by simp; omega) _)
  obtain ⟨c0_0, c0_1, c0_2, c1_0, c1_1, c1_2, c2_0, c2_1, c2_2, q0, q1, q2⟩ : World.cell? (((w.alloc (.cells #[.bool s, v1, u1] 31)).alloc (.cells #[.bool t, v2, u2] 31)).alloc (.cells #[.bool false, .slice none 0 0, .slice none 0 0] 31)) ⟨w.heap.size, 0, none⟩ = some (.bool s) ∧ World.cell? (((w.alloc (.cells #[.bool s, v1, u1] 31)).alloc (.cells #[.bool t, v2, u2] 31)).alloc (.cells #[.bool false, .slice none 0 0, .slice none 0 0] 31)) ⟨w.heap.size, 1, none⟩ = some (v1) ∧ World.cell? (((w.alloc (.cells #[.bool s, v1, u1] 31)).alloc (.cells #[.bool t, v2, u2] 31)).alloc (.cells #[.bool false, .slice none 0 0, .slice none 0 0] 31)) ⟨w.heap.size, 2, none⟩ = some (u1) ∧ World.cell? (((w.alloc (.cells #[.bool s, v1, u1] 31)).alloc (.cells #[.bool t, v2, u2] 31)).alloc (.cells #[.bool false, .slice none 0 0, .slice none 0 0] 31)) ⟨w.heap.size + 1, 0, none⟩ = some (.bool t) ∧ World.cell? (((w.alloc (.cells #[.bool s, v1, u1] 31)).alloc (.cells #[.bool t, v2, u2] 31)).alloc (.cells #[.bool false, .slice none 0 0, .slice none 0 0] 31)) ⟨w.heap.size + 1, 1, none⟩ = some (v2) ∧ World.cell? (((w.alloc (.cells #[.bool s, v1, u1] 31)).alloc (.cells #[.bool t, v2, u2] 31)).alloc (.cells #[.bool false, .slice none 0 0, .slice none 0 0] 31)) ⟨w.heap.size + 1, 2, none⟩ = some (u2) ∧ World.cell? (((w.alloc (.cells #[.bool s, v1, u1] 31)).alloc (.cells #[.bool t, v2, u2] 31)).alloc (.cells #[.bool false, .slice none 0 0, .slice none 0 0] 31)) ⟨w.heap.size + 1 + 1, 0, none⟩ = some (.bool false) ∧ World.cell? (((w.alloc (.cells #[.bool s, v1, u1] 31)).alloc (.cells #[.bool t, v2, u2] 31)).alloc (.cells #[.bool false, .slice none 0 0, .slice none 0 0] 31)) ⟨w.heap.size + 1 + 1, 1, none⟩ = some (.slice none 0 0) ∧ World.cell? (((w.alloc (.cells #[.bool s, v1, u1] 31)).alloc (.cells #[.bool t, v2, u2] 31)).alloc (.cells #[.bool false, .slice none 0 0, .slice none 0 0] 31)) ⟨w.heap.size + 1 + 1, 2, none⟩ = some (.slice none 0 0) ∧ World.frozen? (((w.alloc (.cells #[.bool s, v1, u1] 31)).alloc (.cells #[.bool t, v2, u2] 31)).alloc (.cells #[.bool false, .slice none 0 0, .slice none 0 0] 31)) ⟨w.heap.size + 1 + 1, 0, none⟩ = false ∧ World.frozen? (((w.alloc (.cells #[.bool s, v1, u1] 31)).alloc (.cells #[.bool t, v2, u2] 31)).alloc (.cells #[.bool false, .slice none 0 0, .slice none 0 0] 31)) ⟨w.heap.size + 1 + 1, 1, none⟩ = false ∧ World.frozen? (((w.alloc (.cells #[.bool s, v1, u1] 31)).alloc (.cells #[.bool t, v2, u2] 31)).alloc (.cells #[.bool false, .slice none 0 0, .slice none 0 0] 31)) ⟨w.heap.size + 1 + 1, 2, none⟩ = false := by simp [go_sem]
  have hg0 : w.heap.size + 1 + 1 < ((((w.alloc (.cells #[.bool s, v1, u1] 31)).alloc (.cells #[.bool t, v2, u2] 31)).alloc (.cells #[.bool false, .slice none 0 0, .slice none 0 0] 31))).heap.size := World.block_lt_of_cell? _ _ c2_0
  have Ha := Lib.hid (h1.below BW (Nat.le_refl _))
  have Hb := Lib.hid (k1.below BW (Nat.le_refl _))
  clear h1 k1
  have HX := Lib.hid hx
  clear hx
  go_enter Try.func44, Try.ntmps44
  go_wp2_with fail
  generalize (((w.alloc (.cells #[.bool s, v1, u1] 31)).alloc (.cells #[.bool t, v2, u2] 31)).alloc (.cells #[.bool false, .slice none 0 0, .slice none 0 0] 31)) = w0 at *
  have B0 := Below.refl w0.heap.size w0
  refine (sRatOk_f _ _ _ _ _ _ _ _ Ha.out Hb.out HX.out).mono ?_
  rintro e w1 ⟨rfl, hb⟩
  replace c0_0 := keep_cell hb c0_0
  replace c0_1 := keep_cell hb c0_1
  replace c0_2 := keep_cell hb c0_2
  replace c1_0 := keep_cell hb c1_0
  replace c1_1 := keep_cell hb c1_1
  replace c1_2 := keep_cell hb c1_2
  replace q0 := keep_frozen (w1 := w1) hb c2_0 q0
  replace c2_0 := keep_cell (w1 := w1) hb c2_0
  replace q1 := keep_frozen (w1 := w1) hb c2_1 q1
  replace c2_1 := keep_cell (w1 := w1) hb c2_1
  replace q2 := keep_frozen (w1 := w1) hb c2_2 q2
  replace c2_2 := keep_cell (w1 := w1) hb c2_2
  replace Ha := Lib.hid (Ha.out.below hb (Nat.le_refl _))
  replace Hb := Lib.hid (Hb.out.below hb (Nat.le_refl _))
  replace B0 := B0.trans (hb.mono B0.size)
  clear hb
  go_wp2
  exact bodyPost_ret (v := .agg #[.bool false, .slice none 0 0, .slice none 0 0]) (by simp [results, Try.results44, go_sem, c2_0, c2_1, c2_2]) rfl (retQ_nil (set3_below (BW.trans (B0.mono BW.size)) (by omega)))

set_option maxHeartbeats 2000000 in
theorem sRatMin_2 (w : World) (b1 e1 : Nat) (s : Bool) (v1 u1 : Value) (xs ys : List Int) (h1 : Own w b1 v1 xs) (k1 : Own w e1 u1 ys) (b2 e2 : Nat) (t : Bool) (v2 u2 : Value) (zs ws : List Int) (h2 : Own w b2 v2 zs) (k2 : Own w e2 u2 ws) (hx : OkR s xs ys) (hy : ¬ OkR t zs ws) :
    Calls Try.prog 44 #[.agg #[.bool s, v1, u1], .agg #[.bool t, v2, u2]] w (RetQ w 0 0) := by
  have BW : Below w.heap.size w (((w.alloc (.cells #[.bool s, v1, u1] 31)).alloc (.cells #[.bool t, v2, u2] 31)).alloc (.cells #[.bool false, .slice none 0 0, .slice none 0 0] 31)) := ((((Below.refl w.heap.size w).alloc (Nat.le_refl _) _).alloc (by simp) _).alloc (by simp; omega) _)
  obtain ⟨c0_0, c0_1, c0_2, c1_0, c1_1, c1_2, c2_0, c2_1, c2_2, q0, q1, q2⟩ : World.cell? (((w.alloc (.cells #[.bool s, v1, u1] 31)).alloc (.cells #[.bool t, v2, u2] 31)).alloc (.cells #[.bool false, .slice none 0 0, .slice none 0 0] 31)) ⟨w.heap.size, 0, none⟩ = some (.bool s) ∧ World.cell? (((w.alloc (.cells #[.bool s, v1, u1] 31)).alloc (.cells #[.bool t, v2, u2] 31)).alloc (.cells #[.bool false, .slice none 0 0, .slice none 0 0] 31)) ⟨w.heap.size, 1, none⟩ = some (v1) ∧ World.cell? (((w.alloc (.cells #[.bool s, v1, u1] 31)).alloc (.cells #[.bool t, v2, u2] 31)).alloc (.cells #[.bool false, .slice none 0 0, .slice none 0 0] 31)) ⟨w.heap.size, 2, none⟩ = some (u1) ∧ World.cell? (((w.alloc (.cells #[.bool s, v1, u1] 31)).alloc (.cells #[.bool t, v2, u2] 31)).alloc (.cells #[.bool false, .slice none 0 0, .slice none 0 0] 31)) ⟨w.heap.size + 1, 0, none⟩ = some (.bool t) ∧ World.cell? (((w.alloc (.cells #[.bool s, v1, u1] 31)).alloc (.cells #[.bool t, v2, u2] 31)).alloc (.cells #[.bool false, .slice none 0 0, .slice none 0 0] 31)) ⟨w.heap.size + 1, 1, none⟩ = some (v2) ∧ World.cell? (((w.alloc (.cells #[.bool s, v1, u1] 31)).alloc (.cells #[.bool t, v2, u2] 31)).alloc (.cells #[.bool false, .slice none 0 0, .slice none 0 0] 31)) ⟨w.heap.size + 1, 2, none⟩ = some (u2) ∧ World.cell? (((w.alloc (.cells #[.bool s, v1, u1] 31)).alloc (.cells #[.bool t, v2, u2] 31)).alloc (.cells #[.bool false, .slice none 0 0, .slice none 0 0] 31)) ⟨w.heap.size + 1 + 1, 0, none⟩ = some (.bool false) ∧ World.cell? (((w.alloc (.cells #[.bool s, v1, u1] 31)).alloc (.cells #[.bool t, v2, u2] 31)).alloc (.cells #[.bool false, .slice none 0 0, .slice none 0 0] 31)) ⟨w.heap.size + 1 + 1, 1, none⟩ = some (.slice none 0 0) ∧ World.cell? (((w.alloc (.cells #[.bool s, v1, u1] 31)).alloc (.cells #[.bool t, v2, u2] 31)).alloc (.cells #[.bool false, .slice none 0 0, .slice none 0 0] 31)) ⟨w.heap.size + 1 + 1, 2, none⟩ = some (.slice none 0 0) ∧ World.frozen? (((w.alloc (.cells #[.bool s, v1, u1] 31)).alloc (.cells #[.bool t, v2, u2] 31)).alloc (.cells #[.bool false, .slice none 0 0, .slice none 0 0] 31)) ⟨w.heap.size + 1 + 1, 0, none⟩ = false ∧ World.frozen? (((w.alloc (.cells #[.bool s, v1, u1] 31)).alloc (.cells #[.bool t, v2, u2] 31)).alloc (.cells #[.bool false, .slice none 0 0, .slice none 0 0] 31)) ⟨w.heap.size + 1 + 1, 1, none⟩ = false ∧ World.frozen? (((w.alloc (.cells #[.bool s, v1, u1] 31)).alloc (.cells #[.bool t, v2, u2] 31)).alloc (.cells #[.bool false, .slice none 0 0, .slice none 0 0] 31)) ⟨w.heap.size + 1 + 1, 2, none⟩ = false := by simp [go_sem]
  have hg0 : w.heap.size + 1 + 1 < ((((w.alloc (.cells #[.bool s, v1, u1] 31)).alloc (.cells #[.bool t, v2, u2] 31)).alloc (.cells #[.bool false, .slice none 0 0, .slice none 0 0] 31))).heap.size := World.block_lt_of_cell? _ _ c2_0
  have Ha := Lib.hid (h1.below BW (Nat.le_refl _))
  have Hb := Lib.hid (k1.below BW (Nat.le_refl _))
  have Hc := Lib.hid (h2.below BW (Nat.le_refl _))
  have Hd := Lib.hid (k2.below BW (Nat.le_refl _))
  clear h1 k1 h2 k2
  have HX := Lib.hid hx
  have HY := Lib.hid hy
  clear hx hy
  go_enter Try.func44, Try.ntmps44
  go_wp2_with fail
  generalize (((w.alloc (.cells #[.bool s, v1, u1] 31)).alloc (.cells #[.bool t, v2, u2] 31)).alloc (.cells #[.bool false, .slice none 0 0, .slice none 0 0] 31)) = w0 at *
  have B0 := Below.refl w0.heap.size w0
  refine (sRatOk_t _ _ _ _ _ _ _ _ Ha.out Hb.out HX.out).mono ?_
  rintro e w1 ⟨rfl, hb⟩
  replace c0_0 := keep_cell hb c0_0
  replace c0_1 := keep_cell hb c0_1
  replace c0_2 := keep_cell hb c0_2
  replace c1_0 := keep_cell hb c1_0
  replace c1_1 := keep_cell hb c1_1
  replace c1_2 := keep_cell hb c1_2
  replace q0 := keep_frozen (w1 := w1) hb c2_0 q0
  replace c2_0 := keep_cell (w1 := w1) hb c2_0
  replace q1 := keep_frozen (w1 := w1) hb c2_1 q1
  replace c2_1 := keep_cell (w1 := w1) hb c2_1
  replace q2 := keep_frozen (w1 := w1) hb c2_2 q2
  replace c2_2 := keep_cell (w1 := w1) hb c2_2
  replace Ha := Lib.hid (Ha.out.below hb (Nat.le_refl _))
  replace Hb := Lib.hid (Hb.out.below hb (Nat.le_refl _))
  replace Hc := Lib.hid (Hc.out.below hb (Nat.le_refl _))
  replace Hd := Lib.hid (Hd.out.below hb (Nat.le_refl _))
  replace B0 := B0.trans (hb.mono B0.size)
  clear hb
  go_wp2_with fail
  refine (sRatOk_f _ _ _ _ _ _ _ _ Hc.out Hd.out HY.out).mono ?_
  rintro e w2 ⟨rfl, hb⟩
  replace c0_0 := keep_cell hb c0_0
  replace c0_1 := keep_cell hb c0_1
  replace c0_2 := keep_cell hb c0_2
  replace c1_0 := keep_cell hb c1_0
  replace c1_1 := keep_cell hb c1_1
  replace c1_2 := keep_cell hb c1_2
  replace q0 := keep_frozen (w1 := w2) hb c2_0 q0
  replace c2_0 := keep_cell (w1 := w2) hb c2_0
  replace q1 := keep_frozen (w1 := w2) hb c2_1 q1
  replace c2_1 := keep_cell (w1 := w2) hb c2_1
  replace q2 := keep_frozen (w1 := w2) hb c2_2 q2
  replace c2_2 := keep_cell (w1 := w2) hb c2_2
  replace Ha := Lib.hid (Ha.out.below hb (Nat.le_refl _))
  replace Hb := Lib.hid (Hb.out.below hb (Nat.le_refl _))
  replace Hc := Lib.hid (Hc.out.below hb (Nat.le_refl _))
  replace Hd := Lib.hid (Hd.out.below hb (Nat.le_refl _))
  replace B0 := B0.trans (hb.mono B0.size)
  clear hb
  go_wp2
  exact bodyPost_ret (v := .agg #[.bool false, .slice none 0 0, .slice none 0 0]) (by simp [results, Try.results44, go_sem, c2_0, c2_1, c2_2]) rfl (retQ_nil (set3_below (BW.trans (B0.mono BW.size)) (by omega)))

set_option maxHeartbeats 2000000 in
theorem sRatMin_le (w : World) (b1 e1 : Nat) (v1 u1 : Value) (x : Int) (d : Nat) (h1 : Own w b1 v1 (limbs x.natAbs)) (k1 : Own w e1 u1 (limbs d)) (b2 e2 : Nat) (v2 u2 : Value) (y : Int) (f : Nat) (h2 : Own w b2 v2 (limbs y.natAbs)) (k2 : Own w e2 u2 (limbs f)) (hq : IsQ x d) (hk : IsQ y f) (c : Int) (hc : c = qcmp x d y f) (ht : c ≤ 0) :
    Calls Try.prog 44 #[.agg #[.bool (ng x), v1, u1], .agg #[.bool (ng y), v2, u2]] w (RetQ w x d) := by
  have BW : Below w.heap.size w (((w.alloc (.cells #[.bool (ng x), v1, u1] 31)).alloc (.cells #[.bool (ng y), v2, u2] 31)).alloc (.cells #[.bool false, .slice none 0 0, .slice none 0 0] 31)) := ((((Below.refl w.heap.size w).alloc (Nat.le_refl _) _).alloc (by simp) _).alloc (by simp; omega) _)
  obtain ⟨c0_0, c0_1, c0_2, c1_0, c1_1, c1_2, c2_0, c2_1, c2_2, q0, q1, q2⟩ : World.cell? (((w.alloc (.cells #[.bool (ng x), v1, u1] 31)).alloc (.cells #[.bool (ng y), v2, u2] 31)).alloc (.cells #[.bool false, .slice none 0 0, .slice none 0 0] 31)) ⟨w.heap.size, 0, none⟩ = some (.bool (ng x)) ∧ World.cell? (((w.alloc (.cells #[.bool (ng x), v1, u1] 31)).alloc (.cells #[.bool (ng y), v2, u2] 31)).alloc (.cells #[.bool false, .slice none 0 0, .slice none 0 0] 31)) ⟨w.heap.size, 1, none⟩ = some (v1) ∧ World.cell? (((w.alloc (.cells #[.bool (ng x), v1, u1] 31)).alloc (.cells #[.bool (ng y), v2, u2] 31)).alloc (.cells #[.bool false, .slice none 0 0, .slice none 0 0] 31)) ⟨w.heap.size, 2, none⟩ = some (u1) ∧ World.cell? (((w.alloc (.cells #[.bool (ng x), v1, u1] 31)).alloc (.cells #[.bool (ng y), v2, u2] 31)).alloc (.cells #[.bool false, .slice none 0 0, .slice none 0 0] 31)) ⟨w.heap.size + 1, 0, none⟩ = some (.bool (ng y)) ∧ World.cell? (((w.alloc (.cells #[.bool (ng x), v1, u1] 31)).alloc (.cells #[.bool (ng y), v2, u2] 31)).alloc (.cells #[.bool false, .slice none 0 0, .slice none 0 0] 31)) ⟨w.heap.size + 1, 1, none⟩ = some (v2) ∧ World.cell? (((w.alloc (.cells #[.bool (ng x), v1, u1] 31)).alloc (.cells #[.bool (ng y), v2, u2] 31)).alloc (.cells #[.bool false, .slice none 0 0, .slice none 0 0] 31)) ⟨w.heap.size + 1, 2, none⟩ = some (u2) ∧ World.cell? (((w.alloc (.cells #[.bool (ng x), v1, u1] 31)).alloc (.cells #[.bool (ng y), v2, u2] 31)).alloc (.cells #[.bool false, .slice none 0 0, .slice none 0 0] 31)) ⟨w.heap.size + 1 + 1, 0, none⟩ = some (.bool false) ∧ World.cell? (((w.alloc (.cells #[.bool (ng x), v1, u1] 31)).alloc (.cells #[.bool (ng y), v2, u2] 31)).alloc (.cells #[.bool false, .slice none 0 0, .slice none 0 0] 31)) ⟨w.heap.size + 1 + 1, 1, none⟩ = some (.slice none 0 0) ∧ World.cell? (((w.alloc (.cells #[.bool (ng x), v1, u1] 31)).alloc (.cells #[.bool (ng y), v2, u2] 31)).alloc (.cells #[.bool false, .slice none 0 0, .slice none 0 0] 31)) ⟨w.heap.size + 1 + 1, 2, none⟩ = some (.slice none 0 0) ∧ World.frozen? (((w.alloc (.cells #[.bool (ng x), v1, u1] 31)).alloc (.cells #[.bool (ng y), v2, u2] 31)).alloc (.cells #[.bool false, .slice none 0 0, .slice none 0 0] 31)) ⟨w.heap.size + 1 + 1, 0, none⟩ = false ∧ World.frozen? (((w.alloc (.cells #[.bool (ng x), v1, u1] 31)).alloc (.cells #[.bool (ng y), v2, u2] 31)).alloc (.cells #[.bool false, .slice none 0 0, .slice none 0 0] 31)) ⟨w.heap.size + 1 + 1, 1, none⟩ = false ∧ World.frozen? (((w.alloc (.cells #[.bool (ng x), v1, u1] 31)).alloc (.cells #[.bool (ng y), v2, u2] 31)).alloc (.cells #[.bool false, .slice none 0 0, .slice none 0 0] 31)) ⟨w.heap.size + 1 + 1, 2, none⟩ = false := by simp [go_sem]
  have hg0 : w.heap.size + 1 + 1 < ((((w.alloc (.cells #[.bool (ng x), v1, u1] 31)).alloc (.cells #[.bool (ng y), v2, u2] 31)).alloc (.cells #[.bool false, .slice none 0 0, .slice none 0 0] 31))).heap.size := World.block_lt_of_cell? _ _ c2_0
  have Ha := Lib.hid (h1.below BW (Nat.le_refl _))
  have Hb := Lib.hid (k1.below BW (Nat.le_refl _))
  have Hc := Lib.hid (h2.below BW (Nat.le_refl _))
  have Hd := Lib.hid (k2.below BW (Nat.le_refl _))
  clear h1 k1 h2 k2
  have HX := Lib.hid hq
  have HY := Lib.hid hk
  have l1 := hq.2.2.1
  have l2 := hq.2.2.2
  have l3 := hk.2.2.1
  have l4 := hk.2.2.2
  unfold Fit at l1 l2 l3 l4
  have HC := Lib.hid hc
  have dc : decide (c ≤ 0) = true := decide_eq_true ht
  clear hq hk hc
  go_enter Try.func44, Try.ntmps44
  go_wp2_with fail
  generalize (((w.alloc (.cells #[.bool (ng x), v1, u1] 31)).alloc (.cells #[.bool (ng y), v2, u2] 31)).alloc (.cells #[.bool false, .slice none 0 0, .slice none 0 0] 31)) = w0 at *
  have B0 := Below.refl w0.heap.size w0
  refine (sRatOk_q _ _ _ _ _ x d Ha.out Hb.out HX.out).mono ?_
  rintro e w1 ⟨rfl, hb⟩
  replace c0_0 := keep_cell hb c0_0
  replace c0_1 := keep_cell hb c0_1
  replace c0_2 := keep_cell hb c0_2
  replace c1_0 := keep_cell hb c1_0
  replace c1_1 := keep_cell hb c1_1
  replace c1_2 := keep_cell hb c1_2
  replace q0 := keep_frozen (w1 := w1) hb c2_0 q0
  replace c2_0 := keep_cell (w1 := w1) hb c2_0
  replace q1 := keep_frozen (w1 := w1) hb c2_1 q1
  replace c2_1 := keep_cell (w1 := w1) hb c2_1
  replace q2 := keep_frozen (w1 := w1) hb c2_2 q2
  replace c2_2 := keep_cell (w1 := w1) hb c2_2
  replace Ha := Lib.hid (Ha.out.below hb (Nat.le_refl _))
  replace Hb := Lib.hid (Hb.out.below hb (Nat.le_refl _))
  replace Hc := Lib.hid (Hc.out.below hb (Nat.le_refl _))
  replace Hd := Lib.hid (Hd.out.below hb (Nat.le_refl _))
  replace B0 := B0.trans (hb.mono B0.size)
  clear hb
  go_wp2_with fail
  refine (sRatOk_q _ _ _ _ _ y f Hc.out Hd.out HY.out).mono ?_
  rintro e w2 ⟨rfl, hb⟩
  replace c0_0 := keep_cell hb c0_0
  replace c0_1 := keep_cell hb c0_1
  replace c0_2 := keep_cell hb c0_2
  replace c1_0 := keep_cell hb c1_0
  replace c1_1 := keep_cell hb c1_1
  replace c1_2 := keep_cell hb c1_2
  replace q0 := keep_frozen (w1 := w2) hb c2_0 q0
  replace c2_0 := keep_cell (w1 := w2) hb c2_0
  replace q1 := keep_frozen (w1 := w2) hb c2_1 q1
  replace c2_1 := keep_cell (w1 := w2) hb c2_1
  replace q2 := keep_frozen (w1 := w2) hb c2_2 q2
  replace c2_2 := keep_cell (w1 := w2) hb c2_2
  replace Ha := Lib.hid (Ha.out.below hb (Nat.le_refl _))
  replace Hb := Lib.hid (Hb.out.below hb (Nat.le_refl _))
  replace Hc := Lib.hid (Hc.out.below hb (Nat.le_refl _))
  replace Hd := Lib.hid (Hd.out.below hb (Nat.le_refl _))
  replace B0 := B0.trans (hb.mono B0.size)
  clear hb
  go_wp2_with fail
  refine (l04Cmp_c _ _ _ _ _ x d Ha.out Hb.out _ _ _ _ y f Hc.out Hd.out l1 l2 l3 l4 c HC.out).mono ?_
  rintro e w3 ⟨rfl, hb⟩
  replace c0_0 := keep_cell hb c0_0
  replace c0_1 := keep_cell hb c0_1
  replace c0_2 := keep_cell hb c0_2
  replace c1_0 := keep_cell hb c1_0
  replace c1_1 := keep_cell hb c1_1
  replace c1_2 := keep_cell hb c1_2
  replace q0 := keep_frozen (w1 := w3) hb c2_0 q0
  replace c2_0 := keep_cell (w1 := w3) hb c2_0
  replace q1 := keep_frozen (w1 := w3) hb c2_1 q1
  replace c2_1 := keep_cell (w1 := w3) hb c2_1
  replace q2 := keep_frozen (w1 := w3) hb c2_2 q2
  replace c2_2 := keep_cell (w1 := w3) hb c2_2
  replace Ha := Lib.hid (Ha.out.below hb (Nat.le_refl _))
  replace Hb := Lib.hid (Hb.out.below hb (Nat.le_refl _))
  replace Hc := Lib.hid (Hc.out.below hb (Nat.le_refl _))
  replace Hd := Lib.hid (Hd.out.below hb (Nat.le_refl _))
  replace B0 := B0.trans (hb.mono B0.size)
  clear hb
  go_wp2_with fail
  refine (l04Copy_f _ _ _ _ _ x d Ha.out Hb.out (by omega) (by omega)).mono ?_
  rintro e w4 ⟨vr, vs, rfl, ho1, ho2, HAP, hb⟩
  replace c0_0 := keep_cell hb c0_0
  replace c0_1 := keep_cell hb c0_1
  replace c0_2 := keep_cell hb c0_2
  replace c1_0 := keep_cell hb c1_0
  replace c1_1 := keep_cell hb c1_1
  replace c1_2 := keep_cell hb c1_2
  replace q0 := keep_frozen (w1 := w4) hb c2_0 q0
  replace c2_0 := keep_cell (w1 := w4) hb c2_0
  replace q1 := keep_frozen (w1 := w4) hb c2_1 q1
  replace c2_1 := keep_cell (w1 := w4) hb c2_1
  replace q2 := keep_frozen (w1 := w4) hb c2_2 q2
  replace c2_2 := keep_cell (w1 := w4) hb c2_2
  replace Ha := Lib.hid (Ha.out.below hb (Nat.le_refl _))
  replace Hb := Lib.hid (Hb.out.below hb (Nat.le_refl _))
  replace Hc := Lib.hid (Hc.out.below hb (Nat.le_refl _))
  replace Hd := Lib.hid (Hd.out.below hb (Nat.le_refl _))
  have Hr := Lib.hid (ho1.mono B0.size)
  clear ho1
  have Hs := Lib.hid (ho2.mono B0.size)
  clear ho2
  obtain ⟨ar, cr, rfl, -, -, -, -, -⟩ := Hr.out.form
  obtain ⟨aS, cS, rfl, -, -, -, -, -⟩ := Hs.out.form
  replace B0 := B0.trans (hb.mono B0.size)
  clear hb
  go_wp2
  exact bodyPost_ret (v := .agg #[.bool (ng x), .slice ar (limbs x.natAbs).length cr, .slice aS (limbs d).length cS]) (by simp [results, Try.results44, go_sem, c2_0, c2_1, c2_2]) rfl (retR_end BW (by omega) hg0 B0 Hr.out Hs.out HAP)

set_option maxHeartbeats 2000000 in
theorem sRatMin_gt (w : World) (b1 e1 : Nat) (v1 u1 : Value) (x : Int) (d : Nat) (h1 : Own w b1 v1 (limbs x.natAbs)) (k1 : Own w e1 u1 (limbs d)) (b2 e2 : Nat) (v2 u2 : Value) (y : Int) (f : Nat) (h2 : Own w b2 v2 (limbs y.natAbs)) (k2 : Own w e2 u2 (limbs f)) (hq : IsQ x d) (hk : IsQ y f) (c : Int) (hc : c = qcmp x d y f) (ht : ¬ c ≤ 0) :
    Calls Try.prog 44 #[.agg #[.bool (ng x), v1, u1], .agg #[.bool (ng y), v2, u2]] w (RetQ w y f) := by
  have BW : Below w.heap.size w (((w.alloc (.cells #[.bool (ng x), v1, u1] 31)).alloc (.cells #[.bool (ng y), v2, u2] 31)).alloc (.cells #[.bool false, .slice none 0 0, .slice none 0 0] 31)) := ((((Below.refl w.heap.size w).alloc (Nat.le_refl _) _).alloc (by simp) _).alloc (by simp; omega) _)
  obtain ⟨c0_0, c0_1, c0_2, c1_0, c1_1, c1_2, c2_0, c2_1, c2_2, q0, q1, q2⟩ : World.cell? (((w.alloc (.cells #[.bool (ng x), v1, u1] 31)).alloc (.cells #[.bool (ng y), v2, u2] 31)).alloc (.cells #[.bool false, .slice none 0 0, .slice none 0 0] 31)) ⟨w.heap.size, 0, none⟩ = some (.bool (ng x)) ∧ World.cell? (((w.alloc (.cells #[.bool (ng x), v1, u1] 31)).alloc (.cells #[.bool (ng y), v2, u2] 31)).alloc (.cells #[.bool false, .slice none 0 0, .slice none 0 0] 31)) ⟨w.heap.size, 1, none⟩ = some (v1) ∧ World.cell? (((w.alloc (.cells #[.bool (ng x), v1, u1] 31)).alloc (.cells #[.bool (ng y), v2, u2] 31)).alloc (.cells #[.bool false, .slice none 0 0, .slice none 0 0] 31)) ⟨w.heap.size, 2, none⟩ = some (u1) ∧ World.cell? (((w.alloc (.cells #[.bool (ng x), v1, u1] 31)).alloc (.cells #[.bool (ng y), v2, u2] 31)).alloc (.cells #[.bool false, .slice none 0 0, .slice none 0 0] 31)) ⟨w.heap.size + 1, 0, none⟩ = some (.bool (ng y)) ∧ World.cell? (((w.alloc (.cells #[.bool (ng x), v1, u1] 31)).alloc (.cells #[.bool (ng y), v2, u2] 31)).alloc (.cells #[.bool false, .slice none 0 0, .slice none 0 0] 31)) ⟨w.heap.size + 1, 1, none⟩ = some (v2) ∧ World.cell? (((w.alloc (.cells #[.bool (ng x), v1, u1] 31)).alloc (.cells #[.bool (ng y), v2, u2] 31)).alloc (.cells #[.bool false, .slice none 0 0, .slice none 0 0] 31)) ⟨w.heap.size + 1, 2, none⟩ = some (u2) ∧ World.cell? (((w.alloc (.cells #[.bool (ng x), v1, u1] 31)).alloc (.cells #[.bool (ng y), v2, u2] 31)).alloc (.cells #[.bool false, .slice none 0 0, .slice none 0 0] 31)) ⟨w.heap.size + 1 + 1, 0, none⟩ = some (.bool false) ∧ World.cell? (((w.alloc (.cells #[.bool (ng x), v1, u1] 31)).alloc (.cells #[.bool (ng y), v2, u2] 31)).alloc (.cells #[.bool false, .slice none 0 0, .slice none 0 0] 31)) ⟨w.heap.size + 1 + 1, 1, none⟩ = some (.slice none 0 0) ∧ World.cell? (((w.alloc (.cells #[.bool (ng x), v1, u1] 31)).alloc (.cells #[.bool (ng y), v2, u2] 31)).alloc (.cells #[.bool false, .slice none 0 0, .slice none 0 0] 31)) ⟨w.heap.size + 1 + 1, 2, none⟩ = some (.slice none 0 0) ∧ World.frozen? (((w.alloc (.cells #[.bool (ng x), v1, u1] 31)).alloc (.cells #[.bool (ng y), v2, u2] 31)).alloc (.cells #[.bool false, .slice none 0 0, .slice none 0 0] 31)) ⟨w.heap.size + 1 + 1, 0, none⟩ = false ∧ World.frozen? (((w.alloc (.cells #[.bool (ng x), v1, u1] 31)).alloc (.cells #[.bool (ng y), v2, u2] 31)).alloc (.cells #[.bool false, .slice none 0 0, .slice none 0 0] 31)) ⟨w.heap.size + 1 + 1, 1, none⟩ = false ∧ World.frozen? (((w.alloc (.cells #[.bool (ng x), v1, u1] 31)).alloc (.cells #[.bool (ng y), v2, u2] 31)).alloc (.cells #[.bool false, .slice none 0 0, .slice none 0 0] 31)) ⟨w.heap.size + 1 + 1, 2, none⟩ = false := by simp [go_sem]
  have hg0 : w.heap.size + 1 + 1 < ((((w.alloc (.cells #[.bool (ng x), v1, u1] 31)).alloc (.cells #[.bool (ng y), v2, u2] 31)).alloc (.cells #[.bool false, .slice none 0 0, .slice none 0 0] 31))).heap.size := World.block_lt_of_cell? _ _ c2_0
  have Ha := Lib.hid (h1.below BW (Nat.le_refl _))
  have Hb := Lib.hid (k1.below BW (Nat.le_refl _))
  have Hc := Lib.hid (h2.below BW (Nat.le_refl _))
  have Hd := Lib.hid (k2.below BW (Nat.le_refl _))
  clear h1 k1 h2 k2
  have HX := Lib.hid hq
  have HY := Lib.hid hk
  have l1 := hq.2.2.1
  have l2 := hq.2.2.2
  have l3 := hk.2.2.1
  have l4 := hk.2.2.2
  unfold Fit at l1 l2 l3 l4
  have HC := Lib.hid hc
  have dc : decide (c ≤ 0) = false := decide_eq_false ht
  clear hq hk hc
  go_enter Try.func44, Try.ntmps44
  go_wp2_with fail
  generalize (((w.alloc (.cells #[.bool (ng x), v1, u1] 31)).alloc (.cells #[.bool (ng y), v2, u2] 31)).alloc (.cells #[.bool false, .slice none 0 0, .slice none 0 0] 31)) = w0 at *
  have B0 := Below.refl w0.heap.size w0
  refine (sRatOk_q _ _ _ _ _ x d Ha.out Hb.out HX.out).mono ?_
  rintro e w1 ⟨rfl, hb⟩
  replace c0_0 := keep_cell hb c0_0
  replace c0_1 := keep_cell hb c0_1
  replace c0_2 := keep_cell hb c0_2
  replace c1_0 := keep_cell hb c1_0
  replace c1_1 := keep_cell hb c1_1
  replace c1_2 := keep_cell hb c1_2
  replace q0 := keep_frozen (w1 := w1) hb c2_0 q0
  replace c2_0 := keep_cell (w1 := w1) hb c2_0
  replace q1 := keep_frozen (w1 := w1) hb c2_1 q1
  replace c2_1 := keep_cell (w1 := w1) hb c2_1
  replace q2 := keep_frozen (w1 := w1) hb c2_2 q2
  replace c2_2 := keep_cell (w1 := w1) hb c2_2
  replace Ha := Lib.hid (Ha.out.below hb (Nat.le_refl _))
  replace Hb := Lib.hid (Hb.out.below hb (Nat.le_refl _))
  replace Hc := Lib.hid (Hc.out.below hb (Nat.le_refl _))
  replace Hd := Lib.hid (Hd.out.below hb (Nat.le_refl _))
  replace B0 := B0.trans (hb.mono B0.size)
  clear hb
  go_wp2_with fail
  refine (sRatOk_q _ _ _ _ _ y f Hc.out Hd.out HY.out).mono ?_
  rintro e w2 ⟨rfl, hb⟩
  replace c0_0 := keep_cell hb c0_0
  replace c0_1 := keep_cell hb c0_1
  replace c0_2 := keep_cell hb c0_2
  replace c1_0 := keep_cell hb c1_0
  replace c1_1 := keep_cell hb c1_1
  replace c1_2 := keep_cell hb c1_2
  replace q0 := keep_frozen (w1 := w2) hb c2_0 q0
  replace c2_0 := keep_cell (w1 := w2) hb c2_0
  replace q1 := keep_frozen (w1 := w2) hb c2_1 q1
  replace c2_1 := keep_cell (w1 := w2) hb c2_1
  replace q2 := keep_frozen (w1 := w2) hb c2_2 q2
  replace c2_2 := keep_cell (w1 := w2) hb c2_2
  replace Ha := Lib.hid (Ha.out.below hb (Nat.le_refl _))
  replace Hb := Lib.hid (Hb.out.below hb (Nat.le_refl _))
  replace Hc := Lib.hid (Hc.out.below hb (Nat.le_refl _))
  replace Hd := Lib.hid (Hd.out.below hb (Nat.le_refl _))
  replace B0 := B0.trans (hb.mono B0.size)
  clear hb
  go_wp2_with fail
  refine (l04Cmp_c _ _ _ _ _ x d Ha.out Hb.out _ _ _ _ y f Hc.out Hd.out l1 l2 l3 l4 c HC.out).mono ?_
  rintro e w3 ⟨rfl, hb⟩
  replace c0_0 := keep_cell hb c0_0
  replace c0_1 := keep_cell hb c0_1
  replace c0_2 := keep_cell hb c0_2
  replace c1_0 := keep_cell hb c1_0
  replace c1_1 := keep_cell hb c1_1
  replace c1_2 := keep_cell hb c1_2
  replace q0 := keep_frozen (w1 := w3) hb c2_0 q0
  replace c2_0 := keep_cell (w1 := w3) hb c2_0
  replace q1 := keep_frozen (w1 := w3) hb c2_1 q1
  replace c2_1 := keep_cell (w1 := w3) hb c2_1
  replace q2 := keep_frozen (w1 := w3) hb c2_2 q2
  replace c2_2 := keep_cell (w1 := w3) hb c2_2
  replace Ha := Lib.hid (Ha.out.below hb (Nat.le_refl _))
  replace Hb := Lib.hid (Hb.out.below hb (Nat.le_refl _))
  replace Hc := Lib.hid (Hc.out.below hb (Nat.le_refl _))
  replace Hd := Lib.hid (Hd.out.below hb (Nat.le_refl _))
  replace B0 := B0.trans (hb.mono B0.size)
  clear hb
  go_wp2_with fail
  refine (l04Copy_f _ _ _ _ _ y f Hc.out Hd.out (by omega) (by omega)).mono ?_
  rintro e w4 ⟨vr, vs, rfl, ho1, ho2, HAP, hb⟩
  replace c0_0 := keep_cell hb c0_0
  replace c0_1 := keep_cell hb c0_1
  replace c0_2 := keep_cell hb c0_2
  replace c1_0 := keep_cell hb c1_0
  replace c1_1 := keep_cell hb c1_1
  replace c1_2 := keep_cell hb c1_2
  replace q0 := keep_frozen (w1 := w4) hb c2_0 q0
  replace c2_0 := keep_cell (w1 := w4) hb c2_0
  replace q1 := keep_frozen (w1 := w4) hb c2_1 q1
  replace c2_1 := keep_cell (w1 := w4) hb c2_1
  replace q2 := keep_frozen (w1 := w4) hb c2_2 q2
  replace c2_2 := keep_cell (w1 := w4) hb c2_2
  replace Ha := Lib.hid (Ha.out.below hb (Nat.le_refl _))
  replace Hb := Lib.hid (Hb.out.below hb (Nat.le_refl _))
  replace Hc := Lib.hid (Hc.out.below hb (Nat.le_refl _))
  replace Hd := Lib.hid (Hd.out.below hb (Nat.le_refl _))
  have Hr := Lib.hid (ho1.mono B0.size)
  clear ho1
  have Hs := Lib.hid (ho2.mono B0.size)
  clear ho2
  obtain ⟨ar, cr, rfl, -, -, -, -, -⟩ := Hr.out.form
  obtain ⟨aS, cS, rfl, -, -, -, -, -⟩ := Hs.out.form
  replace B0 := B0.trans (hb.mono B0.size)
  clear hb
  go_wp2
  exact bodyPost_ret (v := .agg #[.bool (ng y), .slice ar (limbs y.natAbs).length cr, .slice aS (limbs f).length cS]) (by simp [results, Try.results44, go_sem, c2_0, c2_1, c2_2]) rfl (retR_end BW (by omega) hg0 B0 Hr.out Hs.out HAP)

theorem sRatMin_c (w : World) (b1 e1 : Nat) (s : Bool) (v1 u1 : Value) (xs ys : List Int) (h1 : Own w b1 v1 xs) (k1 : Own w e1 u1 ys) (b2 e2 : Nat) (t : Bool) (v2 u2 : Value) (zs ws : List Int) (h2 : Own w b2 v2 zs) (k2 : Own w e2 u2 ws) : Calls Try.prog 44 #[.agg #[.bool s, v1, u1], .agg #[.bool t, v2, u2]] w (RetQ w (q2 qmin s xs ys t zs ws).1 (q2 qmin s xs ys t zs ws).2) := by
  by_cases hx : OkR s xs ys
  · by_cases hy : OkR t zs ws
    · rw [show q2 qmin s xs ys t zs ws = qmin (zv s xs) (nv ys).toNat (zv t zs) (nv ws).toNat from if_pos ⟨hx, hy⟩]
      obtain ⟨x, d, rfl, rfl, rfl, hq, e3, e4⟩ := okR_q hx
      obtain ⟨y, f, rfl, rfl, rfl, hk, e5, e6⟩ := okR_q hy
      rw [e3, e4, e5, e6]
      by_cases ht : qcmp x d y f ≤ 0
      · rw [show qmin x d y f = (x, d) from if_pos ht]
        exact sRatMin_le w b1 e1 v1 u1 x d h1 k1 b2 e2 v2 u2 y f h2 k2 hq hk _ rfl ht
      · rw [show qmin x d y f = (y, f) from if_neg ht]
        exact sRatMin_gt w b1 e1 v1 u1 x d h1 k1 b2 e2 v2 u2 y f h2 k2 hq hk _ rfl ht
    · rw [show q2 qmin s xs ys t zs ws = (0, 0) from if_neg fun h => hy h.2]
      exact sRatMin_2 w b1 e1 s v1 u1 xs ys h1 k1 b2 e2 t v2 u2 zs ws h2 k2 hx hy
  · rw [show q2 qmin s xs ys t zs ws = (0, 0) from if_neg fun h => hx h.1]
    exact sRatMin_1 w b1 e1 s v1 u1 xs ys h1 k1 t v2 u2 hx

set_option maxHeartbeats 2000000 in
theorem sRatMax_1 (w : World) (b1 e1 : Nat) (s : Bool) (v1 u1 : Value) (xs ys : List Int) (h1 : Own w b1 v1 xs) (k1 : Own w e1 u1 ys) (t : Bool) (v2 u2 : Value) (hx : ¬ OkR s xs ys) :
    Calls Try.prog 42 #[.agg #[.bool s, v1, u1], .agg #[.bool t, v2, u2]] w (RetQ w 0 0) := by
  have BW : Below w.heap.size w (((w.alloc (.cells #[.bool s, v1, u1] 31)).alloc (.cells #[.bool t, v2, u2] 31)).alloc (.cells #[.bool false, .slice none 0 0, .slice none 0 0] 31)) := ((((Below.refl w.heap.size w).alloc (Nat.le_refl _) _).alloc (by simp) _).alloc (by simp; omega) _)
  obtain ⟨c0_0, c0_1, c0_2, c1_0, c1_1, c1_2, c2_0, c2_1, c2_2, q0, q1, q2⟩ : World.cell? (((w.alloc (.cells #[.bool s, v1, u1] 31)).alloc (.cells #[.bool t, v2, u2] 31)).alloc (.cells #[.bool false, .slice none 0 0, .slice none 0 0] 31)) ⟨w.heap.size, 0, none⟩ = some (.bool s) ∧ World.cell? (((w.alloc (.cells #[.bool s, v1, u1] 31)).alloc (.cells #[.bool t, v2, u2] 31)).alloc (.cells #[.bool false, .slice none 0 0, .slice none 0 0] 31)) ⟨w.heap.size, 1, none⟩ = some (v1) ∧ World.cell? (((w.alloc (.cells #[.bool s, v1, u1] 31)).alloc (.cells #[.bool t, v2, u2] 31)).alloc (.cells #[.bool false, .slice none 0 0, .slice none 0 0] 31)) ⟨w.heap.size, 2, none⟩ = some (u1) ∧ World.cell? (((w.alloc (.cells #[.bool s, v1, u1] 31)).alloc (.cells #[.bool t, v2, u2] 31)).alloc (.cells #[.bool false, .slice none 0 0, .slice none 0 0] 31)) ⟨w.heap.size + 1, 0, none⟩ = some (.bool t) ∧ World.cell? (((w.alloc (.cells #[.bool s, v1, u1] 31)).alloc (.cells #[.bool t, v2, u2] 31)).alloc (.cells #[.bool false, .slice none 0 0, .slice none 0 0] 31)) ⟨w.heap.size + 1, 1, none⟩ = some (v2) ∧ World.cell? (((w.alloc (.cells #[.bool s, v1, u1] 31)).alloc (.cells #[.bool t, v2, u2] 31)).alloc (.cells #[.bool false, .slice none 0 0, .slice none 0 0] 31)) ⟨w.heap.size + 1, 2, none⟩ = some (u2) ∧ World.cell? (((w.alloc (.cells #[.bool s, v1, u1] 31)).alloc (.cells #[.bool t, v2, u2] 31)).alloc (.cells #[.bool false, .slice none 0 0, .slice none 0 0] 31)) ⟨w.heap.size + 1 + 1, 0, none⟩ = some (.bool false) ∧ World.cell? (((w.alloc (.cells #[.bool s, v1, u1] 31)).alloc (.cells #[.bool t, v2, u2] 31)).alloc (.cells #[.bool false, .slice none 0 0, .slice none 0 0] 31)) ⟨w.heap.size + 1 + 1, 1, none⟩ = some (.slice none 0 0) ∧ World.cell? (((w.alloc (.cells #[.bool s, v1, u1] 31)).alloc (.cells #[.bool t, v2, u2] 31)).alloc (.cells #[.bool false, .slice none 0 0, .slice none 0 0] 31)) ⟨w.heap.size + 1 + 1, 2, none⟩ = some (.slice none 0 0) ∧ World.frozen? (((w.alloc (.cells #[.bool s, v1, u1] 31)).alloc (.cells #[.bool t, v2, u2] 31)).alloc (.cells #[.bool false, .slice none 0 0, .slice none 0 0] 31)) ⟨w.heap.size + 1 + 1, 0, none⟩ = false ∧ World.frozen? (((w.alloc (.cells #[.bool s, v1, u1] 31)).alloc (.cells #[.bool t, v2, u2] 31)).alloc (.cells #[.bool false, .slice none 0 0, .slice none 0 0] 31)) ⟨w.heap.size + 1 + 1, 1, none⟩ = false ∧ World.frozen? (((w.alloc (.cells #[.bool s, v1, u1] 31)).alloc (.cells #[.bool t, v2, u2] 31)).alloc (.cells #[.bool false, .slice none 0 0, .slice none 0 0] 31)) ⟨w.heap.size + 1 + 1, 2, none⟩ = false := by simp [go_sem]
  have hg0 : w.heap.size + 1 + 1 < ((((w.alloc (.cells #[.bool s, v1, u1] 31)).alloc (.cells #[.bool t, v2, u2] 31)).alloc (.cells #[.bool false, .slice none 0 0, .slice none 0 0] 31))).heap.size := World.block_lt_of_cell? _ _ c2_0
  have Ha := Lib.hid (h1.below BW (Nat.le_refl _))
  have Hb := Lib.hid (k1.below BW (Nat.le_refl _))
  clear h1 k1
  have HX := Lib.hid hx
  clear hx
  go_enter Try.func42, Try.ntmps42
  go_wp2_with fail
  generalize (((w.alloc (.cells #[.bool s, v1, u1] 31)).alloc (.cells #[.bool t, v2, u2] 31)).alloc (.cells #[.bool false, .slice none 0 0, .slice none 0 0] 31)) = w0 at *
  have B0 := Below.refl w0.heap.size w0
  refine (sRatOk_f _ _ _ _ _ _ _ _ Ha.out Hb.out HX.out).mono ?_
  rintro e w1 ⟨rfl, hb⟩
  replace c0_0 := keep_cell hb c0_0
  replace c0_1 := keep_cell hb c0_1
  replace c0_2 := keep_cell hb c0_2
  replace c1_0 := keep_cell hb c1_0
  replace c1_1 := keep_cell hb c1_1
  replace c1_2 := keep_cell hb c1_2
  replace q0 := keep_frozen (w1 := w1) hb c2_0 q0
  replace c2_0 := keep_cell (w1 := w1) hb c2_0
  replace q1 := keep_frozen (w1 := w1) hb c2_1 q1
  replace c2_1 := keep_cell (w1 := w1) hb c2_1
  replace q2 := keep_frozen (w1 := w1) hb c2_2 q2
  replace c2_2 := keep_cell (w1 := w1) hb c2_2
  replace Ha := Lib.hid (Ha.out.below hb (Nat.le_refl _))
  replace Hb := Lib.hid (Hb.out.below hb (Nat.le_refl _))
  replace B0 := B0.trans (hb.mono B0.size)
  clear hb
  go_wp2
  exact bodyPost_ret (v := .agg #[.bool false, .slice none 0 0, .slice none 0 0]) (by simp [results, Try.results42, go_sem, c2_0, c2_1, c2_2]) rfl (retQ_nil (set3_below (BW.trans (B0.mono BW.size)) (by omega)))

set_option maxHeartbeats 2000000 in
theorem sRatMax_2 (w : World) (b1 e1 : Nat) (s : Bool) (v1 u1 : Value) (xs ys : List Int) (h1 : Own w b1 v1 xs) (k1 : Own w e1 u1 ys) (b2 e2 : Nat) (t : Bool) (v2 u2 : Value) (zs ws : List Int) (h2 : Own w b2 v2 zs) (k2 : Own w e2 u2 ws) (hx : OkR s xs ys) (hy : ¬ OkR t zs ws) :
    Calls Try.prog 42 #[.agg #[.bool s, v1, u1], .agg #[.bool t, v2, u2]] w (RetQ w 0 0) := by
  have BW : Below w.heap.size w (((w.alloc (.cells #[.bool s, v1, u1] 31)).alloc (.cells #[.bool t, v2, u2] 31)).alloc (.cells #[.bool false, .slice none 0 0, .slice none 0 0] 31)) := ((((Below.refl w.heap.size w).alloc (Nat.le_refl _) _).alloc (by simp) _).alloc (by simp; omega) _)
  obtain ⟨c0_0, c0_1, c0_2, c1_0, c1_1, c1_2, c2_0, c2_1, c2_2, q0, q1, q2⟩ : World.cell? (((w.alloc (.cells #[.bool s, v1, u1] 31)).alloc (.cells #[.bool t, v2, u2] 31)).alloc (.cells #[.bool false, .slice none 0 0, .slice none 0 0] 31)) ⟨w.heap.size, 0, none⟩ = some (.bool s) ∧ World.cell? (((w.alloc (.cells #[.bool s, v1, u1] 31)).alloc (.cells #[.bool t, v2, u2] 31)).alloc (.cells #[.bool false, .slice none 0 0, .slice none 0 0] 31)) ⟨w.heap.size, 1, none⟩ = some (v1) ∧ World.cell? (((w.alloc (.cells #[.bool s, v1, u1] 31)).alloc (.cells #[.bool t, v2, u2] 31)).alloc (.cells #[.bool false, .slice none 0 0, .slice none 0 0] 31)) ⟨w.heap.size, 2, none⟩ = some (u1) ∧ World.cell? (((w.alloc (.cells #[.bool s, v1, u1] 31)).alloc (.cells #[.bool t, v2, u2] 31)).alloc (.cells #[.bool false, .slice none 0 0, .slice none 0 0] 31)) ⟨w.heap.size + 1, 0, none⟩ = some (.bool t) ∧ World.cell? (((w.alloc (.cells #[.bool s, v1, u1] 31)).alloc (.cells #[.bool t, v2, u2] 31)).alloc (.cells #[.bool false, .slice none 0 0, .slice none 0 0] 31)) ⟨w.heap.size + 1, 1, none⟩ = some (v2) ∧ World.cell? (((w.alloc (.cells #[.bool s, v1, u1] 31)).alloc (.cells #[.bool t, v2, u2] 31)).alloc (.cells #[.bool false, .slice none 0 0, .slice none 0 0] 31)) ⟨w.heap.size + 1, 2, none⟩ = some (u2) ∧ World.cell? (((w.alloc (.cells #[.bool s, v1, u1] 31)).alloc (.cells #[.bool t, v2, u2] 31)).alloc (.cells #[.bool false, .slice none 0 0, .slice none 0 0] 31)) ⟨w.heap.size + 1 + 1, 0, none⟩ = some (.bool false) ∧ World.cell? (((w.alloc (.cells #[.bool s, v1, u1] 31)).alloc (.cells #[.bool t, v2, u2] 31)).alloc (.cells #[.bool false, .slice none 0 0, .slice none 0 0] 31)) ⟨w.heap.size + 1 + 1, 1, none⟩ = some (.slice none 0 0) ∧ World.cell? (((w.alloc (.cells #[.bool s, v1, u1] 31)).alloc (.cells #[.bool t, v2, u2] 31)).alloc (.cells #[.bool false, .slice none 0 0, .slice none 0 0] 31)) ⟨w.heap.size + 1 + 1, 2, none⟩ = some (.slice none 0 0) ∧ World.frozen? (((w.alloc (.cells #[.bool s, v1, u1] 31)).alloc (.cells #[.bool t, v2, u2] 31)).alloc (.cells #[.bool false, .slice none 0 0, .slice none 0 0] 31)) ⟨w.heap.size + 1 + 1, 0, none⟩ = false ∧ World.frozen? (((w.alloc (.cells #[.bool s, v1, u1] 31)).alloc (.cells #[.bool t, v2, u2] 31)).alloc (.cells #[.bool false, .slice none 0 0, .slice none 0 0] 31)) ⟨w.heap.size + 1 + 1, 1, none⟩ = false ∧ World.frozen? (((w.alloc (.cells #[.bool s, v1, u1] 31)).alloc (.cells #[.bool t, v2, u2] 31)).alloc (.cells #[.bool false, .slice none 0 0, .slice none 0 0] 31)) ⟨w.heap.size + 1 + 1, 2, none⟩ = false := by simp [go_sem]
  have hg0 : w.heap.size + 1 + 1 < ((((w.alloc (.cells #[.bool s, v1, u1] 31)).alloc (.cells #[.bool t, v2, u2] 31)).alloc (.cells #[.bool false, .slice none 0 0, .slice none 0 0] 31))).heap.size := World.block_lt_of_cell? _ _ c2_0
  have Ha := Lib.hid (h1.below BW (Nat.le_refl _))
  have Hb := Lib.hid (k1.below BW (Nat.le_refl _))
  have Hc := Lib.hid (h2.below BW (Nat.le_refl _))
  have Hd := Lib.hid (k2.below BW (Nat.le_refl _))
  clear h1 k1 h2 k2
  have HX := Lib.hid hx
  have HY := Lib.hid hy
  clear hx hy
  go_enter Try.func42, Try.ntmps42
  go_wp2_with fail
  generalize (((w.alloc (.cells #[.bool s, v1, u1] 31)).alloc (.cells #[.bool t, v2, u2] 31)).alloc (.cells #[.bool false, .slice none 0 0, .slice none 0 0] 31)) = w0 at *
  have B0 := Below.refl w0.heap.size w0
  refine (sRatOk_t _ _ _ _ _ _ _ _ Ha.out Hb.out HX.out).mono ?_
  rintro e w1 ⟨rfl, hb⟩
  replace c0_0 := keep_cell hb c0_0
  replace c0_1 := keep_cell hb c0_1
  replace c0_2 := keep_cell hb c0_2
  replace c1_0 := keep_cell hb c1_0
  replace c1_1 := keep_cell hb c1_1
  replace c1_2 := keep_cell hb c1_2
  replace q0 := keep_frozen (w1 := w1) hb c2_0 q0
  replace c2_0 := keep_cell (w1 := w1) hb c2_0
  replace q1 := keep_frozen (w1 := w1) hb c2_1 q1
  replace c2_1 := keep_cell (w1 := w1) hb c2_1
  replace q2 := keep_frozen (w1 := w1) hb c2_2 q2
  replace c2_2 := keep_cell (w1 := w1) hb c2_2
  replace Ha := Lib.hid (Ha.out.below hb (Nat.le_refl _))
  replace Hb := Lib.hid (Hb.out.below hb (Nat.le_refl _))
  replace Hc := Lib.hid (Hc.out.below hb (Nat.le_refl _))
  replace Hd := Lib.hid (Hd.out.below hb (Nat.le_refl _))
  replace B0 := B0.trans (hb.mono B0.size)
  clear hb
  go_wp2_with fail
  refine (sRatOk_f _ _ _ _ _ _ _ _ Hc.out Hd.out HY.out).mono ?_
  rintro e w2 ⟨rfl, hb⟩
  replace c0_0 := keep_cell hb c0_0
  replace c0_1 := keep_cell hb c0_1
  replace c0_2 := keep_cell hb c0_2
  replace c1_0 := keep_cell hb c1_0
  replace c1_1 := keep_cell hb c1_1
  replace c1_2 := keep_cell hb c1_2
  replace q0 := keep_frozen (w1 := w2) hb c2_0 q0
  replace c2_0 := keep_cell (w1 := w2) hb c2_0
  replace q1 := keep_frozen (w1 := w2) hb c2_1 q1
  replace c2_1 := keep_cell (w1 := w2) hb c2_1
  replace q2 := keep_frozen (w1 := w2) hb c2_2 q2
  replace c2_2 := keep_cell (w1 := w2) hb c2_2
  replace Ha := Lib.hid (Ha.out.below hb (Nat.le_refl _))
  replace Hb := Lib.hid (Hb.out.below hb (Nat.le_refl _))
  replace Hc := Lib.hid (Hc.out.below hb (Nat.le_refl _))
  replace Hd := Lib.hid (Hd.out.below hb (Nat.le_refl _))
  replace B0 := B0.trans (hb.mono B0.size)
  clear hb
  go_wp2
  exact bodyPost_ret (v := .agg #[.bool false, .slice none 0 0, .slice none 0 0]) (by simp [results, Try.results42, go_sem, c2_0, c2_1, c2_2]) rfl (retQ_nil (set3_below (BW.trans (B0.mono BW.size)) (by omega)))

set_option maxHeartbeats 2000000 in
theorem sRatMax_ge (w : World) (b1 e1 : Nat) (v1 u1 : Value) (x : Int) (d : Nat) (h1 : Own w b1 v1 (limbs x.natAbs)) (k1 : Own w e1 u1 (limbs d)) (b2 e2 : Nat) (v2 u2 : Value) (y : Int) (f : Nat) (h2 : Own w b2 v2 (limbs y.natAbs)) (k2 : Own w e2 u2 (limbs f)) (hq : IsQ x d) (hk : IsQ y f) (c : Int) (hc : c = qcmp x d y f) (ht : 0 ≤ c) :
    Calls Try.prog 42 #[.agg #[.bool (ng x), v1, u1], .agg #[.bool (ng y), v2, u2]] w (RetQ w x d) := by
  have BW : Below w.heap.size w (((w.alloc (.cells #[.bool (ng x), v1, u1] 31)).alloc (.cells #[.bool (ng y), v2, u2] 31)).alloc (.cells #[.bool false, .slice none 0 0, .slice none 0 0] 31)) := ((((Below.refl w.heap.size w).alloc (Nat.le_refl _) _).alloc (by simp) _).alloc (by simp; omega) _)
  obtain ⟨c0_0, c0_1, c0_2, c1_0, c1_1, c1_2, c2_0, c2_1, c2_2, q0, q1, q2⟩ : World.cell? (((w.alloc (.cells #[.bool (ng x), v1, u1] 31)).alloc (.cells #[.bool (ng y), v2, u2] 31)).alloc (.cells #[.bool false, .slice none 0 0, .slice none 0 0] 31)) ⟨w.heap.size, 0, none⟩ = some (.bool (ng x)) ∧ World.cell? (((w.alloc (.cells #[.bool (ng x), v1, u1] 31)).alloc (.cells #[.bool (ng y), v2, u2] 31)).alloc (.cells #[.bool false, .slice none 0 0, .slice none 0 0] 31)) ⟨w.heap.size, 1, none⟩ = some (v1) ∧ World.cell? (((w.alloc (.cells #[.bool (ng x), v1, u1] 31)).alloc (.cells #[.bool (ng y), v2, u2] 31)).alloc (.cells #[.bool false, .slice none 0 0, .slice none 0 0] 31)) ⟨w.heap.size, 2, none⟩ = some (u1) ∧ World.cell? (((w.alloc (.cells #[.bool (ng x), v1, u1] 31)).alloc (.cells #[.bool (ng y), v2, u2] 31)).alloc (.cells #[.bool false, .slice none 0 0, .slice none 0 0] 31)) ⟨w.heap.size + 1, 0, none⟩ = some (.bool (ng y)) ∧ World.cell? (((w.alloc (.cells #[.bool (ng x), v1, u1] 31)).alloc (.cells #[.bool (ng y), v2, u2] 31)).alloc (.cells #[.bool false, .slice none 0 0, .slice none 0 0] 31)) ⟨w.heap.size + 1, 1, none⟩ = some (v2) ∧ World.cell? (((w.alloc (.cells #[.bool (ng x), v1, u1] 31)).alloc (.cells #[.bool (ng y), v2, u2] 31)).alloc (.cells #[.bool false, .slice none 0 0, .slice none 0 0] 31)) ⟨w.heap.size + 1, 2, none⟩ = some (u2) ∧ World.cell? (((w.alloc (.cells #[.bool (ng x), v1, u1] 31)).alloc (.cells #[.bool (ng y), v2, u2] 31)).alloc (.cells #[.bool false, .slice none 0 0, .slice none 0 0] 31)) ⟨w.heap.size + 1 + 1, 0, none⟩ = some (.bool false) ∧ World.cell? (((w.alloc (.cells #[.bool (ng x), v1, u1] 31)).alloc (.cells #[.bool (ng y), v2, u2] 31)).alloc (.cells #[.bool false, .slice none 0 0, .slice none 0 0] 31)) ⟨w.heap.size + 1 + 1, 1, none⟩ = some (.slice none 0 0) ∧ World.cell? (((w.alloc (.cells #[.bool (ng x), v1, u1] 31)).alloc (.cells #[.bool (ng y), v2, u2] 31)).alloc (.cells #[.bool false, .slice none 0 0, .slice none 0 0] 31)) ⟨w.heap.size + 1 + 1, 2, none⟩ = some (.slice none 0 0) ∧ World.frozen? (((w.alloc (.cells #[.bool (ng x), v1, u1] 31)).alloc (.cells #[.bool (ng y), v2, u2] 31)).alloc (.cells #[.bool false, .slice none 0 0, .slice none 0 0] 31)) ⟨w.heap.size + 1 + 1, 0, none⟩ = false ∧ World.frozen? (((w.alloc (.cells #[.bool (ng x), v1, u1] 31)).alloc (.cells #[.bool (ng y), v2, u2] 31)).alloc (.cells #[.bool false, .slice none 0 0, .slice none 0 0] 31)) ⟨w.heap.size + 1 + 1, 1, none⟩ = false ∧ World.frozen? (((w.alloc (.cells #[.bool (ng x), v1, u1] 31)).alloc (.cells #[.bool (ng y), v2, u2] 31)).alloc (.cells #[.bool false, .slice none 0 0, .slice none 0 0] 31)) ⟨w.heap.size + 1 + 1, 2, none⟩ = false := by simp [go_sem]
  have hg0 : w.heap.size + 1 + 1 < ((((w.alloc (.cells #[.bool (ng x), v1, u1] 31)).alloc (.cells #[.bool (ng y), v2, u2] 31)).alloc (.cells #[.bool false, .slice none 0 0, .slice none 0 0] 31))).heap.size := World.block_lt_of_cell? _ _ c2_0
  have Ha := Lib.hid (h1.below BW (Nat.le_refl _))
  have Hb := Lib.hid (k1.below BW (Nat.le_refl _))
  have Hc := Lib.hid (h2.below BW (Nat.le_refl _))
  have Hd := Lib.hid (k2.below BW (Nat.le_refl _))
  clear h1 k1 h2 k2
  have HX := Lib.hid hq
  have HY := Lib.hid hk
  have l1 := hq.2.2.1
  have l2 := hq.2.2.2
  have l3 := hk.2.2.1
  have l4 := hk.2.2.2
  unfold Fit at l1 l2 l3 l4
  have HC := Lib.hid hc
  have dc : decide (0 ≤ c) = true := decide_eq_true ht
  clear hq hk hc
  go_enter Try.func42, Try.ntmps42
  go_wp2_with fail
  generalize (((w.alloc (.cells #[.bool (ng x), v1, u1] 31)).alloc (.cells #[.bool (ng y), v2, u2] 31)).alloc (.cells #[.bool false, .slice none 0 0, .slice none 0 0] 31)) = w0 at *
  have B0 := Below.refl w0.heap.size w0
  refine (sRatOk_q _ _ _ _ _ x d Ha.out Hb.out HX.out).mono ?_
  rintro e w1 ⟨rfl, hb⟩
  replace c0_0 := keep_cell hb c0_0
  replace c0_1 := keep_cell hb c0_1
  replace c0_2 := keep_cell hb c0_2
  replace c1_0 := keep_cell hb c1_0
  replace c1_1 := keep_cell hb c1_1
  replace c1_2 := keep_cell hb c1_2
  replace q0 := keep_frozen (w1 := w1) hb c2_0 q0
  replace c2_0 := keep_cell (w1 := w1) hb c2_0
  replace q1 := keep_frozen (w1 := w1) hb c2_1 q1
  replace c2_1 := keep_cell (w1 := w1) hb c2_1
  replace q2 := keep_frozen (w1 := w1) hb c2_2 q2
  replace c2_2 := keep_cell (w1 := w1) hb c2_2
  replace Ha := Lib.hid (Ha.out.below hb (Nat.le_refl _))
  replace Hb := Lib.hid (Hb.out.below hb (Nat.le_refl _))
  replace Hc := Lib.hid (Hc.out.below hb (Nat.le_refl _))
  replace Hd := Lib.hid (Hd.out.below hb (Nat.le_refl _))
  replace B0 := B0.trans (hb.mono B0.size)
  clear hb
  go_wp2_with fail
  refine (sRatOk_q _ _ _ _ _ y f Hc.out Hd.out HY.out).mono ?_
  rintro e w2 ⟨rfl, hb⟩
  replace c0_0 := keep_cell hb c0_0
  replace c0_1 := keep_cell hb c0_1
  replace c0_2 := keep_cell hb c0_2
  replace c1_0 := keep_cell hb c1_0
  replace c1_1 := keep_cell hb c1_1
  replace c1_2 := keep_cell hb c1_2
  replace q0 := keep_frozen (w1 := w2) hb c2_0 q0
  replace c2_0 := keep_cell (w1 := w2) hb c2_0
  replace q1 := keep_frozen (w1 := w2) hb c2_1 q1
  replace c2_1 := keep_cell (w1 := w2) hb c2_1
  replace q2 := keep_frozen (w1 := w2) hb c2_2 q2
  replace c2_2 := keep_cell (w1 := w2) hb c2_2
  replace Ha := Lib.hid (Ha.out.below hb (Nat.le_refl _))
  replace Hb := Lib.hid (Hb.out.below hb (Nat.le_refl _))
  replace Hc := Lib.hid (Hc.out.below hb (Nat.le_refl _))
  replace Hd := Lib.hid (Hd.out.below hb (Nat.le_refl _))
  replace B0 := B0.trans (hb.mono B0.size)
  clear hb
  go_wp2_with fail
  refine (l04Cmp_c _ _ _ _ _ x d Ha.out Hb.out _ _ _ _ y f Hc.out Hd.out l1 l2 l3 l4 c HC.out).mono ?_
  rintro e w3 ⟨rfl, hb⟩
  replace c0_0 := keep_cell hb c0_0
  replace c0_1 := keep_cell hb c0_1
  replace c0_2 := keep_cell hb c0_2
  replace c1_0 := keep_cell hb c1_0
  replace c1_1 := keep_cell hb c1_1
  replace c1_2 := keep_cell hb c1_2
  replace q0 := keep_frozen (w1 := w3) hb c2_0 q0
  replace c2_0 := keep_cell (w1 := w3) hb c2_0
  replace q1 := keep_frozen (w1 := w3) hb c2_1 q1
  replace c2_1 := keep_cell (w1 := w3) hb c2_1
  replace q2 := keep_frozen (w1 := w3) hb c2_2 q2
  replace c2_2 := keep_cell (w1 := w3) hb c2_2
  replace Ha := Lib.hid (Ha.out.below hb (Nat.le_refl _))
  replace Hb := Lib.hid (Hb.out.below hb (Nat.le_refl _))
  replace Hc := Lib.hid (Hc.out.below hb (Nat.le_refl _))
  replace Hd := Lib.hid (Hd.out.below hb (Nat.le_refl _))
  replace B0 := B0.trans (hb.mono B0.size)
  clear hb
  go_wp2_with fail
  refine (l04Copy_f _ _ _ _ _ x d Ha.out Hb.out (by omega) (by omega)).mono ?_
  rintro e w4 ⟨vr, vs, rfl, ho1, ho2, HAP, hb⟩
  replace c0_0 := keep_cell hb c0_0
  replace c0_1 := keep_cell hb c0_1
  replace c0_2 := keep_cell hb c0_2
  replace c1_0 := keep_cell hb c1_0
  replace c1_1 := keep_cell hb c1_1
  replace c1_2 := keep_cell hb c1_2
  replace q0 := keep_frozen (w1 := w4) hb c2_0 q0
  replace c2_0 := keep_cell (w1 := w4) hb c2_0
  replace q1 := keep_frozen (w1 := w4) hb c2_1 q1
  replace c2_1 := keep_cell (w1 := w4) hb c2_1
  replace q2 := keep_frozen (w1 := w4) hb c2_2 q2
  replace c2_2 := keep_cell (w1 := w4) hb c2_2
  replace Ha := Lib.hid (Ha.out.below hb (Nat.le_refl _))
  replace Hb := Lib.hid (Hb.out.below hb (Nat.le_refl _))
  replace Hc := Lib.hid (Hc.out.below hb (Nat.le_refl _))
  replace Hd := Lib.hid (Hd.out.below hb (Nat.le_refl _))
  have Hr := Lib.hid (ho1.mono B0.size)
  clear ho1
  have Hs := Lib.hid (ho2.mono B0.size)
  clear ho2
  obtain ⟨ar, cr, rfl, -, -, -, -, -⟩ := Hr.out.form
  obtain ⟨aS, cS, rfl, -, -, -, -, -⟩ := Hs.out.form
  replace B0 := B0.trans (hb.mono B0.size)
  clear hb
  go_wp2
  exact bodyPost_ret (v := .agg #[.bool (ng x), .slice ar (limbs x.natAbs).length cr, .slice aS (limbs d).length cS]) (by simp [results, Try.results42, go_sem, c2_0, c2_1, c2_2]) rfl (retR_end BW (by omega) hg0 B0 Hr.out Hs.out HAP)

set_option maxHeartbeats 2000000 in
theorem sRatMax_lt (w : World) (b1 e1 : Nat) (v1 u1 : Value) (x : Int) (d : Nat) (h1 : Own w b1 v1 (limbs x.natAbs)) (k1 : Own w e1 u1 (limbs d)) (b2 e2 : Nat) (v2 u2 : Value) (y : Int) (f : Nat) (h2 : Own w b2 v2 (limbs y.natAbs)) (k2 : Own w e2 u2 (limbs f)) (hq : IsQ x d) (hk : IsQ y f) (c : Int) (hc : c = qcmp x d y f) (ht : ¬ 0 ≤ c) :
    Calls Try.prog 42 #[.agg #[.bool (ng x), v1, u1], .agg #[.bool (ng y), v2, u2]] w (RetQ w y f) := by
  have BW : Below w.heap.size w (((w.alloc (.cells #[.bool (ng x), v1, u1] 31)).alloc (.cells #[.bool (ng y), v2, u2] 31)).alloc (.cells #[.bool false, .slice none 0 0, .slice none 0 0] 31)) := ((((Below.refl w.heap.size w).alloc (Nat.le_refl _) _).alloc (by simp) _).alloc (by simp; omega) _)
  obtain ⟨c0_0, c0_1, c0_2, c1_0, c1_1, c1_2, c2_0, c2_1, c2_2, q0, q1, q2⟩ : World.cell? (((w.alloc (.cells #[.bool (ng x), v1, u1] 31)).alloc (.cells #[.bool (ng y), v2, u2] 31)).alloc (.cells #[.bool false, .slice none 0 0, .slice none 0 0] 31)) ⟨w.heap.size, 0, none⟩ = some (.bool (ng x)) ∧ World.cell? (((w.alloc (.cells #[.bool (ng x), v1, u1] 31)).alloc (.cells #[.bool (ng y), v2, u2] 31)).alloc (.cells #[.bool false, .slice none 0 0, .slice none 0 0] 31)) ⟨w.heap.size, 1, none⟩ = some (v1) ∧ World.cell? (((w.alloc (.cells #[.bool (ng x), v1, u1] 31)).alloc (.cells #[.bool (ng y), v2, u2] 31)).alloc (.cells #[.bool false, .slice none 0 0, .slice none 0 0] 31)) ⟨w.heap.size, 2, none⟩ = some (u1) ∧ World.cell? (((w.alloc (.cells #[.bool (ng x), v1, u1] 31)).alloc (.cells #[.bool (ng y), v2, u2] 31)).alloc (.cells #[.bool false, .slice none 0 0, .slice none 0 0] 31)) ⟨w.heap.size + 1, 0, none⟩ = some (.bool (ng y)) ∧ World.cell? (((w.alloc (.cells #[.bool (ng x), v1, u1] 31)).alloc (.cells #[.bool (ng y), v2, u2] 31)).alloc (.cells #[.bool false, .slice none 0 0, .slice none 0 0] 31)) ⟨w.heap.size + 1, 1, none⟩ = some (v2) ∧ World.cell? (((w.alloc (.cells #[.bool (ng x), v1, u1] 31)).alloc (.cells #[.bool (ng y), v2, u2] 31)).alloc (.cells #[.bool false, .slice none 0 0, .slice none 0 0] 31)) ⟨w.heap.size + 1, 2, none⟩ = some (u2) ∧ World.cell? (((w.alloc (.cells #[.bool (ng x), v1, u1] 31)).alloc (.cells #[.bool (ng y), v2, u2] 31)).alloc (.cells #[.bool false, .slice none 0 0, .slice none 0 0] 31)) ⟨w.heap.size + 1 + 1, 0, none⟩ = some (.bool false) ∧ World.cell? (((w.alloc (.cells #[.bool (ng x), v1, u1] 31)).alloc (.cells #[.bool (ng y), v2, u2] 31)).alloc (.cells #[.bool false, .slice none 0 0, .slice none 0 0] 31)) ⟨w.heap.size + 1 + 1, 1, none⟩ = some (.slice none 0 0) ∧ World.cell? (((w.alloc (.cells #[.bool (ng x), v1, u1] 31)).alloc (.cells #[.bool (ng y), v2, u2] 31)).alloc (.cells #[.bool false, .slice none 0 0, .slice none 0 0] 31)) ⟨w.heap.size + 1 + 1, 2, none⟩ = some (.slice none 0 0) ∧ World.frozen? (((w.alloc (.cells #[.bool (ng x), v1, u1] 31)).alloc (.cells #[.bool (ng y), v2, u2] 31)).alloc (.cells #[.bool false, .slice none 0 0, .slice none 0 0] 31)) ⟨w.heap.size + 1 + 1, 0, none⟩ = false ∧ World.frozen? (((w.alloc (.cells #[.bool (ng x), v1, u1] 31)).alloc (.cells #[.bool (ng y), v2, u2] 31)).alloc (.cells #[.bool false, .slice none 0 0, .slice none 0 0] 31)) ⟨w.heap.size + 1 + 1, 1, none⟩ = false ∧ World.frozen? (((w.alloc (.cells #[.bool (ng x), v1, u1] 31)).alloc (.cells #[.bool (ng y), v2, u2] 31)).alloc (.cells #[.bool false, .slice none 0 0, .slice none 0 0] 31)) ⟨w.heap.size + 1 + 1, 2, none⟩ = false := by simp [go_sem]
  have hg0 : w.heap.size + 1 + 1 < ((((w.alloc (.cells #[.bool (ng x), v1, u1] 31)).alloc (.cells #[.bool (ng y), v2, u2] 31)).alloc (.cells #[.bool false, .slice none 0 0, .slice none 0 0] 31))).heap.size := World.block_lt_of_cell? _ _ c2_0
  have Ha := Lib.hid (h1.below BW (Nat.le_refl _))
  have Hb := Lib.hid (k1.below BW (Nat.le_refl _))
  have Hc := Lib.hid (h2.below BW (Nat.le_refl _))
  have Hd := Lib.hid (k2.below BW (Nat.le_refl _))
  clear h1 k1 h2 k2
  have HX := Lib.hid hq
  have HY := Lib.hid hk
  have l1 := hq.2.2.1
  have l2 := hq.2.2.2
  have l3 := hk.2.2.1
  have l4 := hk.2.2.2
  unfold Fit at l1 l2 l3 l4
  have HC := Lib.hid hc
  have dc : decide (0 ≤ c) = false := decide_eq_false ht
  clear hq hk hc
  go_enter Try.func42, Try.ntmps42
  go_wp2_with fail
  generalize (((w.alloc (.cells #[.bool (ng x), v1, u1] 31)).alloc (.cells #[.bool (ng y), v2, u2] 31)).alloc (.cells #[.bool false, .slice none 0 0, .slice none 0 0] 31)) = w0 at *
  have B0 := Below.refl w0.heap.size w0
  refine (sRatOk_q _ _ _ _ _ x d Ha.out Hb.out HX.out).mono ?_
  rintro e w1 ⟨rfl, hb⟩
  replace c0_0 := keep_cell hb c0_0
  replace c0_1 := keep_cell hb c0_1
  replace c0_2 := keep_cell hb c0_2
  replace c1_0 := keep_cell hb c1_0
  replace c1_1 := keep_cell hb c1_1
  replace c1_2 := keep_cell hb c1_2
  replace q0 := keep_frozen (w1 := w1) hb c2_0 q0
  replace c2_0 := keep_cell (w1 := w1) hb c2_0
  replace q1 := keep_frozen (w1 := w1) hb c2_1 q1
  replace c2_1 := keep_cell (w1 := w1) hb c2_1
  replace q2 := keep_frozen (w1 := w1) hb c2_2 q2
  replace c2_2 := keep_cell (w1 := w1) hb c2_2
  replace Ha := Lib.hid (Ha.out.below hb (Nat.le_refl _))
  replace Hb := Lib.hid (Hb.out.below hb (Nat.le_refl _))
  replace Hc := Lib.hid (Hc.out.below hb (Nat.le_refl _))
  replace Hd := Lib.hid (Hd.out.below hb (Nat.le_refl _))
  replace B0 := B0.trans (hb.mono B0.size)
  clear hb
  go_wp2_with fail
  refine (sRatOk_q _ _ _ _ _ y f Hc.out Hd.out HY.out).mono ?_
  rintro e w2 ⟨rfl, hb⟩
  replace c0_0 := keep_cell hb c0_0
  replace c0_1 := keep_cell hb c0_1
  replace c0_2 := keep_cell hb c0_2
  replace c1_0 := keep_cell hb c1_0
  replace c1_1 := keep_cell hb c1_1
  replace c1_2 := keep_cell hb c1_2
  replace q0 := keep_frozen (w1 := w2) hb c2_0 q0
  replace c2_0 := keep_cell (w1 := w2) hb c2_0
  replace q1 := keep_frozen (w1 := w2) hb c2_1 q1
  replace c2_1 := keep_cell (w1 := w2) hb c2_1
  replace q2 := keep_frozen (w1 := w2) hb c2_2 q2
  replace c2_2 := keep_cell (w1 := w2) hb c2_2
  replace Ha := Lib.hid (Ha.out.below hb (Nat.le_refl _))
  replace Hb := Lib.hid (Hb.out.below hb (Nat.le_refl _))
  replace Hc := Lib.hid (Hc.out.below hb (Nat.le_refl _))
  replace Hd := Lib.hid (Hd.out.below hb (Nat.le_refl _))
  replace B0 := B0.trans (hb.mono B0.size)
  clear hb
  go_wp2_with fail
  refine (l04Cmp_c _ _ _ _ _ x d Ha.out Hb.out _ _ _ _ y f Hc.out Hd.out l1 l2 l3 l4 c HC.out).mono ?_
  rintro e w3 ⟨rfl, hb⟩
  replace c0_0 := keep_cell hb c0_0
  replace c0_1 := keep_cell hb c0_1
  replace c0_2 := keep_cell hb c0_2
  replace c1_0 := keep_cell hb c1_0
  replace c1_1 := keep_cell hb c1_1
  replace c1_2 := keep_cell hb c1_2
  replace q0 := keep_frozen (w1 := w3) hb c2_0 q0
  replace c2_0 := keep_cell (w1 := w3) hb c2_0
  replace q1 := keep_frozen (w1 := w3) hb c2_1 q1
  replace c2_1 := keep_cell (w1 := w3) hb c2_1
  replace q2 := keep_frozen (w1 := w3) hb c2_2 q2
  replace c2_2 := keep_cell (w1 := w3) hb c2_2
  replace Ha := Lib.hid (Ha.out.below hb (Nat.le_refl _))
  replace Hb := Lib.hid (Hb.out.below hb (Nat.le_refl _))
  replace Hc := Lib.hid (Hc.out.below hb (Nat.le_refl _))
  replace Hd := Lib.hid (Hd.out.below hb (Nat.le_refl _))
  replace B0 := B0.trans (hb.mono B0.size)
  clear hb
  go_wp2_with fail
  refine (l04Copy_f _ _ _ _ _ y f Hc.out Hd.out (by omega) (by omega)).mono ?_
  rintro e w4 ⟨vr, vs, rfl, ho1, ho2, HAP, hb⟩
  replace c0_0 := keep_cell hb c0_0
  replace c0_1 := keep_cell hb c0_1
  replace c0_2 := keep_cell hb c0_2
  replace c1_0 := keep_cell hb c1_0
  replace c1_1 := keep_cell hb c1_1
  replace c1_2 := keep_cell hb c1_2
  replace q0 := keep_frozen (w1 := w4) hb c2_0 q0
  replace c2_0 := keep_cell (w1 := w4) hb c2_0
  replace q1 := keep_frozen (w1 := w4) hb c2_1 q1
  replace c2_1 := keep_cell (w1 := w4) hb c2_1
  replace q2 := keep_frozen (w1 := w4) hb c2_2 q2
  replace c2_2 := keep_cell (w1 := w4) hb c2_2
  replace Ha := Lib.hid (Ha.out.below hb (Nat.le_refl _))
  replace Hb := Lib.hid (Hb.out.below hb (Nat.le_refl _))
  replace Hc := Lib.hid (Hc.out.below hb (Nat.le_refl _))
  replace Hd := Lib.hid (Hd.out.below hb (Nat.le_refl _))
  have Hr := Lib.hid (ho1.mono B0.size)
  clear ho1
  have Hs := Lib.hid (ho2.mono B0.size)
  clear ho2
  obtain ⟨ar, cr, rfl, -, -, -, -, -⟩ := Hr.out.form
  obtain ⟨aS, cS, rfl, -, -, -, -, -⟩ := Hs.out.form
  replace B0 := B0.trans (hb.mono B0.size)
  clear hb
  go_wp2
  exact bodyPost_ret (v := .agg #[.bool (ng y), .slice ar (limbs y.natAbs).length cr, .slice aS (limbs f).length cS]) (by simp [results, Try.results42, go_sem, c2_0, c2_1, c2_2]) rfl (retR_end BW (by omega) hg0 B0 Hr.out Hs.out HAP)

theorem sRatMax_c (w : World) (b1 e1 : Nat) (s : Bool) (v1 u1 : Value) (xs ys : List Int) (h1 : Own w b1 v1 xs) (k1 : Own w e1 u1 ys) (b2 e2 : Nat) (t : Bool) (v2 u2 : Value) (zs ws : List Int) (h2 : Own w b2 v2 zs) (k2 : Own w e2 u2 ws) : Calls Try.prog 42 #[.agg #[.bool s, v1, u1], .agg #[.bool t, v2, u2]] w (RetQ w (q2 qmax s xs ys t zs ws).1 (q2 qmax s xs ys t zs ws).2) := by
  by_cases hx : OkR s xs ys
  · by_cases hy : OkR t zs ws
    · rw [show q2 qmax s xs ys t zs ws = qmax (zv s xs) (nv ys).toNat (zv t zs) (nv ws).toNat from if_pos ⟨hx, hy⟩]
      obtain ⟨x, d, rfl, rfl, rfl, hq, e3, e4⟩ := okR_q hx
      obtain ⟨y, f, rfl, rfl, rfl, hk, e5, e6⟩ := okR_q hy
      rw [e3, e4, e5, e6]
      by_cases ht : 0 ≤ qcmp x d y f
      · rw [show qmax x d y f = (x, d) from if_pos ht]
        exact sRatMax_ge w b1 e1 v1 u1 x d h1 k1 b2 e2 v2 u2 y f h2 k2 hq hk _ rfl ht
      · rw [show qmax x d y f = (y, f) from if_neg ht]
        exact sRatMax_lt w b1 e1 v1 u1 x d h1 k1 b2 e2 v2 u2 y f h2 k2 hq hk _ rfl ht
    · rw [show q2 qmax s xs ys t zs ws = (0, 0) from if_neg fun h => hy h.2]
      exact sRatMax_2 w b1 e1 s v1 u1 xs ys h1 k1 b2 e2 t v2 u2 zs ws h2 k2 hx hy
  · rw [show q2 qmax s xs ys t zs ws = (0, 0) from if_neg fun h => hx h.1]
    exact sRatMax_1 w b1 e1 s v1 u1 xs ys h1 k1 t v2 u2 hx

end Go.Proofs.Ytlideggpdailkaa
