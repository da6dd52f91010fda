/- The program's fractions: RatMake, RatOf, RatFromInt, RatSign, RatEqual. -/
import Derived.Test.YtijeplcjbhkkoaaGreatDoorRatD
namespace Go.Proofs.YtijeplcjbhkkoaaGreatDoor
open Go.RowKit Lm

set_option maxHeartbeats 2000000 in
theorem RatMake_1 (w : World) (b1 : Nat) (s t : Bool) (v1 v2 : Value) (xs : List Int) (h1 : Own w b1 v1 xs) (hx : ¬ OkG s xs) :
    Calls Tryz.prog 118 #[.agg #[.bool s, v1], .agg #[.bool t, v2]] w (RetQ w 0 0) := by
  have BW : Below w.heap.size w (((w.alloc (.cells #[.bool s, v1] 25)).alloc (.cells #[.bool t, v2] 25)).alloc (.cells #[.bool false, .slice none 0 0, .slice none 0 0] 27)) := ((((Below.refl w.heap.size w).alloc (Nat.le_refl _) _).alloc (by simp) _).alloc (by simp; omega) _)
  obtain ⟨c0_0, c0_1, c1_0, c1_1, c2_0, c2_1, c2_2, q0, q1, q2⟩ : World.cell? (((w.alloc (.cells #[.bool s, v1] 25)).alloc (.cells #[.bool t, v2] 25)).alloc (.cells #[.bool false, .slice none 0 0, .slice none 0 0] 27)) ⟨w.heap.size, 0, none⟩ = some (.bool s) ∧ World.cell? (((w.alloc (.cells #[.bool s, v1] 25)).alloc (.cells #[.bool t, v2] 25)).alloc (.cells #[.bool false, .slice none 0 0, .slice none 0 0] 27)) ⟨w.heap.size, 1, none⟩ = some (v1) ∧ World.cell? (((w.alloc (.cells #[.bool s, v1] 25)).alloc (.cells #[.bool t, v2] 25)).alloc (.cells #[.bool false, .slice none 0 0, .slice none 0 0] 27)) ⟨w.heap.size + 1, 0, none⟩ = some (.bool t) ∧ World.cell? (((w.alloc (.cells #[.bool s, v1] 25)).alloc (.cells #[.bool t, v2] 25)).alloc (.cells #[.bool false, .slice none 0 0, .slice none 0 0] 27)) ⟨w.heap.size + 1, 1, none⟩ = some (v2) ∧ World.cell? (((w.alloc (.cells #[.bool s, v1] 25)).alloc (.cells #[.bool t, v2] 25)).alloc (.cells #[.bool false, .slice none 0 0, .slice none 0 0] 27)) ⟨w.heap.size + 1 + 1, 0, none⟩ = some (.bool false) ∧ World.cell? (((w.alloc (.cells #[.bool s, v1] 25)).alloc (.cells #[.bool t, v2] 25)).alloc (.cells #[.bool false, .slice none 0 0, .slice none 0 0] 27)) ⟨w.heap.size + 1 + 1, 1, none⟩ = some (.slice none 0 0) ∧ World.cell? (((w.alloc (.cells #[.bool s, v1] 25)).alloc (.cells #[.bool t, v2] 25)).alloc (.cells #[.bool false, .slice none 0 0, .slice none 0 0] 27)) ⟨w.heap.size + 1 + 1, 2, none⟩ = some (.slice none 0 0) ∧ World.frozen? (((w.alloc (.cells #[.bool s, v1] 25)).alloc (.cells #[.bool t, v2] 25)).alloc (.cells #[.bool false, .slice none 0 0, .slice none 0 0] 27)) ⟨w.heap.size + 1 + 1, 0, none⟩ = false ∧ World.frozen? (((w.alloc (.cells #[.bool s, v1] 25)).alloc (.cells #[.bool t, v2] 25)).alloc (.cells #[.bool false, .slice none 0 0, .slice none 0 0] 27)) ⟨w.heap.size + 1 + 1, 1, none⟩ = false ∧ World.frozen? (((w.alloc (.cells #[.bool s, v1] 25)).alloc (.cells #[.bool t, v2] 25)).alloc (.cells #[.bool false, .slice none 0 0, .slice none 0 0] 27)) ⟨w.heap.size + 1 + 1, 2, none⟩ = false := by simp [go_sem]
  have hg0 : w.heap.size + 1 + 1 < ((((w.alloc (.cells #[.bool s, v1] 25)).alloc (.cells #[.bool t, v2] 25)).alloc (.cells #[.bool false, .slice none 0 0, .slice none 0 0] 27))).heap.size := World.block_lt_of_cell? _ _ c2_0
  have Ha := Lib.hid (h1.below BW (Nat.le_refl _))
  clear h1
  have HX := Lib.hid hx
  clear hx
  go_enter Tryz.func118, Tryz.ntmps118
  go_wp2_with fail
  generalize (((w.alloc (.cells #[.bool s, v1] 25)).alloc (.cells #[.bool t, v2] 25)).alloc (.cells #[.bool false, .slice none 0 0, .slice none 0 0] 27)) = w0 at *
  have B0 := Below.refl w0.heap.size w0
  refine (bigIntOk_f _ _ _ _ _ Ha.out HX.out).mono ?_
  rintro e w1 ⟨rfl, hb⟩
  replace c0_0 := keep_cell hb c0_0
  replace c0_1 := keep_cell hb c0_1
  replace c1_0 := keep_cell hb c1_0
  replace c1_1 := keep_cell hb c1_1
  replace q0 := keep_frozen (w1 := w1) hb c2_0 q0
  replace c2_0 := keep_cell (w1 := w1) hb c2_0
  replace q1 := keep_frozen (w1 := w1) hb c2_1 q1
  replace c2_1 := keep_cell (w1 := w1) hb c2_1
  replace q2 := keep_frozen (w1 := w1) hb c2_2 q2
  replace c2_2 := keep_cell (w1 := w1) hb c2_2
  replace Ha := Lib.hid (Ha.out.below hb (Nat.le_refl _))
  replace B0 := B0.trans (hb.mono B0.size)
  clear hb
  go_wp2
  exact bodyPost_ret (v := .agg #[.bool false, .slice none 0 0, .slice none 0 0]) (by simp [results, Tryz.results118, go_sem, c2_0, c2_1, c2_2]) rfl (retQ_nil (set3_below (BW.trans (B0.mono BW.size)) (by omega)))

set_option maxHeartbeats 2000000 in
theorem RatMake_2 (w : World) (b1 b2 : Nat) (s t : Bool) (v1 v2 : Value) (xs ys : List Int) (h1 : Own w b1 v1 xs) (h2 : Own w b2 v2 ys) (hx : OkG s xs) (hy : ¬ OkG t ys) :
    Calls Tryz.prog 118 #[.agg #[.bool s, v1], .agg #[.bool t, v2]] w (RetQ w 0 0) := by
  have BW : Below w.heap.size w (((w.alloc (.cells #[.bool s, v1] 25)).alloc (.cells #[.bool t, v2] 25)).alloc (.cells #[.bool false, .slice none 0 0, .slice none 0 0] 27)) := ((((Below.refl w.heap.size w).alloc (Nat.le_refl _) _).alloc (by simp) _).alloc (by simp; omega) _)
  obtain ⟨c0_0, c0_1, c1_0, c1_1, c2_0, c2_1, c2_2, q0, q1, q2⟩ : World.cell? (((w.alloc (.cells #[.bool s, v1] 25)).alloc (.cells #[.bool t, v2] 25)).alloc (.cells #[.bool false, .slice none 0 0, .slice none 0 0] 27)) ⟨w.heap.size, 0, none⟩ = some (.bool s) ∧ World.cell? (((w.alloc (.cells #[.bool s, v1] 25)).alloc (.cells #[.bool t, v2] 25)).alloc (.cells #[.bool false, .slice none 0 0, .slice none 0 0] 27)) ⟨w.heap.size, 1, none⟩ = some (v1) ∧ World.cell? (((w.alloc (.cells #[.bool s, v1] 25)).alloc (.cells #[.bool t, v2] 25)).alloc (.cells #[.bool false, .slice none 0 0, .slice none 0 0] 27)) ⟨w.heap.size + 1, 0, none⟩ = some (.bool t) ∧ World.cell? (((w.alloc (.cells #[.bool s, v1] 25)).alloc (.cells #[.bool t, v2] 25)).alloc (.cells #[.bool false, .slice none 0 0, .slice none 0 0] 27)) ⟨w.heap.size + 1, 1, none⟩ = some (v2) ∧ World.cell? (((w.alloc (.cells #[.bool s, v1] 25)).alloc (.cells #[.bool t, v2] 25)).alloc (.cells #[.bool false, .slice none 0 0, .slice none 0 0] 27)) ⟨w.heap.size + 1 + 1, 0, none⟩ = some (.bool false) ∧ World.cell? (((w.alloc (.cells #[.bool s, v1] 25)).alloc (.cells #[.bool t, v2] 25)).alloc (.cells #[.bool false, .slice none 0 0, .slice none 0 0] 27)) ⟨w.heap.size + 1 + 1, 1, none⟩ = some (.slice none 0 0) ∧ World.cell? (((w.alloc (.cells #[.bool s, v1] 25)).alloc (.cells #[.bool t, v2] 25)).alloc (.cells #[.bool false, .slice none 0 0, .slice none 0 0] 27)) ⟨w.heap.size + 1 + 1, 2, none⟩ = some (.slice none 0 0) ∧ World.frozen? (((w.alloc (.cells #[.bool s, v1] 25)).alloc (.cells #[.bool t, v2] 25)).alloc (.cells #[.bool false, .slice none 0 0, .slice none 0 0] 27)) ⟨w.heap.size + 1 + 1, 0, none⟩ = false ∧ World.frozen? (((w.alloc (.cells #[.bool s, v1] 25)).alloc (.cells #[.bool t, v2] 25)).alloc (.cells #[.bool false, .slice none 0 0, .slice none 0 0] 27)) ⟨w.heap.size + 1 + 1, 1, none⟩ = false ∧ World.frozen? (((w.alloc (.cells #[.bool s, v1] 25)).alloc (.cells #[.bool t, v2] 25)).alloc (.cells #[.bool false, .slice none 0 0, .slice none 0 0] 27)) ⟨w.heap.size + 1 + 1, 2, none⟩ = false := by simp [go_sem]
  have hg0 : w.heap.size + 1 + 1 < ((((w.alloc (.cells #[.bool s, v1] 25)).alloc (.cells #[.bool t, v2] 25)).alloc (.cells #[.bool false, .slice none 0 0, .slice none 0 0] 27))).heap.size := World.block_lt_of_cell? _ _ c2_0
  have Ha := Lib.hid (h1.below BW (Nat.le_refl _))
  have Hc := Lib.hid (h2.below BW (Nat.le_refl _))
  clear h1 h2
  have HX := Lib.hid hx
  have HY := Lib.hid hy
  clear hx hy
  go_enter Tryz.func118, Tryz.ntmps118
  go_wp2_with fail
  generalize (((w.alloc (.cells #[.bool s, v1] 25)).alloc (.cells #[.bool t, v2] 25)).alloc (.cells #[.bool false, .slice none 0 0, .slice none 0 0] 27)) = w0 at *
  have B0 := Below.refl w0.heap.size w0
  refine (bigIntOk_t _ _ _ _ _ Ha.out HX.out).mono ?_
  rintro e w1 ⟨rfl, hb⟩
  replace c0_0 := keep_cell hb c0_0
  replace c0_1 := keep_cell hb c0_1
  replace c1_0 := keep_cell hb c1_0
  replace c1_1 := keep_cell hb c1_1
  replace q0 := keep_frozen (w1 := w1) hb c2_0 q0
  replace c2_0 := keep_cell (w1 := w1) hb c2_0
  replace q1 := keep_frozen (w1 := w1) hb c2_1 q1
  replace c2_1 := keep_cell (w1 := w1) hb c2_1
  replace q2 := keep_frozen (w1 := w1) hb c2_2 q2
  replace c2_2 := keep_cell (w1 := w1) hb c2_2
  replace Ha := Lib.hid (Ha.out.below hb (Nat.le_refl _))
  replace Hc := Lib.hid (Hc.out.below hb (Nat.le_refl _))
  replace B0 := B0.trans (hb.mono B0.size)
  clear hb
  go_wp2_with fail
  refine (bigIntOk_f _ _ _ _ _ Hc.out HY.out).mono ?_
  rintro e w2 ⟨rfl, hb⟩
  replace c0_0 := keep_cell hb c0_0
  replace c0_1 := keep_cell hb c0_1
  replace c1_0 := keep_cell hb c1_0
  replace c1_1 := keep_cell hb c1_1
  replace q0 := keep_frozen (w1 := w2) hb c2_0 q0
  replace c2_0 := keep_cell (w1 := w2) hb c2_0
  replace q1 := keep_frozen (w1 := w2) hb c2_1 q1
  replace c2_1 := keep_cell (w1 := w2) hb c2_1
  replace q2 := keep_frozen (w1 := w2) hb c2_2 q2
  replace c2_2 := keep_cell (w1 := w2) hb c2_2
  replace Ha := Lib.hid (Ha.out.below hb (Nat.le_refl _))
  replace Hc := Lib.hid (Hc.out.below hb (Nat.le_refl _))
  replace B0 := B0.trans (hb.mono B0.size)
  clear hb
  go_wp2
  exact bodyPost_ret (v := .agg #[.bool false, .slice none 0 0, .slice none 0 0]) (by simp [results, Tryz.results118, go_sem, c2_0, c2_1, c2_2]) rfl (retQ_nil (set3_below (BW.trans (B0.mono BW.size)) (by omega)))

set_option maxHeartbeats 2000000 in
theorem RatMake_3 (w : World) (b1 b2 : Nat) (s t : Bool) (v1 v2 : Value) (xs : List Int) (h1 : Own w b1 v1 xs) (h2 : Own w b2 v2 []) (hx : OkG s xs) (hy : OkG t []) :
    Calls Tryz.prog 118 #[.agg #[.bool s, v1], .agg #[.bool t, v2]] w (RetQ w 0 0) := by
  obtain ⟨a2, c2, rfl, -, -, -, -, -⟩ := h2.form
  have BW : Below w.heap.size w (((w.alloc (.cells #[.bool s, v1] 25)).alloc (.cells #[.bool t, (.slice a2 ([] : List Int).length c2)] 25)).alloc (.cells #[.bool false, .slice none 0 0, .slice none 0 0] 27)) := ((((Below.refl w.heap.size w).alloc (Nat.le_refl _) _).alloc (by simp) _).alloc (by simp; omega) _)
  obtain ⟨c0_0, c0_1, c1_0, c1_1, c2_0, c2_1, c2_2, q0, q1, q2⟩ : World.cell? (((w.alloc (.cells #[.bool s, v1] 25)).alloc (.cells #[.bool t, (.slice a2 ([] : List Int).length c2)] 25)).alloc (.cells #[.bool false, .slice none 0 0, .slice none 0 0] 27)) ⟨w.heap.size, 0, none⟩ = some (.bool s) ∧ World.cell? (((w.alloc (.cells #[.bool s, v1] 25)).alloc (.cells #[.bool t, (.slice a2 ([] : List Int).length c2)] 25)).alloc (.cells #[.bool false, .slice none 0 0, .slice none 0 0] 27)) ⟨w.heap.size, 1, none⟩ = some (v1) ∧ World.cell? (((w.alloc (.cells #[.bool s, v1] 25)).alloc (.cells #[.bool t, (.slice a2 ([] : List Int).length c2)] 25)).alloc (.cells #[.bool false, .slice none 0 0, .slice none 0 0] 27)) ⟨w.heap.size + 1, 0, none⟩ = some (.bool t) ∧ World.cell? (((w.alloc (.cells #[.bool s, v1] 25)).alloc (.cells #[.bool t, (.slice a2 ([] : List Int).length c2)] 25)).alloc (.cells #[.bool false, .slice none 0 0, .slice none 0 0] 27)) ⟨w.heap.size + 1, 1, none⟩ = some ((.slice a2 ([] : List Int).length c2)) ∧ World.cell? (((w.alloc (.cells #[.bool s, v1] 25)).alloc (.cells #[.bool t, (.slice a2 ([] : List Int).length c2)] 25)).alloc (.cells #[.bool false, .slice none 0 0, .slice none 0 0] 27)) ⟨w.heap.size + 1 + 1, 0, none⟩ = some (.bool false) ∧ World.cell? (((w.alloc (.cells #[.bool s, v1] 25)).alloc (.cells #[.bool t, (.slice a2 ([] : List Int).length c2)] 25)).alloc (.cells #[.bool false, .slice none 0 0, .slice none 0 0] 27)) ⟨w.heap.size + 1 + 1, 1, none⟩ = some (.slice none 0 0) ∧ World.cell? (((w.alloc (.cells #[.bool s, v1] 25)).alloc (.cells #[.bool t, (.slice a2 ([] : List Int).length c2)] 25)).alloc (.cells #[.bool false, .slice none 0 0, .slice none 0 0] 27)) ⟨w.heap.size + 1 + 1, 2, none⟩ = some (.slice none 0 0) ∧ World.frozen? (((w.alloc (.cells #[.bool s, v1] 25)).alloc (.cells #[.bool t, (.slice a2 ([] : List Int).length c2)] 25)).alloc (.cells #[.bool false, .slice none 0 0, .slice none 0 0] 27)) ⟨w.heap.size + 1 + 1, 0, none⟩ = false ∧ World.frozen? (((w.alloc (.cells #[.bool s, v1] 25)).alloc (.cells #[.bool t, (.slice a2 ([] : List Int).length c2)] 25)).alloc (.cells #[.bool false, .slice none 0 0, .slice none 0 0] 27)) ⟨w.heap.size + 1 + 1, 1, none⟩ = false ∧ World.frozen? (((w.alloc (.cells #[.bool s, v1] 25)).alloc (.cells #[.bool t, (.slice a2 ([] : List Int).length c2)] 25)).alloc (.cells #[.bool false, .slice none 0 0, .slice none 0 0] 27)) ⟨w.heap.size + 1 + 1, 2, none⟩ = false := by simp [go_sem]
  have hg0 : w.heap.size + 1 + 1 < ((((w.alloc (.cells #[.bool s, v1] 25)).alloc (.cells #[.bool t, (.slice a2 ([] : List Int).length c2)] 25)).alloc (.cells #[.bool false, .slice none 0 0, .slice none 0 0] 27))).heap.size := World.block_lt_of_cell? _ _ c2_0
  have Ha := Lib.hid (h1.below BW (Nat.le_refl _))
  have Hc := Lib.hid (h2.below BW (Nat.le_refl _))
  clear h1 h2
  have HX := Lib.hid hx
  have HY := Lib.hid hy
  clear hx hy
  have dz : (([] : List Int).length == 0) = true := rfl
  have dy : ((([] : List Int).length : Int) == 0) = true := rfl
  go_enter Tryz.func118, Tryz.ntmps118
  go_wp2_with fail
  generalize (((w.alloc (.cells #[.bool s, v1] 25)).alloc (.cells #[.bool t, (.slice a2 ([] : List Int).length c2)] 25)).alloc (.cells #[.bool false, .slice none 0 0, .slice none 0 0] 27)) = w0 at *
  have B0 := Below.refl w0.heap.size w0
  refine (bigIntOk_t _ _ _ _ _ Ha.out HX.out).mono ?_
  rintro e w1 ⟨rfl, hb⟩
  replace c0_0 := keep_cell hb c0_0
  replace c0_1 := keep_cell hb c0_1
  replace c1_0 := keep_cell hb c1_0
  replace c1_1 := keep_cell hb c1_1
  replace q0 := keep_frozen (w1 := w1) hb c2_0 q0
  replace c2_0 := keep_cell (w1 := w1) hb c2_0
  replace q1 := keep_frozen (w1 := w1) hb c2_1 q1
  replace c2_1 := keep_cell (w1 := w1) hb c2_1
  replace q2 := keep_frozen (w1 := w1) hb c2_2 q2
  replace c2_2 := keep_cell (w1 := w1) hb c2_2
  replace Ha := Lib.hid (Ha.out.below hb (Nat.le_refl _))
  replace Hc := Lib.hid (Hc.out.below hb (Nat.le_refl _))
  replace B0 := B0.trans (hb.mono B0.size)
  clear hb
  go_wp2_with fail
  refine (bigIntOk_t _ _ _ _ _ Hc.out HY.out).mono ?_
  rintro e w2 ⟨rfl, hb⟩
  replace c0_0 := keep_cell hb c0_0
  replace c0_1 := keep_cell hb c0_1
  replace c1_0 := keep_cell hb c1_0
  replace c1_1 := keep_cell hb c1_1
  replace q0 := keep_frozen (w1 := w2) hb c2_0 q0
  replace c2_0 := keep_cell (w1 := w2) hb c2_0
  replace q1 := keep_frozen (w1 := w2) hb c2_1 q1
  replace c2_1 := keep_cell (w1 := w2) hb c2_1
  replace q2 := keep_frozen (w1 := w2) hb c2_2 q2
  replace c2_2 := keep_cell (w1 := w2) hb c2_2
  replace Ha := Lib.hid (Ha.out.below hb (Nat.le_refl _))
  replace Hc := Lib.hid (Hc.out.below hb (Nat.le_refl _))
  replace B0 := B0.trans (hb.mono B0.size)
  clear hb
  go_wp2
  exact bodyPost_ret (v := .agg #[.bool false, .slice none 0 0, .slice none 0 0]) (by simp [results, Tryz.results118, go_sem, c2_0, c2_1, c2_2]) rfl (retQ_nil (set3_below (BW.trans (B0.mono BW.size)) (by omega)))

/-- With the sign of y. -/
def turn (x y : Int) : Int := if y < 0 then -x else x
theorem turn_abs (x y : Int) : (turn x y).natAbs = x.natAbs := by unfold turn; split <;> simp
theorem turn_ng {x y : Int} (h : turn x y ≠ 0) : (ng x != ng y) = ng (turn x y) := by
  unfold turn at *
  rcases ng_cases x with ⟨h1, e1⟩ | ⟨h1, e1⟩ <;> rcases ng_cases y with ⟨h2, e2⟩ | ⟨h2, e2⟩ <;> rw [e1, e2]
  · rw [if_pos h2, ng_nonneg (by omega)]; rfl
  · rw [if_neg (by omega), e1]; rfl
  · rw [if_pos h2] at h ⊢; rw [ng_neg (by omega)]; rfl
  · rw [if_neg (by omega), e1]; rfl
theorem signed_turn (w : World) (b1 : Nat) (v1 : Value) (x y z : Int) (h1 : Own w b1 v1 (limbs x.natAbs)) (hz : Hid (z = turn x y)) :
    Calls Tryz.prog 67 #[.bool (ng x != ng y), v1] w (RetZV w b1 v1 z) := by
  have hz := hz.out
  subst hz
  exact signed_z w b1 _ v1 _ (by rw [turn_abs]; exact h1) turn_ng

set_option maxHeartbeats 2000000 in
theorem RatMake_z (w : World) (b1 b2 : Nat) (v1 v2 : Value) (x y : Int) (h1 : Own w b1 v1 (limbs x.natAbs)) (h2 : Own w b2 v2 (limbs y.natAbs)) (hl1 : (limbs x.natAbs).length ≤ 60) (hl2 : (limbs y.natAbs).length ≤ 60) (hy : y ≠ 0) (z : Int) (e : Nat) (hz : z = lowZ (turn x y) y.natAbs) (he : e = lowD (turn x y) y.natAbs) :
    Calls Tryz.prog 118 #[.agg #[.bool (ng x), v1], .agg #[.bool (ng y), v2]] w (RetQ w z e) := by
  obtain ⟨a2, c2, rfl, -, -, -, -, -⟩ := h2.form
  have g1 := h1.mono (Nat.zero_le _)
  have g2 := h2.mono (Nat.zero_le _)
  clear h1 h2
  have BW : Below w.heap.size w (((w.alloc (.cells #[.bool (ng x), v1] 25)).alloc (.cells #[.bool (ng y), (.slice a2 (limbs y.natAbs).length c2)] 25)).alloc (.cells #[.bool false, .slice none 0 0, .slice none 0 0] 27)) := ((((Below.refl w.heap.size w).alloc (Nat.le_refl _) _).alloc (by simp) _).alloc (by simp; omega) _)
  obtain ⟨c0_0, c0_1, c1_0, c1_1, c2_0, c2_1, c2_2, q0, q1, q2⟩ : World.cell? (((w.alloc (.cells #[.bool (ng x), v1] 25)).alloc (.cells #[.bool (ng y), (.slice a2 (limbs y.natAbs).length c2)] 25)).alloc (.cells #[.bool false, .slice none 0 0, .slice none 0 0] 27)) ⟨w.heap.size, 0, none⟩ = some (.bool (ng x)) ∧ World.cell? (((w.alloc (.cells #[.bool (ng x), v1] 25)).alloc (.cells #[.bool (ng y), (.slice a2 (limbs y.natAbs).length c2)] 25)).alloc (.cells #[.bool false, .slice none 0 0, .slice none 0 0] 27)) ⟨w.heap.size, 1, none⟩ = some (v1) ∧ World.cell? (((w.alloc (.cells #[.bool (ng x), v1] 25)).alloc (.cells #[.bool (ng y), (.slice a2 (limbs y.natAbs).length c2)] 25)).alloc (.cells #[.bool false, .slice none 0 0, .slice none 0 0] 27)) ⟨w.heap.size + 1, 0, none⟩ = some (.bool (ng y)) ∧ World.cell? (((w.alloc (.cells #[.bool (ng x), v1] 25)).alloc (.cells #[.bool (ng y), (.slice a2 (limbs y.natAbs).length c2)] 25)).alloc (.cells #[.bool false, .slice none 0 0, .slice none 0 0] 27)) ⟨w.heap.size + 1, 1, none⟩ = some ((.slice a2 (limbs y.natAbs).length c2)) ∧ World.cell? (((w.alloc (.cells #[.bool (ng x), v1] 25)).alloc (.cells #[.bool (ng y), (.slice a2 (limbs y.natAbs).length c2)] 25)).alloc (.cells #[.bool false, .slice none 0 0, .slice none 0 0] 27)) ⟨w.heap.size + 1 + 1, 0, none⟩ = some (.bool false) ∧ World.cell? (((w.alloc (.cells #[.bool (ng x), v1] 25)).alloc (.cells #[.bool (ng y), (.slice a2 (limbs y.natAbs).length c2)] 25)).alloc (.cells #[.bool false, .slice none 0 0, .slice none 0 0] 27)) ⟨w.heap.size + 1 + 1, 1, none⟩ = some (.slice none 0 0) ∧ World.cell? (((w.alloc (.cells #[.bool (ng x), v1] 25)).alloc (.cells #[.bool (ng y), (.slice a2 (limbs y.natAbs).length c2)] 25)).alloc (.cells #[.bool false, .slice none 0 0, .slice none 0 0] 27)) ⟨w.heap.size + 1 + 1, 2, none⟩ = some (.slice none 0 0) ∧ World.frozen? (((w.alloc (.cells #[.bool (ng x), v1] 25)).alloc (.cells #[.bool (ng y), (.slice a2 (limbs y.natAbs).length c2)] 25)).alloc (.cells #[.bool false, .slice none 0 0, .slice none 0 0] 27)) ⟨w.heap.size + 1 + 1, 0, none⟩ = false ∧ World.frozen? (((w.alloc (.cells #[.bool (ng x), v1] 25)).alloc (.cells #[.bool (ng y), (.slice a2 (limbs y.natAbs).length c2)] 25)).alloc (.cells #[.bool false, .slice none 0 0, .slice none 0 0] 27)) ⟨w.heap.size + 1 + 1, 1, none⟩ = false ∧ World.frozen? (((w.alloc (.cells #[.bool (ng x), v1] 25)).alloc (.cells #[.bool (ng y), (.slice a2 (limbs y.natAbs).length c2)] 25)).alloc (.cells #[.bool false, .slice none 0 0, .slice none 0 0] 27)) ⟨w.heap.size + 1 + 1, 2, none⟩ = false := by simp [go_sem]
  have hg0 : w.heap.size + 1 + 1 < ((((w.alloc (.cells #[.bool (ng x), v1] 25)).alloc (.cells #[.bool (ng y), (.slice a2 (limbs y.natAbs).length c2)] 25)).alloc (.cells #[.bool false, .slice none 0 0, .slice none 0 0] 27))).heap.size := World.block_lt_of_cell? _ _ c2_0
  have Ha := Lib.hid (g1.below BW (Nat.le_refl _))
  have Hc := Lib.hid (g2.below BW (Nat.le_refl _))
  clear g1 g2
  have HY := Lib.hid hy
  have hny : 0 < y.natAbs := by omega
  have hny2 := limbs_len_pos.2 hny
  have dz : ((limbs y.natAbs).length == 0) = false := beq_eq_false_iff_ne.2 (by omega)
  have dy : (((limbs y.natAbs).length : Int) == 0) = false := beq_eq_false_iff_ne.2 (by omega)
  obtain ⟨t, ht⟩ : ∃ t : Int, t = turn x y := ⟨_, rfl⟩
  have HT := Lib.hid ht
  have lt : (limbs t.natAbs).length ≤ 900 := by rw [ht, turn_abs]; omega
  have ly : (limbs y.natAbs).length ≤ 900 := by omega
  have HZ : Hid (z = lowZ t y.natAbs) := by unfold Hid; rw [ht]; exact hz
  have HE : Hid (e = lowD t y.natAbs) := by unfold Hid; rw [ht]; exact he
  have lz : (limbs z.natAbs).length ≤ 900 := by rw [hz]; have := (low_isQ0 (turn x y) y.natAbs).len.1; omega
  have le : (limbs e).length ≤ 900 := by rw [he]; have := (low_isQ0 (turn x y) y.natAbs).len.2; omega
  clear hy ht hz he
  go_enter Tryz.func118, Tryz.ntmps118
  go_wp2_with fail
  generalize (((w.alloc (.cells #[.bool (ng x), v1] 25)).alloc (.cells #[.bool (ng y), (.slice a2 (limbs y.natAbs).length c2)] 25)).alloc (.cells #[.bool false, .slice none 0 0, .slice none 0 0] 27)) = w0 at *
  have B0 := Below.refl w0.heap.size w0
  refine (bigIntOk_z _ _ _ x Ha.out hl1).mono ?_
  rintro e w1 ⟨rfl, hb⟩
  replace c0_0 := keep_cell hb c0_0
  replace c0_1 := keep_cell hb c0_1
  replace c1_0 := keep_cell hb c1_0
  replace c1_1 := keep_cell hb c1_1
  replace q0 := keep_frozen (w1 := w1) hb c2_0 q0
  replace c2_0 := keep_cell (w1 := w1) hb c2_0
  replace q1 := keep_frozen (w1 := w1) hb c2_1 q1
  replace c2_1 := keep_cell (w1 := w1) hb c2_1
  replace q2 := keep_frozen (w1 := w1) hb c2_2 q2
  replace c2_2 := keep_cell (w1 := w1) hb c2_2
  replace Ha := Lib.hid (Ha.out.below hb (Nat.le_refl _))
  replace Hc := Lib.hid (Hc.out.below hb (Nat.le_refl _))
  replace B0 := B0.trans (hb.mono B0.size)
  clear hb
  go_wp2_with fail
  refine (bigIntOk_z _ _ _ y Hc.out hl2).mono ?_
  rintro e w2 ⟨rfl, hb⟩
  replace c0_0 := keep_cell hb c0_0
  replace c0_1 := keep_cell hb c0_1
  replace c1_0 := keep_cell hb c1_0
  replace c1_1 := keep_cell hb c1_1
  replace q0 := keep_frozen (w1 := w2) hb c2_0 q0
  replace c2_0 := keep_cell (w1 := w2) hb c2_0
  replace q1 := keep_frozen (w1 := w2) hb c2_1 q1
  replace c2_1 := keep_cell (w1 := w2) hb c2_1
  replace q2 := keep_frozen (w1 := w2) hb c2_2 q2
  replace c2_2 := keep_cell (w1 := w2) hb c2_2
  replace Ha := Lib.hid (Ha.out.below hb (Nat.le_refl _))
  replace Hc := Lib.hid (Hc.out.below hb (Nat.le_refl _))
  replace B0 := B0.trans (hb.mono B0.size)
  clear hb
  go_wp2_with fail
  replace Ha := Lib.hid Ha.out.drew
  replace Hc := Lib.hid Hc.out.drew
  replace B0 := below_drew B0
  replace q0 := frozen_drew q0
  replace c2_0 := cell_drew c2_0
  replace q1 := frozen_drew q1
  replace c2_1 := cell_drew c2_1
  replace q2 := frozen_drew q2
  replace c2_2 := cell_drew c2_2
  replace c0_0 := cell_drew c0_0
  replace c0_1 := cell_drew c0_1
  replace c1_0 := cell_drew c1_0
  replace c1_1 := cell_drew c1_1
  go_region_held3 (fun w' => w'.cell? ⟨w.heap.size, 0, none⟩ = some (.bool (ng x)) ∧ w'.cell? ⟨w.heap.size, 1, none⟩ = some (v1) ∧ w'.cell? ⟨w.heap.size + 1, 0, none⟩ = some (.bool (ng y)) ∧ w'.cell? ⟨w.heap.size + 1, 1, none⟩ = some ((.slice a2 (limbs y.natAbs).length c2))) (first | exact ⟨c0_0, c0_1, c1_0, c1_1⟩ | (go_split_ands; exact ⟨(set_far (set_far ‹_› (by dsimp only; omega)) (by dsimp only; omega)), (set_far (set_far ‹_› (by dsimp only; omega)) (by dsimp only; omega)), (set_far (set_far ‹_› (by dsimp only; omega)) (by dsimp only; omega)), (set_far (set_far ‹_› (by dsimp only; omega)) (by dsimp only; omega))⟩) | (go_split_ands; exact ⟨(set_far (set_far (set_far ‹_› (by dsimp only; omega)) (by dsimp only; omega)) (by dsimp only; omega)), (set_far (set_far (set_far ‹_› (by dsimp only; omega)) (by dsimp only; omega)) (by dsimp only; omega)), (set_far (set_far (set_far ‹_› (by dsimp only; omega)) (by dsimp only; omega)) (by dsimp only; omega)), (set_far (set_far (set_far ‹_› (by dsimp only; omega)) (by dsimp only; omega)) (by dsimp only; omega))⟩) | (go_split_ands; exact ⟨(set_far ‹_› (by dsimp only; omega)), (set_far ‹_› (by dsimp only; omega)), (set_far ‹_› (by dsimp only; omega)), (set_far ‹_› (by dsimp only; omega))⟩) | go_keep)
    (first | (go_at_call 67; refine (signed_turn _ _ _ x y t Ha.out HT).mono ?_; rintro e w3 ⟨vo, rfl, ho1, hp, hb3⟩; replace q0 := keep_frozen (w1 := w3) hb3 c2_0 q0; replace c2_0 := keep_cell (w1 := w3) hb3 c2_0; replace q1 := keep_frozen (w1 := w3) hb3 c2_1 q1; replace c2_1 := keep_cell (w1 := w3) hb3 c2_1; replace q2 := keep_frozen (w1 := w3) hb3 c2_2 q2; replace c2_2 := keep_cell (w1 := w3) hb3 c2_2; replace c0_0 := keep_cell (w1 := w3) hb3 c0_0; replace c0_1 := keep_cell (w1 := w3) hb3 c0_1; replace c1_0 := keep_cell (w1 := w3) hb3 c1_0; replace c1_1 := keep_cell (w1 := w3) hb3 c1_1; replace Ha := Lib.hid (Ha.out.below hb3 (Nat.le_refl _)); replace Hc := Lib.hid (Hc.out.below hb3 (Nat.le_refl _)); (try (replace Hl := Lib.hid (Hl.out.below hb3 (Nat.le_refl _)))); (try (replace Hm := Lib.hid (Hm.out.below hb3 (Nat.le_refl _)))); (try (replace Hr := Lib.hid (Hr.out.below hb3 (Nat.le_refl _)))); (try (replace Hs := Lib.hid (Hs.out.below hb3 (Nat.le_refl _)))); have Ho := Lib.hid ho1; clear ho1; replace B0 := B0.trans (hb3.mono B0.size); clear hb3) | (go_at_call 60; refine (lowest_c _ 0 _ _ t y.natAbs Ho.out Hc.out (Nat.zero_le _) lt ly hny z e HZ HE).mono ?_; rintro e w4 ⟨vl, vm, rfl, ho1, ho2, hap, hb4⟩; replace q0 := keep_frozen (w1 := w4) hb4 c2_0 q0; replace c2_0 := keep_cell (w1 := w4) hb4 c2_0; replace q1 := keep_frozen (w1 := w4) hb4 c2_1 q1; replace c2_1 := keep_cell (w1 := w4) hb4 c2_1; replace q2 := keep_frozen (w1 := w4) hb4 c2_2 q2; replace c2_2 := keep_cell (w1 := w4) hb4 c2_2; replace c0_0 := keep_cell (w1 := w4) hb4 c0_0; replace c0_1 := keep_cell (w1 := w4) hb4 c0_1; replace c1_0 := keep_cell (w1 := w4) hb4 c1_0; replace c1_1 := keep_cell (w1 := w4) hb4 c1_1; replace Ha := Lib.hid (Ha.out.below hb4 (Nat.le_refl _)); replace Hc := Lib.hid (Hc.out.below hb4 (Nat.le_refl _)); (try (replace Ho := Lib.hid (Ho.out.below hb4 (Nat.le_refl _)))); (try (replace Hr := Lib.hid (Hr.out.below hb4 (Nat.le_refl _)))); (try (replace Hs := Lib.hid (Hs.out.below hb4 (Nat.le_refl _)))); have Hl := Lib.hid ho1; clear ho1; have Hm := Lib.hid ho2; clear ho2; replace B0 := B0.trans (hb4.mono B0.size); clear hb4) | (go_at_call 136; refine (copyRat_c _ _ _ _ _ z e Hl.out Hm.out lz le).mono ?_; rintro e w5 ⟨vr, vs, rfl, ho1, ho2, HAP, hb5⟩; replace q0 := keep_frozen (w1 := w5) hb5 c2_0 q0; replace c2_0 := keep_cell (w1 := w5) hb5 c2_0; replace q1 := keep_frozen (w1 := w5) hb5 c2_1 q1; replace c2_1 := keep_cell (w1 := w5) hb5 c2_1; replace q2 := keep_frozen (w1 := w5) hb5 c2_2 q2; replace c2_2 := keep_cell (w1 := w5) hb5 c2_2; replace c0_0 := keep_cell (w1 := w5) hb5 c0_0; replace c0_1 := keep_cell (w1 := w5) hb5 c0_1; replace c1_0 := keep_cell (w1 := w5) hb5 c1_0; replace c1_1 := keep_cell (w1 := w5) hb5 c1_1; replace Ha := Lib.hid (Ha.out.below hb5 (Nat.le_refl _)); replace Hc := Lib.hid (Hc.out.below hb5 (Nat.le_refl _)); (try (replace Ho := Lib.hid (Ho.out.below hb5 (Nat.le_refl _)))); (try (replace Hl := Lib.hid (Hl.out.below hb5 (Nat.le_refl _)))); (try (replace Hm := Lib.hid (Hm.out.below hb5 (Nat.le_refl _)))); have Hr := Lib.hid (ho1.mono B0.size); clear ho1; have Hs := Lib.hid (ho2.mono B0.size); clear ho2; obtain ⟨ar, cr, rfl, -, -, -, -, -⟩ := Hr.out.form; obtain ⟨aS, cS, rfl, -, -, -, -, -⟩ := Hs.out.form; replace B0 := B0.trans (hb5.mono B0.size); clear hb5))
  go_wp2
  exact bodyPost_ret (v := .agg #[.bool (ng z), .slice ar (limbs z.natAbs).length cr, .slice aS (limbs e).length cS]) (by simp [results, Tryz.results118, go_sem, c2_0, c2_1, c2_2]) rfl (retR_end BW (by omega) hg0 B0 Hr.out Hs.out HAP)

theorem zv_ng (x : Int) : zv (ng x) (limbs x.natAbs) = x := by
  unfold zv
  rw [nv_limbs]
  rcases ng_cases x with ⟨h, e⟩ | ⟨h, e⟩ <;> rw [e]
  · rw [if_pos rfl]; omega
  · rw [if_neg (by simp)]; omega

theorem rmake_cases (s : Bool) (xs : List Int) (t : Bool) (ys : List Int) : (¬ OkG s xs ∧ rmake s xs t ys = (0, 0)) ∨ (OkG s xs ∧ ¬ OkG t ys ∧ rmake s xs t ys = (0, 0)) ∨ (OkG s xs ∧ OkG t ys ∧ ys = [] ∧ rmake s xs t ys = (0, 0)) ∨
    (∃ x y : Int, s = ng x ∧ xs = limbs x.natAbs ∧ t = ng y ∧ ys = limbs y.natAbs ∧ (limbs x.natAbs).length ≤ 60 ∧ (limbs y.natAbs).length ≤ 60 ∧ y ≠ 0 ∧ rmake s xs t ys = qlow (turn x y) y.natAbs) := by
  by_cases hx : OkG s xs
  · by_cases hy : OkG t ys
    · have e : rmake s xs t ys = qlow (turn (zv s xs) (zv t ys)) (zv t ys).natAbs := if_pos ⟨hx, hy⟩
      obtain ⟨x, rfl, rfl, hl1, e1⟩ := okG_z hx
      obtain ⟨y, rfl, rfl, hl2, e2⟩ := okG_z hy
      rw [e1, e2] at e
      by_cases h0 : y = 0
      · subst h0
        refine .inr (.inr (.inl ⟨hx, hy, limbs_zero, ?_⟩))
        rw [e]
        unfold qlow
        rw [show (0 : Int).natAbs = 0 from rfl, (low_den0 _).1, (low_den0 _).2]
      · exact .inr (.inr (.inr ⟨x, y, rfl, rfl, rfl, rfl, hl1, hl2, h0, e⟩))
    · exact .inr (.inl ⟨hx, hy, if_neg fun h => hy h.2⟩)
  · exact .inl ⟨hx, if_neg fun h => hx h.1⟩
theorem RatMake_c (w : World) (b1 b2 : Nat) (s t : Bool) (v1 v2 : Value) (xs ys : List Int) (h1 : Own w b1 v1 xs) (h2 : Own w b2 v2 ys) : Calls Tryz.prog 118 #[.agg #[.bool s, v1], .agg #[.bool t, v2]] w (RetQ w (rmake s xs t ys).1 (rmake s xs t ys).2) := by
  rcases rmake_cases s xs t ys with ⟨hx, e⟩ | ⟨hx, hy, e⟩ | ⟨hx, hy, h0, e⟩ | ⟨x, y, rfl, rfl, rfl, rfl, hl1, hl2, h0, e⟩ <;> rw [e]
  · exact RatMake_1 w b1 s t v1 v2 xs h1 hx
  · exact RatMake_2 w b1 b2 s t v1 v2 xs ys h1 h2 hx hy
  · subst h0; exact RatMake_3 w b1 b2 s t v1 v2 xs h1 h2 hx hy
  · exact RatMake_z w b1 b2 v1 v2 x y h1 h2 hl1 hl2 h0 _ _ rfl rfl
/-- RatOf. -/
noncomputable def rof (n d : Int) : Int × Nat := qlow (turn n d) d.natAbs
theorem RatMake_n (w : World) (b1 b2 : Nat) (v1 v2 : Value) (x y : Int) (h1 : Own w b1 v1 (limbs x.natAbs)) (h2 : Own w b2 v2 (limbs y.natAbs)) (hl1 : (limbs x.natAbs).length ≤ 60) (hl2 : (limbs y.natAbs).length ≤ 60) (z : Int) (e : Nat) (hz : z = (rof x y).1) (he : e = (rof x y).2) :
    Calls Tryz.prog 118 #[.agg #[.bool (ng x), v1], .agg #[.bool (ng y), v2]] w (RetQ w z e) := by
  have h := RatMake_c w b1 b2 (ng x) (ng y) v1 v2 _ _ h1 h2
  have e0 : rmake (ng x) (limbs x.natAbs) (ng y) (limbs y.natAbs) = rof x y := by
    have e : rmake (ng x) (limbs x.natAbs) (ng y) (limbs y.natAbs) = qlow (turn (zv (ng x) (limbs x.natAbs)) (zv (ng y) (limbs y.natAbs))) (zv (ng y) (limbs y.natAbs)).natAbs := if_pos ⟨okG_of x hl1, okG_of y hl2⟩
    rw [e, zv_ng, zv_ng]; rfl
  rw [e0] at h
  rw [hz, he]; exact h

set_option maxHeartbeats 2000000 in
theorem RatOf_n (w : World) (n d : Int) (n0 : -9223372036854775808 ≤ n) (n1 : n ≤ 9223372036854775807) (d0 : -9223372036854775808 ≤ d) (d1 : d ≤ 9223372036854775807) (z : Int) (e : Nat) (hz : z = (rof n d).1) (he : e = (rof n d).2) :
    Calls Tryz.prog 98 #[.int .i64 n, .int .i64 d] w (RetQ w z e) := by
  have BW : Below w.heap.size w (w.alloc (.cells #[.bool false, .slice none 0 0, .slice none 0 0] 27)) := ((Below.refl w.heap.size w).alloc (Nat.le_refl _) _)
  obtain ⟨c0_0, c0_1, c0_2, q0, q1, q2⟩ : World.cell? (w.alloc (.cells #[.bool false, .slice none 0 0, .slice none 0 0] 27)) ⟨w.heap.size, 0, none⟩ = some (.bool false) ∧ World.cell? (w.alloc (.cells #[.bool false, .slice none 0 0, .slice none 0 0] 27)) ⟨w.heap.size, 1, none⟩ = some (.slice none 0 0) ∧ World.cell? (w.alloc (.cells #[.bool false, .slice none 0 0, .slice none 0 0] 27)) ⟨w.heap.size, 2, none⟩ = some (.slice none 0 0) ∧ World.frozen? (w.alloc (.cells #[.bool false, .slice none 0 0, .slice none 0 0] 27)) ⟨w.heap.size, 0, none⟩ = false ∧ World.frozen? (w.alloc (.cells #[.bool false, .slice none 0 0, .slice none 0 0] 27)) ⟨w.heap.size, 1, none⟩ = false ∧ World.frozen? (w.alloc (.cells #[.bool false, .slice none 0 0, .slice none 0 0] 27)) ⟨w.heap.size, 2, none⟩ = false := by simp [go_sem]
  have hg0 : w.heap.size < ((w.alloc (.cells #[.bool false, .slice none 0 0, .slice none 0 0] 27))).heap.size := World.block_lt_of_cell? _ _ c0_0
  have HZ := Lib.hid hz
  have HE := Lib.hid he
  have ln := limbs_len_small (n := n.natAbs) (by omega)
  have ld := limbs_len_small (n := d.natAbs) (by omega)
  clear hz he
  go_enter Tryz.func98, Tryz.ntmps98
  go_wp2_with fail
  generalize (w.alloc (.cells #[.bool false, .slice none 0 0, .slice none 0 0] 27)) = w0 at *
  have B0 := Below.refl w0.heap.size w0
  refine (BigIntOf_c _ n n0 n1).mono ?_
  rintro e w1 ⟨vn, rfl, ho1, hb⟩
  replace q0 := keep_frozen (w1 := w1) hb c0_0 q0
  replace c0_0 := keep_cell (w1 := w1) hb c0_0
  replace q1 := keep_frozen (w1 := w1) hb c0_1 q1
  replace c0_1 := keep_cell (w1 := w1) hb c0_1
  replace q2 := keep_frozen (w1 := w1) hb c0_2 q2
  replace c0_2 := keep_cell (w1 := w1) hb c0_2
  have Hn := Lib.hid (ho1.mono B0.size)
  clear ho1
  replace B0 := B0.trans (hb.mono B0.size)
  clear hb
  go_wp2_with fail
  refine (BigIntOf_c _ d d0 d1).mono ?_
  rintro e w2 ⟨vd, rfl, ho1, hb⟩
  replace q0 := keep_frozen (w1 := w2) hb c0_0 q0
  replace c0_0 := keep_cell (w1 := w2) hb c0_0
  replace q1 := keep_frozen (w1 := w2) hb c0_1 q1
  replace c0_1 := keep_cell (w1 := w2) hb c0_1
  replace q2 := keep_frozen (w1 := w2) hb c0_2 q2
  replace c0_2 := keep_cell (w1 := w2) hb c0_2
  replace Hn := Lib.hid (Hn.out.below hb (Nat.le_refl _))
  have Hd := Lib.hid (ho1.mono B0.size)
  clear ho1
  replace B0 := B0.trans (hb.mono B0.size)
  clear hb
  go_wp2_with fail
  refine (RatMake_n _ _ _ _ _ n d Hn.out Hd.out ln ld z e HZ.out HE.out).mono ?_
  rintro e w3 ⟨vr, vs, rfl, ho1, ho2, HAP, hb⟩
  replace q0 := keep_frozen (w1 := w3) hb c0_0 q0
  replace c0_0 := keep_cell (w1 := w3) hb c0_0
  replace q1 := keep_frozen (w1 := w3) hb c0_1 q1
  replace c0_1 := keep_cell (w1 := w3) hb c0_1
  replace q2 := keep_frozen (w1 := w3) hb c0_2 q2
  replace c0_2 := keep_cell (w1 := w3) hb c0_2
  replace Hn := Lib.hid (Hn.out.below hb (Nat.le_refl _))
  replace Hd := Lib.hid (Hd.out.below hb (Nat.le_refl _))
  have Hr := Lib.hid (ho1.mono B0.size)
  clear ho1
  have Hs := Lib.hid (ho2.mono B0.size)
  clear ho2
  obtain ⟨ar, cr, rfl, -, -, -, -, -⟩ := Hr.out.form
  obtain ⟨aS, cS, rfl, -, -, -, -, -⟩ := Hs.out.form
  replace B0 := B0.trans (hb.mono B0.size)
  clear hb
  go_wp2
  exact bodyPost_ret (v := .agg #[.bool (ng z), .slice ar (limbs z.natAbs).length cr, .slice aS (limbs e).length cS]) (by simp [results, Tryz.results98, go_sem, c0_0, c0_1, c0_2]) rfl (retR_end BW (by omega) hg0 B0 Hr.out Hs.out HAP)

theorem RatOf_c (w : World) (n d : Int) (n0 : -9223372036854775808 ≤ n) (n1 : n ≤ 9223372036854775807) (d0 : -9223372036854775808 ≤ d) (d1 : d ≤ 9223372036854775807) : Calls Tryz.prog 98 #[.int .i64 n, .int .i64 d] w (RetQ w (rof n d).1 (rof n d).2) := RatOf_n w n d n0 n1 d0 d1 _ _ rfl rfl
theorem rof_len (n d : Int) : (limbs (rof n d).1.natAbs).length ≤ 1000 ∧ (limbs (rof n d).2).length ≤ 1000 := qlow_len _ _
theorem rof_one (n : Int) (n0 : -9223372036854775808 ≤ n) (n1 : n ≤ 9223372036854775807) : rof n 1 = (n, 1) := by
  have h : IsQ (turn n 1) 1 := by
    refine ⟨by omega, Nat.gcd_one_right _, ?_, by simp [Fit, limbs_one]⟩
    rw [turn_abs]
    have := limbs_len_le (n := n.natAbs) (k := 3)
    have h := this.2 (by simp only [pw]; omega)
    unfold Fit; omega
  obtain ⟨e1, e2⟩ := low_of_isQ h
  unfold rof qlow
  rw [show (1 : Int).natAbs = 1 from rfl, e1, e2]
  rfl

set_option maxHeartbeats 2000000 in
theorem RatFromInt_n (w : World) (n : Int) (n0 : -9223372036854775808 ≤ n) (n1 : n ≤ 9223372036854775807) (z : Int) (e : Nat) (hz : z = n) (he : e = 1) :
    Calls Tryz.prog 80 #[.int .i64 n] w (RetQ w z e) := by
  have BW : Below w.heap.size w (w.alloc (.cells #[.bool false, .slice none 0 0, .slice none 0 0] 27)) := ((Below.refl w.heap.size w).alloc (Nat.le_refl _) _)
  obtain ⟨c0_0, c0_1, c0_2, q0, q1, q2⟩ : World.cell? (w.alloc (.cells #[.bool false, .slice none 0 0, .slice none 0 0] 27)) ⟨w.heap.size, 0, none⟩ = some (.bool false) ∧ World.cell? (w.alloc (.cells #[.bool false, .slice none 0 0, .slice none 0 0] 27)) ⟨w.heap.size, 1, none⟩ = some (.slice none 0 0) ∧ World.cell? (w.alloc (.cells #[.bool false, .slice none 0 0, .slice none 0 0] 27)) ⟨w.heap.size, 2, none⟩ = some (.slice none 0 0) ∧ World.frozen? (w.alloc (.cells #[.bool false, .slice none 0 0, .slice none 0 0] 27)) ⟨w.heap.size, 0, none⟩ = false ∧ World.frozen? (w.alloc (.cells #[.bool false, .slice none 0 0, .slice none 0 0] 27)) ⟨w.heap.size, 1, none⟩ = false ∧ World.frozen? (w.alloc (.cells #[.bool false, .slice none 0 0, .slice none 0 0] 27)) ⟨w.heap.size, 2, none⟩ = false := by simp [go_sem]
  have hg0 : w.heap.size < ((w.alloc (.cells #[.bool false, .slice none 0 0, .slice none 0 0] 27))).heap.size := World.block_lt_of_cell? _ _ c0_0
  have HZ : Hid (z = (rof n 1).1) := by unfold Hid; rw [rof_one n n0 n1]; exact hz
  have HE : Hid (e = (rof n 1).2) := by unfold Hid; rw [rof_one n n0 n1]; exact he
  clear hz he
  go_enter Tryz.func80, Tryz.ntmps80
  go_wp2_with fail
  generalize (w.alloc (.cells #[.bool false, .slice none 0 0, .slice none 0 0] 27)) = w0 at *
  have B0 := Below.refl w0.heap.size w0
  refine (RatOf_n _ n 1 n0 n1 (by omega) (by omega) z e HZ.out HE.out).mono ?_
  rintro e w1 ⟨vr, vs, rfl, ho1, ho2, HAP, hb⟩
  replace q0 := keep_frozen (w1 := w1) hb c0_0 q0
  replace c0_0 := keep_cell (w1 := w1) hb c0_0
  replace q1 := keep_frozen (w1 := w1) hb c0_1 q1
  replace c0_1 := keep_cell (w1 := w1) hb c0_1
  replace q2 := keep_frozen (w1 := w1) hb c0_2 q2
  replace c0_2 := keep_cell (w1 := w1) hb c0_2
  have Hr := Lib.hid (ho1.mono B0.size)
  clear ho1
  have Hs := Lib.hid (ho2.mono B0.size)
  clear ho2
  obtain ⟨ar, cr, rfl, -, -, -, -, -⟩ := Hr.out.form
  obtain ⟨aS, cS, rfl, -, -, -, -, -⟩ := Hs.out.form
  replace B0 := B0.trans (hb.mono B0.size)
  clear hb
  go_wp2
  exact bodyPost_ret (v := .agg #[.bool (ng z), .slice ar (limbs z.natAbs).length cr, .slice aS (limbs e).length cS]) (by simp [results, Tryz.results80, go_sem, c0_0, c0_1, c0_2]) rfl (retR_end BW (by omega) hg0 B0 Hr.out Hs.out HAP)

set_option maxHeartbeats 2000000 in
theorem sign_n (w : World) (b1 : Nat) (v1 u1 : Value) (x : Int) (h1 : Own w b1 v1 (limbs x.natAbs)) : Calls Tryz.prog 41 #[.agg #[.bool true, v1, u1]] w (RetI w (-1)) := by
  obtain ⟨a1, c1, rfl, -, -, -, -, -⟩ := h1.form
  clear h1
  go_enter Tryz.func41, Tryz.ntmps41
  go_wp2
  go_ret
  exact retI rfl ((Below.refl _ _).alloc (Nat.le_refl _) _)

set_option maxHeartbeats 2000000 in
theorem sign_p (w : World) (b1 : Nat) (v1 u1 : Value) (x : Int) (h1 : Own w b1 v1 (limbs x.natAbs)) (hx : 0 < x) : Calls Tryz.prog 41 #[.agg #[.bool false, v1, u1]] w (RetI w (1)) := by
  obtain ⟨a1, c1, rfl, -, -, -, -, -⟩ := h1.form
  have hp := limbs_len_pos.2 (show 0 < x.natAbs by omega)
  have g1 : decide (0 < (limbs x.natAbs).length) = true := decide_eq_true hp
  have g2 : decide ((0 : Int) < (limbs x.natAbs).length) = true := decide_eq_true (by omega)
  clear h1
  go_enter Tryz.func41, Tryz.ntmps41
  go_wp2
  go_ret
  exact retI rfl ((Below.refl _ _).alloc (Nat.le_refl _) _)

set_option maxHeartbeats 2000000 in
theorem sign_z (w : World) (b1 : Nat) (v1 u1 : Value) (h1 : Own w b1 v1 []) : Calls Tryz.prog 41 #[.agg #[.bool false, v1, u1]] w (RetI w 0) := by
  obtain ⟨a1, c1, rfl, -, -, -, -, -⟩ := h1.form
  have g1 : decide (0 < ([] : List Int).length) = false := rfl
  have g2 : decide ((0 : Int) < ([] : List Int).length) = false := rfl
  clear h1
  go_enter Tryz.func41, Tryz.ntmps41
  go_wp2
  go_ret
  exact retI rfl ((Below.refl _ _).alloc (Nat.le_refl _) _)
def sgn3 (x : Int) : Int := if x < 0 then -1 else if 0 < x then 1 else 0
theorem sign_c (w : World) (b1 : Nat) (v1 u1 : Value) (x : Int) (h1 : Own w b1 v1 (limbs x.natAbs)) (c : Int) (hc : Hid (c = sgn3 x)) : Calls Tryz.prog 41 #[.agg #[.bool (ng x), v1, u1]] w (RetI w c) := by
  rw [hc.out]
  unfold sgn3
  rcases ng_cases x with ⟨h, e⟩ | ⟨h, e⟩ <;> rw [e]
  · rw [if_pos h]; exact sign_n w b1 v1 u1 x h1
  · rw [if_neg (by omega)]
    by_cases h0 : 0 < x
    · rw [if_pos h0]; exact sign_p w b1 v1 u1 x h1 h0
    · rw [if_neg h0]
      obtain rfl : x = 0 := by omega
      exact sign_z w b1 v1 u1 h1

set_option maxHeartbeats 2000000 in
theorem RatSign_bad (w : World) (b1 e1 : Nat) (s : Bool) (v1 u1 : Value) (xs ys : List Int) (h1 : Own w b1 v1 xs) (k1 : Own w e1 u1 ys) (hx : ¬ OkR s xs ys) :
    Calls Tryz.prog 12 #[.agg #[.bool s, v1, u1]] w (RetI w 0) := by
  have BW : Below w.heap.size w (w.alloc (.cells #[.bool s, v1, u1] 27)) := ((Below.refl w.heap.size w).alloc (Nat.le_refl _) _)
  obtain ⟨c0_0, c0_1, c0_2⟩ : World.cell? (w.alloc (.cells #[.bool s, v1, u1] 27)) ⟨w.heap.size, 0, none⟩ = some (.bool s) ∧ World.cell? (w.alloc (.cells #[.bool s, v1, u1] 27)) ⟨w.heap.size, 1, none⟩ = some (v1) ∧ World.cell? (w.alloc (.cells #[.bool s, v1, u1] 27)) ⟨w.heap.size, 2, none⟩ = some (u1) := by simp [go_sem]
  have Ha := Lib.hid (h1.below BW (Nat.le_refl _))
  have Hb := Lib.hid (k1.below BW (Nat.le_refl _))
  clear h1 k1
  have HX := Lib.hid hx
  clear hx
  go_enter Tryz.func12, Tryz.ntmps12
  go_wp2_with fail
  generalize (w.alloc (.cells #[.bool s, v1, u1] 27)) = w0 at *
  have B0 := Below.refl w0.heap.size w0
  refine (ratOk_f _ _ _ _ _ _ _ _ Ha.out Hb.out HX.out).mono ?_
  rintro e w1 ⟨rfl, hb⟩
  replace c0_0 := keep_cell hb c0_0
  replace c0_1 := keep_cell hb c0_1
  replace c0_2 := keep_cell hb c0_2
  replace Ha := Lib.hid (Ha.out.below hb (Nat.le_refl _))
  replace Hb := Lib.hid (Hb.out.below hb (Nat.le_refl _))
  replace B0 := B0.trans (hb.mono B0.size)
  clear hb
  go_wp2
  go_ret
  exact retI rfl (BW.trans (B0.mono BW.size))

set_option maxHeartbeats 2000000 in
theorem RatSign_good (w : World) (b1 e1 : Nat) (v1 u1 : Value) (x : Int) (d : Nat) (h1 : Own w b1 v1 (limbs x.natAbs)) (k1 : Own w e1 u1 (limbs d)) (hq : IsQ x d) (c : Int) (hc : c = sgn3 x) :
    Calls Tryz.prog 12 #[.agg #[.bool (ng x), v1, u1]] w (RetI w c) := by
  have BW : Below w.heap.size w (w.alloc (.cells #[.bool (ng x), v1, u1] 27)) := ((Below.refl w.heap.size w).alloc (Nat.le_refl _) _)
  obtain ⟨c0_0, c0_1, c0_2⟩ : World.cell? (w.alloc (.cells #[.bool (ng x), v1, u1] 27)) ⟨w.heap.size, 0, none⟩ = some (.bool (ng x)) ∧ World.cell? (w.alloc (.cells #[.bool (ng x), v1, u1] 27)) ⟨w.heap.size, 1, none⟩ = some (v1) ∧ World.cell? (w.alloc (.cells #[.bool (ng x), v1, u1] 27)) ⟨w.heap.size, 2, none⟩ = some (u1) := by simp [go_sem]
  have Ha := Lib.hid (h1.below BW (Nat.le_refl _))
  have Hb := Lib.hid (k1.below BW (Nat.le_refl _))
  clear h1 k1
  have HX := Lib.hid hq
  have HC := Lib.hid hc
  clear hq hc
  go_enter Tryz.func12, Tryz.ntmps12
  go_wp2_with fail
  generalize (w.alloc (.cells #[.bool (ng x), v1, u1] 27)) = w0 at *
  have B0 := Below.refl w0.heap.size w0
  refine (ratOk_q _ _ _ _ _ x d Ha.out Hb.out HX.out).mono ?_
  rintro e w1 ⟨rfl, hb⟩
  replace c0_0 := keep_cell hb c0_0
  replace c0_1 := keep_cell hb c0_1
  replace c0_2 := keep_cell hb c0_2
  replace Ha := Lib.hid (Ha.out.below hb (Nat.le_refl _))
  replace Hb := Lib.hid (Hb.out.below hb (Nat.le_refl _))
  replace B0 := B0.trans (hb.mono B0.size)
  clear hb
  go_wp2_with fail
  refine (sign_c _ _ _ _ x Ha.out c HC).mono ?_
  rintro e w2 ⟨rfl, hb⟩
  replace c0_0 := keep_cell hb c0_0
  replace c0_1 := keep_cell hb c0_1
  replace c0_2 := keep_cell hb c0_2
  replace Ha := Lib.hid (Ha.out.below hb (Nat.le_refl _))
  replace Hb := Lib.hid (Hb.out.below hb (Nat.le_refl _))
  replace B0 := B0.trans (hb.mono B0.size)
  clear hb
  go_wp2
  go_ret
  exact retI rfl (BW.trans (B0.mono BW.size))

theorem RatSign_c (w : World) (b1 e1 : Nat) (s : Bool) (v1 u1 : Value) (xs ys : List Int) (h1 : Own w b1 v1 xs) (k1 : Own w e1 u1 ys) : Calls Tryz.prog 12 #[.agg #[.bool s, v1, u1]] w (RetI w (rsgn s xs ys)) := by
  by_cases h : OkR s xs ys
  · rw [show rsgn s xs ys = sgn3 (zv s xs) from if_pos h]
    obtain ⟨x, d, rfl, rfl, rfl, hq, e3, e4⟩ := okR_q h
    rw [e3]
    exact RatSign_good w b1 e1 v1 u1 x d h1 k1 hq _ rfl
  · rw [show rsgn s xs ys = 0 from if_neg h]
    exact RatSign_bad w b1 e1 s v1 u1 xs ys h1 k1 h

set_option maxHeartbeats 2000000 in
theorem RatEqual_1 (w : World) (s t : Bool) (v1 u1 v2 u2 : Value) (hs : s ≠ t) : Calls Tryz.prog 10 #[.agg #[.bool s, v1, u1], .agg #[.bool t, v2, u2]] w (RetB w false) := by
  have ds : (s == t) = false := by simpa using hs
  clear hs
  go_enter Tryz.func10, Tryz.ntmps10
  go_wp2
  go_ret
  exact retB rfl (((Below.refl _ _).alloc (Nat.le_refl _) _).alloc (by simp) _)

set_option maxHeartbeats 2000000 in
theorem RatEqual_2 (w : World) (b1 e1 : Nat) (s : Bool) (v1 u1 : Value) (xs ys : List Int) (h1 : Own w b1 v1 xs) (k1 : Own w e1 u1 ys) (b2 e2 : Nat) (v2 u2 : Value) (zs ws : List Int) (h2 : Own w b2 v2 zs) (k2 : Own w e2 u2 ws) (hx : xs ≠ zs) :
    Calls Tryz.prog 10 #[.agg #[.bool s, v1, u1], .agg #[.bool s, v2, u2]] w (RetB w false) := by
  have BW : Below w.heap.size w ((w.alloc (.cells #[.bool s, v1, u1] 27)).alloc (.cells #[.bool s, v2, u2] 27)) := (((Below.refl w.heap.size w).alloc (Nat.le_refl _) _).alloc (by simp) _)
  obtain ⟨c0_0, c0_1, c0_2, c1_0, c1_1, c1_2⟩ : World.cell? ((w.alloc (.cells #[.bool s, v1, u1] 27)).alloc (.cells #[.bool s, v2, u2] 27)) ⟨w.heap.size, 0, none⟩ = some (.bool s) ∧ World.cell? ((w.alloc (.cells #[.bool s, v1, u1] 27)).alloc (.cells #[.bool s, v2, u2] 27)) ⟨w.heap.size, 1, none⟩ = some (v1) ∧ World.cell? ((w.alloc (.cells #[.bool s, v1, u1] 27)).alloc (.cells #[.bool s, v2, u2] 27)) ⟨w.heap.size, 2, none⟩ = some (u1) ∧ World.cell? ((w.alloc (.cells #[.bool s, v1, u1] 27)).alloc (.cells #[.bool s, v2, u2] 27)) ⟨w.heap.size + 1, 0, none⟩ = some (.bool s) ∧ World.cell? ((w.alloc (.cells #[.bool s, v1, u1] 27)).alloc (.cells #[.bool s, v2, u2] 27)) ⟨w.heap.size + 1, 1, none⟩ = some (v2) ∧ World.cell? ((w.alloc (.cells #[.bool s, v1, u1] 27)).alloc (.cells #[.bool s, v2, u2] 27)) ⟨w.heap.size + 1, 2, none⟩ = some (u2) := by simp [go_sem]
  have Ha := Lib.hid (h1.below BW (Nat.le_refl _))
  have Hb := Lib.hid (k1.below BW (Nat.le_refl _))
  have Hc := Lib.hid (h2.below BW (Nat.le_refl _))
  have Hd := Lib.hid (k2.below BW (Nat.le_refl _))
  clear h1 k1 h2 k2
  have HE : Hid (false = decide (xs = zs)) := (decide_eq_false hx).symm
  clear hx
  go_enter Tryz.func10, Tryz.ntmps10
  go_wp2_with fail
  generalize ((w.alloc (.cells #[.bool s, v1, u1] 27)).alloc (.cells #[.bool s, v2, u2] 27)) = w0 at *
  have B0 := Below.refl w0.heap.size w0
  refine (sameInts_c _ _ _ _ _ xs zs false HE Ha.out Hc.out).mono ?_
  rintro e w1 ⟨rfl, hb⟩
  replace c0_0 := keep_cell hb c0_0
  replace c0_1 := keep_cell hb c0_1
  replace c0_2 := keep_cell hb c0_2
  replace c1_0 := keep_cell hb c1_0
  replace c1_1 := keep_cell hb c1_1
  replace c1_2 := keep_cell hb c1_2
  replace Ha := Lib.hid (Ha.out.below hb (Nat.le_refl _))
  replace Hb := Lib.hid (Hb.out.below hb (Nat.le_refl _))
  replace Hc := Lib.hid (Hc.out.below hb (Nat.le_refl _))
  replace Hd := Lib.hid (Hd.out.below hb (Nat.le_refl _))
  replace B0 := B0.trans (hb.mono B0.size)
  clear hb
  go_wp2
  go_ret
  exact retB rfl (BW.trans (B0.mono BW.size))

theorem sameInts_s (w : World) (b1 b2 : Nat) (v1 v2 : Value) (xs : List Int) (h1 : Own w b1 v1 xs) (h2 : Own w b2 v2 xs) : Calls Tryz.prog 36 #[v1, v2] w (RetB w true) :=
  sameInts_c w b1 b2 v1 v2 xs xs true (by simp [Hid]) h1 h2

set_option maxHeartbeats 2000000 in
theorem RatEqual_3 (w : World) (b1 e1 : Nat) (s : Bool) (v1 u1 : Value) (xs ys : List Int) (h1 : Own w b1 v1 xs) (k1 : Own w e1 u1 ys) (b2 e2 : Nat) (v2 u2 : Value) (ws : List Int) (h2 : Own w b2 v2 xs) (k2 : Own w e2 u2 ws) (c : Bool) (hc : c = decide (ys = ws)) :
    Calls Tryz.prog 10 #[.agg #[.bool s, v1, u1], .agg #[.bool s, v2, u2]] w (RetB w c) := by
  have BW : Below w.heap.size w ((w.alloc (.cells #[.bool s, v1, u1] 27)).alloc (.cells #[.bool s, v2, u2] 27)) := (((Below.refl w.heap.size w).alloc (Nat.le_refl _) _).alloc (by simp) _)
  obtain ⟨c0_0, c0_1, c0_2, c1_0, c1_1, c1_2⟩ : World.cell? ((w.alloc (.cells #[.bool s, v1, u1] 27)).alloc (.cells #[.bool s, v2, u2] 27)) ⟨w.heap.size, 0, none⟩ = some (.bool s) ∧ World.cell? ((w.alloc (.cells #[.bool s, v1, u1] 27)).alloc (.cells #[.bool s, v2, u2] 27)) ⟨w.heap.size, 1, none⟩ = some (v1) ∧ World.cell? ((w.alloc (.cells #[.bool s, v1, u1] 27)).alloc (.cells #[.bool s, v2, u2] 27)) ⟨w.heap.size, 2, none⟩ = some (u1) ∧ World.cell? ((w.alloc (.cells #[.bool s, v1, u1] 27)).alloc (.cells #[.bool s, v2, u2] 27)) ⟨w.heap.size + 1, 0, none⟩ = some (.bool s) ∧ World.cell? ((w.alloc (.cells #[.bool s, v1, u1] 27)).alloc (.cells #[.bool s, v2, u2] 27)) ⟨w.heap.size + 1, 1, none⟩ = some (v2) ∧ World.cell? ((w.alloc (.cells #[.bool s, v1, u1] 27)).alloc (.cells #[.bool s, v2, u2] 27)) ⟨w.heap.size + 1, 2, none⟩ = some (u2) := by simp [go_sem]
  have Ha := Lib.hid (h1.below BW (Nat.le_refl _))
  have Hb := Lib.hid (k1.below BW (Nat.le_refl _))
  have Hc := Lib.hid (h2.below BW (Nat.le_refl _))
  have Hd := Lib.hid (k2.below BW (Nat.le_refl _))
  clear h1 k1 h2 k2
  have HT : Hid (c = decide (ys = ws)) := hc
  clear hc
  go_enter Tryz.func10, Tryz.ntmps10
  go_wp2_with fail
  generalize ((w.alloc (.cells #[.bool s, v1, u1] 27)).alloc (.cells #[.bool s, v2, u2] 27)) = w0 at *
  have B0 := Below.refl w0.heap.size w0
  refine (sameInts_s _ _ _ _ _ xs Ha.out Hc.out).mono ?_
  rintro e w1 ⟨rfl, hb⟩
  replace c0_0 := keep_cell hb c0_0
  replace c0_1 := keep_cell hb c0_1
  replace c0_2 := keep_cell hb c0_2
  replace c1_0 := keep_cell hb c1_0
  replace c1_1 := keep_cell hb c1_1
  replace c1_2 := keep_cell hb c1_2
  replace Ha := Lib.hid (Ha.out.below hb (Nat.le_refl _))
  replace Hb := Lib.hid (Hb.out.below hb (Nat.le_refl _))
  replace Hc := Lib.hid (Hc.out.below hb (Nat.le_refl _))
  replace Hd := Lib.hid (Hd.out.below hb (Nat.le_refl _))
  replace B0 := B0.trans (hb.mono B0.size)
  clear hb
  go_wp2_with fail
  refine (sameInts_c _ _ _ _ _ ys ws c HT Hb.out Hd.out).mono ?_
  rintro e w2 ⟨rfl, hb⟩
  replace c0_0 := keep_cell hb c0_0
  replace c0_1 := keep_cell hb c0_1
  replace c0_2 := keep_cell hb c0_2
  replace c1_0 := keep_cell hb c1_0
  replace c1_1 := keep_cell hb c1_1
  replace c1_2 := keep_cell hb c1_2
  replace Ha := Lib.hid (Ha.out.below hb (Nat.le_refl _))
  replace Hb := Lib.hid (Hb.out.below hb (Nat.le_refl _))
  replace Hc := Lib.hid (Hc.out.below hb (Nat.le_refl _))
  replace Hd := Lib.hid (Hd.out.below hb (Nat.le_refl _))
  replace B0 := B0.trans (hb.mono B0.size)
  clear hb
  go_wp2
  go_ret
  exact retB rfl (BW.trans (B0.mono BW.size))

theorem RatEqual_c (w : World) (b1 e1 : Nat) (s : Bool) (v1 u1 : Value) (xs ys : List Int) (h1 : Own w b1 v1 xs) (k1 : Own w e1 u1 ys) (b2 e2 : Nat) (t : Bool) (v2 u2 : Value) (zs ws : List Int) (h2 : Own w b2 v2 zs) (k2 : Own w e2 u2 ws) : Calls Tryz.prog 10 #[.agg #[.bool s, v1, u1], .agg #[.bool t, v2, u2]] w (RetB w (reqB s xs ys t zs ws)) := by
  by_cases hs : s = t
  · subst hs
    by_cases hx : xs = zs
    · subst hx
      exact RatEqual_3 w b1 e1 s v1 u1 xs ys h1 k1 b2 e2 v2 u2 ws h2 k2 _ (by simp [reqB])
    · rw [show reqB s xs ys s zs ws = false by simp [reqB, hx]]
      exact RatEqual_2 w b1 e1 s v1 u1 xs ys h1 k1 b2 e2 v2 u2 zs ws h2 k2 hx
  · rw [show reqB s xs ys t zs ws = false by simp [reqB, hs]]
    exact RatEqual_1 w s t v1 u1 v2 u2 hs

end Go.Proofs.YtijeplcjbhkkoaaGreatDoor
