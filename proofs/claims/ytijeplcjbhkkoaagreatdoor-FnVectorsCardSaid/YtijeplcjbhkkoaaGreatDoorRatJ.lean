/- Merged texts. -/
import Derived.Test.YtijeplcjbhkkoaaGreatDoorRatG
import Derived.Test.YtijeplcjbhkkoaaGreatDoorRatE

/- The reference's fractions: the operations. -/
namespace Go.Proofs.YtijeplcjbhkkoaaGreatDoor
open Go.RowKit Lm

set_option maxHeartbeats 2000000 in
theorem sRatMake_1 (w : World) (b1 : Nat) (s t : Bool) (v1 v2 : Value) (xs : List Int) (h1 : Own w b1 v1 xs) (hx : ¬ OkG s xs) :
    Calls Tryz.prog 81 #[.agg #[.bool s, v1], .agg #[.bool t, v2]] w (RetQ w 0 0) := by
  have BW : Below w.heap.size w (((w.alloc (.cells #[.bool s, v1] 25)).alloc (.cells #[.bool t, v2] 25)).alloc (.cells #[.bool false, .slice none 0 0, .slice none 0 0] 27)) := ((((Below.refl w.heap.size w).alloc (Nat.le_refl _) _).alloc (by simp) _).alloc (by simp; omega) _)
  obtain ⟨c0_0, c0_1, c1_0, c1_1, c2_0, c2_1, c2_2, q0, q1, q2⟩ : World.cell? (((w.alloc (.cells #[.bool s, v1] 25)).alloc (.cells #[.bool t, v2] 25)).alloc (.cells #[.bool false, .slice none 0 0, .slice none 0 0] 27)) ⟨w.heap.size, 0, none⟩ = some (.bool s) ∧ World.cell? (((w.alloc (.cells #[.bool s, v1] 25)).alloc (.cells #[.bool t, v2] 25)).alloc (.cells #[.bool false, .slice none 0 0, .slice none 0 0] 27)) ⟨w.heap.size, 1, none⟩ = some (v1) ∧ World.cell? (((w.alloc (.cells #[.bool s, v1] 25)).alloc (.cells #[.bool t, v2] 25)).alloc (.cells #[.bool false, .slice none 0 0, .slice none 0 0] 27)) ⟨w.heap.size + 1, 0, none⟩ = some (.bool t) ∧ World.cell? (((w.alloc (.cells #[.bool s, v1] 25)).alloc (.cells #[.bool t, v2] 25)).alloc (.cells #[.bool false, .slice none 0 0, .slice none 0 0] 27)) ⟨w.heap.size + 1, 1, none⟩ = some (v2) ∧ World.cell? (((w.alloc (.cells #[.bool s, v1] 25)).alloc (.cells #[.bool t, v2] 25)).alloc (.cells #[.bool false, .slice none 0 0, .slice none 0 0] 27)) ⟨w.heap.size + 1 + 1, 0, none⟩ = some (.bool false) ∧ World.cell? (((w.alloc (.cells #[.bool s, v1] 25)).alloc (.cells #[.bool t, v2] 25)).alloc (.cells #[.bool false, .slice none 0 0, .slice none 0 0] 27)) ⟨w.heap.size + 1 + 1, 1, none⟩ = some (.slice none 0 0) ∧ World.cell? (((w.alloc (.cells #[.bool s, v1] 25)).alloc (.cells #[.bool t, v2] 25)).alloc (.cells #[.bool false, .slice none 0 0, .slice none 0 0] 27)) ⟨w.heap.size + 1 + 1, 2, none⟩ = some (.slice none 0 0) ∧ World.frozen? (((w.alloc (.cells #[.bool s, v1] 25)).alloc (.cells #[.bool t, v2] 25)).alloc (.cells #[.bool false, .slice none 0 0, .slice none 0 0] 27)) ⟨w.heap.size + 1 + 1, 0, none⟩ = false ∧ World.frozen? (((w.alloc (.cells #[.bool s, v1] 25)).alloc (.cells #[.bool t, v2] 25)).alloc (.cells #[.bool false, .slice none 0 0, .slice none 0 0] 27)) ⟨w.heap.size + 1 + 1, 1, none⟩ = false ∧ World.frozen? (((w.alloc (.cells #[.bool s, v1] 25)).alloc (.cells #[.bool t, v2] 25)).alloc (.cells #[.bool false, .slice none 0 0, .slice none 0 0] 27)) ⟨w.heap.size + 1 + 1, 2, none⟩ = false := by simp [go_sem]
  have hg0 : w.heap.size + 1 + 1 < ((((w.alloc (.cells #[.bool s, v1] 25)).alloc (.cells #[.bool t, v2] 25)).alloc (.cells #[.bool false, .slice none 0 0, .slice none 0 0] 27))).heap.size := World.block_lt_of_cell? _ _ c2_0
  have Ha := Lib.hid (h1.below BW (Nat.le_refl _))
  clear h1
  have HX := Lib.hid hx
  clear hx
  go_enter Tryz.func81, Tryz.ntmps81
  go_wp2_with fail
  generalize (((w.alloc (.cells #[.bool s, v1] 25)).alloc (.cells #[.bool t, v2] 25)).alloc (.cells #[.bool false, .slice none 0 0, .slice none 0 0] 27)) = w0 at *
  have B0 := Below.refl w0.heap.size w0
  refine (sBigIntOk_f _ _ _ _ _ Ha.out HX.out).mono ?_
  rintro e w1 ⟨rfl, hb⟩
  replace c0_0 := keep_cell hb c0_0
  replace c0_1 := keep_cell hb c0_1
  replace c1_0 := keep_cell hb c1_0
  replace c1_1 := keep_cell hb c1_1
  replace q0 := keep_frozen (w1 := w1) hb c2_0 q0
  replace c2_0 := keep_cell (w1 := w1) hb c2_0
  replace q1 := keep_frozen (w1 := w1) hb c2_1 q1
  replace c2_1 := keep_cell (w1 := w1) hb c2_1
  replace q2 := keep_frozen (w1 := w1) hb c2_2 q2
  replace c2_2 := keep_cell (w1 := w1) hb c2_2
  replace Ha := Lib.hid (Ha.out.below hb (Nat.le_refl _))
  replace B0 := B0.trans (hb.mono B0.size)
  clear hb
  go_wp2
  exact bodyPost_ret (v := .agg #[.bool false, .slice none 0 0, .slice none 0 0]) (by simp [results, Tryz.results81, go_sem, c2_0, c2_1, c2_2]) rfl (retQ_nil (set3_below (BW.trans (B0.mono BW.size)) (by omega)))

set_option maxHeartbeats 2000000 in
theorem sRatMake_2 (w : World) (b1 b2 : Nat) (s t : Bool) (v1 v2 : Value) (xs ys : List Int) (h1 : Own w b1 v1 xs) (h2 : Own w b2 v2 ys) (hx : OkG s xs) (hy : ¬ OkG t ys) :
    Calls Tryz.prog 81 #[.agg #[.bool s, v1], .agg #[.bool t, v2]] w (RetQ w 0 0) := by
  have BW : Below w.heap.size w (((w.alloc (.cells #[.bool s, v1] 25)).alloc (.cells #[.bool t, v2] 25)).alloc (.cells #[.bool false, .slice none 0 0, .slice none 0 0] 27)) := ((((Below.refl w.heap.size w).alloc (Nat.le_refl _) _).alloc (by simp) _).alloc (by simp; omega) _)
  obtain ⟨c0_0, c0_1, c1_0, c1_1, c2_0, c2_1, c2_2, q0, q1, q2⟩ : World.cell? (((w.alloc (.cells #[.bool s, v1] 25)).alloc (.cells #[.bool t, v2] 25)).alloc (.cells #[.bool false, .slice none 0 0, .slice none 0 0] 27)) ⟨w.heap.size, 0, none⟩ = some (.bool s) ∧ World.cell? (((w.alloc (.cells #[.bool s, v1] 25)).alloc (.cells #[.bool t, v2] 25)).alloc (.cells #[.bool false, .slice none 0 0, .slice none 0 0] 27)) ⟨w.heap.size, 1, none⟩ = some (v1) ∧ World.cell? (((w.alloc (.cells #[.bool s, v1] 25)).alloc (.cells #[.bool t, v2] 25)).alloc (.cells #[.bool false, .slice none 0 0, .slice none 0 0] 27)) ⟨w.heap.size + 1, 0, none⟩ = some (.bool t) ∧ World.cell? (((w.alloc (.cells #[.bool s, v1] 25)).alloc (.cells #[.bool t, v2] 25)).alloc (.cells #[.bool false, .slice none 0 0, .slice none 0 0] 27)) ⟨w.heap.size + 1, 1, none⟩ = some (v2) ∧ World.cell? (((w.alloc (.cells #[.bool s, v1] 25)).alloc (.cells #[.bool t, v2] 25)).alloc (.cells #[.bool false, .slice none 0 0, .slice none 0 0] 27)) ⟨w.heap.size + 1 + 1, 0, none⟩ = some (.bool false) ∧ World.cell? (((w.alloc (.cells #[.bool s, v1] 25)).alloc (.cells #[.bool t, v2] 25)).alloc (.cells #[.bool false, .slice none 0 0, .slice none 0 0] 27)) ⟨w.heap.size + 1 + 1, 1, none⟩ = some (.slice none 0 0) ∧ World.cell? (((w.alloc (.cells #[.bool s, v1] 25)).alloc (.cells #[.bool t, v2] 25)).alloc (.cells #[.bool false, .slice none 0 0, .slice none 0 0] 27)) ⟨w.heap.size + 1 + 1, 2, none⟩ = some (.slice none 0 0) ∧ World.frozen? (((w.alloc (.cells #[.bool s, v1] 25)).alloc (.cells #[.bool t, v2] 25)).alloc (.cells #[.bool false, .slice none 0 0, .slice none 0 0] 27)) ⟨w.heap.size + 1 + 1, 0, none⟩ = false ∧ World.frozen? (((w.alloc (.cells #[.bool s, v1] 25)).alloc (.cells #[.bool t, v2] 25)).alloc (.cells #[.bool false, .slice none 0 0, .slice none 0 0] 27)) ⟨w.heap.size + 1 + 1, 1, none⟩ = false ∧ World.frozen? (((w.alloc (.cells #[.bool s, v1] 25)).alloc (.cells #[.bool t, v2] 25)).alloc (.cells #[.bool false, .slice none 0 0, .slice none 0 0] 27)) ⟨w.heap.size + 1 + 1, 2, none⟩ = false := by simp [go_sem]
  have hg0 : w.heap.size + 1 + 1 < ((((w.alloc (.cells #[.bool s, v1] 25)).alloc (.cells #[.bool t, v2] 25)).alloc (.cells #[.bool false, .slice none 0 0, .slice none 0 0] 27))).heap.size := World.block_lt_of_cell? _ _ c2_0
  have Ha := Lib.hid (h1.below BW (Nat.le_refl _))
  have Hc := Lib.hid (h2.below BW (Nat.le_refl _))
  clear h1 h2
  have HX := Lib.hid hx
  have HY := Lib.hid hy
  clear hx hy
  go_enter Tryz.func81, Tryz.ntmps81
  go_wp2_with fail
  generalize (((w.alloc (.cells #[.bool s, v1] 25)).alloc (.cells #[.bool t, v2] 25)).alloc (.cells #[.bool false, .slice none 0 0, .slice none 0 0] 27)) = w0 at *
  have B0 := Below.refl w0.heap.size w0
  refine (sBigIntOk_t _ _ _ _ _ Ha.out HX.out).mono ?_
  rintro e w1 ⟨rfl, hb⟩
  replace c0_0 := keep_cell hb c0_0
  replace c0_1 := keep_cell hb c0_1
  replace c1_0 := keep_cell hb c1_0
  replace c1_1 := keep_cell hb c1_1
  replace q0 := keep_frozen (w1 := w1) hb c2_0 q0
  replace c2_0 := keep_cell (w1 := w1) hb c2_0
  replace q1 := keep_frozen (w1 := w1) hb c2_1 q1
  replace c2_1 := keep_cell (w1 := w1) hb c2_1
  replace q2 := keep_frozen (w1 := w1) hb c2_2 q2
  replace c2_2 := keep_cell (w1 := w1) hb c2_2
  replace Ha := Lib.hid (Ha.out.below hb (Nat.le_refl _))
  replace Hc := Lib.hid (Hc.out.below hb (Nat.le_refl _))
  replace B0 := B0.trans (hb.mono B0.size)
  clear hb
  go_wp2_with fail
  refine (sBigIntOk_f _ _ _ _ _ Hc.out HY.out).mono ?_
  rintro e w2 ⟨rfl, hb⟩
  replace c0_0 := keep_cell hb c0_0
  replace c0_1 := keep_cell hb c0_1
  replace c1_0 := keep_cell hb c1_0
  replace c1_1 := keep_cell hb c1_1
  replace q0 := keep_frozen (w1 := w2) hb c2_0 q0
  replace c2_0 := keep_cell (w1 := w2) hb c2_0
  replace q1 := keep_frozen (w1 := w2) hb c2_1 q1
  replace c2_1 := keep_cell (w1 := w2) hb c2_1
  replace q2 := keep_frozen (w1 := w2) hb c2_2 q2
  replace c2_2 := keep_cell (w1 := w2) hb c2_2
  replace Ha := Lib.hid (Ha.out.below hb (Nat.le_refl _))
  replace Hc := Lib.hid (Hc.out.below hb (Nat.le_refl _))
  replace B0 := B0.trans (hb.mono B0.size)
  clear hb
  go_wp2
  exact bodyPost_ret (v := .agg #[.bool false, .slice none 0 0, .slice none 0 0]) (by simp [results, Tryz.results81, go_sem, c2_0, c2_1, c2_2]) rfl (retQ_nil (set3_below (BW.trans (B0.mono BW.size)) (by omega)))

theorem l04Low_x (w : World) (b1 b2 : Nat) (v1 v2 : Value) (x y t : Int) (h1 : Own w b1 v1 (limbs x.natAbs)) (h2 : Own w b2 v2 (limbs y.natAbs)) (hl1 : (limbs x.natAbs).length ≤ 900) (hl2 : (limbs y.natAbs).length ≤ 900) (ht : Hid (t = turn x y)) (z : Int) (e : Nat) (hz : Hid (z = lowZ t y.natAbs)) (he : Hid (e = lowD t y.natAbs)) :
    Calls Tryz.prog 100 #[.bool (ng x != ng y), v1, v2] w (RetQ w z e) := by
  have ht := ht.out
  subst ht
  refine l04Low_c w b1 b2 _ v1 v2 (turn x y) y.natAbs (by rw [turn_abs]; exact h1) h2 (by rw [turn_abs]; exact hl1) hl2 z e hz he ?_
  exact turn_ng

set_option maxHeartbeats 2000000 in
theorem sRatMake_z (w : World) (b1 b2 : Nat) (v1 v2 : Value) (x y : Int) (h1 : Own w b1 v1 (limbs x.natAbs)) (h2 : Own w b2 v2 (limbs y.natAbs)) (hl1 : (limbs x.natAbs).length ≤ 60) (hl2 : (limbs y.natAbs).length ≤ 60) (z : Int) (e : Nat) (hz : z = lowZ (turn x y) y.natAbs) (he : e = lowD (turn x y) y.natAbs) :
    Calls Tryz.prog 81 #[.agg #[.bool (ng x), v1], .agg #[.bool (ng y), v2]] w (RetQ w z e) := by
  have BW : Below w.heap.size w (((w.alloc (.cells #[.bool (ng x), v1] 25)).alloc (.cells #[.bool (ng y), v2] 25)).alloc (.cells #[.bool false, .slice none 0 0, .slice none 0 0] 27)) := ((((Below.refl w.heap.size w).alloc (Nat.le_refl _) _).alloc (by simp) _).alloc (by simp; omega) _)
  obtain ⟨c0_0, c0_1, c1_0, c1_1, c2_0, c2_1, c2_2, q0, q1, q2⟩ : World.cell? (((w.alloc (.cells #[.bool (ng x), v1] 25)).alloc (.cells #[.bool (ng y), v2] 25)).alloc (.cells #[.bool false, .slice none 0 0, .slice none 0 0] 27)) ⟨w.heap.size, 0, none⟩ = some (.bool (ng x)) ∧ World.cell? (((w.alloc (.cells #[.bool (ng x), v1] 25)).alloc (.cells #[.bool (ng y), v2] 25)).alloc (.cells #[.bool false, .slice none 0 0, .slice none 0 0] 27)) ⟨w.heap.size, 1, none⟩ = some (v1) ∧ World.cell? (((w.alloc (.cells #[.bool (ng x), v1] 25)).alloc (.cells #[.bool (ng y), v2] 25)).alloc (.cells #[.bool false, .slice none 0 0, .slice none 0 0] 27)) ⟨w.heap.size + 1, 0, none⟩ = some (.bool (ng y)) ∧ World.cell? (((w.alloc (.cells #[.bool (ng x), v1] 25)).alloc (.cells #[.bool (ng y), v2] 25)).alloc (.cells #[.bool false, .slice none 0 0, .slice none 0 0] 27)) ⟨w.heap.size + 1, 1, none⟩ = some (v2) ∧ World.cell? (((w.alloc (.cells #[.bool (ng x), v1] 25)).alloc (.cells #[.bool (ng y), v2] 25)).alloc (.cells #[.bool false, .slice none 0 0, .slice none 0 0] 27)) ⟨w.heap.size + 1 + 1, 0, none⟩ = some (.bool false) ∧ World.cell? (((w.alloc (.cells #[.bool (ng x), v1] 25)).alloc (.cells #[.bool (ng y), v2] 25)).alloc (.cells #[.bool false, .slice none 0 0, .slice none 0 0] 27)) ⟨w.heap.size + 1 + 1, 1, none⟩ = some (.slice none 0 0) ∧ World.cell? (((w.alloc (.cells #[.bool (ng x), v1] 25)).alloc (.cells #[.bool (ng y), v2] 25)).alloc (.cells #[.bool false, .slice none 0 0, .slice none 0 0] 27)) ⟨w.heap.size + 1 + 1, 2, none⟩ = some (.slice none 0 0) ∧ World.frozen? (((w.alloc (.cells #[.bool (ng x), v1] 25)).alloc (.cells #[.bool (ng y), v2] 25)).alloc (.cells #[.bool false, .slice none 0 0, .slice none 0 0] 27)) ⟨w.heap.size + 1 + 1, 0, none⟩ = false ∧ World.frozen? (((w.alloc (.cells #[.bool (ng x), v1] 25)).alloc (.cells #[.bool (ng y), v2] 25)).alloc (.cells #[.bool false, .slice none 0 0, .slice none 0 0] 27)) ⟨w.heap.size + 1 + 1, 1, none⟩ = false ∧ World.frozen? (((w.alloc (.cells #[.bool (ng x), v1] 25)).alloc (.cells #[.bool (ng y), v2] 25)).alloc (.cells #[.bool false, .slice none 0 0, .slice none 0 0] 27)) ⟨w.heap.size + 1 + 1, 2, none⟩ = false := by simp [go_sem]
  have hg0 : w.heap.size + 1 + 1 < ((((w.alloc (.cells #[.bool (ng x), v1] 25)).alloc (.cells #[.bool (ng y), v2] 25)).alloc (.cells #[.bool false, .slice none 0 0, .slice none 0 0] 27))).heap.size := World.block_lt_of_cell? _ _ c2_0
  have Ha := Lib.hid (h1.below BW (Nat.le_refl _))
  have Hc := Lib.hid (h2.below BW (Nat.le_refl _))
  clear h1 h2
  obtain ⟨t, ht⟩ : ∃ t : Int, t = turn x y := ⟨_, rfl⟩
  have HT := Lib.hid ht
  have lx : (limbs x.natAbs).length ≤ 900 := by omega
  have ly : (limbs y.natAbs).length ≤ 900 := by omega
  have HZ : Hid (z = lowZ t y.natAbs) := by unfold Hid; rw [ht]; exact hz
  have HE : Hid (e = lowD t y.natAbs) := by unfold Hid; rw [ht]; exact he
  clear ht hz he
  go_enter Tryz.func81, Tryz.ntmps81
  go_wp2_with fail
  generalize (((w.alloc (.cells #[.bool (ng x), v1] 25)).alloc (.cells #[.bool (ng y), v2] 25)).alloc (.cells #[.bool false, .slice none 0 0, .slice none 0 0] 27)) = w0 at *
  have B0 := Below.refl w0.heap.size w0
  refine (sBigIntOk_z _ _ _ x Ha.out hl1).mono ?_
  rintro e w1 ⟨rfl, hb⟩
  replace c0_0 := keep_cell hb c0_0
  replace c0_1 := keep_cell hb c0_1
  replace c1_0 := keep_cell hb c1_0
  replace c1_1 := keep_cell hb c1_1
  replace q0 := keep_frozen (w1 := w1) hb c2_0 q0
  replace c2_0 := keep_cell (w1 := w1) hb c2_0
  replace q1 := keep_frozen (w1 := w1) hb c2_1 q1
  replace c2_1 := keep_cell (w1 := w1) hb c2_1
  replace q2 := keep_frozen (w1 := w1) hb c2_2 q2
  replace c2_2 := keep_cell (w1 := w1) hb c2_2
  replace Ha := Lib.hid (Ha.out.below hb (Nat.le_refl _))
  replace Hc := Lib.hid (Hc.out.below hb (Nat.le_refl _))
  replace B0 := B0.trans (hb.mono B0.size)
  clear hb
  go_wp2_with fail
  refine (sBigIntOk_z _ _ _ y Hc.out hl2).mono ?_
  rintro e w2 ⟨rfl, hb⟩
  replace c0_0 := keep_cell hb c0_0
  replace c0_1 := keep_cell hb c0_1
  replace c1_0 := keep_cell hb c1_0
  replace c1_1 := keep_cell hb c1_1
  replace q0 := keep_frozen (w1 := w2) hb c2_0 q0
  replace c2_0 := keep_cell (w1 := w2) hb c2_0
  replace q1 := keep_frozen (w1 := w2) hb c2_1 q1
  replace c2_1 := keep_cell (w1 := w2) hb c2_1
  replace q2 := keep_frozen (w1 := w2) hb c2_2 q2
  replace c2_2 := keep_cell (w1 := w2) hb c2_2
  replace Ha := Lib.hid (Ha.out.below hb (Nat.le_refl _))
  replace Hc := Lib.hid (Hc.out.below hb (Nat.le_refl _))
  replace B0 := B0.trans (hb.mono B0.size)
  clear hb
  go_wp2_with fail
  refine (l04Low_x _ _ _ _ _ x y t Ha.out Hc.out lx ly HT z e HZ HE).mono ?_
  rintro e w3 ⟨vr, vs, rfl, ho1, ho2, HAP, hb⟩
  replace c0_0 := keep_cell hb c0_0
  replace c0_1 := keep_cell hb c0_1
  replace c1_0 := keep_cell hb c1_0
  replace c1_1 := keep_cell hb c1_1
  replace q0 := keep_frozen (w1 := w3) hb c2_0 q0
  replace c2_0 := keep_cell (w1 := w3) hb c2_0
  replace q1 := keep_frozen (w1 := w3) hb c2_1 q1
  replace c2_1 := keep_cell (w1 := w3) hb c2_1
  replace q2 := keep_frozen (w1 := w3) hb c2_2 q2
  replace c2_2 := keep_cell (w1 := w3) hb c2_2
  replace Ha := Lib.hid (Ha.out.below hb (Nat.le_refl _))
  replace Hc := Lib.hid (Hc.out.below hb (Nat.le_refl _))
  have Hr := Lib.hid (ho1.mono B0.size)
  clear ho1
  have Hs := Lib.hid (ho2.mono B0.size)
  clear ho2
  obtain ⟨ar, cr, rfl, -, -, -, -, -⟩ := Hr.out.form
  obtain ⟨aS, cS, rfl, -, -, -, -, -⟩ := Hs.out.form
  replace B0 := B0.trans (hb.mono B0.size)
  clear hb
  go_wp2
  exact bodyPost_ret (v := .agg #[.bool (ng z), .slice ar (limbs z.natAbs).length cr, .slice aS (limbs e).length cS]) (by simp [results, Tryz.results81, go_sem, c2_0, c2_1, c2_2]) rfl (retR_end BW (by omega) hg0 B0 Hr.out Hs.out HAP)

theorem sRatMake_c (w : World) (b1 b2 : Nat) (s t : Bool) (v1 v2 : Value) (xs ys : List Int) (h1 : Own w b1 v1 xs) (h2 : Own w b2 v2 ys) : Calls Tryz.prog 81 #[.agg #[.bool s, v1], .agg #[.bool t, v2]] w (RetQ w (rmake s xs t ys).1 (rmake s xs t ys).2) := by
  by_cases hx : OkG s xs
  · by_cases hy : OkG t ys
    · have e : rmake s xs t ys = qlow (turn (zv s xs) (zv t ys)) (zv t ys).natAbs := if_pos ⟨hx, hy⟩
      obtain ⟨x, rfl, rfl, hl1, e1⟩ := okG_z hx
      obtain ⟨y, rfl, rfl, hl2, e2⟩ := okG_z hy
      rw [e1, e2] at e
      rw [e]
      exact sRatMake_z w b1 b2 v1 v2 x y h1 h2 hl1 hl2 _ _ rfl rfl
    · rw [show rmake s xs t ys = (0, 0) from if_neg fun h => hy h.2]
      exact sRatMake_2 w b1 b2 s t v1 v2 xs ys h1 h2 hx hy
  · rw [show rmake s xs t ys = (0, 0) from if_neg fun h => hx h.1]
    exact sRatMake_1 w b1 s t v1 v2 xs h1 hx
theorem sRatMake_n (w : World) (b1 b2 : Nat) (v1 v2 : Value) (x y : Int) (h1 : Own w b1 v1 (limbs x.natAbs)) (h2 : Own w b2 v2 (limbs y.natAbs)) (hl1 : (limbs x.natAbs).length ≤ 60) (hl2 : (limbs y.natAbs).length ≤ 60) (z : Int) (e : Nat) (hz : z = (rof x y).1) (he : e = (rof x y).2) :
    Calls Tryz.prog 81 #[.agg #[.bool (ng x), v1], .agg #[.bool (ng y), v2]] w (RetQ w z e) := sRatMake_z w b1 b2 v1 v2 x y h1 h2 hl1 hl2 z e hz he

set_option maxHeartbeats 2000000 in
theorem sRatOf_n (w : World) (n d : Int) (n0 : -9223372036854775808 ≤ n) (n1 : n ≤ 9223372036854775807) (d0 : -9223372036854775808 ≤ d) (d1 : d ≤ 9223372036854775807) (z : Int) (e : Nat) (hz : z = (rof n d).1) (he : e = (rof n d).2) :
    Calls Tryz.prog 54 #[.int .i64 n, .int .i64 d] w (RetQ w z e) := by
  have BW : Below w.heap.size w (w.alloc (.cells #[.bool false, .slice none 0 0, .slice none 0 0] 27)) := ((Below.refl w.heap.size w).alloc (Nat.le_refl _) _)
  obtain ⟨c0_0, c0_1, c0_2, q0, q1, q2⟩ : World.cell? (w.alloc (.cells #[.bool false, .slice none 0 0, .slice none 0 0] 27)) ⟨w.heap.size, 0, none⟩ = some (.bool false) ∧ World.cell? (w.alloc (.cells #[.bool false, .slice none 0 0, .slice none 0 0] 27)) ⟨w.heap.size, 1, none⟩ = some (.slice none 0 0) ∧ World.cell? (w.alloc (.cells #[.bool false, .slice none 0 0, .slice none 0 0] 27)) ⟨w.heap.size, 2, none⟩ = some (.slice none 0 0) ∧ World.frozen? (w.alloc (.cells #[.bool false, .slice none 0 0, .slice none 0 0] 27)) ⟨w.heap.size, 0, none⟩ = false ∧ World.frozen? (w.alloc (.cells #[.bool false, .slice none 0 0, .slice none 0 0] 27)) ⟨w.heap.size, 1, none⟩ = false ∧ World.frozen? (w.alloc (.cells #[.bool false, .slice none 0 0, .slice none 0 0] 27)) ⟨w.heap.size, 2, none⟩ = false := by simp [go_sem]
  have hg0 : w.heap.size < ((w.alloc (.cells #[.bool false, .slice none 0 0, .slice none 0 0] 27))).heap.size := World.block_lt_of_cell? _ _ c0_0
  have HZ := Lib.hid hz
  have HE := Lib.hid he
  have ln := limbs_len_small (n := n.natAbs) (by omega)
  have ld := limbs_len_small (n := d.natAbs) (by omega)
  clear hz he
  go_enter Tryz.func54, Tryz.ntmps54
  go_wp2_with fail
  generalize (w.alloc (.cells #[.bool false, .slice none 0 0, .slice none 0 0] 27)) = w0 at *
  have B0 := Below.refl w0.heap.size w0
  refine (sBigIntOf_c _ n n0 n1).mono ?_
  rintro e w1 ⟨vn, rfl, ho1, hb⟩
  replace q0 := keep_frozen (w1 := w1) hb c0_0 q0
  replace c0_0 := keep_cell (w1 := w1) hb c0_0
  replace q1 := keep_frozen (w1 := w1) hb c0_1 q1
  replace c0_1 := keep_cell (w1 := w1) hb c0_1
  replace q2 := keep_frozen (w1 := w1) hb c0_2 q2
  replace c0_2 := keep_cell (w1 := w1) hb c0_2
  have Hn := Lib.hid (ho1.mono B0.size)
  clear ho1
  replace B0 := B0.trans (hb.mono B0.size)
  clear hb
  go_wp2_with fail
  refine (sBigIntOf_c _ d d0 d1).mono ?_
  rintro e w2 ⟨vd, rfl, ho1, hb⟩
  replace q0 := keep_frozen (w1 := w2) hb c0_0 q0
  replace c0_0 := keep_cell (w1 := w2) hb c0_0
  replace q1 := keep_frozen (w1 := w2) hb c0_1 q1
  replace c0_1 := keep_cell (w1 := w2) hb c0_1
  replace q2 := keep_frozen (w1 := w2) hb c0_2 q2
  replace c0_2 := keep_cell (w1 := w2) hb c0_2
  replace Hn := Lib.hid (Hn.out.below hb (Nat.le_refl _))
  have Hd := Lib.hid (ho1.mono B0.size)
  clear ho1
  replace B0 := B0.trans (hb.mono B0.size)
  clear hb
  go_wp2_with fail
  refine (sRatMake_n _ _ _ _ _ n d Hn.out Hd.out ln ld z e HZ.out HE.out).mono ?_
  rintro e w3 ⟨vr, vs, rfl, ho1, ho2, HAP, hb⟩
  replace q0 := keep_frozen (w1 := w3) hb c0_0 q0
  replace c0_0 := keep_cell (w1 := w3) hb c0_0
  replace q1 := keep_frozen (w1 := w3) hb c0_1 q1
  replace c0_1 := keep_cell (w1 := w3) hb c0_1
  replace q2 := keep_frozen (w1 := w3) hb c0_2 q2
  replace c0_2 := keep_cell (w1 := w3) hb c0_2
  replace Hn := Lib.hid (Hn.out.below hb (Nat.le_refl _))
  replace Hd := Lib.hid (Hd.out.below hb (Nat.le_refl _))
  have Hr := Lib.hid (ho1.mono B0.size)
  clear ho1
  have Hs := Lib.hid (ho2.mono B0.size)
  clear ho2
  obtain ⟨ar, cr, rfl, -, -, -, -, -⟩ := Hr.out.form
  obtain ⟨aS, cS, rfl, -, -, -, -, -⟩ := Hs.out.form
  replace B0 := B0.trans (hb.mono B0.size)
  clear hb
  go_wp2
  exact bodyPost_ret (v := .agg #[.bool (ng z), .slice ar (limbs z.natAbs).length cr, .slice aS (limbs e).length cS]) (by simp [results, Tryz.results54, go_sem, c0_0, c0_1, c0_2]) rfl (retR_end BW (by omega) hg0 B0 Hr.out Hs.out HAP)

theorem retLit {w w0 wk : World} {g : Nat} {s : Bool} {u : Value} {xs : List Int} (BW : Below w.heap.size w w0) (hg : w.heap.size ≤ g) (hg0 : g < w0.heap.size) (B0 : Below w0.heap.size w0 wk) (hu : Own wk w0.heap.size u xs) :
    RetR w s xs (limbs 1) (.returned (.agg #[.bool s, u, .slice (some ⟨wk.heap.size, 0, none⟩) 1 1])) ((((wk.setCell ⟨g, 0, none⟩ (.bool s)).setCell ⟨g, 1, none⟩ u).setCell ⟨g, 2, none⟩ (.slice (some ⟨wk.heap.size, 0, none⟩) 1 1)).alloc (.cells #[.int .i64 1] 3)) := by
  have hs := set3_own (a := .bool s) (b := u) (c := .slice (some ⟨wk.heap.size, 0, none⟩) 1 1) hu (ne_of_base hu hg0)
  have hB := set3_below (a := .bool s) (b := u) (c := .slice (some ⟨wk.heap.size, 0, none⟩) 1 1) (BW.trans (B0.mono BW.size)) hg
  have hz : (((wk.setCell ⟨g, 0, none⟩ (.bool s)).setCell ⟨g, 1, none⟩ u).setCell ⟨g, 2, none⟩ (.slice (some ⟨wk.heap.size, 0, none⟩) 1 1)).heap.size = wk.heap.size := by simp [World.setCell]
  have h1 := own_one_at _ _ hz
  refine ⟨_, _, rfl, (hs.alloc _).mono BW.size, h1.mono hB.size, ?_, hB.alloc hB.size _⟩
  exact apart_new hs (.inr rfl) h1
set_option maxHeartbeats 2000000 in
theorem sRatFromInt_n (w : World) (n : Int) (n0 : -9223372036854775808 ≤ n) (n1 : n ≤ 9223372036854775807) : Calls Tryz.prog 56 #[.int .i64 n] w (RetQ w n 1) := by
  have BW : Below w.heap.size w (w.alloc (.cells #[.bool false, .slice none 0 0, .slice none 0 0] 27)) := ((Below.refl w.heap.size w).alloc (Nat.le_refl _) _)
  obtain ⟨c0_0, c0_1, c0_2, q0, q1, q2⟩ : World.cell? (w.alloc (.cells #[.bool false, .slice none 0 0, .slice none 0 0] 27)) ⟨w.heap.size, 0, none⟩ = some (.bool false) ∧ World.cell? (w.alloc (.cells #[.bool false, .slice none 0 0, .slice none 0 0] 27)) ⟨w.heap.size, 1, none⟩ = some (.slice none 0 0) ∧ World.cell? (w.alloc (.cells #[.bool false, .slice none 0 0, .slice none 0 0] 27)) ⟨w.heap.size, 2, none⟩ = some (.slice none 0 0) ∧ World.frozen? (w.alloc (.cells #[.bool false, .slice none 0 0, .slice none 0 0] 27)) ⟨w.heap.size, 0, none⟩ = false ∧ World.frozen? (w.alloc (.cells #[.bool false, .slice none 0 0, .slice none 0 0] 27)) ⟨w.heap.size, 1, none⟩ = false ∧ World.frozen? (w.alloc (.cells #[.bool false, .slice none 0 0, .slice none 0 0] 27)) ⟨w.heap.size, 2, none⟩ = false := by simp [go_sem]
  have hg0 : w.heap.size < ((w.alloc (.cells #[.bool false, .slice none 0 0, .slice none 0 0] 27))).heap.size := World.block_lt_of_cell? _ _ c0_0
  go_enter Tryz.func56, Tryz.ntmps56
  go_wp2_with fail
  generalize (w.alloc (.cells #[.bool false, .slice none 0 0, .slice none 0 0] 27)) = w0 at *
  have B0 := Below.refl w0.heap.size w0
  refine (sBigIntOf_c _ n n0 n1).mono ?_
  rintro e w1 ⟨vr, rfl, ho1, hb⟩
  replace q0 := keep_frozen (w1 := w1) hb c0_0 q0
  replace c0_0 := keep_cell (w1 := w1) hb c0_0
  replace q1 := keep_frozen (w1 := w1) hb c0_1 q1
  replace c0_1 := keep_cell (w1 := w1) hb c0_1
  replace q2 := keep_frozen (w1 := w1) hb c0_2 q2
  replace c0_2 := keep_cell (w1 := w1) hb c0_2
  have Hr := Lib.hid (ho1.mono B0.size)
  clear ho1
  obtain ⟨ar, cr, rfl, -, -, -, -, -⟩ := Hr.out.form
  replace B0 := B0.trans (hb.mono B0.size)
  clear hb
  have hg3 := Nat.lt_of_lt_of_le hg0 B0.size
  go_wp2
  obtain ⟨k0, k1, k2⟩ := set_box3 (a := .bool (ng n)) (b := .slice ar (limbs n.natAbs).length cr) (c := .slice (some ⟨w1.heap.size, 0, none⟩) 1 1) c0_0 c0_1 c0_2
  replace k0 := keep_cell (alloc_bel _ (.cells #[.int .i64 1] 3)) k0
  replace k1 := keep_cell (alloc_bel _ (.cells #[.int .i64 1] 3)) k1
  replace k2 := keep_cell (alloc_bel _ (.cells #[.int .i64 1] 3)) k2
  refine bodyPost_ret (v := .agg #[.bool (ng n), .slice ar (limbs n.natAbs).length cr, .slice (some ⟨w1.heap.size, 0, none⟩) 1 1]) ?_ rfl (retLit BW (by omega) hg0 B0 Hr.out)
  simp [results, Tryz.results56, go_sem, k0, k1, k2]

theorem l04Low_m (w : World) (b1 b2 : Nat) (v1 v2 : Value) (x y t : Int) (d : Nat) (n : Nat) (h1 : Own w b1 v1 (limbs n)) (h2 : Own w b2 v2 (limbs d)) (hn : Hid (n = t.natAbs)) (hs : Hid (t ≠ 0 → (ng x != ng y) = ng t)) (hl1 : (limbs t.natAbs).length ≤ 900) (hl2 : (limbs d).length ≤ 900) (z : Int) (e : Nat) (hz : Hid (z = lowZ t d)) (he : Hid (e = lowD t d)) :
    Calls Tryz.prog 100 #[.bool (ng x != ng y), v1, v2] w (RetQ w z e) := by
  have hn := hn.out
  subst hn
  exact l04Low_c w b1 b2 _ v1 v2 t d h1 h2 hl1 hl2 z e hz he hs
theorem l02Mul_t (w : World) (b1 b2 : Nat) (v1 v2 : Value) (a b t : Nat) (h1 : Own w b1 v1 (limbs a)) (h2 : Own w b2 v2 (limbs b)) (hs1 : (limbs a).length ≤ 1000) (hs2 : (limbs b).length ≤ 1000) (ht : Hid (a * b = t)) :
    Calls Tryz.prog 144 #[v1, v2] w (RetS w (limbs t)) := by
  rw [← ht.out]; exact l02Mul_c w b1 b2 v1 v2 a b h1 h2 hs1 hs2

theorem div_s {x y : Int} {f : Nat} (hf : 0 < f) {t : Int} (ht : t = x * sgnd y f) (h0 : t ≠ 0) : (ng x != ng y) = ng t := by
  rw [← sgnd_ng (y := y) hf]; exact mul_s ht h0
theorem div_n {x y : Int} {f : Nat} {t : Int} (ht : t = x * sgnd y f) : x.natAbs * f = t.natAbs := by
  rw [ht, Int.natAbs_mul, sgnd_abs]

theorem mulN_s {x p : Int} {f : Nat} (hp : p = x * (f : Int)) (h0 : p ≠ 0) : ng x = ng p := by
  have := mul_s hp h0
  rw [ng_nat] at this
  rw [← this]; cases ng x <;> rfl
theorem mulN_n {x p : Int} {f : Nat} (hp : p = x * (f : Int)) : x.natAbs * f = p.natAbs := by rw [hp, Int.natAbs_mul, Int.natAbs_natCast]
theorem fit_abs {p : Int} {n : Nat} (hn : n = p.natAbs) (hl : (limbs p.natAbs).length ≤ 60) : p.natAbs = if (limbs n).length ≤ 60 then n else 0 := by
  subst hn; rw [if_pos hl]

end Go.Proofs.YtijeplcjbhkkoaaGreatDoor

/- append onto a slice of the call's own, inside a region that draws its order. -/
namespace Go.Proofs.YtijeplcjbhkkoaaGreatDoor
open Go.RowKit Lm

theorem app_wp {w : World} {o : Oper} {a : Act} {K : Act → World → Prop} {Q : Exit → Act → World → Prop} (s x : Operand)
    (ho : o.op = .call { callee := .builtin .append, args := #[s, x], argTypes := #[23, 23] })
    (v u : Value) (base bu : Nat) (xs ys : List Int) (hs : a.eval s = v) (hx : a.eval x = u) (h1 : Own w base v xs) (h2 : Own w bu u ys) (hlen : xs.length + ys.length ≤ 17592186044415) (hbase : base ≤ w.heap.size)
    (h : ∀ v' w', Own w' base v' (xs ++ ys) → w.grownBy w' v.ownBlock → (v'.ownBlock = v.ownBlock ∨ v'.ownBlock = some w.heap.size) → K (a.put o.dst v') w') : o.wp Tryz.prog a w K Q := by
  obtain ⟨i, hi, hz, hsz, hby⟩ := info_parts Tryz.infoInt
  have hm : (xs ++ ys).map (Value.int .i64) = xs.map (Value.int .i64) ++ ys.map (Value.int .i64) := List.map_append
  rcases h2.2 with ⟨rfl, hn⟩ | ⟨g, cap, cur, rfl, hg, hgg, hnc, hcm, hcs, htk⟩
  · have hy : ys = [] := List.length_eq_zero_iff.1 hn
    subst hy
    have hrun := run_append_owned_none (P := Tryz.prog) w base 23 o.type 3 i 1 Tryz.underlying23 hi _ _ _ h1
    unfold Oper.wp
    simp only [execOp, ho, resolve, invoke, builtin, Sem.run_bind, Sem.run_pure, Result.andThen_ok, List.map_toArray, List.map_cons, List.map_nil, hs, hx, hrun]
    exact h v w (by simpa using h1) ⟨rfl, rfl, rfl, Nat.le_refl _, fun _ _ _ => rfl⟩ (Or.inl rfl)
  · obtain ⟨v', w', hr, r2, r3, _, r5⟩ := run_append_own_at (P := Tryz.prog) w base 23 o.type 3 i (.int .i64 0) 1 8 Tryz.underlying23 hi hz hsz hby rfl (by decide) v xs.length (xs.map (Value.int .i64)) h1
      ⟨g, 0, none⟩ ys.length cap (ys.map (Value.int .i64)) (by simp) (World.ownsRow.cells h2 (g := g) rfl) (ints_oneCell _ _) (by unfold maxLen; omega) (by omega) hbase
    unfold Oper.wp
    simp only [execOp, ho, resolve, invoke, builtin, Sem.run_bind, Sem.run_pure, Result.andThen_ok, List.map_toArray, List.map_cons, List.map_nil, hs, hx, hr]
    exact h v' w' (by unfold Own; rw [List.length_append, hm]; exact r2) r3 r5
/-- The same as a step of such a region. -/
theorem app_step {w : World} {ops : Array Oper} {o : Oper} {a : Act} {K : Act → World → Prop} {Q : Exit → Act → World → Prop} {E : Prop} (hgd : o.guard = none) (s x : Operand)
    (ho : o.op = .call { callee := .builtin .append, args := #[s, x], argTypes := #[23, 23] })
    (v u : Value) (base bu : Nat) (xs ys : List Int) (hs : a.eval s = v) (hx : a.eval x = u) (h1 : Own w base v xs) (h2 : Own w bu u ys) (hlen : xs.length + ys.length ≤ 17592186044415) (hbase : base ≤ w.heap.size)
    (h : ∀ v' w', Own w' base v' (xs ++ ys) → w.grownBy w' v.ownBlock → (v'.ownBlock = v.ownBlock ∨ v'.ownBlock = some w.heap.size) → K (a.put o.dst v') w') :
    if Region.wanted o (yielded ops a.tmps) = true then Oper.wp Tryz.prog o a w K Q else E := by
  have hw : Region.wanted o (yielded ops a.tmps) = true := by simp [Region.wanted, hgd]
  rw [if_pos hw]
  exact app_wp s x ho v u base bu xs ys hs hx h1 h2 hlen hbase h

end Go.Proofs.YtijeplcjbhkkoaaGreatDoor

/- The reference's fractions: l04Neg, l04Copy, l04Add and what leans on them. -/
namespace Go.Proofs.YtijeplcjbhkkoaaGreatDoor
open Go.RowKit Lm

/-! An empty literal that was made inside a region, and what is made beside it. -/
def litV (w : World) : Value := .slice (some ⟨w.heap.size, 0, none⟩) 0 0
theorem lit_new {w : World} {b : Nat} {u : Value} {xs : List Int} (h : Own w b u xs) : Apart (.slice (some ⟨w.heap.size, 0, none⟩) 0 0) u := fun k hk hu => by
  have h1 := (h.lt k hu).2
  have h2 : w.heap.size = k := Option.some.inj hk
  omega
theorem lit_apart {w w' : World} {o : Obj} {u : Value} {xs : List Int} (h : Own w' (w.alloc o).heap.size u xs) : Apart (.slice (some ⟨w.heap.size, 0, none⟩) 0 0) u := fun k hk hu => by
  have h1 := (h.lt k hu).1
  have h2 : w.heap.size = k := Option.some.inj hk
  have : (w.alloc o).heap.size = w.heap.size + 1 := by simp
  omega
theorem lit_apartd {w w' : World} {o : Obj} {u : Value} {xs : List Int} (h : Own w' (w.alloc o).drew.heap.size u xs) : Apart (.slice (some ⟨w.heap.size, 0, none⟩) 0 0) u := lit_apart h
theorem lit_bel {w0 w w' : World} (hb : Below (w.alloc (.cells #[] 3)).heap.size (w.alloc (.cells #[] 3)) w') (B : Below w0.heap.size w0 w) : Own w' w0.heap.size (.slice (some ⟨w.heap.size, 0, none⟩) 0 0) [] :=
  ((Own.lit0 w).below hb (Nat.le_refl _)).mono B.size
theorem lit_beld {w0 w w' : World} (hb : Below (w.alloc (.cells #[] 3)).drew.heap.size (w.alloc (.cells #[] 3)).drew w') (B : Below w0.heap.size w0 w.drew) : Own w' w0.heap.size (.slice (some ⟨w.heap.size, 0, none⟩) 0 0) [] :=
  ((Own.lit0 w).below (undrew_below hb) (Nat.le_refl _)).mono B.size
theorem lit_own {w0 w : World} (B : Below w0.heap.size w0 w) : Own (w.alloc (.cells #[] 3)) w0.heap.size (.slice (some ⟨w.heap.size, 0, none⟩) 0 0) [] := (Own.lit0 w).mono B.size
theorem lit_ownd {w0 w : World} (B : Below w0.heap.size w0 w.drew) : Own (w.alloc (.cells #[] 3)).drew w0.heap.size (.slice (some ⟨w.heap.size, 0, none⟩) 0 0) [] := Own.drew ((Own.lit0 w).mono B.size)
theorem lit_grown {w0 w w' : World} (B : Below w0.heap.size w0 w) (hg : (w.alloc (.cells #[] 3)).grownBy w' (Value.ownBlock (.slice (some ⟨w.heap.size, 0, none⟩) 0 0))) : Below w0.heap.size w0 w' :=
  (lit_own B).grownBelow (B.alloc B.size _) hg (Nat.le_refl _) (Nat.le_trans B.size (heap_le_alloc _ _))
theorem lit_grownd {w0 w w' : World} (B : Below w0.heap.size w0 w.drew) (hg : (w.alloc (.cells #[] 3)).drew.grownBy w' (Value.ownBlock (.slice (some ⟨w.heap.size, 0, none⟩) 0 0))) : Below w0.heap.size w0 w' :=
  (lit_ownd B).grownBelow (below_drew ((below_undrew B).alloc B.size _)) hg (Nat.le_refl _) (Nat.le_trans B.size (heap_le_alloc w _))
theorem ne_of_apart {L u : Value} (h : Apart L u) : u.ownBlock = none ∨ u.ownBlock ≠ L.ownBlock := by
  cases hu : u.ownBlock with
  | none => exact .inl rfl
  | some k => exact .inr fun e => h k e.symm hu
theorem apart_app {W : World} {b : Nat} {L u v : Value} {xs : List Int} (hat : v.ownBlock = L.ownBlock ∨ v.ownBlock = some W.heap.size) (hu : Own W b u xs) (hL : Apart L u) : Apart u v := fun k hk hv => by
  rcases hat with h | h
  · rw [h] at hv; exact hL k hv hk
  · rw [h] at hv
    cases hv
    have := (hu.lt _ hk).2
    omega
theorem alloc_size_le {w0 w : World} (B : Below w0.heap.size w0 w) (o : Obj) : w0.heap.size ≤ (w.alloc o).heap.size := Nat.le_trans B.size (heap_le_alloc _ _)

/-! Two literals. -/
theorem alloc2_size (w : World) (o1 o2 : Obj) : ((w.alloc o1).alloc o2).heap.size = w.heap.size + 1 + 1 := by simp
theorem alloc1_size (w : World) (o1 : Obj) : (w.alloc o1).heap.size = w.heap.size + 1 := by simp
theorem lit2a {w0 w : World} (B : Below w0.heap.size w0 w.drew) : Own ((w.alloc (.cells #[] 3)).alloc (.cells #[] 3)).drew w0.heap.size (.slice (some ⟨w.heap.size, 0, none⟩) 0 0) [] := Own.drew (((Own.lit0 w).mono B.size).alloc _)
theorem lit2b {w0 w : World} (B : Below w0.heap.size w0 w.drew) : Own ((w.alloc (.cells #[] 3)).alloc (.cells #[] 3)).drew w0.heap.size (.slice (some ⟨w.heap.size + 1, 0, none⟩) 0 0) [] := by
  rw [← alloc1_size w (.cells #[] 3)]
  exact Own.drew ((Own.lit0 (w.alloc (.cells #[] 3))).mono (Nat.le_trans B.size (heap_le_alloc w _)))
theorem below2 {w0 w : World} (B : Below w0.heap.size w0 w.drew) : Below w0.heap.size w0 ((w.alloc (.cells #[] 3)).alloc (.cells #[] 3)).drew :=
  below_drew (((below_undrew B).alloc B.size _).alloc (Nat.le_trans B.size (heap_le_alloc w _)) _)
theorem size2 {w0 w : World} (B : Below w0.heap.size w0 w.drew) : w0.heap.size ≤ ((w.alloc (.cells #[] 3)).alloc (.cells #[] 3)).drew.heap.size := (below2 B).size
theorem lit2a_keep {w0 w w' : World} {v : Value} (B : Below w0.heap.size w0 w.drew) (hg : ((w.alloc (.cells #[] 3)).alloc (.cells #[] 3)).drew.grownBy w' (Value.ownBlock (.slice (some ⟨w.heap.size + 1, 0, none⟩) 0 0)))
    (hat : v.ownBlock = Value.ownBlock (.slice (some ⟨w.heap.size + 1, 0, none⟩) 0 0) ∨ v.ownBlock = some ((w.alloc (.cells #[] 3)).alloc (.cells #[] 3)).drew.heap.size) :
    Own w' w0.heap.size (.slice (some ⟨w.heap.size, 0, none⟩) 0 0) [] ∧ Apart (.slice (some ⟨w.heap.size, 0, none⟩) 0 0) v ∧ Below w0.heap.size w0 w' := by
  refine ⟨(lit2a B).grown hg (.inr fun e => ?_), fun k hk hv => ?_, (lit2b B).grownBelow (below2 B) hg (Nat.le_refl _) (below2 B).size⟩
  · have : w.heap.size = w.heap.size + 1 := Option.some.inj e
    omega
  · have h1 : w.heap.size = k := Option.some.inj hk
    rcases hat with h | h
    · have h2 : w.heap.size + 1 = k := Option.some.inj (h.symm.trans hv)
      omega
    · have h2 : ((w.alloc (.cells #[] 3)).alloc (.cells #[] 3)).heap.size = k := Option.some.inj (h.symm.trans hv)
      rw [alloc2_size] at h2
      omega
theorem lit2b_keep {w0 w w' : World} {v : Value} (B : Below w0.heap.size w0 w.drew) (hg : ((w.alloc (.cells #[] 3)).alloc (.cells #[] 3)).drew.grownBy w' (Value.ownBlock (.slice (some ⟨w.heap.size, 0, none⟩) 0 0)))
    (hat : v.ownBlock = Value.ownBlock (.slice (some ⟨w.heap.size, 0, none⟩) 0 0) ∨ v.ownBlock = some ((w.alloc (.cells #[] 3)).alloc (.cells #[] 3)).drew.heap.size) :
    Own w' w0.heap.size (.slice (some ⟨w.heap.size + 1, 0, none⟩) 0 0) [] ∧ Apart (.slice (some ⟨w.heap.size + 1, 0, none⟩) 0 0) v ∧ Below w0.heap.size w0 w' := by
  refine ⟨(lit2b B).grown hg (.inr fun e => ?_), fun k hk hv => ?_, (lit2a B).grownBelow (below2 B) hg (Nat.le_refl _) (below2 B).size⟩
  · have : w.heap.size + 1 = w.heap.size := Option.some.inj e
    omega
  · have h1 : w.heap.size + 1 = k := Option.some.inj hk
    rcases hat with h | h
    · have h2 : w.heap.size = k := Option.some.inj (h.symm.trans hv)
      omega
    · have h2 : ((w.alloc (.cells #[] 3)).alloc (.cells #[] 3)).heap.size = k := Option.some.inj (h.symm.trans hv)
      rw [alloc2_size] at h2
      omega

theorem neg_sgn {x z : Int} (hz : z = -x) (h0 : z ≠ 0) : (!ng x) = ng z := by
  rcases ng_cases x with ⟨h, e⟩ | ⟨h, e⟩ <;> rw [e]
  · rw [ng_nonneg (by omega)]; rfl
  · rw [ng_neg (by omega)]; rfl

theorem l04One_tt (w : World) (b1 : Nat) (v1 : Value) (n : Nat) (h1 : Own w b1 v1 (limbs n)) (hn : n = 1) : Calls Tryz.prog 122 #[v1] w (RetB w true) := by
  subst hn; exact l04One_t w b1 v1 h1

end Go.Proofs.YtijeplcjbhkkoaaGreatDoor

/- The reference's fractions: RatAdd, RatSub, RatNeg, RatMin, RatMax. -/
namespace Go.Proofs.YtijeplcjbhkkoaaGreatDoor
open Go.RowKit Lm

end Go.Proofs.YtijeplcjbhkkoaaGreatDoor
