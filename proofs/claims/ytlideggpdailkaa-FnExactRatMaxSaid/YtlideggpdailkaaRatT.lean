/- The reference's fractions: the operations. -/
import Derived.Test.YtlideggpdailkaaRatS
import Derived.Test.YtlideggpdailkaaRatE
namespace Go.Proofs.Ytlideggpdailkaa
open Go.RowKit Lm

set_option maxHeartbeats 2000000 in
theorem sRatMake_1 (w : World) (b1 : Nat) (s t : Bool) (v1 v2 : Value) (xs : List Int) (h1 : Own w b1 v1 xs) (hx : ¬ OkG s xs) :
    Calls Try.prog 33 #[.agg #[.bool s, v1], .agg #[.bool t, v2]] w (RetQ w 0 0) := by
  have BW : Below w.heap.size w (((w.alloc (.cells #[.bool s, v1] 29)).alloc (.cells #[.bool t, v2] 29)).alloc (.cells #[.bool false, .slice none 0 0, .slice none 0 0] 31)) := ((((Below.refl w.heap.size w).alloc (Nat.le_refl _) _).alloc (by simp) _).alloc (by simp; omega) _)
  obtain ⟨c0_0, c0_1, c1_0, c1_1, c2_0, c2_1, c2_2, q0, q1, q2⟩ : World.cell? (((w.alloc (.cells #[.bool s, v1] 29)).alloc (.cells #[.bool t, v2] 29)).alloc (.cells #[.bool false, .slice none 0 0, .slice none 0 0] 31)) ⟨w.heap.size, 0, none⟩ = some (.bool s) ∧ World.cell? (((w.alloc (.cells #[.bool s, v1] 29)).alloc (.cells #[.bool t, v2] 29)).alloc (.cells #[.bool false, .slice none 0 0, .slice none 0 0] 31)) ⟨w.heap.size, 1, none⟩ = some (v1) ∧ World.cell? (((w.alloc (.cells #[.bool s, v1] 29)).alloc (.cells #[.bool t, v2] 29)).alloc (.cells #[.bool false, .slice none 0 0, .slice none 0 0] 31)) ⟨w.heap.size + 1, 0, none⟩ = some (.bool t) ∧ World.cell? (((w.alloc (.cells #[.bool s, v1] 29)).alloc (.cells #[.bool t, v2] 29)).alloc (.cells #[.bool false, .slice none 0 0, .slice none 0 0] 31)) ⟨w.heap.size + 1, 1, none⟩ = some (v2) ∧ World.cell? (((w.alloc (.cells #[.bool s, v1] 29)).alloc (.cells #[.bool t, v2] 29)).alloc (.cells #[.bool false, .slice none 0 0, .slice none 0 0] 31)) ⟨w.heap.size + 1 + 1, 0, none⟩ = some (.bool false) ∧ World.cell? (((w.alloc (.cells #[.bool s, v1] 29)).alloc (.cells #[.bool t, v2] 29)).alloc (.cells #[.bool false, .slice none 0 0, .slice none 0 0] 31)) ⟨w.heap.size + 1 + 1, 1, none⟩ = some (.slice none 0 0) ∧ World.cell? (((w.alloc (.cells #[.bool s, v1] 29)).alloc (.cells #[.bool t, v2] 29)).alloc (.cells #[.bool false, .slice none 0 0, .slice none 0 0] 31)) ⟨w.heap.size + 1 + 1, 2, none⟩ = some (.slice none 0 0) ∧ World.frozen? (((w.alloc (.cells #[.bool s, v1] 29)).alloc (.cells #[.bool t, v2] 29)).alloc (.cells #[.bool false, .slice none 0 0, .slice none 0 0] 31)) ⟨w.heap.size + 1 + 1, 0, none⟩ = false ∧ World.frozen? (((w.alloc (.cells #[.bool s, v1] 29)).alloc (.cells #[.bool t, v2] 29)).alloc (.cells #[.bool false, .slice none 0 0, .slice none 0 0] 31)) ⟨w.heap.size + 1 + 1, 1, none⟩ = false ∧ World.frozen? (((w.alloc (.cells #[.bool s, v1] 29)).alloc (.cells #[.bool t, v2] 29)).alloc (.cells #[.bool false, .slice none 0 0, .slice none 0 0] 31)) ⟨w.heap.size + 1 + 1, 2, none⟩ = false := by simp [go_sem]
  have hg0 : w.heap.size + 1 + 1 < ((((w.alloc (.cells #[.bool s, v1] 29)).alloc (.cells #[.bool t, v2] 29)).alloc (.cells #[.bool false, .slice none 0 0, .slice none 0 0] 31))).heap.size := World.block_lt_of_cell? _ _ c2_0
  have Ha := Lib.hid (h1.below BW (Nat.le_refl _))
  clear h1
  have HX := Lib.hid hx
  clear hx
  go_enter Try.func33, Try.ntmps33
  go_wp2_with fail
  generalize (((w.alloc (.cells #[.bool s, v1] 29)).alloc (.cells #[.bool t, v2] 29)).alloc (.cells #[.bool false, .slice none 0 0, .slice none 0 0] 31)) = w0 at *
  have B0 := Below.refl w0.heap.size w0
  refine (sBigIntOk_f _ _ _ _ _ Ha.out HX.out).mono ?_
  rintro e w1 ⟨rfl, hb⟩
  replace c0_0 := keep_cell hb c0_0
  replace c0_1 := keep_cell hb c0_1
  replace c1_0 := keep_cell hb c1_0
  replace c1_1 := keep_cell hb c1_1
  replace q0 := keep_frozen (w1 := w1) hb c2_0 q0
  replace c2_0 := keep_cell (w1 := w1) hb c2_0
  replace q1 := keep_frozen (w1 := w1) hb c2_1 q1
  replace c2_1 := keep_cell (w1 := w1) hb c2_1
  replace q2 := keep_frozen (w1 := w1) hb c2_2 q2
  replace c2_2 := keep_cell (w1 := w1) hb c2_2
  replace Ha := Lib.hid (Ha.out.below hb (Nat.le_refl _))
  replace B0 := B0.trans (hb.mono B0.size)
  clear hb
  go_wp2
  exact bodyPost_ret (v := .agg #[.bool false, .slice none 0 0, .slice none 0 0]) (by simp [results, Try.results33, go_sem, c2_0, c2_1, c2_2]) rfl (retQ_nil (set3_below (BW.trans (B0.mono BW.size)) (by omega)))

set_option maxHeartbeats 2000000 in
theorem sRatMake_2 (w : World) (b1 b2 : Nat) (s t : Bool) (v1 v2 : Value) (xs ys : List Int) (h1 : Own w b1 v1 xs) (h2 : Own w b2 v2 ys) (hx : OkG s xs) (hy : ¬ OkG t ys) :
    Calls Try.prog 33 #[.agg #[.bool s, v1], .agg #[.bool t, v2]] w (RetQ w 0 0) := by
  have BW : Below w.heap.size w (((w.alloc (.cells #[.bool s, v1] 29)).alloc (.cells #[.bool t, v2] 29)).alloc (.cells #[.bool false, .slice none 0 0, .slice none 0 0] 31)) := ((((Below.refl w.heap.size w).alloc (Nat.le_refl _) _).alloc (by simp) _).alloc (by simp; omega) _)
  obtain ⟨c0_0, c0_1, c1_0, c1_1, c2_0, c2_1, c2_2, q0, q1, q2⟩ : World.cell? (((w.alloc (.cells #[.bool s, v1] 29)).alloc (.cells #[.bool t, v2] 29)).alloc (.cells #[.bool false, .slice none 0 0, .slice none 0 0] 31)) ⟨w.heap.size, 0, none⟩ = some (.bool s) ∧ World.cell? (((w.alloc (.cells #[.bool s, v1] 29)).alloc (.cells #[.bool t, v2] 29)).alloc (.cells #[.bool false, .slice none 0 0, .slice none 0 0] 31)) ⟨w.heap.size, 1, none⟩ = some (v1) ∧ World.cell? (((w.alloc (.cells #[.bool s, v1] 29)).alloc (.cells #[.bool t, v2] 29)).alloc (.cells #[.bool false, .slice none 0 0, .slice none 0 0] 31)) ⟨w.heap.size + 1, 0, none⟩ = some (.bool t) ∧ World.cell? (((w.alloc (.cells #[.bool s, v1] 29)).alloc (.cells #[.bool t, v2] 29)).alloc (.cells #[.bool false, .slice none 0 0, .slice none 0 0] 31)) ⟨w.heap.size + 1, 1, none⟩ = some (v2) ∧ World.cell? (((w.alloc (.cells #[.bool s, v1] 29)).alloc (.cells #[.bool t, v2] 29)).alloc (.cells #[.bool false, .slice none 0 0, .slice none 0 0] 31)) ⟨w.heap.size + 1 + 1, 0, none⟩ = some (.bool false) ∧ World.cell? (((w.alloc (.cells #[.bool s, v1] 29)).alloc (.cells #[.bool t, v2] 29)).alloc (.cells #[.bool false, .slice none 0 0, .slice none 0 0] 31)) ⟨w.heap.size + 1 + 1, 1, none⟩ = some (.slice none 0 0) ∧ World.cell? (((w.alloc (.cells #[.bool s, v1] 29)).alloc (.cells #[.bool t, v2] 29)).alloc (.cells #[.bool false, .slice none 0 0, .slice none 0 0] 31)) ⟨w.heap.size + 1 + 1, 2, none⟩ = some (.slice none 0 0) ∧ World.frozen? (((w.alloc (.cells #[.bool s, v1] 29)).alloc (.cells #[.bool t, v2] 29)).alloc (.cells #[.bool false, .slice none 0 0, .slice none 0 0] 31)) ⟨w.heap.size + 1 + 1, 0, none⟩ = false ∧ World.frozen? (((w.alloc (.cells #[.bool s, v1] 29)).alloc (.cells #[.bool t, v2] 29)).alloc (.cells #[.bool false, .slice none 0 0, .slice none 0 0] 31)) ⟨w.heap.size + 1 + 1, 1, none⟩ = false ∧ World.frozen? (((w.alloc (.cells #[.bool s, v1] 29)).alloc (.cells #[.bool t, v2] 29)).alloc (.cells #[.bool false, .slice none 0 0, .slice none 0 0] 31)) ⟨w.heap.size + 1 + 1, 2, none⟩ = false := by simp [go_sem]
  have hg0 : w.heap.size + 1 + 1 < ((((w.alloc (.cells #[.bool s, v1] 29)).alloc (.cells #[.bool t, v2] 29)).alloc (.cells #[.bool false, .slice none 0 0, .slice none 0 0] 31))).heap.size := World.block_lt_of_cell? _ _ c2_0
  have Ha := Lib.hid (h1.below BW (Nat.le_refl _))
  have Hc := Lib.hid (h2.below BW (Nat.le_refl _))
  clear h1 h2
  have HX := Lib.hid hx
  have HY := Lib.hid hy
  clear hx hy
  go_enter Try.func33, Try.ntmps33
  go_wp2_with fail
  generalize (((w.alloc (.cells #[.bool s, v1] 29)).alloc (.cells #[.bool t, v2] 29)).alloc (.cells #[.bool false, .slice none 0 0, .slice none 0 0] 31)) = w0 at *
  have B0 := Below.refl w0.heap.size w0
  refine (sBigIntOk_t _ _ _ _ _ Ha.out HX.out).mono ?_
  rintro e w1 ⟨rfl, hb⟩
  replace c0_0 := keep_cell hb c0_0
  replace c0_1 := keep_cell hb c0_1
  replace c1_0 := keep_cell hb c1_0
  replace c1_1 := keep_cell hb c1_1
  replace q0 := keep_frozen (w1 := w1) hb c2_0 q0
  replace c2_0 := keep_cell (w1 := w1) hb c2_0
  replace q1 := keep_frozen (w1 := w1) hb c2_1 q1
  replace c2_1 := keep_cell (w1 := w1) hb c2_1
  replace q2 := keep_frozen (w1 := w1) hb c2_2 q2
  replace c2_2 := keep_cell (w1 := w1) hb c2_2
  replace Ha := Lib.hid (Ha.out.below hb (Nat.le_refl _))
  replace Hc := Lib.hid (Hc.out.below hb (Nat.le_refl _))
  replace B0 := B0.trans (hb.mono B0.size)
  clear hb
  go_wp2_with fail
  refine (sBigIntOk_f _ _ _ _ _ Hc.out HY.out).mono ?_
  rintro e w2 ⟨rfl, hb⟩
  replace c0_0 := keep_cell hb c0_0
  replace c0_1 := keep_cell hb c0_1
  replace c1_0 := keep_cell hb c1_0
  replace c1_1 := keep_cell hb c1_1
  replace q0 := keep_frozen (w1 := w2) hb c2_0 q0
  replace c2_0 := keep_cell (w1 := w2) hb c2_0
  replace q1 := keep_frozen (w1 := w2) hb c2_1 q1
  replace c2_1 := keep_cell (w1 := w2) hb c2_1
  replace q2 := keep_frozen (w1 := w2) hb c2_2 q2
  replace c2_2 := keep_cell (w1 := w2) hb c2_2
  replace Ha := Lib.hid (Ha.out.below hb (Nat.le_refl _))
  replace Hc := Lib.hid (Hc.out.below hb (Nat.le_refl _))
  replace B0 := B0.trans (hb.mono B0.size)
  clear hb
  go_wp2
  exact bodyPost_ret (v := .agg #[.bool false, .slice none 0 0, .slice none 0 0]) (by simp [results, Try.results33, go_sem, c2_0, c2_1, c2_2]) rfl (retQ_nil (set3_below (BW.trans (B0.mono BW.size)) (by omega)))

theorem l04Low_x (w : World) (b1 b2 : Nat) (v1 v2 : Value) (x y t : Int) (h1 : Own w b1 v1 (limbs x.natAbs)) (h2 : Own w b2 v2 (limbs y.natAbs)) (hl1 : (limbs x.natAbs).length ≤ 900) (hl2 : (limbs y.natAbs).length ≤ 900) (ht : Hid (t = turn x y)) (z : Int) (e : Nat) (hz : Hid (z = lowZ t y.natAbs)) (he : Hid (e = lowD t y.natAbs)) :
    Calls Try.prog 75 #[.bool (ng x != ng y), v1, v2] w (RetQ w z e) := by
  have ht := ht.out
  subst ht
  refine l04Low_c w b1 b2 _ v1 v2 (turn x y) y.natAbs (by rw [turn_abs]; exact h1) h2 (by rw [turn_abs]; exact hl1) hl2 z e hz he ?_
  exact turn_ng

set_option maxHeartbeats 2000000 in
theorem sRatMake_z (w : World) (b1 b2 : Nat) (v1 v2 : Value) (x y : Int) (h1 : Own w b1 v1 (limbs x.natAbs)) (h2 : Own w b2 v2 (limbs y.natAbs)) (hl1 : (limbs x.natAbs).length ≤ 60) (hl2 : (limbs y.natAbs).length ≤ 60) (z : Int) (e : Nat) (hz : z = lowZ (turn x y) y.natAbs) (he : e = lowD (turn x y) y.natAbs) :
    Calls Try.prog 33 #[.agg #[.bool (ng x), v1], .agg #[.bool (ng y), v2]] w (RetQ w z e) := by
  have BW : Below w.heap.size w (((w.alloc (.cells #[.bool (ng x), v1] 29)).alloc (.cells #[.bool (ng y), v2] 29)).alloc (.cells #[.bool false, .slice none 0 0, .slice none 0 0] 31)) := ((((Below.refl w.heap.size w).alloc (Nat.le_refl _) _).alloc (by simp) _).alloc (by simp; omega) _)
  obtain ⟨c0_0, c0_1, c1_0, c1_1, c2_0, c2_1, c2_2, q0, q1, q2⟩ : World.cell? (((w.alloc (.cells #[.bool (ng x), v1] 29)).alloc (.cells #[.bool (ng y), v2] 29)).alloc (.cells #[.bool false, .slice none 0 0, .slice none 0 0] 31)) ⟨w.heap.size, 0, none⟩ = some (.bool (ng x)) ∧ World.cell? (((w.alloc (.cells #[.bool (ng x), v1] 29)).alloc (.cells #[.bool (ng y), v2] 29)).alloc (.cells #[.bool false, .slice none 0 0, .slice none 0 0] 31)) ⟨w.heap.size, 1, none⟩ = some (v1) ∧ World.cell? (((w.alloc (.cells #[.bool (ng x), v1] 29)).alloc (.cells #[.bool (ng y), v2] 29)).alloc (.cells #[.bool false, .slice none 0 0, .slice none 0 0] 31)) ⟨w.heap.size + 1, 0, none⟩ = some (.bool (ng y)) ∧ World.cell? (((w.alloc (.cells #[.bool (ng x), v1] 29)).alloc (.cells #[.bool (ng y), v2] 29)).alloc (.cells #[.bool false, .slice none 0 0, .slice none 0 0] 31)) ⟨w.heap.size + 1, 1, none⟩ = some (v2) ∧ World.cell? (((w.alloc (.cells #[.bool (ng x), v1] 29)).alloc (.cells #[.bool (ng y), v2] 29)).alloc (.cells #[.bool false, .slice none 0 0, .slice none 0 0] 31)) ⟨w.heap.size + 1 + 1, 0, none⟩ = some (.bool false) ∧ World.cell? (((w.alloc (.cells #[.bool (ng x), v1] 29)).alloc (.cells #[.bool (ng y), v2] 29)).alloc (.cells #[.bool false, .slice none 0 0, .slice none 0 0] 31)) ⟨w.heap.size + 1 + 1, 1, none⟩ = some (.slice none 0 0) ∧ World.cell? (((w.alloc (.cells #[.bool (ng x), v1] 29)).alloc (.cells #[.bool (ng y), v2] 29)).alloc (.cells #[.bool false, .slice none 0 0, .slice none 0 0] 31)) ⟨w.heap.size + 1 + 1, 2, none⟩ = some (.slice none 0 0) ∧ World.frozen? (((w.alloc (.cells #[.bool (ng x), v1] 29)).alloc (.cells #[.bool (ng y), v2] 29)).alloc (.cells #[.bool false, .slice none 0 0, .slice none 0 0] 31)) ⟨w.heap.size + 1 + 1, 0, none⟩ = false ∧ World.frozen? (((w.alloc (.cells #[.bool (ng x), v1] 29)).alloc (.cells #[.bool (ng y), v2] 29)).alloc (.cells #[.bool false, .slice none 0 0, .slice none 0 0] 31)) ⟨w.heap.size + 1 + 1, 1, none⟩ = false ∧ World.frozen? (((w.alloc (.cells #[.bool (ng x), v1] 29)).alloc (.cells #[.bool (ng y), v2] 29)).alloc (.cells #[.bool false, .slice none 0 0, .slice none 0 0] 31)) ⟨w.heap.size + 1 + 1, 2, none⟩ = false := by simp [go_sem]
  have hg0 : w.heap.size + 1 + 1 < ((((w.alloc (.cells #[.bool (ng x), v1] 29)).alloc (.cells #[.bool (ng y), v2] 29)).alloc (.cells #[.bool false, .slice none 0 0, .slice none 0 0] 31))).heap.size := World.block_lt_of_cell? _ _ c2_0
  have Ha := Lib.hid (h1.below BW (Nat.le_refl _))
  have Hc := Lib.hid (h2.below BW (Nat.le_refl _))
  clear h1 h2
  obtain ⟨t, ht⟩ : ∃ t : Int, t = turn x y := ⟨_, rfl⟩
  have HT := Lib.hid ht
  have lx : (limbs x.natAbs).length ≤ 900 := by omega
  have ly : (limbs y.natAbs).length ≤ 900 := by omega
  have HZ : Hid (z = lowZ t y.natAbs) := by unfold Hid; rw [ht]; exact hz
  have HE : Hid (e = lowD t y.natAbs) := by unfold Hid; rw [ht]; exact he
  clear ht hz he
  go_enter Try.func33, Try.ntmps33
  go_wp2_with fail
  generalize (((w.alloc (.cells #[.bool (ng x), v1] 29)).alloc (.cells #[.bool (ng y), v2] 29)).alloc (.cells #[.bool false, .slice none 0 0, .slice none 0 0] 31)) = w0 at *
  have B0 := Below.refl w0.heap.size w0
  refine (sBigIntOk_z _ _ _ x Ha.out hl1).mono ?_
  rintro e w1 ⟨rfl, hb⟩
  replace c0_0 := keep_cell hb c0_0
  replace c0_1 := keep_cell hb c0_1
  replace c1_0 := keep_cell hb c1_0
  replace c1_1 := keep_cell hb c1_1
  replace q0 := keep_frozen (w1 := w1) hb c2_0 q0
  replace c2_0 := keep_cell (w1 := w1) hb c2_0
  replace q1 := keep_frozen (w1 := w1) hb c2_1 q1
  replace c2_1 := keep_cell (w1 := w1) hb c2_1
  replace q2 := keep_frozen (w1 := w1) hb c2_2 q2
  replace c2_2 := keep_cell (w1 := w1) hb c2_2
  replace Ha := Lib.hid (Ha.out.below hb (Nat.le_refl _))
  replace Hc := Lib.hid (Hc.out.below hb (Nat.le_refl _))
  replace B0 := B0.trans (hb.mono B0.size)
  clear hb
  go_wp2_with fail
  refine (sBigIntOk_z _ _ _ y Hc.out hl2).mono ?_
  rintro e w2 ⟨rfl, hb⟩
  replace c0_0 := keep_cell hb c0_0
  replace c0_1 := keep_cell hb c0_1
  replace c1_0 := keep_cell hb c1_0
  replace c1_1 := keep_cell hb c1_1
  replace q0 := keep_frozen (w1 := w2) hb c2_0 q0
  replace c2_0 := keep_cell (w1 := w2) hb c2_0
  replace q1 := keep_frozen (w1 := w2) hb c2_1 q1
  replace c2_1 := keep_cell (w1 := w2) hb c2_1
  replace q2 := keep_frozen (w1 := w2) hb c2_2 q2
  replace c2_2 := keep_cell (w1 := w2) hb c2_2
  replace Ha := Lib.hid (Ha.out.below hb (Nat.le_refl _))
  replace Hc := Lib.hid (Hc.out.below hb (Nat.le_refl _))
  replace B0 := B0.trans (hb.mono B0.size)
  clear hb
  go_wp2_with fail
  refine (l04Low_x _ _ _ _ _ x y t Ha.out Hc.out lx ly HT z e HZ HE).mono ?_
  rintro e w3 ⟨vr, vs, rfl, ho1, ho2, HAP, hb⟩
  replace c0_0 := keep_cell hb c0_0
  replace c0_1 := keep_cell hb c0_1
  replace c1_0 := keep_cell hb c1_0
  replace c1_1 := keep_cell hb c1_1
  replace q0 := keep_frozen (w1 := w3) hb c2_0 q0
  replace c2_0 := keep_cell (w1 := w3) hb c2_0
  replace q1 := keep_frozen (w1 := w3) hb c2_1 q1
  replace c2_1 := keep_cell (w1 := w3) hb c2_1
  replace q2 := keep_frozen (w1 := w3) hb c2_2 q2
  replace c2_2 := keep_cell (w1 := w3) hb c2_2
  replace Ha := Lib.hid (Ha.out.below hb (Nat.le_refl _))
  replace Hc := Lib.hid (Hc.out.below hb (Nat.le_refl _))
  have Hr := Lib.hid (ho1.mono B0.size)
  clear ho1
  have Hs := Lib.hid (ho2.mono B0.size)
  clear ho2
  obtain ⟨ar, cr, rfl, -, -, -, -, -⟩ := Hr.out.form
  obtain ⟨aS, cS, rfl, -, -, -, -, -⟩ := Hs.out.form
  replace B0 := B0.trans (hb.mono B0.size)
  clear hb
  go_wp2
  exact bodyPost_ret (v := .agg #[.bool (ng z), .slice ar (limbs z.natAbs).length cr, .slice aS (limbs e).length cS]) (by simp [results, Try.results33, go_sem, c2_0, c2_1, c2_2]) rfl (retR_end BW (by omega) hg0 B0 Hr.out Hs.out HAP)

theorem sRatMake_c (w : World) (b1 b2 : Nat) (s t : Bool) (v1 v2 : Value) (xs ys : List Int) (h1 : Own w b1 v1 xs) (h2 : Own w b2 v2 ys) : Calls Try.prog 33 #[.agg #[.bool s, v1], .agg #[.bool t, v2]] w (RetQ w (rmake s xs t ys).1 (rmake s xs t ys).2) := by
  by_cases hx : OkG s xs
  · by_cases hy : OkG t ys
    · have e : rmake s xs t ys = qlow (turn (zv s xs) (zv t ys)) (zv t ys).natAbs := if_pos ⟨hx, hy⟩
      obtain ⟨x, rfl, rfl, hl1, e1⟩ := okG_z hx
      obtain ⟨y, rfl, rfl, hl2, e2⟩ := okG_z hy
      rw [e1, e2] at e
      rw [e]
      exact sRatMake_z w b1 b2 v1 v2 x y h1 h2 hl1 hl2 _ _ rfl rfl
    · rw [show rmake s xs t ys = (0, 0) from if_neg fun h => hy h.2]
      exact sRatMake_2 w b1 b2 s t v1 v2 xs ys h1 h2 hx hy
  · rw [show rmake s xs t ys = (0, 0) from if_neg fun h => hx h.1]
    exact sRatMake_1 w b1 s t v1 v2 xs h1 hx
theorem sRatMake_n (w : World) (b1 b2 : Nat) (v1 v2 : Value) (x y : Int) (h1 : Own w b1 v1 (limbs x.natAbs)) (h2 : Own w b2 v2 (limbs y.natAbs)) (hl1 : (limbs x.natAbs).length ≤ 60) (hl2 : (limbs y.natAbs).length ≤ 60) (z : Int) (e : Nat) (hz : z = (rof x y).1) (he : e = (rof x y).2) :
    Calls Try.prog 33 #[.agg #[.bool (ng x), v1], .agg #[.bool (ng y), v2]] w (RetQ w z e) := sRatMake_z w b1 b2 v1 v2 x y h1 h2 hl1 hl2 z e hz he

set_option maxHeartbeats 2000000 in
theorem sRatOf_n (w : World) (n d : Int) (n0 : -9223372036854775808 ≤ n) (n1 : n ≤ 9223372036854775807) (d0 : -9223372036854775808 ≤ d) (d1 : d ≤ 9223372036854775807) (z : Int) (e : Nat) (hz : z = (rof n d).1) (he : e = (rof n d).2) :
    Calls Try.prog 40 #[.int .i64 n, .int .i64 d] w (RetQ w z e) := by
  have BW : Below w.heap.size w (w.alloc (.cells #[.bool false, .slice none 0 0, .slice none 0 0] 31)) := ((Below.refl w.heap.size w).alloc (Nat.le_refl _) _)
  obtain ⟨c0_0, c0_1, c0_2, q0, q1, q2⟩ : World.cell? (w.alloc (.cells #[.bool false, .slice none 0 0, .slice none 0 0] 31)) ⟨w.heap.size, 0, none⟩ = some (.bool false) ∧ World.cell? (w.alloc (.cells #[.bool false, .slice none 0 0, .slice none 0 0] 31)) ⟨w.heap.size, 1, none⟩ = some (.slice none 0 0) ∧ World.cell? (w.alloc (.cells #[.bool false, .slice none 0 0, .slice none 0 0] 31)) ⟨w.heap.size, 2, none⟩ = some (.slice none 0 0) ∧ World.frozen? (w.alloc (.cells #[.bool false, .slice none 0 0, .slice none 0 0] 31)) ⟨w.heap.size, 0, none⟩ = false ∧ World.frozen? (w.alloc (.cells #[.bool false, .slice none 0 0, .slice none 0 0] 31)) ⟨w.heap.size, 1, none⟩ = false ∧ World.frozen? (w.alloc (.cells #[.bool false, .slice none 0 0, .slice none 0 0] 31)) ⟨w.heap.size, 2, none⟩ = false := by simp [go_sem]
  have hg0 : w.heap.size < ((w.alloc (.cells #[.bool false, .slice none 0 0, .slice none 0 0] 31))).heap.size := World.block_lt_of_cell? _ _ c0_0
  have HZ := Lib.hid hz
  have HE := Lib.hid he
  have ln := limbs_len_small (n := n.natAbs) (by omega)
  have ld := limbs_len_small (n := d.natAbs) (by omega)
  clear hz he
  go_enter Try.func40, Try.ntmps40
  go_wp2_with fail
  generalize (w.alloc (.cells #[.bool false, .slice none 0 0, .slice none 0 0] 31)) = w0 at *
  have B0 := Below.refl w0.heap.size w0
  refine (sBigIntOf_c _ n n0 n1).mono ?_
  rintro e w1 ⟨vn, rfl, ho1, hb⟩
  replace q0 := keep_frozen (w1 := w1) hb c0_0 q0
  replace c0_0 := keep_cell (w1 := w1) hb c0_0
  replace q1 := keep_frozen (w1 := w1) hb c0_1 q1
  replace c0_1 := keep_cell (w1 := w1) hb c0_1
  replace q2 := keep_frozen (w1 := w1) hb c0_2 q2
  replace c0_2 := keep_cell (w1 := w1) hb c0_2
  have Hn := Lib.hid (ho1.mono B0.size)
  clear ho1
  replace B0 := B0.trans (hb.mono B0.size)
  clear hb
  go_wp2_with fail
  refine (sBigIntOf_c _ d d0 d1).mono ?_
  rintro e w2 ⟨vd, rfl, ho1, hb⟩
  replace q0 := keep_frozen (w1 := w2) hb c0_0 q0
  replace c0_0 := keep_cell (w1 := w2) hb c0_0
  replace q1 := keep_frozen (w1 := w2) hb c0_1 q1
  replace c0_1 := keep_cell (w1 := w2) hb c0_1
  replace q2 := keep_frozen (w1 := w2) hb c0_2 q2
  replace c0_2 := keep_cell (w1 := w2) hb c0_2
  replace Hn := Lib.hid (Hn.out.below hb (Nat.le_refl _))
  have Hd := Lib.hid (ho1.mono B0.size)
  clear ho1
  replace B0 := B0.trans (hb.mono B0.size)
  clear hb
  go_wp2_with fail
  refine (sRatMake_n _ _ _ _ _ n d Hn.out Hd.out ln ld z e HZ.out HE.out).mono ?_
  rintro e w3 ⟨vr, vs, rfl, ho1, ho2, HAP, hb⟩
  replace q0 := keep_frozen (w1 := w3) hb c0_0 q0
  replace c0_0 := keep_cell (w1 := w3) hb c0_0
  replace q1 := keep_frozen (w1 := w3) hb c0_1 q1
  replace c0_1 := keep_cell (w1 := w3) hb c0_1
  replace q2 := keep_frozen (w1 := w3) hb c0_2 q2
  replace c0_2 := keep_cell (w1 := w3) hb c0_2
  replace Hn := Lib.hid (Hn.out.below hb (Nat.le_refl _))
  replace Hd := Lib.hid (Hd.out.below hb (Nat.le_refl _))
  have Hr := Lib.hid (ho1.mono B0.size)
  clear ho1
  have Hs := Lib.hid (ho2.mono B0.size)
  clear ho2
  obtain ⟨ar, cr, rfl, -, -, -, -, -⟩ := Hr.out.form
  obtain ⟨aS, cS, rfl, -, -, -, -, -⟩ := Hs.out.form
  replace B0 := B0.trans (hb.mono B0.size)
  clear hb
  go_wp2
  exact bodyPost_ret (v := .agg #[.bool (ng z), .slice ar (limbs z.natAbs).length cr, .slice aS (limbs e).length cS]) (by simp [results, Try.results40, go_sem, c0_0, c0_1, c0_2]) rfl (retR_end BW (by omega) hg0 B0 Hr.out Hs.out HAP)

theorem retLit {w w0 wk : World} {g : Nat} {s : Bool} {u : Value} {xs : List Int} (BW : Below w.heap.size w w0) (hg : w.heap.size ≤ g) (hg0 : g < w0.heap.size) (B0 : Below w0.heap.size w0 wk) (hu : Own wk w0.heap.size u xs) :
    RetR w s xs (limbs 1) (.returned (.agg #[.bool s, u, .slice (some ⟨wk.heap.size, 0, none⟩) 1 1])) ((((wk.setCell ⟨g, 0, none⟩ (.bool s)).setCell ⟨g, 1, none⟩ u).setCell ⟨g, 2, none⟩ (.slice (some ⟨wk.heap.size, 0, none⟩) 1 1)).alloc (.cells #[.int .i64 1] 3)) := by
  have hs := set3_own (a := .bool s) (b := u) (c := .slice (some ⟨wk.heap.size, 0, none⟩) 1 1) hu (ne_of_base hu hg0)
  have hB := set3_below (a := .bool s) (b := u) (c := .slice (some ⟨wk.heap.size, 0, none⟩) 1 1) (BW.trans (B0.mono BW.size)) hg
  have hz : (((wk.setCell ⟨g, 0, none⟩ (.bool s)).setCell ⟨g, 1, none⟩ u).setCell ⟨g, 2, none⟩ (.slice (some ⟨wk.heap.size, 0, none⟩) 1 1)).heap.size = wk.heap.size := by simp [World.setCell]
  have h1 := own_one_at _ _ hz
  refine ⟨_, _, rfl, (hs.alloc _).mono BW.size, h1.mono hB.size, ?_, hB.alloc hB.size _⟩
  exact apart_new hs (.inr rfl) h1
set_option maxHeartbeats 2000000 in
theorem sRatFromInt_n (w : World) (n : Int) (n0 : -9223372036854775808 ≤ n) (n1 : n ≤ 9223372036854775807) : Calls Try.prog 22 #[.int .i64 n] w (RetQ w n 1) := by
  have BW : Below w.heap.size w (w.alloc (.cells #[.bool false, .slice none 0 0, .slice none 0 0] 31)) := ((Below.refl w.heap.size w).alloc (Nat.le_refl _) _)
  obtain ⟨c0_0, c0_1, c0_2, q0, q1, q2⟩ : World.cell? (w.alloc (.cells #[.bool false, .slice none 0 0, .slice none 0 0] 31)) ⟨w.heap.size, 0, none⟩ = some (.bool false) ∧ World.cell? (w.alloc (.cells #[.bool false, .slice none 0 0, .slice none 0 0] 31)) ⟨w.heap.size, 1, none⟩ = some (.slice none 0 0) ∧ World.cell? (w.alloc (.cells #[.bool false, .slice none 0 0, .slice none 0 0] 31)) ⟨w.heap.size, 2, none⟩ = some (.slice none 0 0) ∧ World.frozen? (w.alloc (.cells #[.bool false, .slice none 0 0, .slice none 0 0] 31)) ⟨w.heap.size, 0, none⟩ = false ∧ World.frozen? (w.alloc (.cells #[.bool false, .slice none 0 0, .slice none 0 0] 31)) ⟨w.heap.size, 1, none⟩ = false ∧ World.frozen? (w.alloc (.cells #[.bool false, .slice none 0 0, .slice none 0 0] 31)) ⟨w.heap.size, 2, none⟩ = false := by simp [go_sem]
  have hg0 : w.heap.size < ((w.alloc (.cells #[.bool false, .slice none 0 0, .slice none 0 0] 31))).heap.size := World.block_lt_of_cell? _ _ c0_0
  go_enter Try.func22, Try.ntmps22
  go_wp2_with fail
  generalize (w.alloc (.cells #[.bool false, .slice none 0 0, .slice none 0 0] 31)) = w0 at *
  have B0 := Below.refl w0.heap.size w0
  refine (sBigIntOf_c _ n n0 n1).mono ?_
  rintro e w1 ⟨vr, rfl, ho1, hb⟩
  replace q0 := keep_frozen (w1 := w1) hb c0_0 q0
  replace c0_0 := keep_cell (w1 := w1) hb c0_0
  replace q1 := keep_frozen (w1 := w1) hb c0_1 q1
  replace c0_1 := keep_cell (w1 := w1) hb c0_1
  replace q2 := keep_frozen (w1 := w1) hb c0_2 q2
  replace c0_2 := keep_cell (w1 := w1) hb c0_2
  have Hr := Lib.hid (ho1.mono B0.size)
  clear ho1
  obtain ⟨ar, cr, rfl, -, -, -, -, -⟩ := Hr.out.form
  replace B0 := B0.trans (hb.mono B0.size)
  clear hb
  have hg3 := Nat.lt_of_lt_of_le hg0 B0.size
  go_wp2
  obtain ⟨k0, k1, k2⟩ := set_box3 (a := .bool (ng n)) (b := .slice ar (limbs n.natAbs).length cr) (c := .slice (some ⟨w1.heap.size, 0, none⟩) 1 1) c0_0 c0_1 c0_2
  replace k0 := keep_cell (alloc_bel _ (.cells #[.int .i64 1] 3)) k0
  replace k1 := keep_cell (alloc_bel _ (.cells #[.int .i64 1] 3)) k1
  replace k2 := keep_cell (alloc_bel _ (.cells #[.int .i64 1] 3)) k2
  refine bodyPost_ret (v := .agg #[.bool (ng n), .slice ar (limbs n.natAbs).length cr, .slice (some ⟨w1.heap.size, 0, none⟩) 1 1]) ?_ rfl (retLit BW (by omega) hg0 B0 Hr.out)
  simp [results, Try.results22, go_sem, k0, k1, k2]

theorem l04Low_m (w : World) (b1 b2 : Nat) (v1 v2 : Value) (x y t : Int) (d : Nat) (n : Nat) (h1 : Own w b1 v1 (limbs n)) (h2 : Own w b2 v2 (limbs d)) (hn : Hid (n = t.natAbs)) (hs : Hid (t ≠ 0 → (ng x != ng y) = ng t)) (hl1 : (limbs t.natAbs).length ≤ 900) (hl2 : (limbs d).length ≤ 900) (z : Int) (e : Nat) (hz : Hid (z = lowZ t d)) (he : Hid (e = lowD t d)) :
    Calls Try.prog 75 #[.bool (ng x != ng y), v1, v2] w (RetQ w z e) := by
  have hn := hn.out
  subst hn
  exact l04Low_c w b1 b2 _ v1 v2 t d h1 h2 hl1 hl2 z e hz he hs
theorem l02Mul_t (w : World) (b1 b2 : Nat) (v1 v2 : Value) (a b t : Nat) (h1 : Own w b1 v1 (limbs a)) (h2 : Own w b2 v2 (limbs b)) (hs1 : (limbs a).length ≤ 1000) (hs2 : (limbs b).length ≤ 1000) (ht : Hid (a * b = t)) :
    Calls Try.prog 85 #[v1, v2] w (RetS w (limbs t)) := by
  rw [← ht.out]; exact l02Mul_c w b1 b2 v1 v2 a b h1 h2 hs1 hs2

set_option maxHeartbeats 2000000 in
theorem l04Mul_n (w : World) (b1 e1 : Nat) (v1 u1 : Value) (x : Int) (d : Nat) (h1 : Own w b1 v1 (limbs x.natAbs)) (k1 : Own w e1 u1 (limbs d)) (b2 e2 : Nat) (v2 u2 : Value) (y : Int) (f : Nat) (h2 : Own w b2 v2 (limbs y.natAbs)) (k2 : Own w e2 u2 (limbs f)) (l1 : (limbs x.natAbs).length ≤ 24) (l2 : (limbs d).length ≤ 24) (l3 : (limbs y.natAbs).length ≤ 24) (l4 : (limbs f).length ≤ 24) (z : Int) (e : Nat) (hz : z = lowZ (x * y) (d * f)) (he : e = lowD (x * y) (d * f)) :
    Calls Try.prog 83 #[.agg #[.bool (ng x), v1, u1], .agg #[.bool (ng y), v2, u2]] w (RetQ w z e) := by
  have BW : Below w.heap.size w (((w.alloc (.cells #[.bool (ng x), v1, u1] 31)).alloc (.cells #[.bool (ng y), v2, u2] 31)).alloc (.cells #[.bool false, .slice none 0 0, .slice none 0 0] 31)) := ((((Below.refl w.heap.size w).alloc (Nat.le_refl _) _).alloc (by simp) _).alloc (by simp; omega) _)
  obtain ⟨c0_0, c0_1, c0_2, c1_0, c1_1, c1_2, c2_0, c2_1, c2_2, q0, q1, q2⟩ : World.cell? (((w.alloc (.cells #[.bool (ng x), v1, u1] 31)).alloc (.cells #[.bool (ng y), v2, u2] 31)).alloc (.cells #[.bool false, .slice none 0 0, .slice none 0 0] 31)) ⟨w.heap.size, 0, none⟩ = some (.bool (ng x)) ∧ World.cell? (((w.alloc (.cells #[.bool (ng x), v1, u1] 31)).alloc (.cells #[.bool (ng y), v2, u2] 31)).alloc (.cells #[.bool false, .slice none 0 0, .slice none 0 0] 31)) ⟨w.heap.size, 1, none⟩ = some (v1) ∧ World.cell? (((w.alloc (.cells #[.bool (ng x), v1, u1] 31)).alloc (.cells #[.bool (ng y), v2, u2] 31)).alloc (.cells #[.bool false, .slice none 0 0, .slice none 0 0] 31)) ⟨w.heap.size, 2, none⟩ = some (u1) ∧ World.cell? (((w.alloc (.cells #[.bool (ng x), v1, u1] 31)).alloc (.cells #[.bool (ng y), v2, u2] 31)).alloc (.cells #[.bool false, .slice none 0 0, .slice none 0 0] 31)) ⟨w.heap.size + 1, 0, none⟩ = some (.bool (ng y)) ∧ World.cell? (((w.alloc (.cells #[.bool (ng x), v1, u1] 31)).alloc (.cells #[.bool (ng y), v2, u2] 31)).alloc (.cells #[.bool false, .slice none 0 0, .slice none 0 0] 31)) ⟨w.heap.size + 1, 1, none⟩ = some (v2) ∧ World.cell? (((w.alloc (.cells #[.bool (ng x), v1, u1] 31)).alloc (.cells #[.bool (ng y), v2, u2] 31)).alloc (.cells #[.bool false, .slice none 0 0, .slice none 0 0] 31)) ⟨w.heap.size + 1, 2, none⟩ = some (u2) ∧ World.cell? (((w.alloc (.cells #[.bool (ng x), v1, u1] 31)).alloc (.cells #[.bool (ng y), v2, u2] 31)).alloc (.cells #[.bool false, .slice none 0 0, .slice none 0 0] 31)) ⟨w.heap.size + 1 + 1, 0, none⟩ = some (.bool false) ∧ World.cell? (((w.alloc (.cells #[.bool (ng x), v1, u1] 31)).alloc (.cells #[.bool (ng y), v2, u2] 31)).alloc (.cells #[.bool false, .slice none 0 0, .slice none 0 0] 31)) ⟨w.heap.size + 1 + 1, 1, none⟩ = some (.slice none 0 0) ∧ World.cell? (((w.alloc (.cells #[.bool (ng x), v1, u1] 31)).alloc (.cells #[.bool (ng y), v2, u2] 31)).alloc (.cells #[.bool false, .slice none 0 0, .slice none 0 0] 31)) ⟨w.heap.size + 1 + 1, 2, none⟩ = some (.slice none 0 0) ∧ World.frozen? (((w.alloc (.cells #[.bool (ng x), v1, u1] 31)).alloc (.cells #[.bool (ng y), v2, u2] 31)).alloc (.cells #[.bool false, .slice none 0 0, .slice none 0 0] 31)) ⟨w.heap.size + 1 + 1, 0, none⟩ = false ∧ World.frozen? (((w.alloc (.cells #[.bool (ng x), v1, u1] 31)).alloc (.cells #[.bool (ng y), v2, u2] 31)).alloc (.cells #[.bool false, .slice none 0 0, .slice none 0 0] 31)) ⟨w.heap.size + 1 + 1, 1, none⟩ = false ∧ World.frozen? (((w.alloc (.cells #[.bool (ng x), v1, u1] 31)).alloc (.cells #[.bool (ng y), v2, u2] 31)).alloc (.cells #[.bool false, .slice none 0 0, .slice none 0 0] 31)) ⟨w.heap.size + 1 + 1, 2, none⟩ = false := by simp [go_sem]
  have hg0 : w.heap.size + 1 + 1 < ((((w.alloc (.cells #[.bool (ng x), v1, u1] 31)).alloc (.cells #[.bool (ng y), v2, u2] 31)).alloc (.cells #[.bool false, .slice none 0 0, .slice none 0 0] 31))).heap.size := World.block_lt_of_cell? _ _ c2_0
  have Ha := Lib.hid (h1.below BW (Nat.le_refl _))
  have Hb := Lib.hid (k1.below BW (Nat.le_refl _))
  have Hc := Lib.hid (h2.below BW (Nat.le_refl _))
  have Hd := Lib.hid (k2.below BW (Nat.le_refl _))
  clear h1 k1 h2 k2
  obtain ⟨t, ht⟩ : ∃ t : Int, t = x * y := ⟨_, rfl⟩
  obtain ⟨u, hu⟩ : ∃ u : Nat, u = d * f := ⟨_, rfl⟩
  obtain ⟨n, hn⟩ : ∃ n : Nat, n = x.natAbs * y.natAbs := ⟨_, rfl⟩
  have lt : (limbs t.natAbs).length ≤ 900 := by rw [ht]; have := len_mulI l1 l3; omega
  have lu : (limbs u).length ≤ 900 := by rw [hu]; have := len_mul l2 l4; omega
  have HZ : Hid (z = lowZ t u) := by unfold Hid; rw [ht, hu]; exact hz
  have HE : Hid (e = lowD t u) := by unfold Hid; rw [ht, hu]; exact he
  have HN : Hid (n = t.natAbs) := by unfold Hid; rw [hn, ht, Int.natAbs_mul]
  have HS : Hid (t ≠ 0 → (ng x != ng y) = ng t) := mul_s ht
  have HU : Hid (d * f = u) := hu.symm
  have HNN : Hid (x.natAbs * y.natAbs = n) := hn.symm
  clear ht hu hn hz he
  go_enter Try.func83, Try.ntmps83
  go_wp2_with fail
  generalize (((w.alloc (.cells #[.bool (ng x), v1, u1] 31)).alloc (.cells #[.bool (ng y), v2, u2] 31)).alloc (.cells #[.bool false, .slice none 0 0, .slice none 0 0] 31)) = w0 at *
  have B0 := Below.refl w0.heap.size w0
  replace Ha := Lib.hid Ha.out.drew
  replace Hb := Lib.hid Hb.out.drew
  replace Hc := Lib.hid Hc.out.drew
  replace Hd := Lib.hid Hd.out.drew
  replace B0 := below_drew B0
  replace q0 := frozen_drew q0
  replace c2_0 := cell_drew c2_0
  replace q1 := frozen_drew q1
  replace c2_1 := cell_drew c2_1
  replace q2 := frozen_drew q2
  replace c2_2 := cell_drew c2_2
  replace c0_0 := cell_drew c0_0
  replace c0_1 := cell_drew c0_1
  replace c0_2 := cell_drew c0_2
  replace c1_0 := cell_drew c1_0
  replace c1_1 := cell_drew c1_1
  replace c1_2 := cell_drew c1_2
  go_region_held3 (fun w' => w'.cell? ⟨w.heap.size, 0, none⟩ = some (.bool (ng x)) ∧ w'.cell? ⟨w.heap.size, 1, none⟩ = some (v1) ∧ w'.cell? ⟨w.heap.size, 2, none⟩ = some (u1) ∧ w'.cell? ⟨w.heap.size + 1, 0, none⟩ = some (.bool (ng y)) ∧ w'.cell? ⟨w.heap.size + 1, 1, none⟩ = some (v2) ∧ w'.cell? ⟨w.heap.size + 1, 2, none⟩ = some (u2)) (first | exact ⟨c0_0, c0_1, c0_2, c1_0, c1_1, c1_2⟩ | (go_split_ands; exact ⟨(set_far (set_far ‹_› (by dsimp only; omega)) (by dsimp only; omega)), (set_far (set_far ‹_› (by dsimp only; omega)) (by dsimp only; omega)), (set_far (set_far ‹_› (by dsimp only; omega)) (by dsimp only; omega)), (set_far (set_far ‹_› (by dsimp only; omega)) (by dsimp only; omega)), (set_far (set_far ‹_› (by dsimp only; omega)) (by dsimp only; omega)), (set_far (set_far ‹_› (by dsimp only; omega)) (by dsimp only; omega))⟩) | (go_split_ands; exact ⟨(set_far (set_far (set_far ‹_› (by dsimp only; omega)) (by dsimp only; omega)) (by dsimp only; omega)), (set_far (set_far (set_far ‹_› (by dsimp only; omega)) (by dsimp only; omega)) (by dsimp only; omega)), (set_far (set_far (set_far ‹_› (by dsimp only; omega)) (by dsimp only; omega)) (by dsimp only; omega)), (set_far (set_far (set_far ‹_› (by dsimp only; omega)) (by dsimp only; omega)) (by dsimp only; omega)), (set_far (set_far (set_far ‹_› (by dsimp only; omega)) (by dsimp only; omega)) (by dsimp only; omega)), (set_far (set_far (set_far ‹_› (by dsimp only; omega)) (by dsimp only; omega)) (by dsimp only; omega))⟩) | (go_split_ands; exact ⟨(set_far ‹_› (by dsimp only; omega)), (set_far ‹_› (by dsimp only; omega)), (set_far ‹_› (by dsimp only; omega)), (set_far ‹_› (by dsimp only; omega)), (set_far ‹_› (by dsimp only; omega)), (set_far ‹_› (by dsimp only; omega))⟩) | go_keep)
    (first | (go_at_call_of 85 (v1); refine (l02Mul_t _ _ _ _ _ x.natAbs y.natAbs n Ha.out Hc.out (by omega) (by omega) HNN).mono ?_; rintro e w1 ⟨vo, rfl, ho1, hb1⟩; replace q0 := keep_frozen (w1 := w1) hb1 c2_0 q0; replace c2_0 := keep_cell (w1 := w1) hb1 c2_0; replace q1 := keep_frozen (w1 := w1) hb1 c2_1 q1; replace c2_1 := keep_cell (w1 := w1) hb1 c2_1; replace q2 := keep_frozen (w1 := w1) hb1 c2_2 q2; replace c2_2 := keep_cell (w1 := w1) hb1 c2_2; replace c0_0 := keep_cell (w1 := w1) hb1 c0_0; replace c0_1 := keep_cell (w1 := w1) hb1 c0_1; replace c0_2 := keep_cell (w1 := w1) hb1 c0_2; replace c1_0 := keep_cell (w1 := w1) hb1 c1_0; replace c1_1 := keep_cell (w1 := w1) hb1 c1_1; replace c1_2 := keep_cell (w1 := w1) hb1 c1_2; replace Ha := Lib.hid (Ha.out.below hb1 (Nat.le_refl _)); replace Hb := Lib.hid (Hb.out.below hb1 (Nat.le_refl _)); replace Hc := Lib.hid (Hc.out.below hb1 (Nat.le_refl _)); replace Hd := Lib.hid (Hd.out.below hb1 (Nat.le_refl _)); (try (replace Ht := Lib.hid (Ht.out.below hb1 (Nat.le_refl _)))); (try (replace Hr := Lib.hid (Hr.out.below hb1 (Nat.le_refl _)))); (try (replace Hs := Lib.hid (Hs.out.below hb1 (Nat.le_refl _)))); have Ho := Lib.hid (ho1.mono B0.size); clear ho1; replace B0 := B0.trans (hb1.mono B0.size); clear hb1) | (go_at_call_of 85 (u1); refine (l02Mul_t _ _ _ _ _ d f u Hb.out Hd.out (by omega) (by omega) HU).mono ?_; rintro e w2 ⟨vt, rfl, ho1, hb2⟩; replace q0 := keep_frozen (w1 := w2) hb2 c2_0 q0; replace c2_0 := keep_cell (w1 := w2) hb2 c2_0; replace q1 := keep_frozen (w1 := w2) hb2 c2_1 q1; replace c2_1 := keep_cell (w1 := w2) hb2 c2_1; replace q2 := keep_frozen (w1 := w2) hb2 c2_2 q2; replace c2_2 := keep_cell (w1 := w2) hb2 c2_2; replace c0_0 := keep_cell (w1 := w2) hb2 c0_0; replace c0_1 := keep_cell (w1 := w2) hb2 c0_1; replace c0_2 := keep_cell (w1 := w2) hb2 c0_2; replace c1_0 := keep_cell (w1 := w2) hb2 c1_0; replace c1_1 := keep_cell (w1 := w2) hb2 c1_1; replace c1_2 := keep_cell (w1 := w2) hb2 c1_2; replace Ha := Lib.hid (Ha.out.below hb2 (Nat.le_refl _)); replace Hb := Lib.hid (Hb.out.below hb2 (Nat.le_refl _)); replace Hc := Lib.hid (Hc.out.below hb2 (Nat.le_refl _)); replace Hd := Lib.hid (Hd.out.below hb2 (Nat.le_refl _)); (try (replace Ho := Lib.hid (Ho.out.below hb2 (Nat.le_refl _)))); (try (replace Hr := Lib.hid (Hr.out.below hb2 (Nat.le_refl _)))); (try (replace Hs := Lib.hid (Hs.out.below hb2 (Nat.le_refl _)))); have Ht := Lib.hid (ho1.mono B0.size); clear ho1; replace B0 := B0.trans (hb2.mono B0.size); clear hb2) | (go_at_call 75; refine (l04Low_m _ _ _ _ _ x y t u n Ho.out Ht.out HN HS lt lu z e HZ HE).mono ?_; rintro e w3 ⟨vr, vs, rfl, ho1, ho2, HAP, hb3⟩; replace q0 := keep_frozen (w1 := w3) hb3 c2_0 q0; replace c2_0 := keep_cell (w1 := w3) hb3 c2_0; replace q1 := keep_frozen (w1 := w3) hb3 c2_1 q1; replace c2_1 := keep_cell (w1 := w3) hb3 c2_1; replace q2 := keep_frozen (w1 := w3) hb3 c2_2 q2; replace c2_2 := keep_cell (w1 := w3) hb3 c2_2; replace c0_0 := keep_cell (w1 := w3) hb3 c0_0; replace c0_1 := keep_cell (w1 := w3) hb3 c0_1; replace c0_2 := keep_cell (w1 := w3) hb3 c0_2; replace c1_0 := keep_cell (w1 := w3) hb3 c1_0; replace c1_1 := keep_cell (w1 := w3) hb3 c1_1; replace c1_2 := keep_cell (w1 := w3) hb3 c1_2; replace Ha := Lib.hid (Ha.out.below hb3 (Nat.le_refl _)); replace Hb := Lib.hid (Hb.out.below hb3 (Nat.le_refl _)); replace Hc := Lib.hid (Hc.out.below hb3 (Nat.le_refl _)); replace Hd := Lib.hid (Hd.out.below hb3 (Nat.le_refl _)); (try (replace Ho := Lib.hid (Ho.out.below hb3 (Nat.le_refl _)))); (try (replace Ht := Lib.hid (Ht.out.below hb3 (Nat.le_refl _)))); have Hr := Lib.hid (ho1.mono B0.size); clear ho1; have Hs := Lib.hid (ho2.mono B0.size); clear ho2; obtain ⟨ar, cr, rfl, -, -, -, -, -⟩ := Hr.out.form; obtain ⟨aS, cS, rfl, -, -, -, -, -⟩ := Hs.out.form; replace B0 := B0.trans (hb3.mono B0.size); clear hb3))
  go_wp2
  exact bodyPost_ret (v := .agg #[.bool (ng z), .slice ar (limbs z.natAbs).length cr, .slice aS (limbs e).length cS]) (by simp [results, Try.results83, go_sem, c2_0, c2_1, c2_2]) rfl (retR_end BW (by omega) hg0 B0 Hr.out Hs.out HAP)

theorem l04Mul_c (w : World) (b1 e1 : Nat) (v1 u1 : Value) (x : Int) (d : Nat) (h1 : Own w b1 v1 (limbs x.natAbs)) (k1 : Own w e1 u1 (limbs d)) (b2 e2 : Nat) (v2 u2 : Value) (y : Int) (f : Nat) (h2 : Own w b2 v2 (limbs y.natAbs)) (k2 : Own w e2 u2 (limbs f)) (hq : IsQ0 x d) (hk : IsQ0 y f) (z : Int) (e : Nat) (hz : z = (qmul x d y f).1) (he : e = (qmul x d y f).2) :
    Calls Try.prog 83 #[.agg #[.bool (ng x), v1, u1], .agg #[.bool (ng y), v2, u2]] w (RetQ w z e) :=
  l04Mul_n w b1 e1 v1 u1 x d h1 k1 b2 e2 v2 u2 y f h2 k2 hq.len.1 hq.len.2 hk.len.1 hk.len.2 z e hz he

set_option maxHeartbeats 2000000 in
theorem sRatMul_1 (w : World) (b1 e1 : Nat) (s : Bool) (v1 u1 : Value) (xs ys : List Int) (h1 : Own w b1 v1 xs) (k1 : Own w e1 u1 ys) (t : Bool) (v2 u2 : Value) (hx : ¬ OkR s xs ys) :
    Calls Try.prog 46 #[.agg #[.bool s, v1, u1], .agg #[.bool t, v2, u2]] w (RetQ w 0 0) := by
  have BW : Below w.heap.size w (((w.alloc (.cells #[.bool s, v1, u1] 31)).alloc (.cells #[.bool t, v2, u2] 31)).alloc (.cells #[.bool false, .slice none 0 0, .slice none 0 0] 31)) := ((((Below.refl w.heap.size w).alloc (Nat.le_refl _) _).alloc (by simp) _).alloc (by simp; omega) _)
  obtain ⟨c0_0, c0_1, c0_2, c1_0, c1_1, c1_2, c2_0, c2_1, c2_2, q0, q1, q2⟩ : World.cell? (((w.alloc (.cells #[.bool s, v1, u1] 31)).alloc (.cells #[.bool t, v2, u2] 31)).alloc (.cells #[.bool false, .slice none 0 0, .slice none 0 0] 31)) ⟨w.heap.size, 0, none⟩ = some (.bool s) ∧ World.cell? (((w.alloc (.cells #[.bool s, v1, u1] 31)).alloc (.cells #[.bool t, v2, u2] 31)).alloc (.cells #[.bool false, .slice none 0 0, .slice none 0 0] 31)) ⟨w.heap.size, 1, none⟩ = some (v1) ∧ World.cell? (((w.alloc (.cells #[.bool s, v1, u1] 31)).alloc (.cells #[.bool t, v2, u2] 31)).alloc (.cells #[.bool false, .slice none 0 0, .slice none 0 0] 31)) ⟨w.heap.size, 2, none⟩ = some (u1) ∧ World.cell? (((w.alloc (.cells #[.bool s, v1, u1] 31)).alloc (.cells #[.bool t, v2, u2] 31)).alloc (.cells #[.bool false, .slice none 0 0, .slice none 0 0] 31)) ⟨w.heap.size + 1, 0, none⟩ = some (.bool t) ∧ World.cell? (((w.alloc (.cells #[.bool s, v1, u1] 31)).alloc (.cells #[.bool t, v2, u2] 31)).alloc (.cells #[.bool false, .slice none 0 0, .slice none 0 0] 31)) ⟨w.heap.size + 1, 1, none⟩ = some (v2) ∧ World.cell? (((w.alloc (.cells #[.bool s, v1, u1] 31)).alloc (.cells #[.bool t, v2, u2] 31)).alloc (.cells #[.bool false, .slice none 0 0, .slice none 0 0] 31)) ⟨w.heap.size + 1, 2, none⟩ = some (u2) ∧ World.cell? (((w.alloc (.cells #[.bool s, v1, u1] 31)).alloc (.cells #[.bool t, v2, u2] 31)).alloc (.cells #[.bool false, .slice none 0 0, .slice none 0 0] 31)) ⟨w.heap.size + 1 + 1, 0, none⟩ = some (.bool false) ∧ World.cell? (((w.alloc (.cells #[.bool s, v1, u1] 31)).alloc (.cells #[.bool t, v2, u2] 31)).alloc (.cells #[.bool false, .slice none 0 0, .slice none 0 0] 31)) ⟨w.heap.size + 1 + 1, 1, none⟩ = some (.slice none 0 0) ∧ World.cell? (((w.alloc (.cells #[.bool s, v1, u1] 31)).alloc (.cells #[.bool t, v2, u2] 31)).alloc (.cells #[.bool false, .slice none 0 0, .slice none 0 0] 31)) ⟨w.heap.size + 1 + 1, 2, none⟩ = some (.slice none 0 0) ∧ World.frozen? (((w.alloc (.cells #[.bool s, v1, u1] 31)).alloc (.cells #[.bool t, v2, u2] 31)).alloc (.cells #[.bool false, .slice none 0 0, .slice none 0 0] 31)) ⟨w.heap.size + 1 + 1, 0, none⟩ = false ∧ World.frozen? (((w.alloc (.cells #[.bool s, v1, u1] 31)).alloc (.cells #[.bool t, v2, u2] 31)).alloc (.cells #[.bool false, .slice none 0 0, .slice none 0 0] 31)) ⟨w.heap.size + 1 + 1, 1, none⟩ = false ∧ World.frozen? (((w.alloc (.cells #[.bool s, v1, u1] 31)).alloc (.cells #[.bool t, v2, u2] 31)).alloc (.cells #[.bool false, .slice none 0 0, .slice none 0 0] 31)) ⟨w.heap.size + 1 + 1, 2, none⟩ = false := by simp [go_sem]
  have hg0 : w.heap.size + 1 + 1 < ((((w.alloc (.cells #[.bool s, v1, u1] 31)).alloc (.cells #[.bool t, v2, u2] 31)).alloc (.cells #[.bool false, .slice none 0 0, .slice none 0 0] 31))).heap.size := World.block_lt_of_cell? _ _ c2_0
  have Ha := Lib.hid (h1.below BW (Nat.le_refl _))
  have Hb := Lib.hid (k1.below BW (Nat.le_refl _))
  clear h1 k1
  have HX := Lib.hid hx
  clear hx
  go_enter Try.func46, Try.ntmps46
  go_wp2_with fail
  generalize (((w.alloc (.cells #[.bool s, v1, u1] 31)).alloc (.cells #[.bool t, v2, u2] 31)).alloc (.cells #[.bool false, .slice none 0 0, .slice none 0 0] 31)) = w0 at *
  have B0 := Below.refl w0.heap.size w0
  refine (sRatOk_f _ _ _ _ _ _ _ _ Ha.out Hb.out HX.out).mono ?_
  rintro e w1 ⟨rfl, hb⟩
  replace c0_0 := keep_cell hb c0_0
  replace c0_1 := keep_cell hb c0_1
  replace c0_2 := keep_cell hb c0_2
  replace c1_0 := keep_cell hb c1_0
  replace c1_1 := keep_cell hb c1_1
  replace c1_2 := keep_cell hb c1_2
  replace q0 := keep_frozen (w1 := w1) hb c2_0 q0
  replace c2_0 := keep_cell (w1 := w1) hb c2_0
  replace q1 := keep_frozen (w1 := w1) hb c2_1 q1
  replace c2_1 := keep_cell (w1 := w1) hb c2_1
  replace q2 := keep_frozen (w1 := w1) hb c2_2 q2
  replace c2_2 := keep_cell (w1 := w1) hb c2_2
  replace Ha := Lib.hid (Ha.out.below hb (Nat.le_refl _))
  replace Hb := Lib.hid (Hb.out.below hb (Nat.le_refl _))
  replace B0 := B0.trans (hb.mono B0.size)
  clear hb
  go_wp2
  exact bodyPost_ret (v := .agg #[.bool false, .slice none 0 0, .slice none 0 0]) (by simp [results, Try.results46, go_sem, c2_0, c2_1, c2_2]) rfl (retQ_nil (set3_below (BW.trans (B0.mono BW.size)) (by omega)))

set_option maxHeartbeats 2000000 in
theorem sRatMul_2 (w : World) (b1 e1 : Nat) (s : Bool) (v1 u1 : Value) (xs ys : List Int) (h1 : Own w b1 v1 xs) (k1 : Own w e1 u1 ys) (b2 e2 : Nat) (t : Bool) (v2 u2 : Value) (zs ws : List Int) (h2 : Own w b2 v2 zs) (k2 : Own w e2 u2 ws) (hx : OkR s xs ys) (hy : ¬ OkR t zs ws) :
    Calls Try.prog 46 #[.agg #[.bool s, v1, u1], .agg #[.bool t, v2, u2]] w (RetQ w 0 0) := by
  have BW : Below w.heap.size w (((w.alloc (.cells #[.bool s, v1, u1] 31)).alloc (.cells #[.bool t, v2, u2] 31)).alloc (.cells #[.bool false, .slice none 0 0, .slice none 0 0] 31)) := ((((Below.refl w.heap.size w).alloc (Nat.le_refl _) _).alloc (by simp) _).alloc (by simp; omega) _)
  obtain ⟨c0_0, c0_1, c0_2, c1_0, c1_1, c1_2, c2_0, c2_1, c2_2, q0, q1, q2⟩ : World.cell? (((w.alloc (.cells #[.bool s, v1, u1] 31)).alloc (.cells #[.bool t, v2, u2] 31)).alloc (.cells #[.bool false, .slice none 0 0, .slice none 0 0] 31)) ⟨w.heap.size, 0, none⟩ = some (.bool s) ∧ World.cell? (((w.alloc (.cells #[.bool s, v1, u1] 31)).alloc (.cells #[.bool t, v2, u2] 31)).alloc (.cells #[.bool false, .slice none 0 0, .slice none 0 0] 31)) ⟨w.heap.size, 1, none⟩ = some (v1) ∧ World.cell? (((w.alloc (.cells #[.bool s, v1, u1] 31)).alloc (.cells #[.bool t, v2, u2] 31)).alloc (.cells #[.bool false, .slice none 0 0, .slice none 0 0] 31)) ⟨w.heap.size, 2, none⟩ = some (u1) ∧ World.cell? (((w.alloc (.cells #[.bool s, v1, u1] 31)).alloc (.cells #[.bool t, v2, u2] 31)).alloc (.cells #[.bool false, .slice none 0 0, .slice none 0 0] 31)) ⟨w.heap.size + 1, 0, none⟩ = some (.bool t) ∧ World.cell? (((w.alloc (.cells #[.bool s, v1, u1] 31)).alloc (.cells #[.bool t, v2, u2] 31)).alloc (.cells #[.bool false, .slice none 0 0, .slice none 0 0] 31)) ⟨w.heap.size + 1, 1, none⟩ = some (v2) ∧ World.cell? (((w.alloc (.cells #[.bool s, v1, u1] 31)).alloc (.cells #[.bool t, v2, u2] 31)).alloc (.cells #[.bool false, .slice none 0 0, .slice none 0 0] 31)) ⟨w.heap.size + 1, 2, none⟩ = some (u2) ∧ World.cell? (((w.alloc (.cells #[.bool s, v1, u1] 31)).alloc (.cells #[.bool t, v2, u2] 31)).alloc (.cells #[.bool false, .slice none 0 0, .slice none 0 0] 31)) ⟨w.heap.size + 1 + 1, 0, none⟩ = some (.bool false) ∧ World.cell? (((w.alloc (.cells #[.bool s, v1, u1] 31)).alloc (.cells #[.bool t, v2, u2] 31)).alloc (.cells #[.bool false, .slice none 0 0, .slice none 0 0] 31)) ⟨w.heap.size + 1 + 1, 1, none⟩ = some (.slice none 0 0) ∧ World.cell? (((w.alloc (.cells #[.bool s, v1, u1] 31)).alloc (.cells #[.bool t, v2, u2] 31)).alloc (.cells #[.bool false, .slice none 0 0, .slice none 0 0] 31)) ⟨w.heap.size + 1 + 1, 2, none⟩ = some (.slice none 0 0) ∧ World.frozen? (((w.alloc (.cells #[.bool s, v1, u1] 31)).alloc (.cells #[.bool t, v2, u2] 31)).alloc (.cells #[.bool false, .slice none 0 0, .slice none 0 0] 31)) ⟨w.heap.size + 1 + 1, 0, none⟩ = false ∧ World.frozen? (((w.alloc (.cells #[.bool s, v1, u1] 31)).alloc (.cells #[.bool t, v2, u2] 31)).alloc (.cells #[.bool false, .slice none 0 0, .slice none 0 0] 31)) ⟨w.heap.size + 1 + 1, 1, none⟩ = false ∧ World.frozen? (((w.alloc (.cells #[.bool s, v1, u1] 31)).alloc (.cells #[.bool t, v2, u2] 31)).alloc (.cells #[.bool false, .slice none 0 0, .slice none 0 0] 31)) ⟨w.heap.size + 1 + 1, 2, none⟩ = false := by simp [go_sem]
  have hg0 : w.heap.size + 1 + 1 < ((((w.alloc (.cells #[.bool s, v1, u1] 31)).alloc (.cells #[.bool t, v2, u2] 31)).alloc (.cells #[.bool false, .slice none 0 0, .slice none 0 0] 31))).heap.size := World.block_lt_of_cell? _ _ c2_0
  have Ha := Lib.hid (h1.below BW (Nat.le_refl _))
  have Hb := Lib.hid (k1.below BW (Nat.le_refl _))
  have Hc := Lib.hid (h2.below BW (Nat.le_refl _))
  have Hd := Lib.hid (k2.below BW (Nat.le_refl _))
  clear h1 k1 h2 k2
  have HX := Lib.hid hx
  have HY := Lib.hid hy
  clear hx hy
  go_enter Try.func46, Try.ntmps46
  go_wp2_with fail
  generalize (((w.alloc (.cells #[.bool s, v1, u1] 31)).alloc (.cells #[.bool t, v2, u2] 31)).alloc (.cells #[.bool false, .slice none 0 0, .slice none 0 0] 31)) = w0 at *
  have B0 := Below.refl w0.heap.size w0
  refine (sRatOk_t _ _ _ _ _ _ _ _ Ha.out Hb.out HX.out).mono ?_
  rintro e w1 ⟨rfl, hb⟩
  replace c0_0 := keep_cell hb c0_0
  replace c0_1 := keep_cell hb c0_1
  replace c0_2 := keep_cell hb c0_2
  replace c1_0 := keep_cell hb c1_0
  replace c1_1 := keep_cell hb c1_1
  replace c1_2 := keep_cell hb c1_2
  replace q0 := keep_frozen (w1 := w1) hb c2_0 q0
  replace c2_0 := keep_cell (w1 := w1) hb c2_0
  replace q1 := keep_frozen (w1 := w1) hb c2_1 q1
  replace c2_1 := keep_cell (w1 := w1) hb c2_1
  replace q2 := keep_frozen (w1 := w1) hb c2_2 q2
  replace c2_2 := keep_cell (w1 := w1) hb c2_2
  replace Ha := Lib.hid (Ha.out.below hb (Nat.le_refl _))
  replace Hb := Lib.hid (Hb.out.below hb (Nat.le_refl _))
  replace Hc := Lib.hid (Hc.out.below hb (Nat.le_refl _))
  replace Hd := Lib.hid (Hd.out.below hb (Nat.le_refl _))
  replace B0 := B0.trans (hb.mono B0.size)
  clear hb
  go_wp2_with fail
  refine (sRatOk_f _ _ _ _ _ _ _ _ Hc.out Hd.out HY.out).mono ?_
  rintro e w2 ⟨rfl, hb⟩
  replace c0_0 := keep_cell hb c0_0
  replace c0_1 := keep_cell hb c0_1
  replace c0_2 := keep_cell hb c0_2
  replace c1_0 := keep_cell hb c1_0
  replace c1_1 := keep_cell hb c1_1
  replace c1_2 := keep_cell hb c1_2
  replace q0 := keep_frozen (w1 := w2) hb c2_0 q0
  replace c2_0 := keep_cell (w1 := w2) hb c2_0
  replace q1 := keep_frozen (w1 := w2) hb c2_1 q1
  replace c2_1 := keep_cell (w1 := w2) hb c2_1
  replace q2 := keep_frozen (w1 := w2) hb c2_2 q2
  replace c2_2 := keep_cell (w1 := w2) hb c2_2
  replace Ha := Lib.hid (Ha.out.below hb (Nat.le_refl _))
  replace Hb := Lib.hid (Hb.out.below hb (Nat.le_refl _))
  replace Hc := Lib.hid (Hc.out.below hb (Nat.le_refl _))
  replace Hd := Lib.hid (Hd.out.below hb (Nat.le_refl _))
  replace B0 := B0.trans (hb.mono B0.size)
  clear hb
  go_wp2
  exact bodyPost_ret (v := .agg #[.bool false, .slice none 0 0, .slice none 0 0]) (by simp [results, Try.results46, go_sem, c2_0, c2_1, c2_2]) rfl (retQ_nil (set3_below (BW.trans (B0.mono BW.size)) (by omega)))

set_option maxHeartbeats 2000000 in
theorem sRatMul_good (w : World) (b1 e1 : Nat) (v1 u1 : Value) (x : Int) (d : Nat) (h1 : Own w b1 v1 (limbs x.natAbs)) (k1 : Own w e1 u1 (limbs d)) (b2 e2 : Nat) (v2 u2 : Value) (y : Int) (f : Nat) (h2 : Own w b2 v2 (limbs y.natAbs)) (k2 : Own w e2 u2 (limbs f)) (hq : IsQ x d) (hk : IsQ y f) (z : Int) (e : Nat) (hz : z = (qmul x d y f).1) (he : e = (qmul x d y f).2) :
    Calls Try.prog 46 #[.agg #[.bool (ng x), v1, u1], .agg #[.bool (ng y), v2, u2]] w (RetQ w z e) := by
  have BW : Below w.heap.size w (((w.alloc (.cells #[.bool (ng x), v1, u1] 31)).alloc (.cells #[.bool (ng y), v2, u2] 31)).alloc (.cells #[.bool false, .slice none 0 0, .slice none 0 0] 31)) := ((((Below.refl w.heap.size w).alloc (Nat.le_refl _) _).alloc (by simp) _).alloc (by simp; omega) _)
  obtain ⟨c0_0, c0_1, c0_2, c1_0, c1_1, c1_2, c2_0, c2_1, c2_2, q0, q1, q2⟩ : World.cell? (((w.alloc (.cells #[.bool (ng x), v1, u1] 31)).alloc (.cells #[.bool (ng y), v2, u2] 31)).alloc (.cells #[.bool false, .slice none 0 0, .slice none 0 0] 31)) ⟨w.heap.size, 0, none⟩ = some (.bool (ng x)) ∧ World.cell? (((w.alloc (.cells #[.bool (ng x), v1, u1] 31)).alloc (.cells #[.bool (ng y), v2, u2] 31)).alloc (.cells #[.bool false, .slice none 0 0, .slice none 0 0] 31)) ⟨w.heap.size, 1, none⟩ = some (v1) ∧ World.cell? (((w.alloc (.cells #[.bool (ng x), v1, u1] 31)).alloc (.cells #[.bool (ng y), v2, u2] 31)).alloc (.cells #[.bool false, .slice none 0 0, .slice none 0 0] 31)) ⟨w.heap.size, 2, none⟩ = some (u1) ∧ World.cell? (((w.alloc (.cells #[.bool (ng x), v1, u1] 31)).alloc (.cells #[.bool (ng y), v2, u2] 31)).alloc (.cells #[.bool false, .slice none 0 0, .slice none 0 0] 31)) ⟨w.heap.size + 1, 0, none⟩ = some (.bool (ng y)) ∧ World.cell? (((w.alloc (.cells #[.bool (ng x), v1, u1] 31)).alloc (.cells #[.bool (ng y), v2, u2] 31)).alloc (.cells #[.bool false, .slice none 0 0, .slice none 0 0] 31)) ⟨w.heap.size + 1, 1, none⟩ = some (v2) ∧ World.cell? (((w.alloc (.cells #[.bool (ng x), v1, u1] 31)).alloc (.cells #[.bool (ng y), v2, u2] 31)).alloc (.cells #[.bool false, .slice none 0 0, .slice none 0 0] 31)) ⟨w.heap.size + 1, 2, none⟩ = some (u2) ∧ World.cell? (((w.alloc (.cells #[.bool (ng x), v1, u1] 31)).alloc (.cells #[.bool (ng y), v2, u2] 31)).alloc (.cells #[.bool false, .slice none 0 0, .slice none 0 0] 31)) ⟨w.heap.size + 1 + 1, 0, none⟩ = some (.bool false) ∧ World.cell? (((w.alloc (.cells #[.bool (ng x), v1, u1] 31)).alloc (.cells #[.bool (ng y), v2, u2] 31)).alloc (.cells #[.bool false, .slice none 0 0, .slice none 0 0] 31)) ⟨w.heap.size + 1 + 1, 1, none⟩ = some (.slice none 0 0) ∧ World.cell? (((w.alloc (.cells #[.bool (ng x), v1, u1] 31)).alloc (.cells #[.bool (ng y), v2, u2] 31)).alloc (.cells #[.bool false, .slice none 0 0, .slice none 0 0] 31)) ⟨w.heap.size + 1 + 1, 2, none⟩ = some (.slice none 0 0) ∧ World.frozen? (((w.alloc (.cells #[.bool (ng x), v1, u1] 31)).alloc (.cells #[.bool (ng y), v2, u2] 31)).alloc (.cells #[.bool false, .slice none 0 0, .slice none 0 0] 31)) ⟨w.heap.size + 1 + 1, 0, none⟩ = false ∧ World.frozen? (((w.alloc (.cells #[.bool (ng x), v1, u1] 31)).alloc (.cells #[.bool (ng y), v2, u2] 31)).alloc (.cells #[.bool false, .slice none 0 0, .slice none 0 0] 31)) ⟨w.heap.size + 1 + 1, 1, none⟩ = false ∧ World.frozen? (((w.alloc (.cells #[.bool (ng x), v1, u1] 31)).alloc (.cells #[.bool (ng y), v2, u2] 31)).alloc (.cells #[.bool false, .slice none 0 0, .slice none 0 0] 31)) ⟨w.heap.size + 1 + 1, 2, none⟩ = false := by simp [go_sem]
  have hg0 : w.heap.size + 1 + 1 < ((((w.alloc (.cells #[.bool (ng x), v1, u1] 31)).alloc (.cells #[.bool (ng y), v2, u2] 31)).alloc (.cells #[.bool false, .slice none 0 0, .slice none 0 0] 31))).heap.size := World.block_lt_of_cell? _ _ c2_0
  have Ha := Lib.hid (h1.below BW (Nat.le_refl _))
  have Hb := Lib.hid (k1.below BW (Nat.le_refl _))
  have Hc := Lib.hid (h2.below BW (Nat.le_refl _))
  have Hd := Lib.hid (k2.below BW (Nat.le_refl _))
  clear h1 k1 h2 k2
  have HX := Lib.hid hq
  have HY := Lib.hid hk
  have HZ := Lib.hid hz
  have HE := Lib.hid he
  clear hq hk hz he
  go_enter Try.func46, Try.ntmps46
  go_wp2_with fail
  generalize (((w.alloc (.cells #[.bool (ng x), v1, u1] 31)).alloc (.cells #[.bool (ng y), v2, u2] 31)).alloc (.cells #[.bool false, .slice none 0 0, .slice none 0 0] 31)) = w0 at *
  have B0 := Below.refl w0.heap.size w0
  refine (sRatOk_q _ _ _ _ _ x d Ha.out Hb.out HX.out).mono ?_
  rintro e w1 ⟨rfl, hb⟩
  replace c0_0 := keep_cell hb c0_0
  replace c0_1 := keep_cell hb c0_1
  replace c0_2 := keep_cell hb c0_2
  replace c1_0 := keep_cell hb c1_0
  replace c1_1 := keep_cell hb c1_1
  replace c1_2 := keep_cell hb c1_2
  replace q0 := keep_frozen (w1 := w1) hb c2_0 q0
  replace c2_0 := keep_cell (w1 := w1) hb c2_0
  replace q1 := keep_frozen (w1 := w1) hb c2_1 q1
  replace c2_1 := keep_cell (w1 := w1) hb c2_1
  replace q2 := keep_frozen (w1 := w1) hb c2_2 q2
  replace c2_2 := keep_cell (w1 := w1) hb c2_2
  replace Ha := Lib.hid (Ha.out.below hb (Nat.le_refl _))
  replace Hb := Lib.hid (Hb.out.below hb (Nat.le_refl _))
  replace Hc := Lib.hid (Hc.out.below hb (Nat.le_refl _))
  replace Hd := Lib.hid (Hd.out.below hb (Nat.le_refl _))
  replace B0 := B0.trans (hb.mono B0.size)
  clear hb
  go_wp2_with fail
  refine (sRatOk_q _ _ _ _ _ y f Hc.out Hd.out HY.out).mono ?_
  rintro e w2 ⟨rfl, hb⟩
  replace c0_0 := keep_cell hb c0_0
  replace c0_1 := keep_cell hb c0_1
  replace c0_2 := keep_cell hb c0_2
  replace c1_0 := keep_cell hb c1_0
  replace c1_1 := keep_cell hb c1_1
  replace c1_2 := keep_cell hb c1_2
  replace q0 := keep_frozen (w1 := w2) hb c2_0 q0
  replace c2_0 := keep_cell (w1 := w2) hb c2_0
  replace q1 := keep_frozen (w1 := w2) hb c2_1 q1
  replace c2_1 := keep_cell (w1 := w2) hb c2_1
  replace q2 := keep_frozen (w1 := w2) hb c2_2 q2
  replace c2_2 := keep_cell (w1 := w2) hb c2_2
  replace Ha := Lib.hid (Ha.out.below hb (Nat.le_refl _))
  replace Hb := Lib.hid (Hb.out.below hb (Nat.le_refl _))
  replace Hc := Lib.hid (Hc.out.below hb (Nat.le_refl _))
  replace Hd := Lib.hid (Hd.out.below hb (Nat.le_refl _))
  replace B0 := B0.trans (hb.mono B0.size)
  clear hb
  go_wp2_with fail
  refine (l04Mul_c _ _ _ _ _ x d Ha.out Hb.out _ _ _ _ y f Hc.out Hd.out (.inl HX.out) (.inl HY.out) z e HZ.out HE.out).mono ?_
  rintro e w3 ⟨vr, vs, rfl, ho1, ho2, HAP, hb⟩
  replace c0_0 := keep_cell hb c0_0
  replace c0_1 := keep_cell hb c0_1
  replace c0_2 := keep_cell hb c0_2
  replace c1_0 := keep_cell hb c1_0
  replace c1_1 := keep_cell hb c1_1
  replace c1_2 := keep_cell hb c1_2
  replace q0 := keep_frozen (w1 := w3) hb c2_0 q0
  replace c2_0 := keep_cell (w1 := w3) hb c2_0
  replace q1 := keep_frozen (w1 := w3) hb c2_1 q1
  replace c2_1 := keep_cell (w1 := w3) hb c2_1
  replace q2 := keep_frozen (w1 := w3) hb c2_2 q2
  replace c2_2 := keep_cell (w1 := w3) hb c2_2
  replace Ha := Lib.hid (Ha.out.below hb (Nat.le_refl _))
  replace Hb := Lib.hid (Hb.out.below hb (Nat.le_refl _))
  replace Hc := Lib.hid (Hc.out.below hb (Nat.le_refl _))
  replace Hd := Lib.hid (Hd.out.below hb (Nat.le_refl _))
  have Hr := Lib.hid (ho1.mono B0.size)
  clear ho1
  have Hs := Lib.hid (ho2.mono B0.size)
  clear ho2
  obtain ⟨ar, cr, rfl, -, -, -, -, -⟩ := Hr.out.form
  obtain ⟨aS, cS, rfl, -, -, -, -, -⟩ := Hs.out.form
  replace B0 := B0.trans (hb.mono B0.size)
  clear hb
  go_wp2
  exact bodyPost_ret (v := .agg #[.bool (ng z), .slice ar (limbs z.natAbs).length cr, .slice aS (limbs e).length cS]) (by simp [results, Try.results46, go_sem, c2_0, c2_1, c2_2]) rfl (retR_end BW (by omega) hg0 B0 Hr.out Hs.out HAP)

theorem sRatMul_c (w : World) (b1 e1 : Nat) (s : Bool) (v1 u1 : Value) (xs ys : List Int) (h1 : Own w b1 v1 xs) (k1 : Own w e1 u1 ys) (b2 e2 : Nat) (t : Bool) (v2 u2 : Value) (zs ws : List Int) (h2 : Own w b2 v2 zs) (k2 : Own w e2 u2 ws) : Calls Try.prog 46 #[.agg #[.bool s, v1, u1], .agg #[.bool t, v2, u2]] w (RetQ w (q2 qmul s xs ys t zs ws).1 (q2 qmul s xs ys t zs ws).2) := by
  by_cases hx : OkR s xs ys
  · by_cases hy : OkR t zs ws
    · rw [show q2 qmul s xs ys t zs ws = qmul (zv s xs) (nv ys).toNat (zv t zs) (nv ws).toNat from if_pos ⟨hx, hy⟩]
      obtain ⟨x, d, rfl, rfl, rfl, hq, e3, e4⟩ := okR_q hx
      obtain ⟨y, f, rfl, rfl, rfl, hk, e5, e6⟩ := okR_q hy
      rw [e3, e4, e5, e6]
      exact sRatMul_good w b1 e1 v1 u1 x d h1 k1 b2 e2 v2 u2 y f h2 k2 hq hk _ _ rfl rfl
    · rw [show q2 qmul s xs ys t zs ws = (0, 0) from if_neg fun h => hy h.2]
      exact sRatMul_2 w b1 e1 s v1 u1 xs ys h1 k1 b2 e2 t v2 u2 zs ws h2 k2 hx hy
  · rw [show q2 qmul s xs ys t zs ws = (0, 0) from if_neg fun h => hx h.1]
    exact sRatMul_1 w b1 e1 s v1 u1 xs ys h1 k1 t v2 u2 hx

theorem div_s {x y : Int} {f : Nat} (hf : 0 < f) {t : Int} (ht : t = x * sgnd y f) (h0 : t ≠ 0) : (ng x != ng y) = ng t := by
  rw [← sgnd_ng (y := y) hf]; exact mul_s ht h0
theorem div_n {x y : Int} {f : Nat} {t : Int} (ht : t = x * sgnd y f) : x.natAbs * f = t.natAbs := by
  rw [ht, Int.natAbs_mul, sgnd_abs]

set_option maxHeartbeats 2000000 in
theorem sRatDiv_1 (w : World) (b1 e1 : Nat) (s : Bool) (v1 u1 : Value) (xs ys : List Int) (h1 : Own w b1 v1 xs) (k1 : Own w e1 u1 ys) (t : Bool) (v2 u2 : Value) (hx : ¬ OkR s xs ys) :
    Calls Try.prog 48 #[.agg #[.bool s, v1, u1], .agg #[.bool t, v2, u2]] w (RetQ w 0 0) := by
  have BW : Below w.heap.size w (((w.alloc (.cells #[.bool s, v1, u1] 31)).alloc (.cells #[.bool t, v2, u2] 31)).alloc (.cells #[.bool false, .slice none 0 0, .slice none 0 0] 31)) := ((((Below.refl w.heap.size w).alloc (Nat.le_refl _) _).alloc (by simp) _).alloc (by simp; omega) _)
  obtain ⟨c0_0, c0_1, c0_2, c1_0, c1_1, c1_2, c2_0, c2_1, c2_2, q0, q1, q2⟩ : World.cell? (((w.alloc (.cells #[.bool s, v1, u1] 31)).alloc (.cells #[.bool t, v2, u2] 31)).alloc (.cells #[.bool false, .slice none 0 0, .slice none 0 0] 31)) ⟨w.heap.size, 0, none⟩ = some (.bool s) ∧ World.cell? (((w.alloc (.cells #[.bool s, v1, u1] 31)).alloc (.cells #[.bool t, v2, u2] 31)).alloc (.cells #[.bool false, .slice none 0 0, .slice none 0 0] 31)) ⟨w.heap.size, 1, none⟩ = some (v1) ∧ World.cell? (((w.alloc (.cells #[.bool s, v1, u1] 31)).alloc (.cells #[.bool t, v2, u2] 31)).alloc (.cells #[.bool false, .slice none 0 0, .slice none 0 0] 31)) ⟨w.heap.size, 2, none⟩ = some (u1) ∧ World.cell? (((w.alloc (.cells #[.bool s, v1, u1] 31)).alloc (.cells #[.bool t, v2, u2] 31)).alloc (.cells #[.bool false, .slice none 0 0, .slice none 0 0] 31)) ⟨w.heap.size + 1, 0, none⟩ = some (.bool t) ∧ World.cell? (((w.alloc (.cells #[.bool s, v1, u1] 31)).alloc (.cells #[.bool t, v2, u2] 31)).alloc (.cells #[.bool false, .slice none 0 0, .slice none 0 0] 31)) ⟨w.heap.size + 1, 1, none⟩ = some (v2) ∧ World.cell? (((w.alloc (.cells #[.bool s, v1, u1] 31)).alloc (.cells #[.bool t, v2, u2] 31)).alloc (.cells #[.bool false, .slice none 0 0, .slice none 0 0] 31)) ⟨w.heap.size + 1, 2, none⟩ = some (u2) ∧ World.cell? (((w.alloc (.cells #[.bool s, v1, u1] 31)).alloc (.cells #[.bool t, v2, u2] 31)).alloc (.cells #[.bool false, .slice none 0 0, .slice none 0 0] 31)) ⟨w.heap.size + 1 + 1, 0, none⟩ = some (.bool false) ∧ World.cell? (((w.alloc (.cells #[.bool s, v1, u1] 31)).alloc (.cells #[.bool t, v2, u2] 31)).alloc (.cells #[.bool false, .slice none 0 0, .slice none 0 0] 31)) ⟨w.heap.size + 1 + 1, 1, none⟩ = some (.slice none 0 0) ∧ World.cell? (((w.alloc (.cells #[.bool s, v1, u1] 31)).alloc (.cells #[.bool t, v2, u2] 31)).alloc (.cells #[.bool false, .slice none 0 0, .slice none 0 0] 31)) ⟨w.heap.size + 1 + 1, 2, none⟩ = some (.slice none 0 0) ∧ World.frozen? (((w.alloc (.cells #[.bool s, v1, u1] 31)).alloc (.cells #[.bool t, v2, u2] 31)).alloc (.cells #[.bool false, .slice none 0 0, .slice none 0 0] 31)) ⟨w.heap.size + 1 + 1, 0, none⟩ = false ∧ World.frozen? (((w.alloc (.cells #[.bool s, v1, u1] 31)).alloc (.cells #[.bool t, v2, u2] 31)).alloc (.cells #[.bool false, .slice none 0 0, .slice none 0 0] 31)) ⟨w.heap.size + 1 + 1, 1, none⟩ = false ∧ World.frozen? (((w.alloc (.cells #[.bool s, v1, u1] 31)).alloc (.cells #[.bool t, v2, u2] 31)).alloc (.cells #[.bool false, .slice none 0 0, .slice none 0 0] 31)) ⟨w.heap.size + 1 + 1, 2, none⟩ = false := by simp [go_sem]
  have hg0 : w.heap.size + 1 + 1 < ((((w.alloc (.cells #[.bool s, v1, u1] 31)).alloc (.cells #[.bool t, v2, u2] 31)).alloc (.cells #[.bool false, .slice none 0 0, .slice none 0 0] 31))).heap.size := World.block_lt_of_cell? _ _ c2_0
  have Ha := Lib.hid (h1.below BW (Nat.le_refl _))
  have Hb := Lib.hid (k1.below BW (Nat.le_refl _))
  clear h1 k1
  have HX := Lib.hid hx
  clear hx
  go_enter Try.func48, Try.ntmps48
  go_wp2_with fail
  generalize (((w.alloc (.cells #[.bool s, v1, u1] 31)).alloc (.cells #[.bool t, v2, u2] 31)).alloc (.cells #[.bool false, .slice none 0 0, .slice none 0 0] 31)) = w0 at *
  have B0 := Below.refl w0.heap.size w0
  refine (sRatOk_f _ _ _ _ _ _ _ _ Ha.out Hb.out HX.out).mono ?_
  rintro e w1 ⟨rfl, hb⟩
  replace c0_0 := keep_cell hb c0_0
  replace c0_1 := keep_cell hb c0_1
  replace c0_2 := keep_cell hb c0_2
  replace c1_0 := keep_cell hb c1_0
  replace c1_1 := keep_cell hb c1_1
  replace c1_2 := keep_cell hb c1_2
  replace q0 := keep_frozen (w1 := w1) hb c2_0 q0
  replace c2_0 := keep_cell (w1 := w1) hb c2_0
  replace q1 := keep_frozen (w1 := w1) hb c2_1 q1
  replace c2_1 := keep_cell (w1 := w1) hb c2_1
  replace q2 := keep_frozen (w1 := w1) hb c2_2 q2
  replace c2_2 := keep_cell (w1 := w1) hb c2_2
  replace Ha := Lib.hid (Ha.out.below hb (Nat.le_refl _))
  replace Hb := Lib.hid (Hb.out.below hb (Nat.le_refl _))
  replace B0 := B0.trans (hb.mono B0.size)
  clear hb
  go_wp2
  exact bodyPost_ret (v := .agg #[.bool false, .slice none 0 0, .slice none 0 0]) (by simp [results, Try.results48, go_sem, c2_0, c2_1, c2_2]) rfl (retQ_nil (set3_below (BW.trans (B0.mono BW.size)) (by omega)))

set_option maxHeartbeats 2000000 in
theorem sRatDiv_2 (w : World) (b1 e1 : Nat) (s : Bool) (v1 u1 : Value) (xs ys : List Int) (h1 : Own w b1 v1 xs) (k1 : Own w e1 u1 ys) (b2 e2 : Nat) (t : Bool) (v2 u2 : Value) (zs ws : List Int) (h2 : Own w b2 v2 zs) (k2 : Own w e2 u2 ws) (hx : OkR s xs ys) (hy : ¬ OkR t zs ws) :
    Calls Try.prog 48 #[.agg #[.bool s, v1, u1], .agg #[.bool t, v2, u2]] w (RetQ w 0 0) := by
  have BW : Below w.heap.size w (((w.alloc (.cells #[.bool s, v1, u1] 31)).alloc (.cells #[.bool t, v2, u2] 31)).alloc (.cells #[.bool false, .slice none 0 0, .slice none 0 0] 31)) := ((((Below.refl w.heap.size w).alloc (Nat.le_refl _) _).alloc (by simp) _).alloc (by simp; omega) _)
  obtain ⟨c0_0, c0_1, c0_2, c1_0, c1_1, c1_2, c2_0, c2_1, c2_2, q0, q1, q2⟩ : World.cell? (((w.alloc (.cells #[.bool s, v1, u1] 31)).alloc (.cells #[.bool t, v2, u2] 31)).alloc (.cells #[.bool false, .slice none 0 0, .slice none 0 0] 31)) ⟨w.heap.size, 0, none⟩ = some (.bool s) ∧ World.cell? (((w.alloc (.cells #[.bool s, v1, u1] 31)).alloc (.cells #[.bool t, v2, u2] 31)).alloc (.cells #[.bool false, .slice none 0 0, .slice none 0 0] 31)) ⟨w.heap.size, 1, none⟩ = some (v1) ∧ World.cell? (((w.alloc (.cells #[.bool s, v1, u1] 31)).alloc (.cells #[.bool t, v2, u2] 31)).alloc (.cells #[.bool false, .slice none 0 0, .slice none 0 0] 31)) ⟨w.heap.size, 2, none⟩ = some (u1) ∧ World.cell? (((w.alloc (.cells #[.bool s, v1, u1] 31)).alloc (.cells #[.bool t, v2, u2] 31)).alloc (.cells #[.bool false, .slice none 0 0, .slice none 0 0] 31)) ⟨w.heap.size + 1, 0, none⟩ = some (.bool t) ∧ World.cell? (((w.alloc (.cells #[.bool s, v1, u1] 31)).alloc (.cells #[.bool t, v2, u2] 31)).alloc (.cells #[.bool false, .slice none 0 0, .slice none 0 0] 31)) ⟨w.heap.size + 1, 1, none⟩ = some (v2) ∧ World.cell? (((w.alloc (.cells #[.bool s, v1, u1] 31)).alloc (.cells #[.bool t, v2, u2] 31)).alloc (.cells #[.bool false, .slice none 0 0, .slice none 0 0] 31)) ⟨w.heap.size + 1, 2, none⟩ = some (u2) ∧ World.cell? (((w.alloc (.cells #[.bool s, v1, u1] 31)).alloc (.cells #[.bool t, v2, u2] 31)).alloc (.cells #[.bool false, .slice none 0 0, .slice none 0 0] 31)) ⟨w.heap.size + 1 + 1, 0, none⟩ = some (.bool false) ∧ World.cell? (((w.alloc (.cells #[.bool s, v1, u1] 31)).alloc (.cells #[.bool t, v2, u2] 31)).alloc (.cells #[.bool false, .slice none 0 0, .slice none 0 0] 31)) ⟨w.heap.size + 1 + 1, 1, none⟩ = some (.slice none 0 0) ∧ World.cell? (((w.alloc (.cells #[.bool s, v1, u1] 31)).alloc (.cells #[.bool t, v2, u2] 31)).alloc (.cells #[.bool false, .slice none 0 0, .slice none 0 0] 31)) ⟨w.heap.size + 1 + 1, 2, none⟩ = some (.slice none 0 0) ∧ World.frozen? (((w.alloc (.cells #[.bool s, v1, u1] 31)).alloc (.cells #[.bool t, v2, u2] 31)).alloc (.cells #[.bool false, .slice none 0 0, .slice none 0 0] 31)) ⟨w.heap.size + 1 + 1, 0, none⟩ = false ∧ World.frozen? (((w.alloc (.cells #[.bool s, v1, u1] 31)).alloc (.cells #[.bool t, v2, u2] 31)).alloc (.cells #[.bool false, .slice none 0 0, .slice none 0 0] 31)) ⟨w.heap.size + 1 + 1, 1, none⟩ = false ∧ World.frozen? (((w.alloc (.cells #[.bool s, v1, u1] 31)).alloc (.cells #[.bool t, v2, u2] 31)).alloc (.cells #[.bool false, .slice none 0 0, .slice none 0 0] 31)) ⟨w.heap.size + 1 + 1, 2, none⟩ = false := by simp [go_sem]
  have hg0 : w.heap.size + 1 + 1 < ((((w.alloc (.cells #[.bool s, v1, u1] 31)).alloc (.cells #[.bool t, v2, u2] 31)).alloc (.cells #[.bool false, .slice none 0 0, .slice none 0 0] 31))).heap.size := World.block_lt_of_cell? _ _ c2_0
  have Ha := Lib.hid (h1.below BW (Nat.le_refl _))
  have Hb := Lib.hid (k1.below BW (Nat.le_refl _))
  have Hc := Lib.hid (h2.below BW (Nat.le_refl _))
  have Hd := Lib.hid (k2.below BW (Nat.le_refl _))
  clear h1 k1 h2 k2
  have HX := Lib.hid hx
  have HY := Lib.hid hy
  clear hx hy
  go_enter Try.func48, Try.ntmps48
  go_wp2_with fail
  generalize (((w.alloc (.cells #[.bool s, v1, u1] 31)).alloc (.cells #[.bool t, v2, u2] 31)).alloc (.cells #[.bool false, .slice none 0 0, .slice none 0 0] 31)) = w0 at *
  have B0 := Below.refl w0.heap.size w0
  refine (sRatOk_t _ _ _ _ _ _ _ _ Ha.out Hb.out HX.out).mono ?_
  rintro e w1 ⟨rfl, hb⟩
  replace c0_0 := keep_cell hb c0_0
  replace c0_1 := keep_cell hb c0_1
  replace c0_2 := keep_cell hb c0_2
  replace c1_0 := keep_cell hb c1_0
  replace c1_1 := keep_cell hb c1_1
  replace c1_2 := keep_cell hb c1_2
  replace q0 := keep_frozen (w1 := w1) hb c2_0 q0
  replace c2_0 := keep_cell (w1 := w1) hb c2_0
  replace q1 := keep_frozen (w1 := w1) hb c2_1 q1
  replace c2_1 := keep_cell (w1 := w1) hb c2_1
  replace q2 := keep_frozen (w1 := w1) hb c2_2 q2
  replace c2_2 := keep_cell (w1 := w1) hb c2_2
  replace Ha := Lib.hid (Ha.out.below hb (Nat.le_refl _))
  replace Hb := Lib.hid (Hb.out.below hb (Nat.le_refl _))
  replace Hc := Lib.hid (Hc.out.below hb (Nat.le_refl _))
  replace Hd := Lib.hid (Hd.out.below hb (Nat.le_refl _))
  replace B0 := B0.trans (hb.mono B0.size)
  clear hb
  go_wp2_with fail
  refine (sRatOk_f _ _ _ _ _ _ _ _ Hc.out Hd.out HY.out).mono ?_
  rintro e w2 ⟨rfl, hb⟩
  replace c0_0 := keep_cell hb c0_0
  replace c0_1 := keep_cell hb c0_1
  replace c0_2 := keep_cell hb c0_2
  replace c1_0 := keep_cell hb c1_0
  replace c1_1 := keep_cell hb c1_1
  replace c1_2 := keep_cell hb c1_2
  replace q0 := keep_frozen (w1 := w2) hb c2_0 q0
  replace c2_0 := keep_cell (w1 := w2) hb c2_0
  replace q1 := keep_frozen (w1 := w2) hb c2_1 q1
  replace c2_1 := keep_cell (w1 := w2) hb c2_1
  replace q2 := keep_frozen (w1 := w2) hb c2_2 q2
  replace c2_2 := keep_cell (w1 := w2) hb c2_2
  replace Ha := Lib.hid (Ha.out.below hb (Nat.le_refl _))
  replace Hb := Lib.hid (Hb.out.below hb (Nat.le_refl _))
  replace Hc := Lib.hid (Hc.out.below hb (Nat.le_refl _))
  replace Hd := Lib.hid (Hd.out.below hb (Nat.le_refl _))
  replace B0 := B0.trans (hb.mono B0.size)
  clear hb
  go_wp2
  exact bodyPost_ret (v := .agg #[.bool false, .slice none 0 0, .slice none 0 0]) (by simp [results, Try.results48, go_sem, c2_0, c2_1, c2_2]) rfl (retQ_nil (set3_below (BW.trans (B0.mono BW.size)) (by omega)))

set_option maxHeartbeats 2000000 in
theorem sRatDiv_good (w : World) (b1 e1 : Nat) (v1 u1 : Value) (x : Int) (d : Nat) (h1 : Own w b1 v1 (limbs x.natAbs)) (k1 : Own w e1 u1 (limbs d)) (b2 e2 : Nat) (v2 u2 : Value) (y : Int) (f : Nat) (h2 : Own w b2 v2 (limbs y.natAbs)) (k2 : Own w e2 u2 (limbs f)) (hq : IsQ x d) (hk : IsQ y f) (z : Int) (e : Nat) (hz : z = (qdiv x d y f).1) (he : e = (qdiv x d y f).2) :
    Calls Try.prog 48 #[.agg #[.bool (ng x), v1, u1], .agg #[.bool (ng y), v2, u2]] w (RetQ w z e) := by
  have BW : Below w.heap.size w (((w.alloc (.cells #[.bool (ng x), v1, u1] 31)).alloc (.cells #[.bool (ng y), v2, u2] 31)).alloc (.cells #[.bool false, .slice none 0 0, .slice none 0 0] 31)) := ((((Below.refl w.heap.size w).alloc (Nat.le_refl _) _).alloc (by simp) _).alloc (by simp; omega) _)
  obtain ⟨c0_0, c0_1, c0_2, c1_0, c1_1, c1_2, c2_0, c2_1, c2_2, q0, q1, q2⟩ : World.cell? (((w.alloc (.cells #[.bool (ng x), v1, u1] 31)).alloc (.cells #[.bool (ng y), v2, u2] 31)).alloc (.cells #[.bool false, .slice none 0 0, .slice none 0 0] 31)) ⟨w.heap.size, 0, none⟩ = some (.bool (ng x)) ∧ World.cell? (((w.alloc (.cells #[.bool (ng x), v1, u1] 31)).alloc (.cells #[.bool (ng y), v2, u2] 31)).alloc (.cells #[.bool false, .slice none 0 0, .slice none 0 0] 31)) ⟨w.heap.size, 1, none⟩ = some (v1) ∧ World.cell? (((w.alloc (.cells #[.bool (ng x), v1, u1] 31)).alloc (.cells #[.bool (ng y), v2, u2] 31)).alloc (.cells #[.bool false, .slice none 0 0, .slice none 0 0] 31)) ⟨w.heap.size, 2, none⟩ = some (u1) ∧ World.cell? (((w.alloc (.cells #[.bool (ng x), v1, u1] 31)).alloc (.cells #[.bool (ng y), v2, u2] 31)).alloc (.cells #[.bool false, .slice none 0 0, .slice none 0 0] 31)) ⟨w.heap.size + 1, 0, none⟩ = some (.bool (ng y)) ∧ World.cell? (((w.alloc (.cells #[.bool (ng x), v1, u1] 31)).alloc (.cells #[.bool (ng y), v2, u2] 31)).alloc (.cells #[.bool false, .slice none 0 0, .slice none 0 0] 31)) ⟨w.heap.size + 1, 1, none⟩ = some (v2) ∧ World.cell? (((w.alloc (.cells #[.bool (ng x), v1, u1] 31)).alloc (.cells #[.bool (ng y), v2, u2] 31)).alloc (.cells #[.bool false, .slice none 0 0, .slice none 0 0] 31)) ⟨w.heap.size + 1, 2, none⟩ = some (u2) ∧ World.cell? (((w.alloc (.cells #[.bool (ng x), v1, u1] 31)).alloc (.cells #[.bool (ng y), v2, u2] 31)).alloc (.cells #[.bool false, .slice none 0 0, .slice none 0 0] 31)) ⟨w.heap.size + 1 + 1, 0, none⟩ = some (.bool false) ∧ World.cell? (((w.alloc (.cells #[.bool (ng x), v1, u1] 31)).alloc (.cells #[.bool (ng y), v2, u2] 31)).alloc (.cells #[.bool false, .slice none 0 0, .slice none 0 0] 31)) ⟨w.heap.size + 1 + 1, 1, none⟩ = some (.slice none 0 0) ∧ World.cell? (((w.alloc (.cells #[.bool (ng x), v1, u1] 31)).alloc (.cells #[.bool (ng y), v2, u2] 31)).alloc (.cells #[.bool false, .slice none 0 0, .slice none 0 0] 31)) ⟨w.heap.size + 1 + 1, 2, none⟩ = some (.slice none 0 0) ∧ World.frozen? (((w.alloc (.cells #[.bool (ng x), v1, u1] 31)).alloc (.cells #[.bool (ng y), v2, u2] 31)).alloc (.cells #[.bool false, .slice none 0 0, .slice none 0 0] 31)) ⟨w.heap.size + 1 + 1, 0, none⟩ = false ∧ World.frozen? (((w.alloc (.cells #[.bool (ng x), v1, u1] 31)).alloc (.cells #[.bool (ng y), v2, u2] 31)).alloc (.cells #[.bool false, .slice none 0 0, .slice none 0 0] 31)) ⟨w.heap.size + 1 + 1, 1, none⟩ = false ∧ World.frozen? (((w.alloc (.cells #[.bool (ng x), v1, u1] 31)).alloc (.cells #[.bool (ng y), v2, u2] 31)).alloc (.cells #[.bool false, .slice none 0 0, .slice none 0 0] 31)) ⟨w.heap.size + 1 + 1, 2, none⟩ = false := by simp [go_sem]
  have hg0 : w.heap.size + 1 + 1 < ((((w.alloc (.cells #[.bool (ng x), v1, u1] 31)).alloc (.cells #[.bool (ng y), v2, u2] 31)).alloc (.cells #[.bool false, .slice none 0 0, .slice none 0 0] 31))).heap.size := World.block_lt_of_cell? _ _ c2_0
  have Ha := Lib.hid (h1.below BW (Nat.le_refl _))
  have Hb := Lib.hid (k1.below BW (Nat.le_refl _))
  have Hc := Lib.hid (h2.below BW (Nat.le_refl _))
  have Hd := Lib.hid (k2.below BW (Nat.le_refl _))
  clear h1 k1 h2 k2
  have HX := Lib.hid hq
  have HY := Lib.hid hk
  have LQ1 := hq.2.2.1
  have LQ2 := hq.2.2.2
  have LQ3 := hk.2.2.1
  have LQ4 := hk.2.2.2
  unfold Fit at LQ1 LQ2 LQ3 LQ4
  obtain ⟨t, ht⟩ : ∃ t : Int, t = x * sgnd y f := ⟨_, rfl⟩
  obtain ⟨u, hu⟩ : ∃ u : Nat, u = d * y.natAbs := ⟨_, rfl⟩
  obtain ⟨n, hn⟩ : ∃ n : Nat, n = x.natAbs * f := ⟨_, rfl⟩
  have lt : (limbs t.natAbs).length ≤ 900 := by rw [← div_n ht]; have := len_mul LQ1 LQ4; omega
  have lu : (limbs u).length ≤ 900 := by rw [hu]; have := len_mul LQ2 LQ3; omega
  have HZ : Hid (z = lowZ t u) := by unfold Hid; rw [ht, hu]; exact hz
  have HE : Hid (e = lowD t u) := by unfold Hid; rw [ht, hu]; exact he
  have HN : Hid (n = t.natAbs) := by unfold Hid; rw [hn, div_n ht]
  have HS : Hid (t ≠ 0 → (ng x != ng y) = ng t) := div_s hk.1 ht
  have HU : Hid (d * y.natAbs = u) := hu.symm
  have HNN : Hid (x.natAbs * f = n) := hn.symm
  clear ht hu hn hz he hq hk
  go_enter Try.func48, Try.ntmps48
  go_wp2_with fail
  generalize (((w.alloc (.cells #[.bool (ng x), v1, u1] 31)).alloc (.cells #[.bool (ng y), v2, u2] 31)).alloc (.cells #[.bool false, .slice none 0 0, .slice none 0 0] 31)) = w0 at *
  have B0 := Below.refl w0.heap.size w0
  refine (sRatOk_q _ _ _ _ _ x d Ha.out Hb.out HX.out).mono ?_
  rintro e w1 ⟨rfl, hb⟩
  replace c0_0 := keep_cell hb c0_0
  replace c0_1 := keep_cell hb c0_1
  replace c0_2 := keep_cell hb c0_2
  replace c1_0 := keep_cell hb c1_0
  replace c1_1 := keep_cell hb c1_1
  replace c1_2 := keep_cell hb c1_2
  replace q0 := keep_frozen (w1 := w1) hb c2_0 q0
  replace c2_0 := keep_cell (w1 := w1) hb c2_0
  replace q1 := keep_frozen (w1 := w1) hb c2_1 q1
  replace c2_1 := keep_cell (w1 := w1) hb c2_1
  replace q2 := keep_frozen (w1 := w1) hb c2_2 q2
  replace c2_2 := keep_cell (w1 := w1) hb c2_2
  replace Ha := Lib.hid (Ha.out.below hb (Nat.le_refl _))
  replace Hb := Lib.hid (Hb.out.below hb (Nat.le_refl _))
  replace Hc := Lib.hid (Hc.out.below hb (Nat.le_refl _))
  replace Hd := Lib.hid (Hd.out.below hb (Nat.le_refl _))
  replace B0 := B0.trans (hb.mono B0.size)
  clear hb
  go_wp2_with fail
  refine (sRatOk_q _ _ _ _ _ y f Hc.out Hd.out HY.out).mono ?_
  rintro e w2 ⟨rfl, hb⟩
  replace c0_0 := keep_cell hb c0_0
  replace c0_1 := keep_cell hb c0_1
  replace c0_2 := keep_cell hb c0_2
  replace c1_0 := keep_cell hb c1_0
  replace c1_1 := keep_cell hb c1_1
  replace c1_2 := keep_cell hb c1_2
  replace q0 := keep_frozen (w1 := w2) hb c2_0 q0
  replace c2_0 := keep_cell (w1 := w2) hb c2_0
  replace q1 := keep_frozen (w1 := w2) hb c2_1 q1
  replace c2_1 := keep_cell (w1 := w2) hb c2_1
  replace q2 := keep_frozen (w1 := w2) hb c2_2 q2
  replace c2_2 := keep_cell (w1 := w2) hb c2_2
  replace Ha := Lib.hid (Ha.out.below hb (Nat.le_refl _))
  replace Hb := Lib.hid (Hb.out.below hb (Nat.le_refl _))
  replace Hc := Lib.hid (Hc.out.below hb (Nat.le_refl _))
  replace Hd := Lib.hid (Hd.out.below hb (Nat.le_refl _))
  replace B0 := B0.trans (hb.mono B0.size)
  clear hb
  go_wp2_with fail
  replace Ha := Lib.hid Ha.out.drew
  replace Hb := Lib.hid Hb.out.drew
  replace Hc := Lib.hid Hc.out.drew
  replace Hd := Lib.hid Hd.out.drew
  replace B0 := below_drew B0
  replace q0 := frozen_drew q0
  replace c2_0 := cell_drew c2_0
  replace q1 := frozen_drew q1
  replace c2_1 := cell_drew c2_1
  replace q2 := frozen_drew q2
  replace c2_2 := cell_drew c2_2
  replace c0_0 := cell_drew c0_0
  replace c0_1 := cell_drew c0_1
  replace c0_2 := cell_drew c0_2
  replace c1_0 := cell_drew c1_0
  replace c1_1 := cell_drew c1_1
  replace c1_2 := cell_drew c1_2
  go_region_held3 (fun w' => w'.cell? ⟨w.heap.size, 0, none⟩ = some (.bool (ng x)) ∧ w'.cell? ⟨w.heap.size, 1, none⟩ = some (v1) ∧ w'.cell? ⟨w.heap.size, 2, none⟩ = some (u1) ∧ w'.cell? ⟨w.heap.size + 1, 0, none⟩ = some (.bool (ng y)) ∧ w'.cell? ⟨w.heap.size + 1, 1, none⟩ = some (v2) ∧ w'.cell? ⟨w.heap.size + 1, 2, none⟩ = some (u2)) (first | exact ⟨c0_0, c0_1, c0_2, c1_0, c1_1, c1_2⟩ | (go_split_ands; exact ⟨(set_far (set_far ‹_› (by dsimp only; omega)) (by dsimp only; omega)), (set_far (set_far ‹_› (by dsimp only; omega)) (by dsimp only; omega)), (set_far (set_far ‹_› (by dsimp only; omega)) (by dsimp only; omega)), (set_far (set_far ‹_› (by dsimp only; omega)) (by dsimp only; omega)), (set_far (set_far ‹_› (by dsimp only; omega)) (by dsimp only; omega)), (set_far (set_far ‹_› (by dsimp only; omega)) (by dsimp only; omega))⟩) | (go_split_ands; exact ⟨(set_far (set_far (set_far ‹_› (by dsimp only; omega)) (by dsimp only; omega)) (by dsimp only; omega)), (set_far (set_far (set_far ‹_› (by dsimp only; omega)) (by dsimp only; omega)) (by dsimp only; omega)), (set_far (set_far (set_far ‹_› (by dsimp only; omega)) (by dsimp only; omega)) (by dsimp only; omega)), (set_far (set_far (set_far ‹_› (by dsimp only; omega)) (by dsimp only; omega)) (by dsimp only; omega)), (set_far (set_far (set_far ‹_› (by dsimp only; omega)) (by dsimp only; omega)) (by dsimp only; omega)), (set_far (set_far (set_far ‹_› (by dsimp only; omega)) (by dsimp only; omega)) (by dsimp only; omega))⟩) | (go_split_ands; exact ⟨(set_far ‹_› (by dsimp only; omega)), (set_far ‹_› (by dsimp only; omega)), (set_far ‹_› (by dsimp only; omega)), (set_far ‹_› (by dsimp only; omega)), (set_far ‹_› (by dsimp only; omega)), (set_far ‹_› (by dsimp only; omega))⟩) | go_keep)
    (first | (go_at_call_of 85 (v1); refine (l02Mul_t _ _ _ _ _ x.natAbs f n Ha.out Hd.out (by omega) (by omega) HNN).mono ?_; rintro e w3 ⟨vo, rfl, ho1, hb3⟩; replace q0 := keep_frozen (w1 := w3) hb3 c2_0 q0; replace c2_0 := keep_cell (w1 := w3) hb3 c2_0; replace q1 := keep_frozen (w1 := w3) hb3 c2_1 q1; replace c2_1 := keep_cell (w1 := w3) hb3 c2_1; replace q2 := keep_frozen (w1 := w3) hb3 c2_2 q2; replace c2_2 := keep_cell (w1 := w3) hb3 c2_2; replace c0_0 := keep_cell (w1 := w3) hb3 c0_0; replace c0_1 := keep_cell (w1 := w3) hb3 c0_1; replace c0_2 := keep_cell (w1 := w3) hb3 c0_2; replace c1_0 := keep_cell (w1 := w3) hb3 c1_0; replace c1_1 := keep_cell (w1 := w3) hb3 c1_1; replace c1_2 := keep_cell (w1 := w3) hb3 c1_2; replace Ha := Lib.hid (Ha.out.below hb3 (Nat.le_refl _)); replace Hb := Lib.hid (Hb.out.below hb3 (Nat.le_refl _)); replace Hc := Lib.hid (Hc.out.below hb3 (Nat.le_refl _)); replace Hd := Lib.hid (Hd.out.below hb3 (Nat.le_refl _)); (try (replace Ht := Lib.hid (Ht.out.below hb3 (Nat.le_refl _)))); (try (replace Hr := Lib.hid (Hr.out.below hb3 (Nat.le_refl _)))); (try (replace Hs := Lib.hid (Hs.out.below hb3 (Nat.le_refl _)))); have Ho := Lib.hid (ho1.mono B0.size); clear ho1; replace B0 := B0.trans (hb3.mono B0.size); clear hb3) | (go_at_call_of 85 (u1); refine (l02Mul_t _ _ _ _ _ d y.natAbs u Hb.out Hc.out (by omega) (by omega) HU).mono ?_; rintro e w4 ⟨vt, rfl, ho1, hb4⟩; replace q0 := keep_frozen (w1 := w4) hb4 c2_0 q0; replace c2_0 := keep_cell (w1 := w4) hb4 c2_0; replace q1 := keep_frozen (w1 := w4) hb4 c2_1 q1; replace c2_1 := keep_cell (w1 := w4) hb4 c2_1; replace q2 := keep_frozen (w1 := w4) hb4 c2_2 q2; replace c2_2 := keep_cell (w1 := w4) hb4 c2_2; replace c0_0 := keep_cell (w1 := w4) hb4 c0_0; replace c0_1 := keep_cell (w1 := w4) hb4 c0_1; replace c0_2 := keep_cell (w1 := w4) hb4 c0_2; replace c1_0 := keep_cell (w1 := w4) hb4 c1_0; replace c1_1 := keep_cell (w1 := w4) hb4 c1_1; replace c1_2 := keep_cell (w1 := w4) hb4 c1_2; replace Ha := Lib.hid (Ha.out.below hb4 (Nat.le_refl _)); replace Hb := Lib.hid (Hb.out.below hb4 (Nat.le_refl _)); replace Hc := Lib.hid (Hc.out.below hb4 (Nat.le_refl _)); replace Hd := Lib.hid (Hd.out.below hb4 (Nat.le_refl _)); (try (replace Ho := Lib.hid (Ho.out.below hb4 (Nat.le_refl _)))); (try (replace Hr := Lib.hid (Hr.out.below hb4 (Nat.le_refl _)))); (try (replace Hs := Lib.hid (Hs.out.below hb4 (Nat.le_refl _)))); have Ht := Lib.hid (ho1.mono B0.size); clear ho1; replace B0 := B0.trans (hb4.mono B0.size); clear hb4) | (go_at_call 75; refine (l04Low_m _ _ _ _ _ x y t u n Ho.out Ht.out HN HS lt lu z e HZ HE).mono ?_; rintro e w5 ⟨vr, vs, rfl, ho1, ho2, HAP, hb5⟩; replace q0 := keep_frozen (w1 := w5) hb5 c2_0 q0; replace c2_0 := keep_cell (w1 := w5) hb5 c2_0; replace q1 := keep_frozen (w1 := w5) hb5 c2_1 q1; replace c2_1 := keep_cell (w1 := w5) hb5 c2_1; replace q2 := keep_frozen (w1 := w5) hb5 c2_2 q2; replace c2_2 := keep_cell (w1 := w5) hb5 c2_2; replace c0_0 := keep_cell (w1 := w5) hb5 c0_0; replace c0_1 := keep_cell (w1 := w5) hb5 c0_1; replace c0_2 := keep_cell (w1 := w5) hb5 c0_2; replace c1_0 := keep_cell (w1 := w5) hb5 c1_0; replace c1_1 := keep_cell (w1 := w5) hb5 c1_1; replace c1_2 := keep_cell (w1 := w5) hb5 c1_2; replace Ha := Lib.hid (Ha.out.below hb5 (Nat.le_refl _)); replace Hb := Lib.hid (Hb.out.below hb5 (Nat.le_refl _)); replace Hc := Lib.hid (Hc.out.below hb5 (Nat.le_refl _)); replace Hd := Lib.hid (Hd.out.below hb5 (Nat.le_refl _)); (try (replace Ho := Lib.hid (Ho.out.below hb5 (Nat.le_refl _)))); (try (replace Ht := Lib.hid (Ht.out.below hb5 (Nat.le_refl _)))); have Hr := Lib.hid (ho1.mono B0.size); clear ho1; have Hs := Lib.hid (ho2.mono B0.size); clear ho2; obtain ⟨ar, cr, rfl, -, -, -, -, -⟩ := Hr.out.form; obtain ⟨aS, cS, rfl, -, -, -, -, -⟩ := Hs.out.form; replace B0 := B0.trans (hb5.mono B0.size); clear hb5))
  go_wp2
  exact bodyPost_ret (v := .agg #[.bool (ng z), .slice ar (limbs z.natAbs).length cr, .slice aS (limbs e).length cS]) (by simp [results, Try.results48, go_sem, c2_0, c2_1, c2_2]) rfl (retR_end BW (by omega) hg0 B0 Hr.out Hs.out HAP)

theorem sRatDiv_c (w : World) (b1 e1 : Nat) (s : Bool) (v1 u1 : Value) (xs ys : List Int) (h1 : Own w b1 v1 xs) (k1 : Own w e1 u1 ys) (b2 e2 : Nat) (t : Bool) (v2 u2 : Value) (zs ws : List Int) (h2 : Own w b2 v2 zs) (k2 : Own w e2 u2 ws) : Calls Try.prog 48 #[.agg #[.bool s, v1, u1], .agg #[.bool t, v2, u2]] w (RetQ w (q2 qdiv s xs ys t zs ws).1 (q2 qdiv s xs ys t zs ws).2) := by
  by_cases hx : OkR s xs ys
  · by_cases hy : OkR t zs ws
    · rw [show q2 qdiv s xs ys t zs ws = qdiv (zv s xs) (nv ys).toNat (zv t zs) (nv ws).toNat from if_pos ⟨hx, hy⟩]
      obtain ⟨x, d, rfl, rfl, rfl, hq, e3, e4⟩ := okR_q hx
      obtain ⟨y, f, rfl, rfl, rfl, hk, e5, e6⟩ := okR_q hy
      rw [e3, e4, e5, e6]
      exact sRatDiv_good w b1 e1 v1 u1 x d h1 k1 b2 e2 v2 u2 y f h2 k2 hq hk _ _ rfl rfl
    · rw [show q2 qdiv s xs ys t zs ws = (0, 0) from if_neg fun h => hy h.2]
      exact sRatDiv_2 w b1 e1 s v1 u1 xs ys h1 k1 b2 e2 t v2 u2 zs ws h2 k2 hx hy
  · rw [show q2 qdiv s xs ys t zs ws = (0, 0) from if_neg fun h => hx h.1]
    exact sRatDiv_1 w b1 e1 s v1 u1 xs ys h1 k1 t v2 u2 hx

theorem l03Cmp_k (w : World) (b1 b2 : Nat) (v1 v2 : Value) (x y c : Int) (h1 : Own w b1 v1 (limbs x.natAbs)) (h2 : Own w b2 v2 (limbs y.natAbs)) (hc : Hid (cmp3 x y = c)) :
    Calls Try.prog 98 #[.agg #[.bool (ng x), v1], .agg #[.bool (ng y), v2]] w (RetI w c) := by
  rw [← hc.out]; exact l03Cmp_c w b1 b2 v1 v2 x y h1 h2
theorem mulN_s {x p : Int} {f : Nat} (hp : p = x * (f : Int)) (h0 : p ≠ 0) : ng x = ng p := by
  have := mul_s hp h0
  rw [ng_nat] at this
  rw [← this]; cases ng x <;> rfl
theorem mulN_n {x p : Int} {f : Nat} (hp : p = x * (f : Int)) : x.natAbs * f = p.natAbs := by rw [hp, Int.natAbs_mul, Int.natAbs_natCast]
theorem fit_abs {p : Int} {n : Nat} (hn : n = p.natAbs) (hl : (limbs p.natAbs).length ≤ 60) : p.natAbs = if (limbs n).length ≤ 60 then n else 0 := by
  subst hn; rw [if_pos hl]

set_option maxHeartbeats 2000000 in
theorem l04Cmp_c (w : World) (b1 e1 : Nat) (v1 u1 : Value) (x : Int) (d : Nat) (h1 : Own w b1 v1 (limbs x.natAbs)) (k1 : Own w e1 u1 (limbs d)) (b2 e2 : Nat) (v2 u2 : Value) (y : Int) (f : Nat) (h2 : Own w b2 v2 (limbs y.natAbs)) (k2 : Own w e2 u2 (limbs f)) (l1 : (limbs x.natAbs).length ≤ 24) (l2 : (limbs d).length ≤ 24) (l3 : (limbs y.natAbs).length ≤ 24) (l4 : (limbs f).length ≤ 24) (c : Int) (hc : c = qcmp x d y f) :
    Calls Try.prog 72 #[.agg #[.bool (ng x), v1, u1], .agg #[.bool (ng y), v2, u2]] w (RetI w c) := by
  have BW : Below w.heap.size w ((w.alloc (.cells #[.bool (ng x), v1, u1] 31)).alloc (.cells #[.bool (ng y), v2, u2] 31)) := (((Below.refl w.heap.size w).alloc (Nat.le_refl _) _).alloc (by simp) _)
  obtain ⟨c0_0, c0_1, c0_2, c1_0, c1_1, c1_2⟩ : World.cell? ((w.alloc (.cells #[.bool (ng x), v1, u1] 31)).alloc (.cells #[.bool (ng y), v2, u2] 31)) ⟨w.heap.size, 0, none⟩ = some (.bool (ng x)) ∧ World.cell? ((w.alloc (.cells #[.bool (ng x), v1, u1] 31)).alloc (.cells #[.bool (ng y), v2, u2] 31)) ⟨w.heap.size, 1, none⟩ = some (v1) ∧ World.cell? ((w.alloc (.cells #[.bool (ng x), v1, u1] 31)).alloc (.cells #[.bool (ng y), v2, u2] 31)) ⟨w.heap.size, 2, none⟩ = some (u1) ∧ World.cell? ((w.alloc (.cells #[.bool (ng x), v1, u1] 31)).alloc (.cells #[.bool (ng y), v2, u2] 31)) ⟨w.heap.size + 1, 0, none⟩ = some (.bool (ng y)) ∧ World.cell? ((w.alloc (.cells #[.bool (ng x), v1, u1] 31)).alloc (.cells #[.bool (ng y), v2, u2] 31)) ⟨w.heap.size + 1, 1, none⟩ = some (v2) ∧ World.cell? ((w.alloc (.cells #[.bool (ng x), v1, u1] 31)).alloc (.cells #[.bool (ng y), v2, u2] 31)) ⟨w.heap.size + 1, 2, none⟩ = some (u2) := by simp [go_sem]
  have Ha := Lib.hid (h1.below BW (Nat.le_refl _))
  have Hb := Lib.hid (k1.below BW (Nat.le_refl _))
  have Hc := Lib.hid (h2.below BW (Nat.le_refl _))
  have Hd := Lib.hid (k2.below BW (Nat.le_refl _))
  clear h1 k1 h2 k2
  obtain ⟨p, hp⟩ : ∃ p : Int, p = x * (f : Int) := ⟨_, rfl⟩
  obtain ⟨q, hq0⟩ : ∃ q : Int, q = y * (d : Int) := ⟨_, rfl⟩
  obtain ⟨n, hn⟩ : ∃ n : Nat, n = p.natAbs := ⟨_, rfl⟩
  obtain ⟨m, hm⟩ : ∃ m : Nat, m = q.natAbs := ⟨_, rfl⟩
  have HC : Hid (cmp3 p q = c) := by unfold Hid; rw [hp, hq0]; exact hc.symm
  have lp : (limbs p.natAbs).length ≤ 60 := by rw [hp]; have := len_mulN l1 l4; omega
  have lq : (limbs q.natAbs).length ≤ 60 := by rw [hq0]; have := len_mulN l3 l2; omega
  have HP1 : Hid (x.natAbs * f = n) := by unfold Hid; rw [hn, mulN_n hp]
  have HQ1 : Hid (y.natAbs * d = m) := by unfold Hid; rw [hm, mulN_n hq0]
  have HP2 := Lib.hid (fit_abs hn lp)
  have HQ2 := Lib.hid (fit_abs hm lq)
  have HP3 : Hid (p ≠ 0 → ng x = ng p) := mulN_s hp
  have HQ3 : Hid (q ≠ 0 → ng y = ng q) := mulN_s hq0
  clear hp hq0 hc hn hm
  go_enter Try.func72, Try.ntmps72
  go_wp2_with fail
  generalize ((w.alloc (.cells #[.bool (ng x), v1, u1] 31)).alloc (.cells #[.bool (ng y), v2, u2] 31)) = w0 at *
  have B0 := Below.refl w0.heap.size w0
  replace Ha := Lib.hid Ha.out.drew
  replace Hb := Lib.hid Hb.out.drew
  replace Hc := Lib.hid Hc.out.drew
  replace Hd := Lib.hid Hd.out.drew
  replace B0 := below_drew B0
  replace c0_0 := cell_drew c0_0
  replace c0_1 := cell_drew c0_1
  replace c0_2 := cell_drew c0_2
  replace c1_0 := cell_drew c1_0
  replace c1_1 := cell_drew c1_1
  replace c1_2 := cell_drew c1_2
  go_region_held3 (fun w' => w'.cell? ⟨w.heap.size, 0, none⟩ = some (.bool (ng x)) ∧ w'.cell? ⟨w.heap.size, 1, none⟩ = some (v1) ∧ w'.cell? ⟨w.heap.size, 2, none⟩ = some (u1) ∧ w'.cell? ⟨w.heap.size + 1, 0, none⟩ = some (.bool (ng y)) ∧ w'.cell? ⟨w.heap.size + 1, 1, none⟩ = some (v2) ∧ w'.cell? ⟨w.heap.size + 1, 2, none⟩ = some (u2)) (first | exact ⟨c0_0, c0_1, c0_2, c1_0, c1_1, c1_2⟩ | (go_split_ands; exact ⟨(set_far (set_far ‹_› (by dsimp only; omega)) (by dsimp only; omega)), (set_far (set_far ‹_› (by dsimp only; omega)) (by dsimp only; omega)), (set_far (set_far ‹_› (by dsimp only; omega)) (by dsimp only; omega)), (set_far (set_far ‹_› (by dsimp only; omega)) (by dsimp only; omega)), (set_far (set_far ‹_› (by dsimp only; omega)) (by dsimp only; omega)), (set_far (set_far ‹_› (by dsimp only; omega)) (by dsimp only; omega))⟩) | (go_split_ands; exact ⟨(set_far (set_far (set_far ‹_› (by dsimp only; omega)) (by dsimp only; omega)) (by dsimp only; omega)), (set_far (set_far (set_far ‹_› (by dsimp only; omega)) (by dsimp only; omega)) (by dsimp only; omega)), (set_far (set_far (set_far ‹_› (by dsimp only; omega)) (by dsimp only; omega)) (by dsimp only; omega)), (set_far (set_far (set_far ‹_› (by dsimp only; omega)) (by dsimp only; omega)) (by dsimp only; omega)), (set_far (set_far (set_far ‹_› (by dsimp only; omega)) (by dsimp only; omega)) (by dsimp only; omega)), (set_far (set_far (set_far ‹_› (by dsimp only; omega)) (by dsimp only; omega)) (by dsimp only; omega))⟩) | (go_split_ands; exact ⟨(set_far ‹_› (by dsimp only; omega)), (set_far ‹_› (by dsimp only; omega)), (set_far ‹_› (by dsimp only; omega)), (set_far ‹_› (by dsimp only; omega)), (set_far ‹_› (by dsimp only; omega)), (set_far ‹_› (by dsimp only; omega))⟩) | go_keep)
    (first | (go_at_call_of 85 (v1); refine (l02Mul_t _ _ _ _ _ x.natAbs f n Ha.out Hd.out (by omega) (by omega) HP1).mono ?_; rintro e w1 ⟨vo, rfl, ho1, hb1⟩; replace c0_0 := keep_cell (w1 := w1) hb1 c0_0; replace c0_1 := keep_cell (w1 := w1) hb1 c0_1; replace c0_2 := keep_cell (w1 := w1) hb1 c0_2; replace c1_0 := keep_cell (w1 := w1) hb1 c1_0; replace c1_1 := keep_cell (w1 := w1) hb1 c1_1; replace c1_2 := keep_cell (w1 := w1) hb1 c1_2; replace Ha := Lib.hid (Ha.out.below hb1 (Nat.le_refl _)); replace Hb := Lib.hid (Hb.out.below hb1 (Nat.le_refl _)); replace Hc := Lib.hid (Hc.out.below hb1 (Nat.le_refl _)); replace Hd := Lib.hid (Hd.out.below hb1 (Nat.le_refl _)); (try (replace Hp := Lib.hid (Hp.out.below hb1 (Nat.le_refl _)))); (try (replace Ht := Lib.hid (Ht.out.below hb1 (Nat.le_refl _)))); (try (replace Hq := Lib.hid (Hq.out.below hb1 (Nat.le_refl _)))); have Ho := Lib.hid (ho1.mono B0.size); clear ho1; replace B0 := B0.trans (hb1.mono B0.size); clear hb1) | (go_at_call_of 90 (Value.bool (ng x)); refine (l03Make_n _ _ _ _ n p Ho.out HP2 HP3).mono ?_; rintro e w2 ⟨vp, rfl, ho1, hb2⟩; replace c0_0 := keep_cell (w1 := w2) hb2 c0_0; replace c0_1 := keep_cell (w1 := w2) hb2 c0_1; replace c0_2 := keep_cell (w1 := w2) hb2 c0_2; replace c1_0 := keep_cell (w1 := w2) hb2 c1_0; replace c1_1 := keep_cell (w1 := w2) hb2 c1_1; replace c1_2 := keep_cell (w1 := w2) hb2 c1_2; replace Ha := Lib.hid (Ha.out.below hb2 (Nat.le_refl _)); replace Hb := Lib.hid (Hb.out.below hb2 (Nat.le_refl _)); replace Hc := Lib.hid (Hc.out.below hb2 (Nat.le_refl _)); replace Hd := Lib.hid (Hd.out.below hb2 (Nat.le_refl _)); (try (replace Ho := Lib.hid (Ho.out.below hb2 (Nat.le_refl _)))); (try (replace Ht := Lib.hid (Ht.out.below hb2 (Nat.le_refl _)))); (try (replace Hq := Lib.hid (Hq.out.below hb2 (Nat.le_refl _)))); have Hp := Lib.hid (ho1.mono B0.size); clear ho1; replace B0 := B0.trans (hb2.mono B0.size); clear hb2) | (go_at_call_of 85 (v2); refine (l02Mul_t _ _ _ _ _ y.natAbs d m Hc.out Hb.out (by omega) (by omega) HQ1).mono ?_; rintro e w3 ⟨vt, rfl, ho1, hb3⟩; replace c0_0 := keep_cell (w1 := w3) hb3 c0_0; replace c0_1 := keep_cell (w1 := w3) hb3 c0_1; replace c0_2 := keep_cell (w1 := w3) hb3 c0_2; replace c1_0 := keep_cell (w1 := w3) hb3 c1_0; replace c1_1 := keep_cell (w1 := w3) hb3 c1_1; replace c1_2 := keep_cell (w1 := w3) hb3 c1_2; replace Ha := Lib.hid (Ha.out.below hb3 (Nat.le_refl _)); replace Hb := Lib.hid (Hb.out.below hb3 (Nat.le_refl _)); replace Hc := Lib.hid (Hc.out.below hb3 (Nat.le_refl _)); replace Hd := Lib.hid (Hd.out.below hb3 (Nat.le_refl _)); (try (replace Ho := Lib.hid (Ho.out.below hb3 (Nat.le_refl _)))); (try (replace Hp := Lib.hid (Hp.out.below hb3 (Nat.le_refl _)))); (try (replace Hq := Lib.hid (Hq.out.below hb3 (Nat.le_refl _)))); have Ht := Lib.hid (ho1.mono B0.size); clear ho1; replace B0 := B0.trans (hb3.mono B0.size); clear hb3) | (go_at_call_of 90 (Value.bool (ng y)); refine (l03Make_n _ _ _ _ m q Ht.out HQ2 HQ3).mono ?_; rintro e w4 ⟨vq, rfl, ho1, hb4⟩; replace c0_0 := keep_cell (w1 := w4) hb4 c0_0; replace c0_1 := keep_cell (w1 := w4) hb4 c0_1; replace c0_2 := keep_cell (w1 := w4) hb4 c0_2; replace c1_0 := keep_cell (w1 := w4) hb4 c1_0; replace c1_1 := keep_cell (w1 := w4) hb4 c1_1; replace c1_2 := keep_cell (w1 := w4) hb4 c1_2; replace Ha := Lib.hid (Ha.out.below hb4 (Nat.le_refl _)); replace Hb := Lib.hid (Hb.out.below hb4 (Nat.le_refl _)); replace Hc := Lib.hid (Hc.out.below hb4 (Nat.le_refl _)); replace Hd := Lib.hid (Hd.out.below hb4 (Nat.le_refl _)); (try (replace Ho := Lib.hid (Ho.out.below hb4 (Nat.le_refl _)))); (try (replace Hp := Lib.hid (Hp.out.below hb4 (Nat.le_refl _)))); (try (replace Ht := Lib.hid (Ht.out.below hb4 (Nat.le_refl _)))); have Hq := Lib.hid (ho1.mono B0.size); clear ho1; replace B0 := B0.trans (hb4.mono B0.size); clear hb4) | (go_at_call 98; refine (l03Cmp_k _ _ _ _ _ p q c Hp.out Hq.out HC).mono ?_; rintro e w5 ⟨rfl, hb5⟩; replace c0_0 := keep_cell (w1 := w5) hb5 c0_0; replace c0_1 := keep_cell (w1 := w5) hb5 c0_1; replace c0_2 := keep_cell (w1 := w5) hb5 c0_2; replace c1_0 := keep_cell (w1 := w5) hb5 c1_0; replace c1_1 := keep_cell (w1 := w5) hb5 c1_1; replace c1_2 := keep_cell (w1 := w5) hb5 c1_2; replace Ha := Lib.hid (Ha.out.below hb5 (Nat.le_refl _)); replace Hb := Lib.hid (Hb.out.below hb5 (Nat.le_refl _)); replace Hc := Lib.hid (Hc.out.below hb5 (Nat.le_refl _)); replace Hd := Lib.hid (Hd.out.below hb5 (Nat.le_refl _)); (try (replace Ho := Lib.hid (Ho.out.below hb5 (Nat.le_refl _)))); (try (replace Hp := Lib.hid (Hp.out.below hb5 (Nat.le_refl _)))); (try (replace Ht := Lib.hid (Ht.out.below hb5 (Nat.le_refl _)))); (try (replace Hq := Lib.hid (Hq.out.below hb5 (Nat.le_refl _)))); replace B0 := B0.trans (hb5.mono B0.size); clear hb5))
  go_wp2
  go_ret
  exact retI rfl (BW.trans (B0.mono BW.size))

set_option maxHeartbeats 2000000 in
theorem sRatCmp_1 (w : World) (b1 e1 : Nat) (s : Bool) (v1 u1 : Value) (xs ys : List Int) (h1 : Own w b1 v1 xs) (k1 : Own w e1 u1 ys) (t : Bool) (v2 u2 : Value) (hx : ¬ OkR s xs ys) :
    Calls Try.prog 30 #[.agg #[.bool s, v1, u1], .agg #[.bool t, v2, u2]] w (RetI w 0) := by
  have BW : Below w.heap.size w ((w.alloc (.cells #[.bool s, v1, u1] 31)).alloc (.cells #[.bool t, v2, u2] 31)) := (((Below.refl w.heap.size w).alloc (Nat.le_refl _) _).alloc (by simp) _)
  obtain ⟨c0_0, c0_1, c0_2, c1_0, c1_1, c1_2⟩ : World.cell? ((w.alloc (.cells #[.bool s, v1, u1] 31)).alloc (.cells #[.bool t, v2, u2] 31)) ⟨w.heap.size, 0, none⟩ = some (.bool s) ∧ World.cell? ((w.alloc (.cells #[.bool s, v1, u1] 31)).alloc (.cells #[.bool t, v2, u2] 31)) ⟨w.heap.size, 1, none⟩ = some (v1) ∧ World.cell? ((w.alloc (.cells #[.bool s, v1, u1] 31)).alloc (.cells #[.bool t, v2, u2] 31)) ⟨w.heap.size, 2, none⟩ = some (u1) ∧ World.cell? ((w.alloc (.cells #[.bool s, v1, u1] 31)).alloc (.cells #[.bool t, v2, u2] 31)) ⟨w.heap.size + 1, 0, none⟩ = some (.bool t) ∧ World.cell? ((w.alloc (.cells #[.bool s, v1, u1] 31)).alloc (.cells #[.bool t, v2, u2] 31)) ⟨w.heap.size + 1, 1, none⟩ = some (v2) ∧ World.cell? ((w.alloc (.cells #[.bool s, v1, u1] 31)).alloc (.cells #[.bool t, v2, u2] 31)) ⟨w.heap.size + 1, 2, none⟩ = some (u2) := by simp [go_sem]
  have Ha := Lib.hid (h1.below BW (Nat.le_refl _))
  have Hb := Lib.hid (k1.below BW (Nat.le_refl _))
  clear h1 k1
  have HX := Lib.hid hx
  clear hx
  go_enter Try.func30, Try.ntmps30
  go_wp2_with fail
  generalize ((w.alloc (.cells #[.bool s, v1, u1] 31)).alloc (.cells #[.bool t, v2, u2] 31)) = w0 at *
  have B0 := Below.refl w0.heap.size w0
  refine (sRatOk_f _ _ _ _ _ _ _ _ Ha.out Hb.out HX.out).mono ?_
  rintro e w1 ⟨rfl, hb⟩
  replace c0_0 := keep_cell hb c0_0
  replace c0_1 := keep_cell hb c0_1
  replace c0_2 := keep_cell hb c0_2
  replace c1_0 := keep_cell hb c1_0
  replace c1_1 := keep_cell hb c1_1
  replace c1_2 := keep_cell hb c1_2
  replace Ha := Lib.hid (Ha.out.below hb (Nat.le_refl _))
  replace Hb := Lib.hid (Hb.out.below hb (Nat.le_refl _))
  replace B0 := B0.trans (hb.mono B0.size)
  clear hb
  go_wp2
  go_ret
  exact retI rfl (BW.trans (B0.mono BW.size))

set_option maxHeartbeats 2000000 in
theorem sRatCmp_2 (w : World) (b1 e1 : Nat) (s : Bool) (v1 u1 : Value) (xs ys : List Int) (h1 : Own w b1 v1 xs) (k1 : Own w e1 u1 ys) (b2 e2 : Nat) (t : Bool) (v2 u2 : Value) (zs ws : List Int) (h2 : Own w b2 v2 zs) (k2 : Own w e2 u2 ws) (hx : OkR s xs ys) (hy : ¬ OkR t zs ws) :
    Calls Try.prog 30 #[.agg #[.bool s, v1, u1], .agg #[.bool t, v2, u2]] w (RetI w 0) := by
  have BW : Below w.heap.size w ((w.alloc (.cells #[.bool s, v1, u1] 31)).alloc (.cells #[.bool t, v2, u2] 31)) := (((Below.refl w.heap.size w).alloc (Nat.le_refl _) _).alloc (by simp) _)
  obtain ⟨c0_0, c0_1, c0_2, c1_0, c1_1, c1_2⟩ : World.cell? ((w.alloc (.cells #[.bool s, v1, u1] 31)).alloc (.cells #[.bool t, v2, u2] 31)) ⟨w.heap.size, 0, none⟩ = some (.bool s) ∧ World.cell? ((w.alloc (.cells #[.bool s, v1, u1] 31)).alloc (.cells #[.bool t, v2, u2] 31)) ⟨w.heap.size, 1, none⟩ = some (v1) ∧ World.cell? ((w.alloc (.cells #[.bool s, v1, u1] 31)).alloc (.cells #[.bool t, v2, u2] 31)) ⟨w.heap.size, 2, none⟩ = some (u1) ∧ World.cell? ((w.alloc (.cells #[.bool s, v1, u1] 31)).alloc (.cells #[.bool t, v2, u2] 31)) ⟨w.heap.size + 1, 0, none⟩ = some (.bool t) ∧ World.cell? ((w.alloc (.cells #[.bool s, v1, u1] 31)).alloc (.cells #[.bool t, v2, u2] 31)) ⟨w.heap.size + 1, 1, none⟩ = some (v2) ∧ World.cell? ((w.alloc (.cells #[.bool s, v1, u1] 31)).alloc (.cells #[.bool t, v2, u2] 31)) ⟨w.heap.size + 1, 2, none⟩ = some (u2) := by simp [go_sem]
  have Ha := Lib.hid (h1.below BW (Nat.le_refl _))
  have Hb := Lib.hid (k1.below BW (Nat.le_refl _))
  have Hc := Lib.hid (h2.below BW (Nat.le_refl _))
  have Hd := Lib.hid (k2.below BW (Nat.le_refl _))
  clear h1 k1 h2 k2
  have HX := Lib.hid hx
  have HY := Lib.hid hy
  clear hx hy
  go_enter Try.func30, Try.ntmps30
  go_wp2_with fail
  generalize ((w.alloc (.cells #[.bool s, v1, u1] 31)).alloc (.cells #[.bool t, v2, u2] 31)) = w0 at *
  have B0 := Below.refl w0.heap.size w0
  refine (sRatOk_t _ _ _ _ _ _ _ _ Ha.out Hb.out HX.out).mono ?_
  rintro e w1 ⟨rfl, hb⟩
  replace c0_0 := keep_cell hb c0_0
  replace c0_1 := keep_cell hb c0_1
  replace c0_2 := keep_cell hb c0_2
  replace c1_0 := keep_cell hb c1_0
  replace c1_1 := keep_cell hb c1_1
  replace c1_2 := keep_cell hb c1_2
  replace Ha := Lib.hid (Ha.out.below hb (Nat.le_refl _))
  replace Hb := Lib.hid (Hb.out.below hb (Nat.le_refl _))
  replace Hc := Lib.hid (Hc.out.below hb (Nat.le_refl _))
  replace Hd := Lib.hid (Hd.out.below hb (Nat.le_refl _))
  replace B0 := B0.trans (hb.mono B0.size)
  clear hb
  go_wp2_with fail
  refine (sRatOk_f _ _ _ _ _ _ _ _ Hc.out Hd.out HY.out).mono ?_
  rintro e w2 ⟨rfl, hb⟩
  replace c0_0 := keep_cell hb c0_0
  replace c0_1 := keep_cell hb c0_1
  replace c0_2 := keep_cell hb c0_2
  replace c1_0 := keep_cell hb c1_0
  replace c1_1 := keep_cell hb c1_1
  replace c1_2 := keep_cell hb c1_2
  replace Ha := Lib.hid (Ha.out.below hb (Nat.le_refl _))
  replace Hb := Lib.hid (Hb.out.below hb (Nat.le_refl _))
  replace Hc := Lib.hid (Hc.out.below hb (Nat.le_refl _))
  replace Hd := Lib.hid (Hd.out.below hb (Nat.le_refl _))
  replace B0 := B0.trans (hb.mono B0.size)
  clear hb
  go_wp2
  go_ret
  exact retI rfl (BW.trans (B0.mono BW.size))

set_option maxHeartbeats 2000000 in
theorem sRatCmp_good (w : World) (b1 e1 : Nat) (v1 u1 : Value) (x : Int) (d : Nat) (h1 : Own w b1 v1 (limbs x.natAbs)) (k1 : Own w e1 u1 (limbs d)) (b2 e2 : Nat) (v2 u2 : Value) (y : Int) (f : Nat) (h2 : Own w b2 v2 (limbs y.natAbs)) (k2 : Own w e2 u2 (limbs f)) (hq : IsQ x d) (hk : IsQ y f) (c : Int) (hc : c = qcmp x d y f) :
    Calls Try.prog 30 #[.agg #[.bool (ng x), v1, u1], .agg #[.bool (ng y), v2, u2]] w (RetI w c) := by
  have BW : Below w.heap.size w ((w.alloc (.cells #[.bool (ng x), v1, u1] 31)).alloc (.cells #[.bool (ng y), v2, u2] 31)) := (((Below.refl w.heap.size w).alloc (Nat.le_refl _) _).alloc (by simp) _)
  obtain ⟨c0_0, c0_1, c0_2, c1_0, c1_1, c1_2⟩ : World.cell? ((w.alloc (.cells #[.bool (ng x), v1, u1] 31)).alloc (.cells #[.bool (ng y), v2, u2] 31)) ⟨w.heap.size, 0, none⟩ = some (.bool (ng x)) ∧ World.cell? ((w.alloc (.cells #[.bool (ng x), v1, u1] 31)).alloc (.cells #[.bool (ng y), v2, u2] 31)) ⟨w.heap.size, 1, none⟩ = some (v1) ∧ World.cell? ((w.alloc (.cells #[.bool (ng x), v1, u1] 31)).alloc (.cells #[.bool (ng y), v2, u2] 31)) ⟨w.heap.size, 2, none⟩ = some (u1) ∧ World.cell? ((w.alloc (.cells #[.bool (ng x), v1, u1] 31)).alloc (.cells #[.bool (ng y), v2, u2] 31)) ⟨w.heap.size + 1, 0, none⟩ = some (.bool (ng y)) ∧ World.cell? ((w.alloc (.cells #[.bool (ng x), v1, u1] 31)).alloc (.cells #[.bool (ng y), v2, u2] 31)) ⟨w.heap.size + 1, 1, none⟩ = some (v2) ∧ World.cell? ((w.alloc (.cells #[.bool (ng x), v1, u1] 31)).alloc (.cells #[.bool (ng y), v2, u2] 31)) ⟨w.heap.size + 1, 2, none⟩ = some (u2) := by simp [go_sem]
  have Ha := Lib.hid (h1.below BW (Nat.le_refl _))
  have Hb := Lib.hid (k1.below BW (Nat.le_refl _))
  have Hc := Lib.hid (h2.below BW (Nat.le_refl _))
  have Hd := Lib.hid (k2.below BW (Nat.le_refl _))
  clear h1 k1 h2 k2
  have HX := Lib.hid hq
  have HY := Lib.hid hk
  have l1 := hq.2.2.1
  have l2 := hq.2.2.2
  have l3 := hk.2.2.1
  have l4 := hk.2.2.2
  unfold Fit at l1 l2 l3 l4
  have HC := Lib.hid hc
  clear hq hk hc
  go_enter Try.func30, Try.ntmps30
  go_wp2_with fail
  generalize ((w.alloc (.cells #[.bool (ng x), v1, u1] 31)).alloc (.cells #[.bool (ng y), v2, u2] 31)) = w0 at *
  have B0 := Below.refl w0.heap.size w0
  refine (sRatOk_q _ _ _ _ _ x d Ha.out Hb.out HX.out).mono ?_
  rintro e w1 ⟨rfl, hb⟩
  replace c0_0 := keep_cell hb c0_0
  replace c0_1 := keep_cell hb c0_1
  replace c0_2 := keep_cell hb c0_2
  replace c1_0 := keep_cell hb c1_0
  replace c1_1 := keep_cell hb c1_1
  replace c1_2 := keep_cell hb c1_2
  replace Ha := Lib.hid (Ha.out.below hb (Nat.le_refl _))
  replace Hb := Lib.hid (Hb.out.below hb (Nat.le_refl _))
  replace Hc := Lib.hid (Hc.out.below hb (Nat.le_refl _))
  replace Hd := Lib.hid (Hd.out.below hb (Nat.le_refl _))
  replace B0 := B0.trans (hb.mono B0.size)
  clear hb
  go_wp2_with fail
  refine (sRatOk_q _ _ _ _ _ y f Hc.out Hd.out HY.out).mono ?_
  rintro e w2 ⟨rfl, hb⟩
  replace c0_0 := keep_cell hb c0_0
  replace c0_1 := keep_cell hb c0_1
  replace c0_2 := keep_cell hb c0_2
  replace c1_0 := keep_cell hb c1_0
  replace c1_1 := keep_cell hb c1_1
  replace c1_2 := keep_cell hb c1_2
  replace Ha := Lib.hid (Ha.out.below hb (Nat.le_refl _))
  replace Hb := Lib.hid (Hb.out.below hb (Nat.le_refl _))
  replace Hc := Lib.hid (Hc.out.below hb (Nat.le_refl _))
  replace Hd := Lib.hid (Hd.out.below hb (Nat.le_refl _))
  replace B0 := B0.trans (hb.mono B0.size)
  clear hb
  go_wp2_with fail
  refine (l04Cmp_c _ _ _ _ _ x d Ha.out Hb.out _ _ _ _ y f Hc.out Hd.out l1 l2 l3 l4 c HC.out).mono ?_
  rintro e w3 ⟨rfl, hb⟩
  replace c0_0 := keep_cell hb c0_0
  replace c0_1 := keep_cell hb c0_1
  replace c0_2 := keep_cell hb c0_2
  replace c1_0 := keep_cell hb c1_0
  replace c1_1 := keep_cell hb c1_1
  replace c1_2 := keep_cell hb c1_2
  replace Ha := Lib.hid (Ha.out.below hb (Nat.le_refl _))
  replace Hb := Lib.hid (Hb.out.below hb (Nat.le_refl _))
  replace Hc := Lib.hid (Hc.out.below hb (Nat.le_refl _))
  replace Hd := Lib.hid (Hd.out.below hb (Nat.le_refl _))
  replace B0 := B0.trans (hb.mono B0.size)
  clear hb
  go_wp2
  go_ret
  exact retI rfl (BW.trans (B0.mono BW.size))

theorem sRatCmp_c (w : World) (b1 e1 : Nat) (s : Bool) (v1 u1 : Value) (xs ys : List Int) (h1 : Own w b1 v1 xs) (k1 : Own w e1 u1 ys) (b2 e2 : Nat) (t : Bool) (v2 u2 : Value) (zs ws : List Int) (h2 : Own w b2 v2 zs) (k2 : Own w e2 u2 ws) : Calls Try.prog 30 #[.agg #[.bool s, v1, u1], .agg #[.bool t, v2, u2]] w (RetI w (qi2 qcmp s xs ys t zs ws)) := by
  by_cases hx : OkR s xs ys
  · by_cases hy : OkR t zs ws
    · rw [show qi2 qcmp s xs ys t zs ws = qcmp (zv s xs) (nv ys).toNat (zv t zs) (nv ws).toNat from if_pos ⟨hx, hy⟩]
      obtain ⟨x, d, rfl, rfl, rfl, hq, e3, e4⟩ := okR_q hx
      obtain ⟨y, f, rfl, rfl, rfl, hk, e5, e6⟩ := okR_q hy
      rw [e3, e4, e5, e6]
      exact sRatCmp_good w b1 e1 v1 u1 x d h1 k1 b2 e2 v2 u2 y f h2 k2 hq hk _ rfl
    · rw [show qi2 qcmp s xs ys t zs ws = 0 from if_neg fun h => hy h.2]
      exact sRatCmp_2 w b1 e1 s v1 u1 xs ys h1 k1 b2 e2 t v2 u2 zs ws h2 k2 hx hy
  · rw [show qi2 qcmp s xs ys t zs ws = 0 from if_neg fun h => hx h.1]
    exact sRatCmp_1 w b1 e1 s v1 u1 xs ys h1 k1 t v2 u2 hx

set_option maxHeartbeats 2000000 in
theorem sRatSign_bad (w : World) (b1 e1 : Nat) (s : Bool) (v1 u1 : Value) (xs ys : List Int) (h1 : Own w b1 v1 xs) (k1 : Own w e1 u1 ys) (hx : ¬ OkR s xs ys) :
    Calls Try.prog 28 #[.agg #[.bool s, v1, u1]] w (RetI w 0) := by
  have BW : Below w.heap.size w (w.alloc (.cells #[.bool s, v1, u1] 31)) := ((Below.refl w.heap.size w).alloc (Nat.le_refl _) _)
  obtain ⟨c0_0, c0_1, c0_2⟩ : World.cell? (w.alloc (.cells #[.bool s, v1, u1] 31)) ⟨w.heap.size, 0, none⟩ = some (.bool s) ∧ World.cell? (w.alloc (.cells #[.bool s, v1, u1] 31)) ⟨w.heap.size, 1, none⟩ = some (v1) ∧ World.cell? (w.alloc (.cells #[.bool s, v1, u1] 31)) ⟨w.heap.size, 2, none⟩ = some (u1) := by simp [go_sem]
  have Ha := Lib.hid (h1.below BW (Nat.le_refl _))
  have Hb := Lib.hid (k1.below BW (Nat.le_refl _))
  clear h1 k1
  have HX := Lib.hid hx
  clear hx
  go_enter Try.func28, Try.ntmps28
  go_wp2_with fail
  generalize (w.alloc (.cells #[.bool s, v1, u1] 31)) = w0 at *
  have B0 := Below.refl w0.heap.size w0
  refine (sRatOk_f _ _ _ _ _ _ _ _ Ha.out Hb.out HX.out).mono ?_
  rintro e w1 ⟨rfl, hb⟩
  replace c0_0 := keep_cell hb c0_0
  replace c0_1 := keep_cell hb c0_1
  replace c0_2 := keep_cell hb c0_2
  replace Ha := Lib.hid (Ha.out.below hb (Nat.le_refl _))
  replace Hb := Lib.hid (Hb.out.below hb (Nat.le_refl _))
  replace B0 := B0.trans (hb.mono B0.size)
  clear hb
  go_wp2
  go_ret
  exact retI rfl (BW.trans (B0.mono BW.size))

set_option maxHeartbeats 2000000 in
theorem sRatSign_n (w : World) (b1 e1 : Nat) (v1 u1 : Value) (x : Int) (d : Nat) (h1 : Own w b1 v1 (limbs x.natAbs)) (k1 : Own w e1 u1 (limbs d)) (hq : IsQ x d) (hx : x < 0) (hsg : ng x = true) :
    Calls Try.prog 28 #[.agg #[.bool true, v1, u1]] w (RetI w (-1)) := by
  obtain ⟨a1, c1, rfl, -, -, -, -, -⟩ := h1.form
  have BW : Below w.heap.size w (w.alloc (.cells #[.bool true, (.slice a1 (limbs x.natAbs).length c1), u1] 31)) := ((Below.refl w.heap.size w).alloc (Nat.le_refl _) _)
  obtain ⟨c0_0, c0_1, c0_2⟩ : World.cell? (w.alloc (.cells #[.bool true, (.slice a1 (limbs x.natAbs).length c1), u1] 31)) ⟨w.heap.size, 0, none⟩ = some (.bool true) ∧ World.cell? (w.alloc (.cells #[.bool true, (.slice a1 (limbs x.natAbs).length c1), u1] 31)) ⟨w.heap.size, 1, none⟩ = some ((.slice a1 (limbs x.natAbs).length c1)) ∧ World.cell? (w.alloc (.cells #[.bool true, (.slice a1 (limbs x.natAbs).length c1), u1] 31)) ⟨w.heap.size, 2, none⟩ = some (u1) := by simp [go_sem]
  have Ha := Lib.hid (h1.below BW (Nat.le_refl _))
  have Hb := Lib.hid (k1.below BW (Nat.le_refl _))
  clear h1 k1
  have hp := limbs_len_pos.2 (show 0 < x.natAbs by omega)
  have g1 : ((limbs x.natAbs).length == 0) = false := beq_eq_false_iff_ne.2 (by omega)
  have g2 : (((limbs x.natAbs).length : Int) == 0) = false := beq_eq_false_iff_ne.2 (by omega)
  have HX := Lib.hid (okR_of hq)
  rw [hsg] at HX
  clear hq hsg
  go_enter Try.func28, Try.ntmps28
  go_wp2_with fail
  generalize (w.alloc (.cells #[.bool true, (.slice a1 (limbs x.natAbs).length c1), u1] 31)) = w0 at *
  have B0 := Below.refl w0.heap.size w0
  refine (sRatOk_t _ _ _ _ _ _ _ _ Ha.out Hb.out HX.out).mono ?_
  rintro e w1 ⟨rfl, hb⟩
  replace c0_0 := keep_cell hb c0_0
  replace c0_1 := keep_cell hb c0_1
  replace c0_2 := keep_cell hb c0_2
  replace Ha := Lib.hid (Ha.out.below hb (Nat.le_refl _))
  replace Hb := Lib.hid (Hb.out.below hb (Nat.le_refl _))
  replace B0 := B0.trans (hb.mono B0.size)
  clear hb
  go_wp2
  go_ret
  exact retI rfl (BW.trans (B0.mono BW.size))

set_option maxHeartbeats 2000000 in
theorem sRatSign_p (w : World) (b1 e1 : Nat) (v1 u1 : Value) (x : Int) (d : Nat) (h1 : Own w b1 v1 (limbs x.natAbs)) (k1 : Own w e1 u1 (limbs d)) (hq : IsQ x d) (hx : 0 < x) (hsg : ng x = false) :
    Calls Try.prog 28 #[.agg #[.bool false, v1, u1]] w (RetI w (1)) := by
  obtain ⟨a1, c1, rfl, -, -, -, -, -⟩ := h1.form
  have BW : Below w.heap.size w (w.alloc (.cells #[.bool false, (.slice a1 (limbs x.natAbs).length c1), u1] 31)) := ((Below.refl w.heap.size w).alloc (Nat.le_refl _) _)
  obtain ⟨c0_0, c0_1, c0_2⟩ : World.cell? (w.alloc (.cells #[.bool false, (.slice a1 (limbs x.natAbs).length c1), u1] 31)) ⟨w.heap.size, 0, none⟩ = some (.bool false) ∧ World.cell? (w.alloc (.cells #[.bool false, (.slice a1 (limbs x.natAbs).length c1), u1] 31)) ⟨w.heap.size, 1, none⟩ = some ((.slice a1 (limbs x.natAbs).length c1)) ∧ World.cell? (w.alloc (.cells #[.bool false, (.slice a1 (limbs x.natAbs).length c1), u1] 31)) ⟨w.heap.size, 2, none⟩ = some (u1) := by simp [go_sem]
  have Ha := Lib.hid (h1.below BW (Nat.le_refl _))
  have Hb := Lib.hid (k1.below BW (Nat.le_refl _))
  clear h1 k1
  have hp := limbs_len_pos.2 (show 0 < x.natAbs by omega)
  have g1 : ((limbs x.natAbs).length == 0) = false := beq_eq_false_iff_ne.2 (by omega)
  have g2 : (((limbs x.natAbs).length : Int) == 0) = false := beq_eq_false_iff_ne.2 (by omega)
  have HX := Lib.hid (okR_of hq)
  rw [hsg] at HX
  clear hq hsg
  go_enter Try.func28, Try.ntmps28
  go_wp2_with fail
  generalize (w.alloc (.cells #[.bool false, (.slice a1 (limbs x.natAbs).length c1), u1] 31)) = w0 at *
  have B0 := Below.refl w0.heap.size w0
  refine (sRatOk_t _ _ _ _ _ _ _ _ Ha.out Hb.out HX.out).mono ?_
  rintro e w1 ⟨rfl, hb⟩
  replace c0_0 := keep_cell hb c0_0
  replace c0_1 := keep_cell hb c0_1
  replace c0_2 := keep_cell hb c0_2
  replace Ha := Lib.hid (Ha.out.below hb (Nat.le_refl _))
  replace Hb := Lib.hid (Hb.out.below hb (Nat.le_refl _))
  replace B0 := B0.trans (hb.mono B0.size)
  clear hb
  go_wp2
  go_ret
  exact retI rfl (BW.trans (B0.mono BW.size))

set_option maxHeartbeats 2000000 in
theorem sRatSign_z (w : World) (b1 e1 : Nat) (v1 u1 : Value) (ys : List Int) (h1 : Own w b1 v1 []) (k1 : Own w e1 u1 ys) (hx : OkR false [] ys) :
    Calls Try.prog 28 #[.agg #[.bool false, v1, u1]] w (RetI w 0) := by
  obtain ⟨a1, c1, rfl, -, -, -, -, -⟩ := h1.form
  have BW : Below w.heap.size w (w.alloc (.cells #[.bool false, (.slice a1 ([] : List Int).length c1), u1] 31)) := ((Below.refl w.heap.size w).alloc (Nat.le_refl _) _)
  obtain ⟨c0_0, c0_1, c0_2⟩ : World.cell? (w.alloc (.cells #[.bool false, (.slice a1 ([] : List Int).length c1), u1] 31)) ⟨w.heap.size, 0, none⟩ = some (.bool false) ∧ World.cell? (w.alloc (.cells #[.bool false, (.slice a1 ([] : List Int).length c1), u1] 31)) ⟨w.heap.size, 1, none⟩ = some ((.slice a1 ([] : List Int).length c1)) ∧ World.cell? (w.alloc (.cells #[.bool false, (.slice a1 ([] : List Int).length c1), u1] 31)) ⟨w.heap.size, 2, none⟩ = some (u1) := by simp [go_sem]
  have Ha := Lib.hid (h1.below BW (Nat.le_refl _))
  have Hb := Lib.hid (k1.below BW (Nat.le_refl _))
  clear h1 k1
  have g1 : (([] : List Int).length == 0) = true := rfl
  have g2 : ((([] : List Int).length : Int) == 0) = true := rfl
  have HX := Lib.hid hx
  clear hx
  go_enter Try.func28, Try.ntmps28
  go_wp2_with fail
  generalize (w.alloc (.cells #[.bool false, (.slice a1 ([] : List Int).length c1), u1] 31)) = w0 at *
  have B0 := Below.refl w0.heap.size w0
  refine (sRatOk_t _ _ _ _ _ _ _ _ Ha.out Hb.out HX.out).mono ?_
  rintro e w1 ⟨rfl, hb⟩
  replace c0_0 := keep_cell hb c0_0
  replace c0_1 := keep_cell hb c0_1
  replace c0_2 := keep_cell hb c0_2
  replace Ha := Lib.hid (Ha.out.below hb (Nat.le_refl _))
  replace Hb := Lib.hid (Hb.out.below hb (Nat.le_refl _))
  replace B0 := B0.trans (hb.mono B0.size)
  clear hb
  go_wp2
  go_ret
  exact retI rfl (BW.trans (B0.mono BW.size))

theorem sRatSign_c (w : World) (b1 e1 : Nat) (s : Bool) (v1 u1 : Value) (xs ys : List Int) (h1 : Own w b1 v1 xs) (k1 : Own w e1 u1 ys) : Calls Try.prog 28 #[.agg #[.bool s, v1, u1]] w (RetI w (rsgn s xs ys)) := by
  by_cases h : OkR s xs ys
  · rw [show rsgn s xs ys = sgn3 (zv s xs) from if_pos h]
    obtain ⟨x, d, rfl, rfl, rfl, hq, e3, e4⟩ := okR_q h
    rw [e3]
    unfold sgn3
    rcases ng_cases x with ⟨h5, e⟩ | ⟨h5, e⟩
    · rw [if_pos h5, e]; exact sRatSign_n w b1 e1 v1 u1 x d h1 k1 hq h5 e
    · rw [if_neg (by omega)]
      by_cases h0 : 0 < x
      · rw [if_pos h0, e]; exact sRatSign_p w b1 e1 v1 u1 x d h1 k1 hq h0 e
      · rw [if_neg h0]
        obtain rfl : x = 0 := by omega
        exact sRatSign_z w b1 e1 v1 u1 _ h1 k1 (okR_of hq)
  · rw [show rsgn s xs ys = 0 from if_neg h]
    exact sRatSign_bad w b1 e1 s v1 u1 xs ys h1 k1 h

set_option maxHeartbeats 2000000 in
theorem sRatEqual_1 (w : World) (s t : Bool) (v1 u1 v2 u2 : Value) (hs : s ≠ t) : Calls Try.prog 18 #[.agg #[.bool s, v1, u1], .agg #[.bool t, v2, u2]] w (RetB w false) := by
  have ds : (s == t) = false := by simpa using hs
  clear hs
  go_enter Try.func18, Try.ntmps18
  go_wp2
  go_ret
  exact retB rfl (((Below.refl _ _).alloc (Nat.le_refl _) _).alloc (by simp) _)

set_option maxHeartbeats 2000000 in
theorem sRatEqual_2 (w : World) (b1 e1 : Nat) (s : Bool) (v1 u1 : Value) (xs ys : List Int) (h1 : Own w b1 v1 xs) (k1 : Own w e1 u1 ys) (b2 e2 : Nat) (v2 u2 : Value) (zs ws : List Int) (h2 : Own w b2 v2 zs) (k2 : Own w e2 u2 ws) (hx : xs ≠ zs) :
    Calls Try.prog 18 #[.agg #[.bool s, v1, u1], .agg #[.bool s, v2, u2]] w (RetB w false) := by
  have BW : Below w.heap.size w ((w.alloc (.cells #[.bool s, v1, u1] 31)).alloc (.cells #[.bool s, v2, u2] 31)) := (((Below.refl w.heap.size w).alloc (Nat.le_refl _) _).alloc (by simp) _)
  obtain ⟨c0_0, c0_1, c0_2, c1_0, c1_1, c1_2⟩ : World.cell? ((w.alloc (.cells #[.bool s, v1, u1] 31)).alloc (.cells #[.bool s, v2, u2] 31)) ⟨w.heap.size, 0, none⟩ = some (.bool s) ∧ World.cell? ((w.alloc (.cells #[.bool s, v1, u1] 31)).alloc (.cells #[.bool s, v2, u2] 31)) ⟨w.heap.size, 1, none⟩ = some (v1) ∧ World.cell? ((w.alloc (.cells #[.bool s, v1, u1] 31)).alloc (.cells #[.bool s, v2, u2] 31)) ⟨w.heap.size, 2, none⟩ = some (u1) ∧ World.cell? ((w.alloc (.cells #[.bool s, v1, u1] 31)).alloc (.cells #[.bool s, v2, u2] 31)) ⟨w.heap.size + 1, 0, none⟩ = some (.bool s) ∧ World.cell? ((w.alloc (.cells #[.bool s, v1, u1] 31)).alloc (.cells #[.bool s, v2, u2] 31)) ⟨w.heap.size + 1, 1, none⟩ = some (v2) ∧ World.cell? ((w.alloc (.cells #[.bool s, v1, u1] 31)).alloc (.cells #[.bool s, v2, u2] 31)) ⟨w.heap.size + 1, 2, none⟩ = some (u2) := by simp [go_sem]
  have Ha := Lib.hid (h1.below BW (Nat.le_refl _))
  have Hb := Lib.hid (k1.below BW (Nat.le_refl _))
  have Hc := Lib.hid (h2.below BW (Nat.le_refl _))
  have Hd := Lib.hid (k2.below BW (Nat.le_refl _))
  clear h1 k1 h2 k2
  have HE : Hid (false = decide (xs = zs)) := (decide_eq_false hx).symm
  clear hx
  go_enter Try.func18, Try.ntmps18
  go_wp2_with fail
  generalize ((w.alloc (.cells #[.bool s, v1, u1] 31)).alloc (.cells #[.bool s, v2, u2] 31)) = w0 at *
  have B0 := Below.refl w0.heap.size w0
  refine (l04List_c _ _ _ _ _ xs zs false HE Ha.out Hc.out).mono ?_
  rintro e w1 ⟨rfl, hb⟩
  replace c0_0 := keep_cell hb c0_0
  replace c0_1 := keep_cell hb c0_1
  replace c0_2 := keep_cell hb c0_2
  replace c1_0 := keep_cell hb c1_0
  replace c1_1 := keep_cell hb c1_1
  replace c1_2 := keep_cell hb c1_2
  replace Ha := Lib.hid (Ha.out.below hb (Nat.le_refl _))
  replace Hb := Lib.hid (Hb.out.below hb (Nat.le_refl _))
  replace Hc := Lib.hid (Hc.out.below hb (Nat.le_refl _))
  replace Hd := Lib.hid (Hd.out.below hb (Nat.le_refl _))
  replace B0 := B0.trans (hb.mono B0.size)
  clear hb
  go_wp2
  go_ret
  exact retB rfl (BW.trans (B0.mono BW.size))

theorem l04List_s (w : World) (b1 b2 : Nat) (v1 v2 : Value) (xs : List Int) (h1 : Own w b1 v1 xs) (h2 : Own w b2 v2 xs) : Calls Try.prog 55 #[v1, v2] w (RetB w true) :=
  l04List_c w b1 b2 v1 v2 xs xs true (by simp [Hid]) h1 h2

set_option maxHeartbeats 2000000 in
theorem sRatEqual_3 (w : World) (b1 e1 : Nat) (s : Bool) (v1 u1 : Value) (xs ys : List Int) (h1 : Own w b1 v1 xs) (k1 : Own w e1 u1 ys) (b2 e2 : Nat) (v2 u2 : Value) (ws : List Int) (h2 : Own w b2 v2 xs) (k2 : Own w e2 u2 ws) (c : Bool) (hc : c = decide (ys = ws)) :
    Calls Try.prog 18 #[.agg #[.bool s, v1, u1], .agg #[.bool s, v2, u2]] w (RetB w c) := by
  have BW : Below w.heap.size w ((w.alloc (.cells #[.bool s, v1, u1] 31)).alloc (.cells #[.bool s, v2, u2] 31)) := (((Below.refl w.heap.size w).alloc (Nat.le_refl _) _).alloc (by simp) _)
  obtain ⟨c0_0, c0_1, c0_2, c1_0, c1_1, c1_2⟩ : World.cell? ((w.alloc (.cells #[.bool s, v1, u1] 31)).alloc (.cells #[.bool s, v2, u2] 31)) ⟨w.heap.size, 0, none⟩ = some (.bool s) ∧ World.cell? ((w.alloc (.cells #[.bool s, v1, u1] 31)).alloc (.cells #[.bool s, v2, u2] 31)) ⟨w.heap.size, 1, none⟩ = some (v1) ∧ World.cell? ((w.alloc (.cells #[.bool s, v1, u1] 31)).alloc (.cells #[.bool s, v2, u2] 31)) ⟨w.heap.size, 2, none⟩ = some (u1) ∧ World.cell? ((w.alloc (.cells #[.bool s, v1, u1] 31)).alloc (.cells #[.bool s, v2, u2] 31)) ⟨w.heap.size + 1, 0, none⟩ = some (.bool s) ∧ World.cell? ((w.alloc (.cells #[.bool s, v1, u1] 31)).alloc (.cells #[.bool s, v2, u2] 31)) ⟨w.heap.size + 1, 1, none⟩ = some (v2) ∧ World.cell? ((w.alloc (.cells #[.bool s, v1, u1] 31)).alloc (.cells #[.bool s, v2, u2] 31)) ⟨w.heap.size + 1, 2, none⟩ = some (u2) := by simp [go_sem]
  have Ha := Lib.hid (h1.below BW (Nat.le_refl _))
  have Hb := Lib.hid (k1.below BW (Nat.le_refl _))
  have Hc := Lib.hid (h2.below BW (Nat.le_refl _))
  have Hd := Lib.hid (k2.below BW (Nat.le_refl _))
  clear h1 k1 h2 k2
  have HT : Hid (c = decide (ys = ws)) := hc
  clear hc
  go_enter Try.func18, Try.ntmps18
  go_wp2_with fail
  generalize ((w.alloc (.cells #[.bool s, v1, u1] 31)).alloc (.cells #[.bool s, v2, u2] 31)) = w0 at *
  have B0 := Below.refl w0.heap.size w0
  refine (l04List_s _ _ _ _ _ xs Ha.out Hc.out).mono ?_
  rintro e w1 ⟨rfl, hb⟩
  replace c0_0 := keep_cell hb c0_0
  replace c0_1 := keep_cell hb c0_1
  replace c0_2 := keep_cell hb c0_2
  replace c1_0 := keep_cell hb c1_0
  replace c1_1 := keep_cell hb c1_1
  replace c1_2 := keep_cell hb c1_2
  replace Ha := Lib.hid (Ha.out.below hb (Nat.le_refl _))
  replace Hb := Lib.hid (Hb.out.below hb (Nat.le_refl _))
  replace Hc := Lib.hid (Hc.out.below hb (Nat.le_refl _))
  replace Hd := Lib.hid (Hd.out.below hb (Nat.le_refl _))
  replace B0 := B0.trans (hb.mono B0.size)
  clear hb
  go_wp2_with fail
  refine (l04List_c _ _ _ _ _ ys ws c HT Hb.out Hd.out).mono ?_
  rintro e w2 ⟨rfl, hb⟩
  replace c0_0 := keep_cell hb c0_0
  replace c0_1 := keep_cell hb c0_1
  replace c0_2 := keep_cell hb c0_2
  replace c1_0 := keep_cell hb c1_0
  replace c1_1 := keep_cell hb c1_1
  replace c1_2 := keep_cell hb c1_2
  replace Ha := Lib.hid (Ha.out.below hb (Nat.le_refl _))
  replace Hb := Lib.hid (Hb.out.below hb (Nat.le_refl _))
  replace Hc := Lib.hid (Hc.out.below hb (Nat.le_refl _))
  replace Hd := Lib.hid (Hd.out.below hb (Nat.le_refl _))
  replace B0 := B0.trans (hb.mono B0.size)
  clear hb
  go_wp2
  go_ret
  exact retB rfl (BW.trans (B0.mono BW.size))

theorem sRatEqual_c (w : World) (b1 e1 : Nat) (s : Bool) (v1 u1 : Value) (xs ys : List Int) (h1 : Own w b1 v1 xs) (k1 : Own w e1 u1 ys) (b2 e2 : Nat) (t : Bool) (v2 u2 : Value) (zs ws : List Int) (h2 : Own w b2 v2 zs) (k2 : Own w e2 u2 ws) : Calls Try.prog 18 #[.agg #[.bool s, v1, u1], .agg #[.bool t, v2, u2]] w (RetB w (reqB s xs ys t zs ws)) := by
  by_cases hs : s = t
  · subst hs
    by_cases hx : xs = zs
    · subst hx
      exact sRatEqual_3 w b1 e1 s v1 u1 xs ys h1 k1 b2 e2 v2 u2 ws h2 k2 _ (by simp [reqB])
    · rw [show reqB s xs ys s zs ws = false by simp [reqB, hx]]
      exact sRatEqual_2 w b1 e1 s v1 u1 xs ys h1 k1 b2 e2 v2 u2 zs ws h2 k2 hx
  · rw [show reqB s xs ys t zs ws = false by simp [reqB, hs]]
    exact sRatEqual_1 w s t v1 u1 v2 u2 hs

end Go.Proofs.Ytlideggpdailkaa
