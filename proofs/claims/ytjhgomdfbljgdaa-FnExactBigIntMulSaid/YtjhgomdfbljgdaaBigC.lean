/- The program's exported functions on signed numbers. -/
import Derived.Test.YtjhgomdfbljgdaaBigB
import Derived.Test.YtjhgomdfbljgdaaBigV
namespace Go.Proofs.Ytjhgomdfbljgdaa
open Go.RowKit Lm

theorem fitting_zz (w : World) (b1 : Nat) (v1 : Value) (z zf : Int) (h1 : Own w b1 v1 (limbs z.natAbs)) (hf : Hid (zf = fitZ z)) : Calls Try.prog 83 #[.agg #[.bool (ng z), v1]] w (RetZV w b1 v1 zf) := by
  rw [hf.out]; exact fitting_c w b1 v1 z h1

set_option maxHeartbeats 1000000 in
theorem BigIntNeg_bad (w : World) (b1 : Nat) (s : Bool) (v1 : Value) (xs : List Int) (h1 : Own w b1 v1 xs) (hx : ¬ OkG s xs) :
    Calls Try.prog 47 #[.agg #[.bool s, v1]] w (RetZ w 0) := by
  have BW : Below w.heap.size w ((w.alloc (.cells #[.bool s, v1] 33)).alloc (.cells #[.bool false, .slice none 0 0] 33)) := (((Below.refl w.heap.size w).alloc (Nat.le_refl _) _).alloc (by simp) _)
  obtain ⟨c0_0, c0_1, c1_0, c1_1, q0, q1⟩ : World.cell? ((w.alloc (.cells #[.bool s, v1] 33)).alloc (.cells #[.bool false, .slice none 0 0] 33)) ⟨w.heap.size, 0, none⟩ = some (.bool s) ∧ World.cell? ((w.alloc (.cells #[.bool s, v1] 33)).alloc (.cells #[.bool false, .slice none 0 0] 33)) ⟨w.heap.size, 1, none⟩ = some (v1) ∧ World.cell? ((w.alloc (.cells #[.bool s, v1] 33)).alloc (.cells #[.bool false, .slice none 0 0] 33)) ⟨w.heap.size + 1, 0, none⟩ = some (.bool false) ∧ World.cell? ((w.alloc (.cells #[.bool s, v1] 33)).alloc (.cells #[.bool false, .slice none 0 0] 33)) ⟨w.heap.size + 1, 1, none⟩ = some (.slice none 0 0) ∧ World.frozen? ((w.alloc (.cells #[.bool s, v1] 33)).alloc (.cells #[.bool false, .slice none 0 0] 33)) ⟨w.heap.size + 1, 0, none⟩ = false ∧ World.frozen? ((w.alloc (.cells #[.bool s, v1] 33)).alloc (.cells #[.bool false, .slice none 0 0] 33)) ⟨w.heap.size + 1, 1, none⟩ = false := by simp [go_sem]
  have hg0 : w.heap.size + 1 < (((w.alloc (.cells #[.bool s, v1] 33)).alloc (.cells #[.bool false, .slice none 0 0] 33))).heap.size := World.block_lt_of_cell? _ _ c1_0
  have Hv := Lib.hid (h1.below BW (Nat.le_refl _))
  clear h1
  have HX := Lib.hid hx
  clear hx
  go_enter Try.func47, Try.ntmps47
  go_wp2_with fail
  generalize ((w.alloc (.cells #[.bool s, v1] 33)).alloc (.cells #[.bool false, .slice none 0 0] 33)) = w0 at *
  have B0 := Below.refl w0.heap.size w0
  refine (bigIntOk_f _ _ _ _ _ Hv.out HX.out).mono ?_
  rintro e w1 ⟨rfl, hb⟩
  replace c0_0 := keep_cell hb c0_0
  replace c0_1 := keep_cell hb c0_1
  replace q0 := keep_frozen (w1 := w1) hb c1_0 q0
  replace c1_0 := keep_cell (w1 := w1) hb c1_0
  replace q1 := keep_frozen (w1 := w1) hb c1_1 q1
  replace c1_1 := keep_cell (w1 := w1) hb c1_1
  replace Hv := Lib.hid (Hv.out.below hb (Nat.le_refl _))
  replace B0 := B0.trans (hb.mono B0.size)
  clear hb
  go_wp2
  exact bodyPost_ret (v := .agg #[.bool false, .slice none 0 0]) (by simp [results, Try.results47, go_sem, c1_0, c1_1]) rfl (retG_end BW (by omega) hg0 B0 (Own.nil _ _))

set_option maxHeartbeats 1000000 in
theorem BigIntNeg_good (w : World) (b1 : Nat) (v1 : Value) (x : Int) (h1 : Own w b1 v1 (limbs x.natAbs)) (hl1 : (limbs x.natAbs).length ≤ 60) (zf : Int) (hf : zf = -x) :
    Calls Try.prog 47 #[.agg #[.bool (ng x), v1]] w (RetZ w zf) := by
  have BW : Below w.heap.size w ((w.alloc (.cells #[.bool (ng x), v1] 33)).alloc (.cells #[.bool false, .slice none 0 0] 33)) := (((Below.refl w.heap.size w).alloc (Nat.le_refl _) _).alloc (by simp) _)
  obtain ⟨c0_0, c0_1, c1_0, c1_1, q0, q1⟩ : World.cell? ((w.alloc (.cells #[.bool (ng x), v1] 33)).alloc (.cells #[.bool false, .slice none 0 0] 33)) ⟨w.heap.size, 0, none⟩ = some (.bool (ng x)) ∧ World.cell? ((w.alloc (.cells #[.bool (ng x), v1] 33)).alloc (.cells #[.bool false, .slice none 0 0] 33)) ⟨w.heap.size, 1, none⟩ = some (v1) ∧ World.cell? ((w.alloc (.cells #[.bool (ng x), v1] 33)).alloc (.cells #[.bool false, .slice none 0 0] 33)) ⟨w.heap.size + 1, 0, none⟩ = some (.bool false) ∧ World.cell? ((w.alloc (.cells #[.bool (ng x), v1] 33)).alloc (.cells #[.bool false, .slice none 0 0] 33)) ⟨w.heap.size + 1, 1, none⟩ = some (.slice none 0 0) ∧ World.frozen? ((w.alloc (.cells #[.bool (ng x), v1] 33)).alloc (.cells #[.bool false, .slice none 0 0] 33)) ⟨w.heap.size + 1, 0, none⟩ = false ∧ World.frozen? ((w.alloc (.cells #[.bool (ng x), v1] 33)).alloc (.cells #[.bool false, .slice none 0 0] 33)) ⟨w.heap.size + 1, 1, none⟩ = false := by simp [go_sem]
  have hg0 : w.heap.size + 1 < (((w.alloc (.cells #[.bool (ng x), v1] 33)).alloc (.cells #[.bool false, .slice none 0 0] 33))).heap.size := World.block_lt_of_cell? _ _ c1_0
  have Hv := Lib.hid (h1.below BW (Nat.le_refl _))
  clear h1
  have m1 : (limbs x.natAbs).length ≤ 900 := by omega
  have HF := Lib.hid hf
  clear hf
  go_enter Try.func47, Try.ntmps47
  go_wp2_with fail
  generalize ((w.alloc (.cells #[.bool (ng x), v1] 33)).alloc (.cells #[.bool false, .slice none 0 0] 33)) = w0 at *
  have B0 := Below.refl w0.heap.size w0
  refine (bigIntOk_z _ _ _ x Hv.out hl1).mono ?_
  rintro e w1 ⟨rfl, hb⟩
  replace c0_0 := keep_cell hb c0_0
  replace c0_1 := keep_cell hb c0_1
  replace q0 := keep_frozen (w1 := w1) hb c1_0 q0
  replace c1_0 := keep_cell (w1 := w1) hb c1_0
  replace q1 := keep_frozen (w1 := w1) hb c1_1 q1
  replace c1_1 := keep_cell (w1 := w1) hb c1_1
  replace Hv := Lib.hid (Hv.out.below hb (Nat.le_refl _))
  replace B0 := B0.trans (hb.mono B0.size)
  clear hb
  go_wp2_with fail
  refine (bigNeg_c _ _ _ x Hv.out m1 zf HF.out).mono ?_
  rintro e w2 ⟨vr, rfl, ho1, hb⟩
  replace c0_0 := keep_cell hb c0_0
  replace c0_1 := keep_cell hb c0_1
  replace q0 := keep_frozen (w1 := w2) hb c1_0 q0
  replace c1_0 := keep_cell (w1 := w2) hb c1_0
  replace q1 := keep_frozen (w1 := w2) hb c1_1 q1
  replace c1_1 := keep_cell (w1 := w2) hb c1_1
  replace Hv := Lib.hid (Hv.out.below hb (Nat.le_refl _))
  have Hr := Lib.hid (ho1.mono B0.size)
  clear ho1
  obtain ⟨ar, cr, rfl, -, -, -, -, -⟩ := Hr.out.form
  replace B0 := B0.trans (hb.mono B0.size)
  clear hb
  go_wp2
  exact bodyPost_ret (v := .agg #[.bool (ng zf), .slice ar (limbs zf.natAbs).length cr]) (by simp [results, Try.results47, go_sem, c1_0, c1_1]) rfl (retG_end BW (by omega) hg0 B0 Hr.out)

set_option maxHeartbeats 1000000 in
theorem BigIntAdd_bad1 (w : World) (b1 : Nat) (s t : Bool) (v1 v2 : Value) (xs : List Int) (h1 : Own w b1 v1 xs) (hx : ¬ OkG s xs) :
    Calls Try.prog 57 #[.agg #[.bool s, v1], .agg #[.bool t, v2]] w (RetZ w 0) := by
  have BW : Below w.heap.size w (((w.alloc (.cells #[.bool s, v1] 33)).alloc (.cells #[.bool t, v2] 33)).alloc (.cells #[.bool false, .slice none 0 0] 33)) := ((((Below.refl w.heap.size w).alloc (Nat.le_refl _) _).alloc (by simp) _).alloc (by simp; omega) _)
  obtain ⟨c0_0, c0_1, c1_0, c1_1, c2_0, c2_1, q0, q1⟩ : World.cell? (((w.alloc (.cells #[.bool s, v1] 33)).alloc (.cells #[.bool t, v2] 33)).alloc (.cells #[.bool false, .slice none 0 0] 33)) ⟨w.heap.size, 0, none⟩ = some (.bool s) ∧ World.cell? (((w.alloc (.cells #[.bool s, v1] 33)).alloc (.cells #[.bool t, v2] 33)).alloc (.cells #[.bool false, .slice none 0 0] 33)) ⟨w.heap.size, 1, none⟩ = some (v1) ∧ World.cell? (((w.alloc (.cells #[.bool s, v1] 33)).alloc (.cells #[.bool t, v2] 33)).alloc (.cells #[.bool false, .slice none 0 0] 33)) ⟨w.heap.size + 1, 0, none⟩ = some (.bool t) ∧ World.cell? (((w.alloc (.cells #[.bool s, v1] 33)).alloc (.cells #[.bool t, v2] 33)).alloc (.cells #[.bool false, .slice none 0 0] 33)) ⟨w.heap.size + 1, 1, none⟩ = some (v2) ∧ World.cell? (((w.alloc (.cells #[.bool s, v1] 33)).alloc (.cells #[.bool t, v2] 33)).alloc (.cells #[.bool false, .slice none 0 0] 33)) ⟨w.heap.size + 1 + 1, 0, none⟩ = some (.bool false) ∧ World.cell? (((w.alloc (.cells #[.bool s, v1] 33)).alloc (.cells #[.bool t, v2] 33)).alloc (.cells #[.bool false, .slice none 0 0] 33)) ⟨w.heap.size + 1 + 1, 1, none⟩ = some (.slice none 0 0) ∧ World.frozen? (((w.alloc (.cells #[.bool s, v1] 33)).alloc (.cells #[.bool t, v2] 33)).alloc (.cells #[.bool false, .slice none 0 0] 33)) ⟨w.heap.size + 1 + 1, 0, none⟩ = false ∧ World.frozen? (((w.alloc (.cells #[.bool s, v1] 33)).alloc (.cells #[.bool t, v2] 33)).alloc (.cells #[.bool false, .slice none 0 0] 33)) ⟨w.heap.size + 1 + 1, 1, none⟩ = false := by simp [go_sem]
  have hg0 : w.heap.size + 1 + 1 < ((((w.alloc (.cells #[.bool s, v1] 33)).alloc (.cells #[.bool t, v2] 33)).alloc (.cells #[.bool false, .slice none 0 0] 33))).heap.size := World.block_lt_of_cell? _ _ c2_0
  have Hv := Lib.hid (h1.below BW (Nat.le_refl _))
  clear h1
  have HX := Lib.hid hx
  clear hx
  go_enter Try.func57, Try.ntmps57
  go_wp2_with fail
  generalize (((w.alloc (.cells #[.bool s, v1] 33)).alloc (.cells #[.bool t, v2] 33)).alloc (.cells #[.bool false, .slice none 0 0] 33)) = w0 at *
  have B0 := Below.refl w0.heap.size w0
  refine (bigIntOk_f _ _ _ _ _ Hv.out HX.out).mono ?_
  rintro e w1 ⟨rfl, hb⟩
  replace c0_0 := keep_cell hb c0_0
  replace c0_1 := keep_cell hb c0_1
  replace c1_0 := keep_cell hb c1_0
  replace c1_1 := keep_cell hb c1_1
  replace q0 := keep_frozen (w1 := w1) hb c2_0 q0
  replace c2_0 := keep_cell (w1 := w1) hb c2_0
  replace q1 := keep_frozen (w1 := w1) hb c2_1 q1
  replace c2_1 := keep_cell (w1 := w1) hb c2_1
  replace Hv := Lib.hid (Hv.out.below hb (Nat.le_refl _))
  replace B0 := B0.trans (hb.mono B0.size)
  clear hb
  go_wp2
  exact bodyPost_ret (v := .agg #[.bool false, .slice none 0 0]) (by simp [results, Try.results57, go_sem, c2_0, c2_1]) rfl (retG_end BW (by omega) hg0 B0 (Own.nil _ _))

set_option maxHeartbeats 1000000 in
theorem BigIntAdd_bad2 (w : World) (b1 b2 : Nat) (s t : Bool) (v1 v2 : Value) (xs ys : List Int) (h1 : Own w b1 v1 xs) (h2 : Own w b2 v2 ys) (hx : OkG s xs) (hy : ¬ OkG t ys) :
    Calls Try.prog 57 #[.agg #[.bool s, v1], .agg #[.bool t, v2]] w (RetZ w 0) := by
  have BW : Below w.heap.size w (((w.alloc (.cells #[.bool s, v1] 33)).alloc (.cells #[.bool t, v2] 33)).alloc (.cells #[.bool false, .slice none 0 0] 33)) := ((((Below.refl w.heap.size w).alloc (Nat.le_refl _) _).alloc (by simp) _).alloc (by simp; omega) _)
  obtain ⟨c0_0, c0_1, c1_0, c1_1, c2_0, c2_1, q0, q1⟩ : World.cell? (((w.alloc (.cells #[.bool s, v1] 33)).alloc (.cells #[.bool t, v2] 33)).alloc (.cells #[.bool false, .slice none 0 0] 33)) ⟨w.heap.size, 0, none⟩ = some (.bool s) ∧ World.cell? (((w.alloc (.cells #[.bool s, v1] 33)).alloc (.cells #[.bool t, v2] 33)).alloc (.cells #[.bool false, .slice none 0 0] 33)) ⟨w.heap.size, 1, none⟩ = some (v1) ∧ World.cell? (((w.alloc (.cells #[.bool s, v1] 33)).alloc (.cells #[.bool t, v2] 33)).alloc (.cells #[.bool false, .slice none 0 0] 33)) ⟨w.heap.size + 1, 0, none⟩ = some (.bool t) ∧ World.cell? (((w.alloc (.cells #[.bool s, v1] 33)).alloc (.cells #[.bool t, v2] 33)).alloc (.cells #[.bool false, .slice none 0 0] 33)) ⟨w.heap.size + 1, 1, none⟩ = some (v2) ∧ World.cell? (((w.alloc (.cells #[.bool s, v1] 33)).alloc (.cells #[.bool t, v2] 33)).alloc (.cells #[.bool false, .slice none 0 0] 33)) ⟨w.heap.size + 1 + 1, 0, none⟩ = some (.bool false) ∧ World.cell? (((w.alloc (.cells #[.bool s, v1] 33)).alloc (.cells #[.bool t, v2] 33)).alloc (.cells #[.bool false, .slice none 0 0] 33)) ⟨w.heap.size + 1 + 1, 1, none⟩ = some (.slice none 0 0) ∧ World.frozen? (((w.alloc (.cells #[.bool s, v1] 33)).alloc (.cells #[.bool t, v2] 33)).alloc (.cells #[.bool false, .slice none 0 0] 33)) ⟨w.heap.size + 1 + 1, 0, none⟩ = false ∧ World.frozen? (((w.alloc (.cells #[.bool s, v1] 33)).alloc (.cells #[.bool t, v2] 33)).alloc (.cells #[.bool false, .slice none 0 0] 33)) ⟨w.heap.size + 1 + 1, 1, none⟩ = false := by simp [go_sem]
  have hg0 : w.heap.size + 1 + 1 < ((((w.alloc (.cells #[.bool s, v1] 33)).alloc (.cells #[.bool t, v2] 33)).alloc (.cells #[.bool false, .slice none 0 0] 33))).heap.size := World.block_lt_of_cell? _ _ c2_0
  have Hv := Lib.hid (h1.below BW (Nat.le_refl _))
  have Hu := Lib.hid (h2.below BW (Nat.le_refl _))
  clear h1 h2
  have HX := Lib.hid hx
  have HY := Lib.hid hy
  clear hx hy
  go_enter Try.func57, Try.ntmps57
  go_wp2_with fail
  generalize (((w.alloc (.cells #[.bool s, v1] 33)).alloc (.cells #[.bool t, v2] 33)).alloc (.cells #[.bool false, .slice none 0 0] 33)) = w0 at *
  have B0 := Below.refl w0.heap.size w0
  refine (bigIntOk_t _ _ _ _ _ Hv.out HX.out).mono ?_
  rintro e w1 ⟨rfl, hb⟩
  replace c0_0 := keep_cell hb c0_0
  replace c0_1 := keep_cell hb c0_1
  replace c1_0 := keep_cell hb c1_0
  replace c1_1 := keep_cell hb c1_1
  replace q0 := keep_frozen (w1 := w1) hb c2_0 q0
  replace c2_0 := keep_cell (w1 := w1) hb c2_0
  replace q1 := keep_frozen (w1 := w1) hb c2_1 q1
  replace c2_1 := keep_cell (w1 := w1) hb c2_1
  replace Hv := Lib.hid (Hv.out.below hb (Nat.le_refl _))
  replace Hu := Lib.hid (Hu.out.below hb (Nat.le_refl _))
  replace B0 := B0.trans (hb.mono B0.size)
  clear hb
  go_wp2_with fail
  refine (bigIntOk_f _ _ _ _ _ Hu.out HY.out).mono ?_
  rintro e w2 ⟨rfl, hb⟩
  replace c0_0 := keep_cell hb c0_0
  replace c0_1 := keep_cell hb c0_1
  replace c1_0 := keep_cell hb c1_0
  replace c1_1 := keep_cell hb c1_1
  replace q0 := keep_frozen (w1 := w2) hb c2_0 q0
  replace c2_0 := keep_cell (w1 := w2) hb c2_0
  replace q1 := keep_frozen (w1 := w2) hb c2_1 q1
  replace c2_1 := keep_cell (w1 := w2) hb c2_1
  replace Hv := Lib.hid (Hv.out.below hb (Nat.le_refl _))
  replace Hu := Lib.hid (Hu.out.below hb (Nat.le_refl _))
  replace B0 := B0.trans (hb.mono B0.size)
  clear hb
  go_wp2
  exact bodyPost_ret (v := .agg #[.bool false, .slice none 0 0]) (by simp [results, Try.results57, go_sem, c2_0, c2_1]) rfl (retG_end BW (by omega) hg0 B0 (Own.nil _ _))

set_option maxHeartbeats 1000000 in
theorem BigIntAdd_good (w : World) (b1 b2 : Nat) (v1 v2 : Value) (x y : Int) (h1 : Own w b1 v1 (limbs x.natAbs)) (h2 : Own w b2 v2 (limbs y.natAbs)) (hl1 : (limbs x.natAbs).length ≤ 60) (hl2 : (limbs y.natAbs).length ≤ 60) (z zf : Int) (hz : z = x + y) (hf : zf = fitZ z) :
    Calls Try.prog 57 #[.agg #[.bool (ng x), v1], .agg #[.bool (ng y), v2]] w (RetZ w zf) := by
  have BW : Below w.heap.size w (((w.alloc (.cells #[.bool (ng x), v1] 33)).alloc (.cells #[.bool (ng y), v2] 33)).alloc (.cells #[.bool false, .slice none 0 0] 33)) := ((((Below.refl w.heap.size w).alloc (Nat.le_refl _) _).alloc (by simp) _).alloc (by simp; omega) _)
  obtain ⟨c0_0, c0_1, c1_0, c1_1, c2_0, c2_1, q0, q1⟩ : World.cell? (((w.alloc (.cells #[.bool (ng x), v1] 33)).alloc (.cells #[.bool (ng y), v2] 33)).alloc (.cells #[.bool false, .slice none 0 0] 33)) ⟨w.heap.size, 0, none⟩ = some (.bool (ng x)) ∧ World.cell? (((w.alloc (.cells #[.bool (ng x), v1] 33)).alloc (.cells #[.bool (ng y), v2] 33)).alloc (.cells #[.bool false, .slice none 0 0] 33)) ⟨w.heap.size, 1, none⟩ = some (v1) ∧ World.cell? (((w.alloc (.cells #[.bool (ng x), v1] 33)).alloc (.cells #[.bool (ng y), v2] 33)).alloc (.cells #[.bool false, .slice none 0 0] 33)) ⟨w.heap.size + 1, 0, none⟩ = some (.bool (ng y)) ∧ World.cell? (((w.alloc (.cells #[.bool (ng x), v1] 33)).alloc (.cells #[.bool (ng y), v2] 33)).alloc (.cells #[.bool false, .slice none 0 0] 33)) ⟨w.heap.size + 1, 1, none⟩ = some (v2) ∧ World.cell? (((w.alloc (.cells #[.bool (ng x), v1] 33)).alloc (.cells #[.bool (ng y), v2] 33)).alloc (.cells #[.bool false, .slice none 0 0] 33)) ⟨w.heap.size + 1 + 1, 0, none⟩ = some (.bool false) ∧ World.cell? (((w.alloc (.cells #[.bool (ng x), v1] 33)).alloc (.cells #[.bool (ng y), v2] 33)).alloc (.cells #[.bool false, .slice none 0 0] 33)) ⟨w.heap.size + 1 + 1, 1, none⟩ = some (.slice none 0 0) ∧ World.frozen? (((w.alloc (.cells #[.bool (ng x), v1] 33)).alloc (.cells #[.bool (ng y), v2] 33)).alloc (.cells #[.bool false, .slice none 0 0] 33)) ⟨w.heap.size + 1 + 1, 0, none⟩ = false ∧ World.frozen? (((w.alloc (.cells #[.bool (ng x), v1] 33)).alloc (.cells #[.bool (ng y), v2] 33)).alloc (.cells #[.bool false, .slice none 0 0] 33)) ⟨w.heap.size + 1 + 1, 1, none⟩ = false := by simp [go_sem]
  have hg0 : w.heap.size + 1 + 1 < ((((w.alloc (.cells #[.bool (ng x), v1] 33)).alloc (.cells #[.bool (ng y), v2] 33)).alloc (.cells #[.bool false, .slice none 0 0] 33))).heap.size := World.block_lt_of_cell? _ _ c2_0
  have Hv := Lib.hid (h1.below BW (Nat.le_refl _))
  have Hu := Lib.hid (h2.below BW (Nat.le_refl _))
  clear h1 h2
  have m1 : (limbs x.natAbs).length ≤ 900 := by omega
  have m2 : (limbs y.natAbs).length ≤ 900 := by omega
  have HZ := Lib.hid hz
  have HF := Lib.hid hf
  clear hz hf
  go_enter Try.func57, Try.ntmps57
  go_wp2_with fail
  generalize (((w.alloc (.cells #[.bool (ng x), v1] 33)).alloc (.cells #[.bool (ng y), v2] 33)).alloc (.cells #[.bool false, .slice none 0 0] 33)) = w0 at *
  have B0 := Below.refl w0.heap.size w0
  refine (bigIntOk_z _ _ _ x Hv.out hl1).mono ?_
  rintro e w1 ⟨rfl, hb⟩
  replace c0_0 := keep_cell hb c0_0
  replace c0_1 := keep_cell hb c0_1
  replace c1_0 := keep_cell hb c1_0
  replace c1_1 := keep_cell hb c1_1
  replace q0 := keep_frozen (w1 := w1) hb c2_0 q0
  replace c2_0 := keep_cell (w1 := w1) hb c2_0
  replace q1 := keep_frozen (w1 := w1) hb c2_1 q1
  replace c2_1 := keep_cell (w1 := w1) hb c2_1
  replace Hv := Lib.hid (Hv.out.below hb (Nat.le_refl _))
  replace Hu := Lib.hid (Hu.out.below hb (Nat.le_refl _))
  replace B0 := B0.trans (hb.mono B0.size)
  clear hb
  go_wp2_with fail
  refine (bigIntOk_z _ _ _ y Hu.out hl2).mono ?_
  rintro e w2 ⟨rfl, hb⟩
  replace c0_0 := keep_cell hb c0_0
  replace c0_1 := keep_cell hb c0_1
  replace c1_0 := keep_cell hb c1_0
  replace c1_1 := keep_cell hb c1_1
  replace q0 := keep_frozen (w1 := w2) hb c2_0 q0
  replace c2_0 := keep_cell (w1 := w2) hb c2_0
  replace q1 := keep_frozen (w1 := w2) hb c2_1 q1
  replace c2_1 := keep_cell (w1 := w2) hb c2_1
  replace Hv := Lib.hid (Hv.out.below hb (Nat.le_refl _))
  replace Hu := Lib.hid (Hu.out.below hb (Nat.le_refl _))
  replace B0 := B0.trans (hb.mono B0.size)
  clear hb
  go_wp2_with fail
  refine (bigAdd_c _ _ _ _ _ x y Hv.out Hu.out m1 m2 z HZ.out).mono ?_
  rintro e w3 ⟨vo, rfl, ho1, hb⟩
  replace c0_0 := keep_cell hb c0_0
  replace c0_1 := keep_cell hb c0_1
  replace c1_0 := keep_cell hb c1_0
  replace c1_1 := keep_cell hb c1_1
  replace q0 := keep_frozen (w1 := w3) hb c2_0 q0
  replace c2_0 := keep_cell (w1 := w3) hb c2_0
  replace q1 := keep_frozen (w1 := w3) hb c2_1 q1
  replace c2_1 := keep_cell (w1 := w3) hb c2_1
  replace Hv := Lib.hid (Hv.out.below hb (Nat.le_refl _))
  replace Hu := Lib.hid (Hu.out.below hb (Nat.le_refl _))
  have Ho := Lib.hid (ho1.mono B0.size)
  clear ho1
  replace B0 := B0.trans (hb.mono B0.size)
  clear hb
  go_wp2_with fail
  refine (fitting_zz _ _ _ z zf Ho.out HF).mono ?_
  rintro e w4 ⟨vr, rfl, ho1, hp, hb⟩
  replace c0_0 := keep_cell hb c0_0
  replace c0_1 := keep_cell hb c0_1
  replace c1_0 := keep_cell hb c1_0
  replace c1_1 := keep_cell hb c1_1
  replace q0 := keep_frozen (w1 := w4) hb c2_0 q0
  replace c2_0 := keep_cell (w1 := w4) hb c2_0
  replace q1 := keep_frozen (w1 := w4) hb c2_1 q1
  replace c2_1 := keep_cell (w1 := w4) hb c2_1
  replace Hv := Lib.hid (Hv.out.below hb (Nat.le_refl _))
  replace Hu := Lib.hid (Hu.out.below hb (Nat.le_refl _))
  replace Ho := Lib.hid (Ho.out.below hb (Nat.le_refl _))
  have Hr := Lib.hid ho1
  clear ho1
  obtain ⟨ar, cr, rfl, -, -, -, -, -⟩ := Hr.out.form
  replace B0 := B0.trans (hb.mono B0.size)
  clear hb
  go_wp2
  exact bodyPost_ret (v := .agg #[.bool (ng zf), .slice ar (limbs zf.natAbs).length cr]) (by simp [results, Try.results57, go_sem, c2_0, c2_1]) rfl (retG_end BW (by omega) hg0 B0 Hr.out)

theorem BigIntAdd_c (w : World) (b1 b2 : Nat) (s t : Bool) (v1 v2 : Value) (xs ys : List Int) (h1 : Own w b1 v1 xs) (h2 : Own w b2 v2 ys) : Calls Try.prog 57 #[.agg #[.bool s, v1], .agg #[.bool t, v2]] w (RetZ w (zaddV s xs t ys)) := by
  by_cases hx : OkG s xs
  · by_cases hy : OkG t ys
    · rw [show zaddV s xs t ys = fitZ (zv s xs + zv t ys) from if_pos ⟨hx, hy⟩]
      obtain ⟨x, rfl, rfl, hl1, e1⟩ := okG_z hx
      obtain ⟨y, rfl, rfl, hl2, e2⟩ := okG_z hy
      rw [e1, e2]
      exact BigIntAdd_good w b1 b2 v1 v2 x y h1 h2 hl1 hl2 _ _ rfl rfl
    · rw [show zaddV s xs t ys = 0 from if_neg fun h => hy h.2]
      exact BigIntAdd_bad2 w b1 b2 s t v1 v2 xs ys h1 h2 hx hy
  · rw [show zaddV s xs t ys = 0 from if_neg fun h => hx h.1]
    exact BigIntAdd_bad1 w b1 s t v1 v2 xs h1 hx

set_option maxHeartbeats 1000000 in
theorem BigIntMul_bad1 (w : World) (b1 : Nat) (s t : Bool) (v1 v2 : Value) (xs : List Int) (h1 : Own w b1 v1 xs) (hx : ¬ OkG s xs) :
    Calls Try.prog 55 #[.agg #[.bool s, v1], .agg #[.bool t, v2]] w (RetZ w 0) := by
  have BW : Below w.heap.size w (((w.alloc (.cells #[.bool s, v1] 33)).alloc (.cells #[.bool t, v2] 33)).alloc (.cells #[.bool false, .slice none 0 0] 33)) := ((((Below.refl w.heap.size w).alloc (Nat.le_refl _) _).alloc (by simp) _).alloc (by simp; omega) _)
  obtain ⟨c0_0, c0_1, c1_0, c1_1, c2_0, c2_1, q0, q1⟩ : World.cell? (((w.alloc (.cells #[.bool s, v1] 33)).alloc (.cells #[.bool t, v2] 33)).alloc (.cells #[.bool false, .slice none 0 0] 33)) ⟨w.heap.size, 0, none⟩ = some (.bool s) ∧ World.cell? (((w.alloc (.cells #[.bool s, v1] 33)).alloc (.cells #[.bool t, v2] 33)).alloc (.cells #[.bool false, .slice none 0 0] 33)) ⟨w.heap.size, 1, none⟩ = some (v1) ∧ World.cell? (((w.alloc (.cells #[.bool s, v1] 33)).alloc (.cells #[.bool t, v2] 33)).alloc (.cells #[.bool false, .slice none 0 0] 33)) ⟨w.heap.size + 1, 0, none⟩ = some (.bool t) ∧ World.cell? (((w.alloc (.cells #[.bool s, v1] 33)).alloc (.cells #[.bool t, v2] 33)).alloc (.cells #[.bool false, .slice none 0 0] 33)) ⟨w.heap.size + 1, 1, none⟩ = some (v2) ∧ World.cell? (((w.alloc (.cells #[.bool s, v1] 33)).alloc (.cells #[.bool t, v2] 33)).alloc (.cells #[.bool false, .slice none 0 0] 33)) ⟨w.heap.size + 1 + 1, 0, none⟩ = some (.bool false) ∧ World.cell? (((w.alloc (.cells #[.bool s, v1] 33)).alloc (.cells #[.bool t, v2] 33)).alloc (.cells #[.bool false, .slice none 0 0] 33)) ⟨w.heap.size + 1 + 1, 1, none⟩ = some (.slice none 0 0) ∧ World.frozen? (((w.alloc (.cells #[.bool s, v1] 33)).alloc (.cells #[.bool t, v2] 33)).alloc (.cells #[.bool false, .slice none 0 0] 33)) ⟨w.heap.size + 1 + 1, 0, none⟩ = false ∧ World.frozen? (((w.alloc (.cells #[.bool s, v1] 33)).alloc (.cells #[.bool t, v2] 33)).alloc (.cells #[.bool false, .slice none 0 0] 33)) ⟨w.heap.size + 1 + 1, 1, none⟩ = false := by simp [go_sem]
  have hg0 : w.heap.size + 1 + 1 < ((((w.alloc (.cells #[.bool s, v1] 33)).alloc (.cells #[.bool t, v2] 33)).alloc (.cells #[.bool false, .slice none 0 0] 33))).heap.size := World.block_lt_of_cell? _ _ c2_0
  have Hv := Lib.hid (h1.below BW (Nat.le_refl _))
  clear h1
  have HX := Lib.hid hx
  clear hx
  go_enter Try.func55, Try.ntmps55
  go_wp2_with fail
  generalize (((w.alloc (.cells #[.bool s, v1] 33)).alloc (.cells #[.bool t, v2] 33)).alloc (.cells #[.bool false, .slice none 0 0] 33)) = w0 at *
  have B0 := Below.refl w0.heap.size w0
  refine (bigIntOk_f _ _ _ _ _ Hv.out HX.out).mono ?_
  rintro e w1 ⟨rfl, hb⟩
  replace c0_0 := keep_cell hb c0_0
  replace c0_1 := keep_cell hb c0_1
  replace c1_0 := keep_cell hb c1_0
  replace c1_1 := keep_cell hb c1_1
  replace q0 := keep_frozen (w1 := w1) hb c2_0 q0
  replace c2_0 := keep_cell (w1 := w1) hb c2_0
  replace q1 := keep_frozen (w1 := w1) hb c2_1 q1
  replace c2_1 := keep_cell (w1 := w1) hb c2_1
  replace Hv := Lib.hid (Hv.out.below hb (Nat.le_refl _))
  replace B0 := B0.trans (hb.mono B0.size)
  clear hb
  go_wp2
  exact bodyPost_ret (v := .agg #[.bool false, .slice none 0 0]) (by simp [results, Try.results55, go_sem, c2_0, c2_1]) rfl (retG_end BW (by omega) hg0 B0 (Own.nil _ _))

set_option maxHeartbeats 1000000 in
theorem BigIntMul_bad2 (w : World) (b1 b2 : Nat) (s t : Bool) (v1 v2 : Value) (xs ys : List Int) (h1 : Own w b1 v1 xs) (h2 : Own w b2 v2 ys) (hx : OkG s xs) (hy : ¬ OkG t ys) :
    Calls Try.prog 55 #[.agg #[.bool s, v1], .agg #[.bool t, v2]] w (RetZ w 0) := by
  have BW : Below w.heap.size w (((w.alloc (.cells #[.bool s, v1] 33)).alloc (.cells #[.bool t, v2] 33)).alloc (.cells #[.bool false, .slice none 0 0] 33)) := ((((Below.refl w.heap.size w).alloc (Nat.le_refl _) _).alloc (by simp) _).alloc (by simp; omega) _)
  obtain ⟨c0_0, c0_1, c1_0, c1_1, c2_0, c2_1, q0, q1⟩ : World.cell? (((w.alloc (.cells #[.bool s, v1] 33)).alloc (.cells #[.bool t, v2] 33)).alloc (.cells #[.bool false, .slice none 0 0] 33)) ⟨w.heap.size, 0, none⟩ = some (.bool s) ∧ World.cell? (((w.alloc (.cells #[.bool s, v1] 33)).alloc (.cells #[.bool t, v2] 33)).alloc (.cells #[.bool false, .slice none 0 0] 33)) ⟨w.heap.size, 1, none⟩ = some (v1) ∧ World.cell? (((w.alloc (.cells #[.bool s, v1] 33)).alloc (.cells #[.bool t, v2] 33)).alloc (.cells #[.bool false, .slice none 0 0] 33)) ⟨w.heap.size + 1, 0, none⟩ = some (.bool t) ∧ World.cell? (((w.alloc (.cells #[.bool s, v1] 33)).alloc (.cells #[.bool t, v2] 33)).alloc (.cells #[.bool false, .slice none 0 0] 33)) ⟨w.heap.size + 1, 1, none⟩ = some (v2) ∧ World.cell? (((w.alloc (.cells #[.bool s, v1] 33)).alloc (.cells #[.bool t, v2] 33)).alloc (.cells #[.bool false, .slice none 0 0] 33)) ⟨w.heap.size + 1 + 1, 0, none⟩ = some (.bool false) ∧ World.cell? (((w.alloc (.cells #[.bool s, v1] 33)).alloc (.cells #[.bool t, v2] 33)).alloc (.cells #[.bool false, .slice none 0 0] 33)) ⟨w.heap.size + 1 + 1, 1, none⟩ = some (.slice none 0 0) ∧ World.frozen? (((w.alloc (.cells #[.bool s, v1] 33)).alloc (.cells #[.bool t, v2] 33)).alloc (.cells #[.bool false, .slice none 0 0] 33)) ⟨w.heap.size + 1 + 1, 0, none⟩ = false ∧ World.frozen? (((w.alloc (.cells #[.bool s, v1] 33)).alloc (.cells #[.bool t, v2] 33)).alloc (.cells #[.bool false, .slice none 0 0] 33)) ⟨w.heap.size + 1 + 1, 1, none⟩ = false := by simp [go_sem]
  have hg0 : w.heap.size + 1 + 1 < ((((w.alloc (.cells #[.bool s, v1] 33)).alloc (.cells #[.bool t, v2] 33)).alloc (.cells #[.bool false, .slice none 0 0] 33))).heap.size := World.block_lt_of_cell? _ _ c2_0
  have Hv := Lib.hid (h1.below BW (Nat.le_refl _))
  have Hu := Lib.hid (h2.below BW (Nat.le_refl _))
  clear h1 h2
  have HX := Lib.hid hx
  have HY := Lib.hid hy
  clear hx hy
  go_enter Try.func55, Try.ntmps55
  go_wp2_with fail
  generalize (((w.alloc (.cells #[.bool s, v1] 33)).alloc (.cells #[.bool t, v2] 33)).alloc (.cells #[.bool false, .slice none 0 0] 33)) = w0 at *
  have B0 := Below.refl w0.heap.size w0
  refine (bigIntOk_t _ _ _ _ _ Hv.out HX.out).mono ?_
  rintro e w1 ⟨rfl, hb⟩
  replace c0_0 := keep_cell hb c0_0
  replace c0_1 := keep_cell hb c0_1
  replace c1_0 := keep_cell hb c1_0
  replace c1_1 := keep_cell hb c1_1
  replace q0 := keep_frozen (w1 := w1) hb c2_0 q0
  replace c2_0 := keep_cell (w1 := w1) hb c2_0
  replace q1 := keep_frozen (w1 := w1) hb c2_1 q1
  replace c2_1 := keep_cell (w1 := w1) hb c2_1
  replace Hv := Lib.hid (Hv.out.below hb (Nat.le_refl _))
  replace Hu := Lib.hid (Hu.out.below hb (Nat.le_refl _))
  replace B0 := B0.trans (hb.mono B0.size)
  clear hb
  go_wp2_with fail
  refine (bigIntOk_f _ _ _ _ _ Hu.out HY.out).mono ?_
  rintro e w2 ⟨rfl, hb⟩
  replace c0_0 := keep_cell hb c0_0
  replace c0_1 := keep_cell hb c0_1
  replace c1_0 := keep_cell hb c1_0
  replace c1_1 := keep_cell hb c1_1
  replace q0 := keep_frozen (w1 := w2) hb c2_0 q0
  replace c2_0 := keep_cell (w1 := w2) hb c2_0
  replace q1 := keep_frozen (w1 := w2) hb c2_1 q1
  replace c2_1 := keep_cell (w1 := w2) hb c2_1
  replace Hv := Lib.hid (Hv.out.below hb (Nat.le_refl _))
  replace Hu := Lib.hid (Hu.out.below hb (Nat.le_refl _))
  replace B0 := B0.trans (hb.mono B0.size)
  clear hb
  go_wp2
  exact bodyPost_ret (v := .agg #[.bool false, .slice none 0 0]) (by simp [results, Try.results55, go_sem, c2_0, c2_1]) rfl (retG_end BW (by omega) hg0 B0 (Own.nil _ _))

set_option maxHeartbeats 1000000 in
theorem BigIntMul_good (w : World) (b1 b2 : Nat) (v1 v2 : Value) (x y : Int) (h1 : Own w b1 v1 (limbs x.natAbs)) (h2 : Own w b2 v2 (limbs y.natAbs)) (hl1 : (limbs x.natAbs).length ≤ 60) (hl2 : (limbs y.natAbs).length ≤ 60) (z zf : Int) (hz : z = x * y) (hf : zf = fitZ z) :
    Calls Try.prog 55 #[.agg #[.bool (ng x), v1], .agg #[.bool (ng y), v2]] w (RetZ w zf) := by
  have BW : Below w.heap.size w (((w.alloc (.cells #[.bool (ng x), v1] 33)).alloc (.cells #[.bool (ng y), v2] 33)).alloc (.cells #[.bool false, .slice none 0 0] 33)) := ((((Below.refl w.heap.size w).alloc (Nat.le_refl _) _).alloc (by simp) _).alloc (by simp; omega) _)
  obtain ⟨c0_0, c0_1, c1_0, c1_1, c2_0, c2_1, q0, q1⟩ : World.cell? (((w.alloc (.cells #[.bool (ng x), v1] 33)).alloc (.cells #[.bool (ng y), v2] 33)).alloc (.cells #[.bool false, .slice none 0 0] 33)) ⟨w.heap.size, 0, none⟩ = some (.bool (ng x)) ∧ World.cell? (((w.alloc (.cells #[.bool (ng x), v1] 33)).alloc (.cells #[.bool (ng y), v2] 33)).alloc (.cells #[.bool false, .slice none 0 0] 33)) ⟨w.heap.size, 1, none⟩ = some (v1) ∧ World.cell? (((w.alloc (.cells #[.bool (ng x), v1] 33)).alloc (.cells #[.bool (ng y), v2] 33)).alloc (.cells #[.bool false, .slice none 0 0] 33)) ⟨w.heap.size + 1, 0, none⟩ = some (.bool (ng y)) ∧ World.cell? (((w.alloc (.cells #[.bool (ng x), v1] 33)).alloc (.cells #[.bool (ng y), v2] 33)).alloc (.cells #[.bool false, .slice none 0 0] 33)) ⟨w.heap.size + 1, 1, none⟩ = some (v2) ∧ World.cell? (((w.alloc (.cells #[.bool (ng x), v1] 33)).alloc (.cells #[.bool (ng y), v2] 33)).alloc (.cells #[.bool false, .slice none 0 0] 33)) ⟨w.heap.size + 1 + 1, 0, none⟩ = some (.bool false) ∧ World.cell? (((w.alloc (.cells #[.bool (ng x), v1] 33)).alloc (.cells #[.bool (ng y), v2] 33)).alloc (.cells #[.bool false, .slice none 0 0] 33)) ⟨w.heap.size + 1 + 1, 1, none⟩ = some (.slice none 0 0) ∧ World.frozen? (((w.alloc (.cells #[.bool (ng x), v1] 33)).alloc (.cells #[.bool (ng y), v2] 33)).alloc (.cells #[.bool false, .slice none 0 0] 33)) ⟨w.heap.size + 1 + 1, 0, none⟩ = false ∧ World.frozen? (((w.alloc (.cells #[.bool (ng x), v1] 33)).alloc (.cells #[.bool (ng y), v2] 33)).alloc (.cells #[.bool false, .slice none 0 0] 33)) ⟨w.heap.size + 1 + 1, 1, none⟩ = false := by simp [go_sem]
  have hg0 : w.heap.size + 1 + 1 < ((((w.alloc (.cells #[.bool (ng x), v1] 33)).alloc (.cells #[.bool (ng y), v2] 33)).alloc (.cells #[.bool false, .slice none 0 0] 33))).heap.size := World.block_lt_of_cell? _ _ c2_0
  have Hv := Lib.hid (h1.below BW (Nat.le_refl _))
  have Hu := Lib.hid (h2.below BW (Nat.le_refl _))
  clear h1 h2
  have m1 : (limbs x.natAbs).length ≤ 900 := by omega
  have m2 : (limbs y.natAbs).length ≤ 900 := by omega
  have HZ := Lib.hid hz
  have HF := Lib.hid hf
  clear hz hf
  go_enter Try.func55, Try.ntmps55
  go_wp2_with fail
  generalize (((w.alloc (.cells #[.bool (ng x), v1] 33)).alloc (.cells #[.bool (ng y), v2] 33)).alloc (.cells #[.bool false, .slice none 0 0] 33)) = w0 at *
  have B0 := Below.refl w0.heap.size w0
  refine (bigIntOk_z _ _ _ x Hv.out hl1).mono ?_
  rintro e w1 ⟨rfl, hb⟩
  replace c0_0 := keep_cell hb c0_0
  replace c0_1 := keep_cell hb c0_1
  replace c1_0 := keep_cell hb c1_0
  replace c1_1 := keep_cell hb c1_1
  replace q0 := keep_frozen (w1 := w1) hb c2_0 q0
  replace c2_0 := keep_cell (w1 := w1) hb c2_0
  replace q1 := keep_frozen (w1 := w1) hb c2_1 q1
  replace c2_1 := keep_cell (w1 := w1) hb c2_1
  replace Hv := Lib.hid (Hv.out.below hb (Nat.le_refl _))
  replace Hu := Lib.hid (Hu.out.below hb (Nat.le_refl _))
  replace B0 := B0.trans (hb.mono B0.size)
  clear hb
  go_wp2_with fail
  refine (bigIntOk_z _ _ _ y Hu.out hl2).mono ?_
  rintro e w2 ⟨rfl, hb⟩
  replace c0_0 := keep_cell hb c0_0
  replace c0_1 := keep_cell hb c0_1
  replace c1_0 := keep_cell hb c1_0
  replace c1_1 := keep_cell hb c1_1
  replace q0 := keep_frozen (w1 := w2) hb c2_0 q0
  replace c2_0 := keep_cell (w1 := w2) hb c2_0
  replace q1 := keep_frozen (w1 := w2) hb c2_1 q1
  replace c2_1 := keep_cell (w1 := w2) hb c2_1
  replace Hv := Lib.hid (Hv.out.below hb (Nat.le_refl _))
  replace Hu := Lib.hid (Hu.out.below hb (Nat.le_refl _))
  replace B0 := B0.trans (hb.mono B0.size)
  clear hb
  go_wp2_with fail
  refine (bigMul_c _ _ _ _ _ x y Hv.out Hu.out m1 m2 z HZ.out).mono ?_
  rintro e w3 ⟨vo, rfl, ho1, hb⟩
  replace c0_0 := keep_cell hb c0_0
  replace c0_1 := keep_cell hb c0_1
  replace c1_0 := keep_cell hb c1_0
  replace c1_1 := keep_cell hb c1_1
  replace q0 := keep_frozen (w1 := w3) hb c2_0 q0
  replace c2_0 := keep_cell (w1 := w3) hb c2_0
  replace q1 := keep_frozen (w1 := w3) hb c2_1 q1
  replace c2_1 := keep_cell (w1 := w3) hb c2_1
  replace Hv := Lib.hid (Hv.out.below hb (Nat.le_refl _))
  replace Hu := Lib.hid (Hu.out.below hb (Nat.le_refl _))
  have Ho := Lib.hid (ho1.mono B0.size)
  clear ho1
  replace B0 := B0.trans (hb.mono B0.size)
  clear hb
  go_wp2_with fail
  refine (fitting_zz _ _ _ z zf Ho.out HF).mono ?_
  rintro e w4 ⟨vr, rfl, ho1, hp, hb⟩
  replace c0_0 := keep_cell hb c0_0
  replace c0_1 := keep_cell hb c0_1
  replace c1_0 := keep_cell hb c1_0
  replace c1_1 := keep_cell hb c1_1
  replace q0 := keep_frozen (w1 := w4) hb c2_0 q0
  replace c2_0 := keep_cell (w1 := w4) hb c2_0
  replace q1 := keep_frozen (w1 := w4) hb c2_1 q1
  replace c2_1 := keep_cell (w1 := w4) hb c2_1
  replace Hv := Lib.hid (Hv.out.below hb (Nat.le_refl _))
  replace Hu := Lib.hid (Hu.out.below hb (Nat.le_refl _))
  replace Ho := Lib.hid (Ho.out.below hb (Nat.le_refl _))
  have Hr := Lib.hid ho1
  clear ho1
  obtain ⟨ar, cr, rfl, -, -, -, -, -⟩ := Hr.out.form
  replace B0 := B0.trans (hb.mono B0.size)
  clear hb
  go_wp2
  exact bodyPost_ret (v := .agg #[.bool (ng zf), .slice ar (limbs zf.natAbs).length cr]) (by simp [results, Try.results55, go_sem, c2_0, c2_1]) rfl (retG_end BW (by omega) hg0 B0 Hr.out)

theorem BigIntMul_c (w : World) (b1 b2 : Nat) (s t : Bool) (v1 v2 : Value) (xs ys : List Int) (h1 : Own w b1 v1 xs) (h2 : Own w b2 v2 ys) : Calls Try.prog 55 #[.agg #[.bool s, v1], .agg #[.bool t, v2]] w (RetZ w (zmulV s xs t ys)) := by
  by_cases hx : OkG s xs
  · by_cases hy : OkG t ys
    · rw [show zmulV s xs t ys = fitZ (zv s xs * zv t ys) from if_pos ⟨hx, hy⟩]
      obtain ⟨x, rfl, rfl, hl1, e1⟩ := okG_z hx
      obtain ⟨y, rfl, rfl, hl2, e2⟩ := okG_z hy
      rw [e1, e2]
      exact BigIntMul_good w b1 b2 v1 v2 x y h1 h2 hl1 hl2 _ _ rfl rfl
    · rw [show zmulV s xs t ys = 0 from if_neg fun h => hy h.2]
      exact BigIntMul_bad2 w b1 b2 s t v1 v2 xs ys h1 h2 hx hy
  · rw [show zmulV s xs t ys = 0 from if_neg fun h => hx h.1]
    exact BigIntMul_bad1 w b1 s t v1 v2 xs h1 hx

set_option maxHeartbeats 1000000 in
theorem BigIntSub_bad1 (w : World) (b1 : Nat) (s t : Bool) (v1 v2 : Value) (xs : List Int) (h1 : Own w b1 v1 xs) (hx : ¬ OkG s xs) :
    Calls Try.prog 59 #[.agg #[.bool s, v1], .agg #[.bool t, v2]] w (RetZ w 0) := by
  have BW : Below w.heap.size w (((w.alloc (.cells #[.bool s, v1] 33)).alloc (.cells #[.bool t, v2] 33)).alloc (.cells #[.bool false, .slice none 0 0] 33)) := ((((Below.refl w.heap.size w).alloc (Nat.le_refl _) _).alloc (by simp) _).alloc (by simp; omega) _)
  obtain ⟨c0_0, c0_1, c1_0, c1_1, c2_0, c2_1, q0, q1⟩ : World.cell? (((w.alloc (.cells #[.bool s, v1] 33)).alloc (.cells #[.bool t, v2] 33)).alloc (.cells #[.bool false, .slice none 0 0] 33)) ⟨w.heap.size, 0, none⟩ = some (.bool s) ∧ World.cell? (((w.alloc (.cells #[.bool s, v1] 33)).alloc (.cells #[.bool t, v2] 33)).alloc (.cells #[.bool false, .slice none 0 0] 33)) ⟨w.heap.size, 1, none⟩ = some (v1) ∧ World.cell? (((w.alloc (.cells #[.bool s, v1] 33)).alloc (.cells #[.bool t, v2] 33)).alloc (.cells #[.bool false, .slice none 0 0] 33)) ⟨w.heap.size + 1, 0, none⟩ = some (.bool t) ∧ World.cell? (((w.alloc (.cells #[.bool s, v1] 33)).alloc (.cells #[.bool t, v2] 33)).alloc (.cells #[.bool false, .slice none 0 0] 33)) ⟨w.heap.size + 1, 1, none⟩ = some (v2) ∧ World.cell? (((w.alloc (.cells #[.bool s, v1] 33)).alloc (.cells #[.bool t, v2] 33)).alloc (.cells #[.bool false, .slice none 0 0] 33)) ⟨w.heap.size + 1 + 1, 0, none⟩ = some (.bool false) ∧ World.cell? (((w.alloc (.cells #[.bool s, v1] 33)).alloc (.cells #[.bool t, v2] 33)).alloc (.cells #[.bool false, .slice none 0 0] 33)) ⟨w.heap.size + 1 + 1, 1, none⟩ = some (.slice none 0 0) ∧ World.frozen? (((w.alloc (.cells #[.bool s, v1] 33)).alloc (.cells #[.bool t, v2] 33)).alloc (.cells #[.bool false, .slice none 0 0] 33)) ⟨w.heap.size + 1 + 1, 0, none⟩ = false ∧ World.frozen? (((w.alloc (.cells #[.bool s, v1] 33)).alloc (.cells #[.bool t, v2] 33)).alloc (.cells #[.bool false, .slice none 0 0] 33)) ⟨w.heap.size + 1 + 1, 1, none⟩ = false := by simp [go_sem]
  have hg0 : w.heap.size + 1 + 1 < ((((w.alloc (.cells #[.bool s, v1] 33)).alloc (.cells #[.bool t, v2] 33)).alloc (.cells #[.bool false, .slice none 0 0] 33))).heap.size := World.block_lt_of_cell? _ _ c2_0
  have Hv := Lib.hid (h1.below BW (Nat.le_refl _))
  clear h1
  have HX := Lib.hid hx
  clear hx
  go_enter Try.func59, Try.ntmps59
  go_wp2_with fail
  generalize (((w.alloc (.cells #[.bool s, v1] 33)).alloc (.cells #[.bool t, v2] 33)).alloc (.cells #[.bool false, .slice none 0 0] 33)) = w0 at *
  have B0 := Below.refl w0.heap.size w0
  refine (bigIntOk_f _ _ _ _ _ Hv.out HX.out).mono ?_
  rintro e w1 ⟨rfl, hb⟩
  replace c0_0 := keep_cell hb c0_0
  replace c0_1 := keep_cell hb c0_1
  replace c1_0 := keep_cell hb c1_0
  replace c1_1 := keep_cell hb c1_1
  replace q0 := keep_frozen (w1 := w1) hb c2_0 q0
  replace c2_0 := keep_cell (w1 := w1) hb c2_0
  replace q1 := keep_frozen (w1 := w1) hb c2_1 q1
  replace c2_1 := keep_cell (w1 := w1) hb c2_1
  replace Hv := Lib.hid (Hv.out.below hb (Nat.le_refl _))
  replace B0 := B0.trans (hb.mono B0.size)
  clear hb
  go_wp2
  exact bodyPost_ret (v := .agg #[.bool false, .slice none 0 0]) (by simp [results, Try.results59, go_sem, c2_0, c2_1]) rfl (retG_end BW (by omega) hg0 B0 (Own.nil _ _))

set_option maxHeartbeats 1000000 in
theorem BigIntSub_bad2 (w : World) (b1 b2 : Nat) (s t : Bool) (v1 v2 : Value) (xs ys : List Int) (h1 : Own w b1 v1 xs) (h2 : Own w b2 v2 ys) (hx : OkG s xs) (hy : ¬ OkG t ys) :
    Calls Try.prog 59 #[.agg #[.bool s, v1], .agg #[.bool t, v2]] w (RetZ w 0) := by
  have BW : Below w.heap.size w (((w.alloc (.cells #[.bool s, v1] 33)).alloc (.cells #[.bool t, v2] 33)).alloc (.cells #[.bool false, .slice none 0 0] 33)) := ((((Below.refl w.heap.size w).alloc (Nat.le_refl _) _).alloc (by simp) _).alloc (by simp; omega) _)
  obtain ⟨c0_0, c0_1, c1_0, c1_1, c2_0, c2_1, q0, q1⟩ : World.cell? (((w.alloc (.cells #[.bool s, v1] 33)).alloc (.cells #[.bool t, v2] 33)).alloc (.cells #[.bool false, .slice none 0 0] 33)) ⟨w.heap.size, 0, none⟩ = some (.bool s) ∧ World.cell? (((w.alloc (.cells #[.bool s, v1] 33)).alloc (.cells #[.bool t, v2] 33)).alloc (.cells #[.bool false, .slice none 0 0] 33)) ⟨w.heap.size, 1, none⟩ = some (v1) ∧ World.cell? (((w.alloc (.cells #[.bool s, v1] 33)).alloc (.cells #[.bool t, v2] 33)).alloc (.cells #[.bool false, .slice none 0 0] 33)) ⟨w.heap.size + 1, 0, none⟩ = some (.bool t) ∧ World.cell? (((w.alloc (.cells #[.bool s, v1] 33)).alloc (.cells #[.bool t, v2] 33)).alloc (.cells #[.bool false, .slice none 0 0] 33)) ⟨w.heap.size + 1, 1, none⟩ = some (v2) ∧ World.cell? (((w.alloc (.cells #[.bool s, v1] 33)).alloc (.cells #[.bool t, v2] 33)).alloc (.cells #[.bool false, .slice none 0 0] 33)) ⟨w.heap.size + 1 + 1, 0, none⟩ = some (.bool false) ∧ World.cell? (((w.alloc (.cells #[.bool s, v1] 33)).alloc (.cells #[.bool t, v2] 33)).alloc (.cells #[.bool false, .slice none 0 0] 33)) ⟨w.heap.size + 1 + 1, 1, none⟩ = some (.slice none 0 0) ∧ World.frozen? (((w.alloc (.cells #[.bool s, v1] 33)).alloc (.cells #[.bool t, v2] 33)).alloc (.cells #[.bool false, .slice none 0 0] 33)) ⟨w.heap.size + 1 + 1, 0, none⟩ = false ∧ World.frozen? (((w.alloc (.cells #[.bool s, v1] 33)).alloc (.cells #[.bool t, v2] 33)).alloc (.cells #[.bool false, .slice none 0 0] 33)) ⟨w.heap.size + 1 + 1, 1, none⟩ = false := by simp [go_sem]
  have hg0 : w.heap.size + 1 + 1 < ((((w.alloc (.cells #[.bool s, v1] 33)).alloc (.cells #[.bool t, v2] 33)).alloc (.cells #[.bool false, .slice none 0 0] 33))).heap.size := World.block_lt_of_cell? _ _ c2_0
  have Hv := Lib.hid (h1.below BW (Nat.le_refl _))
  have Hu := Lib.hid (h2.below BW (Nat.le_refl _))
  clear h1 h2
  have HX := Lib.hid hx
  have HY := Lib.hid hy
  clear hx hy
  go_enter Try.func59, Try.ntmps59
  go_wp2_with fail
  generalize (((w.alloc (.cells #[.bool s, v1] 33)).alloc (.cells #[.bool t, v2] 33)).alloc (.cells #[.bool false, .slice none 0 0] 33)) = w0 at *
  have B0 := Below.refl w0.heap.size w0
  refine (bigIntOk_t _ _ _ _ _ Hv.out HX.out).mono ?_
  rintro e w1 ⟨rfl, hb⟩
  replace c0_0 := keep_cell hb c0_0
  replace c0_1 := keep_cell hb c0_1
  replace c1_0 := keep_cell hb c1_0
  replace c1_1 := keep_cell hb c1_1
  replace q0 := keep_frozen (w1 := w1) hb c2_0 q0
  replace c2_0 := keep_cell (w1 := w1) hb c2_0
  replace q1 := keep_frozen (w1 := w1) hb c2_1 q1
  replace c2_1 := keep_cell (w1 := w1) hb c2_1
  replace Hv := Lib.hid (Hv.out.below hb (Nat.le_refl _))
  replace Hu := Lib.hid (Hu.out.below hb (Nat.le_refl _))
  replace B0 := B0.trans (hb.mono B0.size)
  clear hb
  go_wp2_with fail
  refine (bigIntOk_f _ _ _ _ _ Hu.out HY.out).mono ?_
  rintro e w2 ⟨rfl, hb⟩
  replace c0_0 := keep_cell hb c0_0
  replace c0_1 := keep_cell hb c0_1
  replace c1_0 := keep_cell hb c1_0
  replace c1_1 := keep_cell hb c1_1
  replace q0 := keep_frozen (w1 := w2) hb c2_0 q0
  replace c2_0 := keep_cell (w1 := w2) hb c2_0
  replace q1 := keep_frozen (w1 := w2) hb c2_1 q1
  replace c2_1 := keep_cell (w1 := w2) hb c2_1
  replace Hv := Lib.hid (Hv.out.below hb (Nat.le_refl _))
  replace Hu := Lib.hid (Hu.out.below hb (Nat.le_refl _))
  replace B0 := B0.trans (hb.mono B0.size)
  clear hb
  go_wp2
  exact bodyPost_ret (v := .agg #[.bool false, .slice none 0 0]) (by simp [results, Try.results59, go_sem, c2_0, c2_1]) rfl (retG_end BW (by omega) hg0 B0 (Own.nil _ _))

set_option maxHeartbeats 1000000 in
theorem BigIntSub_good (w : World) (b1 b2 : Nat) (v1 v2 : Value) (x y : Int) (h1 : Own w b1 v1 (limbs x.natAbs)) (h2 : Own w b2 v2 (limbs y.natAbs)) (hl1 : (limbs x.natAbs).length ≤ 60) (hl2 : (limbs y.natAbs).length ≤ 60) (z zf : Int) (hz : z = x + -y) (hf : zf = fitZ z) :
    Calls Try.prog 59 #[.agg #[.bool (ng x), v1], .agg #[.bool (ng y), v2]] w (RetZ w zf) := by
  have BW : Below w.heap.size w (((w.alloc (.cells #[.bool (ng x), v1] 33)).alloc (.cells #[.bool (ng y), v2] 33)).alloc (.cells #[.bool false, .slice none 0 0] 33)) := ((((Below.refl w.heap.size w).alloc (Nat.le_refl _) _).alloc (by simp) _).alloc (by simp; omega) _)
  obtain ⟨c0_0, c0_1, c1_0, c1_1, c2_0, c2_1, q0, q1⟩ : World.cell? (((w.alloc (.cells #[.bool (ng x), v1] 33)).alloc (.cells #[.bool (ng y), v2] 33)).alloc (.cells #[.bool false, .slice none 0 0] 33)) ⟨w.heap.size, 0, none⟩ = some (.bool (ng x)) ∧ World.cell? (((w.alloc (.cells #[.bool (ng x), v1] 33)).alloc (.cells #[.bool (ng y), v2] 33)).alloc (.cells #[.bool false, .slice none 0 0] 33)) ⟨w.heap.size, 1, none⟩ = some (v1) ∧ World.cell? (((w.alloc (.cells #[.bool (ng x), v1] 33)).alloc (.cells #[.bool (ng y), v2] 33)).alloc (.cells #[.bool false, .slice none 0 0] 33)) ⟨w.heap.size + 1, 0, none⟩ = some (.bool (ng y)) ∧ World.cell? (((w.alloc (.cells #[.bool (ng x), v1] 33)).alloc (.cells #[.bool (ng y), v2] 33)).alloc (.cells #[.bool false, .slice none 0 0] 33)) ⟨w.heap.size + 1, 1, none⟩ = some (v2) ∧ World.cell? (((w.alloc (.cells #[.bool (ng x), v1] 33)).alloc (.cells #[.bool (ng y), v2] 33)).alloc (.cells #[.bool false, .slice none 0 0] 33)) ⟨w.heap.size + 1 + 1, 0, none⟩ = some (.bool false) ∧ World.cell? (((w.alloc (.cells #[.bool (ng x), v1] 33)).alloc (.cells #[.bool (ng y), v2] 33)).alloc (.cells #[.bool false, .slice none 0 0] 33)) ⟨w.heap.size + 1 + 1, 1, none⟩ = some (.slice none 0 0) ∧ World.frozen? (((w.alloc (.cells #[.bool (ng x), v1] 33)).alloc (.cells #[.bool (ng y), v2] 33)).alloc (.cells #[.bool false, .slice none 0 0] 33)) ⟨w.heap.size + 1 + 1, 0, none⟩ = false ∧ World.frozen? (((w.alloc (.cells #[.bool (ng x), v1] 33)).alloc (.cells #[.bool (ng y), v2] 33)).alloc (.cells #[.bool false, .slice none 0 0] 33)) ⟨w.heap.size + 1 + 1, 1, none⟩ = false := by simp [go_sem]
  have hg0 : w.heap.size + 1 + 1 < ((((w.alloc (.cells #[.bool (ng x), v1] 33)).alloc (.cells #[.bool (ng y), v2] 33)).alloc (.cells #[.bool false, .slice none 0 0] 33))).heap.size := World.block_lt_of_cell? _ _ c2_0
  have Hv := Lib.hid (h1.below BW (Nat.le_refl _))
  have Hu := Lib.hid (h2.below BW (Nat.le_refl _))
  clear h1 h2
  have m1 : (limbs x.natAbs).length ≤ 900 := by omega
  have m2 : (limbs y.natAbs).length ≤ 900 := by omega
  have HZ := Lib.hid hz
  have HF := Lib.hid hf
  clear hz hf
  go_enter Try.func59, Try.ntmps59
  go_wp2_with fail
  generalize (((w.alloc (.cells #[.bool (ng x), v1] 33)).alloc (.cells #[.bool (ng y), v2] 33)).alloc (.cells #[.bool false, .slice none 0 0] 33)) = w0 at *
  have B0 := Below.refl w0.heap.size w0
  refine (bigIntOk_z _ _ _ x Hv.out hl1).mono ?_
  rintro e w1 ⟨rfl, hb⟩
  replace c0_0 := keep_cell hb c0_0
  replace c0_1 := keep_cell hb c0_1
  replace c1_0 := keep_cell hb c1_0
  replace c1_1 := keep_cell hb c1_1
  replace q0 := keep_frozen (w1 := w1) hb c2_0 q0
  replace c2_0 := keep_cell (w1 := w1) hb c2_0
  replace q1 := keep_frozen (w1 := w1) hb c2_1 q1
  replace c2_1 := keep_cell (w1 := w1) hb c2_1
  replace Hv := Lib.hid (Hv.out.below hb (Nat.le_refl _))
  replace Hu := Lib.hid (Hu.out.below hb (Nat.le_refl _))
  replace B0 := B0.trans (hb.mono B0.size)
  clear hb
  go_wp2_with fail
  refine (bigIntOk_z _ _ _ y Hu.out hl2).mono ?_
  rintro e w2 ⟨rfl, hb⟩
  replace c0_0 := keep_cell hb c0_0
  replace c0_1 := keep_cell hb c0_1
  replace c1_0 := keep_cell hb c1_0
  replace c1_1 := keep_cell hb c1_1
  replace q0 := keep_frozen (w1 := w2) hb c2_0 q0
  replace c2_0 := keep_cell (w1 := w2) hb c2_0
  replace q1 := keep_frozen (w1 := w2) hb c2_1 q1
  replace c2_1 := keep_cell (w1 := w2) hb c2_1
  replace Hv := Lib.hid (Hv.out.below hb (Nat.le_refl _))
  replace Hu := Lib.hid (Hu.out.below hb (Nat.le_refl _))
  replace B0 := B0.trans (hb.mono B0.size)
  clear hb
  obtain ⟨yn, hyn⟩ : ∃ yn : Int, yn = -y := ⟨_, rfl⟩
  have m3 : (limbs yn.natAbs).length ≤ 900 := by rw [hyn, Int.natAbs_neg]; exact m2
  have HZ2 : Hid (z = x + yn) := by unfold Hid; rw [hyn]; exact HZ.out
  have HYN := Lib.hid hyn
  clear hyn
  go_wp2_with fail
  replace Hv := Lib.hid Hv.out.drew
  replace Hu := Lib.hid Hu.out.drew
  replace B0 := below_drew B0
  replace q0 := frozen_drew q0
  replace c2_0 := cell_drew c2_0
  replace q1 := frozen_drew q1
  replace c2_1 := cell_drew c2_1
  go_region_held3 (fun w' => w'.cell? ⟨w.heap.size, 0, none⟩ = some (.bool (ng x)) ∧ w'.cell? ⟨w.heap.size, 1, none⟩ = some (v1) ∧ w'.cell? ⟨w.heap.size + 1, 0, none⟩ = some (.bool (ng y)) ∧ w'.cell? ⟨w.heap.size + 1, 1, none⟩ = some (v2)) (first | exact ⟨c0_0, c0_1, c1_0, c1_1⟩ | (go_split_ands; exact ⟨keep_cell hb5 ‹_›, keep_cell hb5 ‹_›, keep_cell hb5 ‹_›, keep_cell hb5 ‹_›⟩) | (go_split_ands; exact ⟨keep_cell hb4 ‹_›, keep_cell hb4 ‹_›, keep_cell hb4 ‹_›, keep_cell hb4 ‹_›⟩) | (go_split_ands; exact ⟨keep_cell hb3 ‹_›, keep_cell hb3 ‹_›, keep_cell hb3 ‹_›, keep_cell hb3 ‹_›⟩) | (go_split_ands; exact ⟨(set_far (set_far ‹_› (by dsimp only; omega)) (by dsimp only; omega)), (set_far (set_far ‹_› (by dsimp only; omega)) (by dsimp only; omega)), (set_far (set_far ‹_› (by dsimp only; omega)) (by dsimp only; omega)), (set_far (set_far ‹_› (by dsimp only; omega)) (by dsimp only; omega))⟩) | (go_split_ands; exact ⟨(set_far (set_far (set_far ‹_› (by dsimp only; omega)) (by dsimp only; omega)) (by dsimp only; omega)), (set_far (set_far (set_far ‹_› (by dsimp only; omega)) (by dsimp only; omega)) (by dsimp only; omega)), (set_far (set_far (set_far ‹_› (by dsimp only; omega)) (by dsimp only; omega)) (by dsimp only; omega)), (set_far (set_far (set_far ‹_› (by dsimp only; omega)) (by dsimp only; omega)) (by dsimp only; omega))⟩) | (go_split_ands; exact ⟨(set_far ‹_› (by dsimp only; omega)), (set_far ‹_› (by dsimp only; omega)), (set_far ‹_› (by dsimp only; omega)), (set_far ‹_› (by dsimp only; omega))⟩) | go_keep)
    (first | (go_at_call 78; refine (bigNeg_c _ _ _ y Hu.out m2 yn HYN.out).mono ?_; rintro e w3 ⟨vn, rfl, ho1, hb3⟩; have q0 := keep_frozen (w1 := w3) hb3 c2_0 q0; have c2_0 := keep_cell (w1 := w3) hb3 c2_0; have q1 := keep_frozen (w1 := w3) hb3 c2_1 q1; have c2_1 := keep_cell (w1 := w3) hb3 c2_1; have Hv := Lib.hid (Hv.out.below hb3 (Nat.le_refl _)); have Hu := Lib.hid (Hu.out.below hb3 (Nat.le_refl _)); (try (have Ho := Lib.hid (Ho.out.below hb3 (Nat.le_refl _)))); (try (have Hr := Lib.hid (Hr.out.below hb3 (Nat.le_refl _)))); have Hn := Lib.hid (ho1.mono B0.size); clear ho1; have B0 := B0.trans (hb3.mono B0.size)) | (go_at_call 86; refine (bigAdd_c _ _ _ _ _ x yn Hv.out Hn.out m1 m3 z HZ2.out).mono ?_; rintro e w4 ⟨vo, rfl, ho1, hb4⟩; have q0 := keep_frozen (w1 := w4) hb4 c2_0 q0; have c2_0 := keep_cell (w1 := w4) hb4 c2_0; have q1 := keep_frozen (w1 := w4) hb4 c2_1 q1; have c2_1 := keep_cell (w1 := w4) hb4 c2_1; have Hv := Lib.hid (Hv.out.below hb4 (Nat.le_refl _)); have Hu := Lib.hid (Hu.out.below hb4 (Nat.le_refl _)); (try (have Hn := Lib.hid (Hn.out.below hb4 (Nat.le_refl _)))); (try (have Hr := Lib.hid (Hr.out.below hb4 (Nat.le_refl _)))); have Ho := Lib.hid (ho1.mono B0.size); clear ho1; have B0 := B0.trans (hb4.mono B0.size)) | (go_at_call 83; refine (fitting_zz _ _ _ z zf Ho.out HF).mono ?_; rintro e w5 ⟨vr, rfl, ho1, hp, hb5⟩; have q0 := keep_frozen (w1 := w5) hb5 c2_0 q0; have c2_0 := keep_cell (w1 := w5) hb5 c2_0; have q1 := keep_frozen (w1 := w5) hb5 c2_1 q1; have c2_1 := keep_cell (w1 := w5) hb5 c2_1; have Hv := Lib.hid (Hv.out.below hb5 (Nat.le_refl _)); have Hu := Lib.hid (Hu.out.below hb5 (Nat.le_refl _)); (try (have Hn := Lib.hid (Hn.out.below hb5 (Nat.le_refl _)))); (try (have Ho := Lib.hid (Ho.out.below hb5 (Nat.le_refl _)))); have Hr := Lib.hid ho1; clear ho1; obtain ⟨ar, cr, rfl, -, -, -, -, -⟩ := Hr.out.form; have B0 := B0.trans (hb5.mono B0.size)))
  go_wp2
  exact bodyPost_ret (v := .agg #[.bool (ng zf), .slice ar (limbs zf.natAbs).length cr]) (by simp [results, Try.results59, go_sem, c2_0, c2_1]) rfl (retG_end BW (by omega) hg0 B0 Hr.out)

theorem BigIntSub_c (w : World) (b1 b2 : Nat) (s t : Bool) (v1 v2 : Value) (xs ys : List Int) (h1 : Own w b1 v1 xs) (h2 : Own w b2 v2 ys) : Calls Try.prog 59 #[.agg #[.bool s, v1], .agg #[.bool t, v2]] w (RetZ w (zsubV s xs t ys)) := by
  by_cases hx : OkG s xs
  · by_cases hy : OkG t ys
    · rw [show zsubV s xs t ys = fitZ (zv s xs - zv t ys) from if_pos ⟨hx, hy⟩]
      obtain ⟨x, rfl, rfl, hl1, e1⟩ := okG_z hx
      obtain ⟨y, rfl, rfl, hl2, e2⟩ := okG_z hy
      rw [e1, e2]
      exact BigIntSub_good w b1 b2 v1 v2 x y h1 h2 hl1 hl2 _ _ (Int.sub_eq_add_neg) rfl
    · rw [show zsubV s xs t ys = 0 from if_neg fun h => hy h.2]
      exact BigIntSub_bad2 w b1 b2 s t v1 v2 xs ys h1 h2 hx hy
  · rw [show zsubV s xs t ys = 0 from if_neg fun h => hx h.1]
    exact BigIntSub_bad1 w b1 s t v1 v2 xs h1 hx

theorem BigIntNeg_c (w : World) (b1 : Nat) (s : Bool) (v1 : Value) (xs : List Int) (h1 : Own w b1 v1 xs) : Calls Try.prog 47 #[.agg #[.bool s, v1]] w (RetZ w (znegV s xs)) := by
  by_cases hx : OkG s xs
  · rw [show znegV s xs = -(zv s xs) from if_pos hx]
    obtain ⟨x, rfl, rfl, hl1, e1⟩ := okG_z hx
    rw [e1]
    exact BigIntNeg_good w b1 v1 x h1 hl1 _ rfl
  · rw [show znegV s xs = 0 from if_neg hx]
    exact BigIntNeg_bad w b1 s v1 xs h1 hx

set_option maxHeartbeats 1000000 in
theorem bigCmp_np (w : World) (v1 v2 : Value) :
    Calls Try.prog 80 #[.agg #[.bool true, v1], .agg #[.bool false, v2]] w (RetI w (-1)) := by
  go_enter Try.func80, Try.ntmps80
  go_wp2
  go_ret
  exact retI rfl (((Below.refl _ _).alloc (Nat.le_refl _) _).alloc (by simp) _)

set_option maxHeartbeats 1000000 in
theorem bigCmp_pn (w : World) (v1 v2 : Value) :
    Calls Try.prog 80 #[.agg #[.bool false, v1], .agg #[.bool true, v2]] w (RetI w (1)) := by
  go_enter Try.func80, Try.ntmps80
  go_wp2
  go_ret
  exact retI rfl (((Below.refl _ _).alloc (Nat.le_refl _) _).alloc (by simp) _)

set_option maxHeartbeats 1000000 in
theorem bigCmp_nn (w : World) (b1 b2 : Nat) (v1 v2 : Value) (x y : Int) (h1 : Own w b1 v1 (limbs x.natAbs)) (h2 : Own w b2 v2 (limbs y.natAbs)) (c : Int) (hc : cmp3 (y.natAbs : Int) (x.natAbs : Int) = c) :
    Calls Try.prog 80 #[.agg #[.bool true, v1], .agg #[.bool true, v2]] w (RetI w c) := by
  have BW : Below w.heap.size w ((w.alloc (.cells #[.bool true, v1] 33)).alloc (.cells #[.bool true, v2] 33)) := (((Below.refl w.heap.size w).alloc (Nat.le_refl _) _).alloc (by simp) _)
  obtain ⟨c0_0, c0_1, c1_0, c1_1⟩ : World.cell? ((w.alloc (.cells #[.bool true, v1] 33)).alloc (.cells #[.bool true, v2] 33)) ⟨w.heap.size, 0, none⟩ = some (.bool true) ∧ World.cell? ((w.alloc (.cells #[.bool true, v1] 33)).alloc (.cells #[.bool true, v2] 33)) ⟨w.heap.size, 1, none⟩ = some (v1) ∧ World.cell? ((w.alloc (.cells #[.bool true, v1] 33)).alloc (.cells #[.bool true, v2] 33)) ⟨w.heap.size + 1, 0, none⟩ = some (.bool true) ∧ World.cell? ((w.alloc (.cells #[.bool true, v1] 33)).alloc (.cells #[.bool true, v2] 33)) ⟨w.heap.size + 1, 1, none⟩ = some (v2) := by simp [go_sem]
  have Hv := Lib.hid (h1.below BW (Nat.le_refl _))
  have Hu := Lib.hid (h2.below BW (Nat.le_refl _))
  clear h1 h2
  have HC := Lib.hid hc
  clear hc
  go_enter Try.func80, Try.ntmps80
  go_wp2_with fail
  generalize ((w.alloc (.cells #[.bool true, v1] 33)).alloc (.cells #[.bool true, v2] 33)) = w0 at *
  have B0 := Below.refl w0.heap.size w0
  refine (natCmp_n _ _ _ _ _ y.natAbs x.natAbs Hu.out Hv.out).mono ?_
  rintro e w1 ⟨rfl, hb⟩
  replace c0_0 := keep_cell hb c0_0
  replace c0_1 := keep_cell hb c0_1
  replace c1_0 := keep_cell hb c1_0
  replace c1_1 := keep_cell hb c1_1
  replace Hv := Lib.hid (Hv.out.below hb (Nat.le_refl _))
  replace Hu := Lib.hid (Hu.out.below hb (Nat.le_refl _))
  replace B0 := B0.trans (hb.mono B0.size)
  clear hb
  go_wp2
  go_ret
  exact retI HC.out (BW.trans (B0.mono BW.size))

set_option maxHeartbeats 1000000 in
theorem bigCmp_pp (w : World) (b1 b2 : Nat) (v1 v2 : Value) (x y : Int) (h1 : Own w b1 v1 (limbs x.natAbs)) (h2 : Own w b2 v2 (limbs y.natAbs)) (c : Int) (hc : cmp3 (x.natAbs : Int) (y.natAbs : Int) = c) :
    Calls Try.prog 80 #[.agg #[.bool false, v1], .agg #[.bool false, v2]] w (RetI w c) := by
  have BW : Below w.heap.size w ((w.alloc (.cells #[.bool false, v1] 33)).alloc (.cells #[.bool false, v2] 33)) := (((Below.refl w.heap.size w).alloc (Nat.le_refl _) _).alloc (by simp) _)
  obtain ⟨c0_0, c0_1, c1_0, c1_1⟩ : World.cell? ((w.alloc (.cells #[.bool false, v1] 33)).alloc (.cells #[.bool false, v2] 33)) ⟨w.heap.size, 0, none⟩ = some (.bool false) ∧ World.cell? ((w.alloc (.cells #[.bool false, v1] 33)).alloc (.cells #[.bool false, v2] 33)) ⟨w.heap.size, 1, none⟩ = some (v1) ∧ World.cell? ((w.alloc (.cells #[.bool false, v1] 33)).alloc (.cells #[.bool false, v2] 33)) ⟨w.heap.size + 1, 0, none⟩ = some (.bool false) ∧ World.cell? ((w.alloc (.cells #[.bool false, v1] 33)).alloc (.cells #[.bool false, v2] 33)) ⟨w.heap.size + 1, 1, none⟩ = some (v2) := by simp [go_sem]
  have Hv := Lib.hid (h1.below BW (Nat.le_refl _))
  have Hu := Lib.hid (h2.below BW (Nat.le_refl _))
  clear h1 h2
  have HC := Lib.hid hc
  clear hc
  go_enter Try.func80, Try.ntmps80
  go_wp2_with fail
  generalize ((w.alloc (.cells #[.bool false, v1] 33)).alloc (.cells #[.bool false, v2] 33)) = w0 at *
  have B0 := Below.refl w0.heap.size w0
  refine (natCmp_n _ _ _ _ _ x.natAbs y.natAbs Hv.out Hu.out).mono ?_
  rintro e w1 ⟨rfl, hb⟩
  replace c0_0 := keep_cell hb c0_0
  replace c0_1 := keep_cell hb c0_1
  replace c1_0 := keep_cell hb c1_0
  replace c1_1 := keep_cell hb c1_1
  replace Hv := Lib.hid (Hv.out.below hb (Nat.le_refl _))
  replace Hu := Lib.hid (Hu.out.below hb (Nat.le_refl _))
  replace B0 := B0.trans (hb.mono B0.size)
  clear hb
  go_wp2
  go_ret
  exact retI HC.out (BW.trans (B0.mono BW.size))

theorem bigCmp_c (w : World) (b1 b2 : Nat) (v1 v2 : Value) (x y : Int) (h1 : Own w b1 v1 (limbs x.natAbs)) (h2 : Own w b2 v2 (limbs y.natAbs)) :
    Calls Try.prog 80 #[.agg #[.bool (ng x), v1], .agg #[.bool (ng y), v2]] w (RetI w (cmp3 x y)) := by
  rcases ng_cases x with ⟨h3, e1⟩ | ⟨h3, e1⟩ <;> rcases ng_cases y with ⟨h4, e2⟩ | ⟨h4, e2⟩ <;> rw [e1, e2]
  · exact bigCmp_nn w b1 b2 v1 v2 x y h1 h2 _ (cmp3_neg h3 h4)
  · rw [cmp3_lt (by omega : x < y)]; exact bigCmp_np w v1 v2
  · rw [cmp3_gt (by omega : y < x)]; exact bigCmp_pn w v1 v2
  · exact bigCmp_pp w b1 b2 v1 v2 x y h1 h2 _ (cmp3_pos h3 h4)

set_option maxHeartbeats 1000000 in
theorem BigIntCmp_bad1 (w : World) (b1 : Nat) (s t : Bool) (v1 v2 : Value) (xs : List Int) (h1 : Own w b1 v1 xs) (hx : ¬ OkG s xs) :
    Calls Try.prog 49 #[.agg #[.bool s, v1], .agg #[.bool t, v2]] w (RetI w 0) := by
  have BW : Below w.heap.size w ((w.alloc (.cells #[.bool s, v1] 33)).alloc (.cells #[.bool t, v2] 33)) := (((Below.refl w.heap.size w).alloc (Nat.le_refl _) _).alloc (by simp) _)
  obtain ⟨c0_0, c0_1, c1_0, c1_1⟩ : World.cell? ((w.alloc (.cells #[.bool s, v1] 33)).alloc (.cells #[.bool t, v2] 33)) ⟨w.heap.size, 0, none⟩ = some (.bool s) ∧ World.cell? ((w.alloc (.cells #[.bool s, v1] 33)).alloc (.cells #[.bool t, v2] 33)) ⟨w.heap.size, 1, none⟩ = some (v1) ∧ World.cell? ((w.alloc (.cells #[.bool s, v1] 33)).alloc (.cells #[.bool t, v2] 33)) ⟨w.heap.size + 1, 0, none⟩ = some (.bool t) ∧ World.cell? ((w.alloc (.cells #[.bool s, v1] 33)).alloc (.cells #[.bool t, v2] 33)) ⟨w.heap.size + 1, 1, none⟩ = some (v2) := by simp [go_sem]
  have Hv := Lib.hid (h1.below BW (Nat.le_refl _))
  clear h1
  have HX := Lib.hid hx
  clear hx
  go_enter Try.func49, Try.ntmps49
  go_wp2_with fail
  generalize ((w.alloc (.cells #[.bool s, v1] 33)).alloc (.cells #[.bool t, v2] 33)) = w0 at *
  have B0 := Below.refl w0.heap.size w0
  refine (bigIntOk_f _ _ _ _ _ Hv.out HX.out).mono ?_
  rintro e w1 ⟨rfl, hb⟩
  replace c0_0 := keep_cell hb c0_0
  replace c0_1 := keep_cell hb c0_1
  replace c1_0 := keep_cell hb c1_0
  replace c1_1 := keep_cell hb c1_1
  replace Hv := Lib.hid (Hv.out.below hb (Nat.le_refl _))
  replace B0 := B0.trans (hb.mono B0.size)
  clear hb
  go_wp2
  go_ret
  exact retI rfl (BW.trans (B0.mono BW.size))

set_option maxHeartbeats 1000000 in
theorem BigIntCmp_bad2 (w : World) (b1 b2 : Nat) (s t : Bool) (v1 v2 : Value) (xs ys : List Int) (h1 : Own w b1 v1 xs) (h2 : Own w b2 v2 ys) (hx : OkG s xs) (hy : ¬ OkG t ys) :
    Calls Try.prog 49 #[.agg #[.bool s, v1], .agg #[.bool t, v2]] w (RetI w 0) := by
  have BW : Below w.heap.size w ((w.alloc (.cells #[.bool s, v1] 33)).alloc (.cells #[.bool t, v2] 33)) := (((Below.refl w.heap.size w).alloc (Nat.le_refl _) _).alloc (by simp) _)
  obtain ⟨c0_0, c0_1, c1_0, c1_1⟩ : World.cell? ((w.alloc (.cells #[.bool s, v1] 33)).alloc (.cells #[.bool t, v2] 33)) ⟨w.heap.size, 0, none⟩ = some (.bool s) ∧ World.cell? ((w.alloc (.cells #[.bool s, v1] 33)).alloc (.cells #[.bool t, v2] 33)) ⟨w.heap.size, 1, none⟩ = some (v1) ∧ World.cell? ((w.alloc (.cells #[.bool s, v1] 33)).alloc (.cells #[.bool t, v2] 33)) ⟨w.heap.size + 1, 0, none⟩ = some (.bool t) ∧ World.cell? ((w.alloc (.cells #[.bool s, v1] 33)).alloc (.cells #[.bool t, v2] 33)) ⟨w.heap.size + 1, 1, none⟩ = some (v2) := by simp [go_sem]
  have Hv := Lib.hid (h1.below BW (Nat.le_refl _))
  have Hu := Lib.hid (h2.below BW (Nat.le_refl _))
  clear h1 h2
  have HX := Lib.hid hx
  have HY := Lib.hid hy
  clear hx hy
  go_enter Try.func49, Try.ntmps49
  go_wp2_with fail
  generalize ((w.alloc (.cells #[.bool s, v1] 33)).alloc (.cells #[.bool t, v2] 33)) = w0 at *
  have B0 := Below.refl w0.heap.size w0
  refine (bigIntOk_t _ _ _ _ _ Hv.out HX.out).mono ?_
  rintro e w1 ⟨rfl, hb⟩
  replace c0_0 := keep_cell hb c0_0
  replace c0_1 := keep_cell hb c0_1
  replace c1_0 := keep_cell hb c1_0
  replace c1_1 := keep_cell hb c1_1
  replace Hv := Lib.hid (Hv.out.below hb (Nat.le_refl _))
  replace Hu := Lib.hid (Hu.out.below hb (Nat.le_refl _))
  replace B0 := B0.trans (hb.mono B0.size)
  clear hb
  go_wp2_with fail
  refine (bigIntOk_f _ _ _ _ _ Hu.out HY.out).mono ?_
  rintro e w2 ⟨rfl, hb⟩
  replace c0_0 := keep_cell hb c0_0
  replace c0_1 := keep_cell hb c0_1
  replace c1_0 := keep_cell hb c1_0
  replace c1_1 := keep_cell hb c1_1
  replace Hv := Lib.hid (Hv.out.below hb (Nat.le_refl _))
  replace Hu := Lib.hid (Hu.out.below hb (Nat.le_refl _))
  replace B0 := B0.trans (hb.mono B0.size)
  clear hb
  go_wp2
  go_ret
  exact retI rfl (BW.trans (B0.mono BW.size))

set_option maxHeartbeats 1000000 in
theorem BigIntCmp_good (w : World) (b1 b2 : Nat) (v1 v2 : Value) (x y : Int) (h1 : Own w b1 v1 (limbs x.natAbs)) (h2 : Own w b2 v2 (limbs y.natAbs)) (hl1 : (limbs x.natAbs).length ≤ 60) (hl2 : (limbs y.natAbs).length ≤ 60) :
    Calls Try.prog 49 #[.agg #[.bool (ng x), v1], .agg #[.bool (ng y), v2]] w (RetI w (cmp3 x y)) := by
  have BW : Below w.heap.size w ((w.alloc (.cells #[.bool (ng x), v1] 33)).alloc (.cells #[.bool (ng y), v2] 33)) := (((Below.refl w.heap.size w).alloc (Nat.le_refl _) _).alloc (by simp) _)
  obtain ⟨c0_0, c0_1, c1_0, c1_1⟩ : World.cell? ((w.alloc (.cells #[.bool (ng x), v1] 33)).alloc (.cells #[.bool (ng y), v2] 33)) ⟨w.heap.size, 0, none⟩ = some (.bool (ng x)) ∧ World.cell? ((w.alloc (.cells #[.bool (ng x), v1] 33)).alloc (.cells #[.bool (ng y), v2] 33)) ⟨w.heap.size, 1, none⟩ = some (v1) ∧ World.cell? ((w.alloc (.cells #[.bool (ng x), v1] 33)).alloc (.cells #[.bool (ng y), v2] 33)) ⟨w.heap.size + 1, 0, none⟩ = some (.bool (ng y)) ∧ World.cell? ((w.alloc (.cells #[.bool (ng x), v1] 33)).alloc (.cells #[.bool (ng y), v2] 33)) ⟨w.heap.size + 1, 1, none⟩ = some (v2) := by simp [go_sem]
  have Hv := Lib.hid (h1.below BW (Nat.le_refl _))
  have Hu := Lib.hid (h2.below BW (Nat.le_refl _))
  clear h1 h2
  go_enter Try.func49, Try.ntmps49
  go_wp2_with fail
  generalize ((w.alloc (.cells #[.bool (ng x), v1] 33)).alloc (.cells #[.bool (ng y), v2] 33)) = w0 at *
  have B0 := Below.refl w0.heap.size w0
  refine (bigIntOk_z _ _ _ x Hv.out hl1).mono ?_
  rintro e w1 ⟨rfl, hb⟩
  replace c0_0 := keep_cell hb c0_0
  replace c0_1 := keep_cell hb c0_1
  replace c1_0 := keep_cell hb c1_0
  replace c1_1 := keep_cell hb c1_1
  replace Hv := Lib.hid (Hv.out.below hb (Nat.le_refl _))
  replace Hu := Lib.hid (Hu.out.below hb (Nat.le_refl _))
  replace B0 := B0.trans (hb.mono B0.size)
  clear hb
  go_wp2_with fail
  refine (bigIntOk_z _ _ _ y Hu.out hl2).mono ?_
  rintro e w2 ⟨rfl, hb⟩
  replace c0_0 := keep_cell hb c0_0
  replace c0_1 := keep_cell hb c0_1
  replace c1_0 := keep_cell hb c1_0
  replace c1_1 := keep_cell hb c1_1
  replace Hv := Lib.hid (Hv.out.below hb (Nat.le_refl _))
  replace Hu := Lib.hid (Hu.out.below hb (Nat.le_refl _))
  replace B0 := B0.trans (hb.mono B0.size)
  clear hb
  go_wp2_with fail
  refine (bigCmp_c _ _ _ _ _ x y Hv.out Hu.out).mono ?_
  rintro e w3 ⟨rfl, hb⟩
  replace c0_0 := keep_cell hb c0_0
  replace c0_1 := keep_cell hb c0_1
  replace c1_0 := keep_cell hb c1_0
  replace c1_1 := keep_cell hb c1_1
  replace Hv := Lib.hid (Hv.out.below hb (Nat.le_refl _))
  replace Hu := Lib.hid (Hu.out.below hb (Nat.le_refl _))
  replace B0 := B0.trans (hb.mono B0.size)
  clear hb
  go_wp2
  go_ret
  exact retI rfl (BW.trans (B0.mono BW.size))

theorem BigIntCmp_c (w : World) (b1 b2 : Nat) (s t : Bool) (v1 v2 : Value) (xs ys : List Int) (h1 : Own w b1 v1 xs) (h2 : Own w b2 v2 ys) : Calls Try.prog 49 #[.agg #[.bool s, v1], .agg #[.bool t, v2]] w (RetI w (zcmpV s xs t ys)) := by
  by_cases hx : OkG s xs
  · by_cases hy : OkG t ys
    · rw [show zcmpV s xs t ys = cmp3 (zv s xs) (zv t ys) from if_pos ⟨hx, hy⟩]
      obtain ⟨x, rfl, rfl, hl1, e1⟩ := okG_z hx
      obtain ⟨y, rfl, rfl, hl2, e2⟩ := okG_z hy
      rw [e1, e2]
      exact BigIntCmp_good w b1 b2 v1 v2 x y h1 h2 hl1 hl2
    · rw [show zcmpV s xs t ys = 0 from if_neg fun h => hy h.2]
      exact BigIntCmp_bad2 w b1 b2 s t v1 v2 xs ys h1 h2 hx hy
  · rw [show zcmpV s xs t ys = 0 from if_neg fun h => hx h.1]
    exact BigIntCmp_bad1 w b1 s t v1 v2 xs h1 hx

end Go.Proofs.Ytjhgomdfbljgdaa
