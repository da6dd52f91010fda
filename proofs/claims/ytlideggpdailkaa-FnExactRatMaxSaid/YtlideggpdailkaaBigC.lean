/- The program's exported functions on signed numbers. -/
import Derived.Test.YtlideggpdailkaaBigB
import Derived.Test.YtlideggpdailkaaBigV
namespace Go.Proofs.Ytlideggpdailkaa
open Go.RowKit Lm

set_option maxHeartbeats 1000000 in
theorem bigCmp_np (w : World) (v1 v2 : Value) :
    Calls Try.prog 99 #[.agg #[.bool true, v1], .agg #[.bool false, v2]] w (RetI w (-1)) := by
  go_enter Try.func99, Try.ntmps99
  go_wp2
  go_ret
  exact retI rfl (((Below.refl _ _).alloc (Nat.le_refl _) _).alloc (by simp) _)

set_option maxHeartbeats 1000000 in
theorem bigCmp_pn (w : World) (v1 v2 : Value) :
    Calls Try.prog 99 #[.agg #[.bool false, v1], .agg #[.bool true, v2]] w (RetI w (1)) := by
  go_enter Try.func99, Try.ntmps99
  go_wp2
  go_ret
  exact retI rfl (((Below.refl _ _).alloc (Nat.le_refl _) _).alloc (by simp) _)

set_option maxHeartbeats 1000000 in
theorem bigCmp_nn (w : World) (b1 b2 : Nat) (v1 v2 : Value) (x y : Int) (h1 : Own w b1 v1 (limbs x.natAbs)) (h2 : Own w b2 v2 (limbs y.natAbs)) (c : Int) (hc : cmp3 (y.natAbs : Int) (x.natAbs : Int) = c) :
    Calls Try.prog 99 #[.agg #[.bool true, v1], .agg #[.bool true, v2]] w (RetI w c) := by
  have BW : Below w.heap.size w ((w.alloc (.cells #[.bool true, v1] 29)).alloc (.cells #[.bool true, v2] 29)) := (((Below.refl w.heap.size w).alloc (Nat.le_refl _) _).alloc (by simp) _)
  obtain ⟨c0_0, c0_1, c1_0, c1_1⟩ : World.cell? ((w.alloc (.cells #[.bool true, v1] 29)).alloc (.cells #[.bool true, v2] 29)) ⟨w.heap.size, 0, none⟩ = some (.bool true) ∧ World.cell? ((w.alloc (.cells #[.bool true, v1] 29)).alloc (.cells #[.bool true, v2] 29)) ⟨w.heap.size, 1, none⟩ = some (v1) ∧ World.cell? ((w.alloc (.cells #[.bool true, v1] 29)).alloc (.cells #[.bool true, v2] 29)) ⟨w.heap.size + 1, 0, none⟩ = some (.bool true) ∧ World.cell? ((w.alloc (.cells #[.bool true, v1] 29)).alloc (.cells #[.bool true, v2] 29)) ⟨w.heap.size + 1, 1, none⟩ = some (v2) := by simp [go_sem]
  have Hv := Lib.hid (h1.below BW (Nat.le_refl _))
  have Hu := Lib.hid (h2.below BW (Nat.le_refl _))
  clear h1 h2
  have HC := Lib.hid hc
  clear hc
  go_enter Try.func99, Try.ntmps99
  go_wp2_with fail
  generalize ((w.alloc (.cells #[.bool true, v1] 29)).alloc (.cells #[.bool true, v2] 29)) = w0 at *
  have B0 := Below.refl w0.heap.size w0
  refine (natCmp_n _ _ _ _ _ y.natAbs x.natAbs Hu.out Hv.out).mono ?_
  rintro e w1 ⟨rfl, hb⟩
  replace c0_0 := keep_cell hb c0_0
  replace c0_1 := keep_cell hb c0_1
  replace c1_0 := keep_cell hb c1_0
  replace c1_1 := keep_cell hb c1_1
  replace Hv := Lib.hid (Hv.out.below hb (Nat.le_refl _))
  replace Hu := Lib.hid (Hu.out.below hb (Nat.le_refl _))
  replace B0 := B0.trans (hb.mono B0.size)
  clear hb
  go_wp2
  go_ret
  exact retI HC.out (BW.trans (B0.mono BW.size))

set_option maxHeartbeats 1000000 in
theorem bigCmp_pp (w : World) (b1 b2 : Nat) (v1 v2 : Value) (x y : Int) (h1 : Own w b1 v1 (limbs x.natAbs)) (h2 : Own w b2 v2 (limbs y.natAbs)) (c : Int) (hc : cmp3 (x.natAbs : Int) (y.natAbs : Int) = c) :
    Calls Try.prog 99 #[.agg #[.bool false, v1], .agg #[.bool false, v2]] w (RetI w c) := by
  have BW : Below w.heap.size w ((w.alloc (.cells #[.bool false, v1] 29)).alloc (.cells #[.bool false, v2] 29)) := (((Below.refl w.heap.size w).alloc (Nat.le_refl _) _).alloc (by simp) _)
  obtain ⟨c0_0, c0_1, c1_0, c1_1⟩ : World.cell? ((w.alloc (.cells #[.bool false, v1] 29)).alloc (.cells #[.bool false, v2] 29)) ⟨w.heap.size, 0, none⟩ = some (.bool false) ∧ World.cell? ((w.alloc (.cells #[.bool false, v1] 29)).alloc (.cells #[.bool false, v2] 29)) ⟨w.heap.size, 1, none⟩ = some (v1) ∧ World.cell? ((w.alloc (.cells #[.bool false, v1] 29)).alloc (.cells #[.bool false, v2] 29)) ⟨w.heap.size + 1, 0, none⟩ = some (.bool false) ∧ World.cell? ((w.alloc (.cells #[.bool false, v1] 29)).alloc (.cells #[.bool false, v2] 29)) ⟨w.heap.size + 1, 1, none⟩ = some (v2) := by simp [go_sem]
  have Hv := Lib.hid (h1.below BW (Nat.le_refl _))
  have Hu := Lib.hid (h2.below BW (Nat.le_refl _))
  clear h1 h2
  have HC := Lib.hid hc
  clear hc
  go_enter Try.func99, Try.ntmps99
  go_wp2_with fail
  generalize ((w.alloc (.cells #[.bool false, v1] 29)).alloc (.cells #[.bool false, v2] 29)) = w0 at *
  have B0 := Below.refl w0.heap.size w0
  refine (natCmp_n _ _ _ _ _ x.natAbs y.natAbs Hv.out Hu.out).mono ?_
  rintro e w1 ⟨rfl, hb⟩
  replace c0_0 := keep_cell hb c0_0
  replace c0_1 := keep_cell hb c0_1
  replace c1_0 := keep_cell hb c1_0
  replace c1_1 := keep_cell hb c1_1
  replace Hv := Lib.hid (Hv.out.below hb (Nat.le_refl _))
  replace Hu := Lib.hid (Hu.out.below hb (Nat.le_refl _))
  replace B0 := B0.trans (hb.mono B0.size)
  clear hb
  go_wp2
  go_ret
  exact retI HC.out (BW.trans (B0.mono BW.size))

theorem bigCmp_c (w : World) (b1 b2 : Nat) (v1 v2 : Value) (x y : Int) (h1 : Own w b1 v1 (limbs x.natAbs)) (h2 : Own w b2 v2 (limbs y.natAbs)) :
    Calls Try.prog 99 #[.agg #[.bool (ng x), v1], .agg #[.bool (ng y), v2]] w (RetI w (cmp3 x y)) := by
  rcases ng_cases x with ⟨h3, e1⟩ | ⟨h3, e1⟩ <;> rcases ng_cases y with ⟨h4, e2⟩ | ⟨h4, e2⟩ <;> rw [e1, e2]
  · exact bigCmp_nn w b1 b2 v1 v2 x y h1 h2 _ (cmp3_neg h3 h4)
  · rw [cmp3_lt (by omega : x < y)]; exact bigCmp_np w v1 v2
  · rw [cmp3_gt (by omega : y < x)]; exact bigCmp_pn w v1 v2
  · exact bigCmp_pp w b1 b2 v1 v2 x y h1 h2 _ (cmp3_pos h3 h4)

end Go.Proofs.Ytlideggpdailkaa
