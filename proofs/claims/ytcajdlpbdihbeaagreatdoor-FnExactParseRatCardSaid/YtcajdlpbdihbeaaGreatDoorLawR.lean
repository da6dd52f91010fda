/- The laws' own helpers on fractions: toRat, szRat, eqRat, markRat, heldRat; a fraction that came in, opened. -/
import Derived.Test.YtcajdlpbdihbeaaGreatDoorRatA
namespace Go.Proofs.YtcajdlpbdihbeaaGreatDoor
open Go.ChangeShapes Go.WideShapes Go.ChangeAt Go.RowKit Lm

/-- Two slices that came in. -/
def Rd2 (w : World) (v u : Value) (xs ys : List Int) : Prop := Rd w v xs ∧ Rd w u ys
theorem Rd2.below {w w' : World} {v u : Value} {xs ys : List Int} (h : Rd2 w v u xs ys) (hb : Below w.heap.size w w') : Rd2 w' v u xs ys := ⟨h.1.below hb, h.2.below hb⟩

theorem retR_fin {w wk : World} {g base : Nat} {s : Bool} {u v : Value} {xs ys : List Int} (hB : Below w.heap.size w wk) (hg : w.heap.size ≤ g) (hb : w.heap.size ≤ base)
    (hu : Own wk base u xs) (hv : Own wk base v ys) (nu : u.ownBlock ≠ some g) (nv : v.ownBlock ≠ some g) (ha : Apart u v) :
    RetR w s xs ys (.returned (.agg #[.bool s, u, v])) (((wk.setCell ⟨g, 0, none⟩ (.bool s)).setCell ⟨g, 1, none⟩ u).setCell ⟨g, 2, none⟩ v) :=
  ⟨u, v, rfl, (set3_own hu nu).mono hb, (set3_own hv nv).mono hb, ha, set3_below hB hg⟩

set_option maxHeartbeats 1000000 in
theorem eqRat_k (w : World) (s : Bool) (xs ys : List Int) (b1 e1 b2 e2 : Nat) (v1 u1 v2 u2 : Value) (h1 : Own w b1 v1 xs) (k1 : Own w e1 u1 ys) (h2 : Own w b2 v2 xs) (k2 : Own w e2 u2 ys) :
    Calls Tryz.prog 6 #[.agg #[.bool s, v1, u1], .agg #[.bool s, v2, u2]] w (RetB w true) := by
  have BW : Below w.heap.size w ((w.alloc (.cells #[.bool s, v1, u1] 26)).alloc (.cells #[.bool s, v2, u2] 26)) := (((Below.refl w.heap.size w).alloc (Nat.le_refl _) _).alloc (by simp) _)
  obtain ⟨c0_0, c0_1, c0_2, c1_0, c1_1, c1_2⟩ : World.cell? ((w.alloc (.cells #[.bool s, v1, u1] 26)).alloc (.cells #[.bool s, v2, u2] 26)) ⟨w.heap.size, 0, none⟩ = some (.bool s) ∧ World.cell? ((w.alloc (.cells #[.bool s, v1, u1] 26)).alloc (.cells #[.bool s, v2, u2] 26)) ⟨w.heap.size, 1, none⟩ = some (v1) ∧ World.cell? ((w.alloc (.cells #[.bool s, v1, u1] 26)).alloc (.cells #[.bool s, v2, u2] 26)) ⟨w.heap.size, 2, none⟩ = some (u1) ∧ World.cell? ((w.alloc (.cells #[.bool s, v1, u1] 26)).alloc (.cells #[.bool s, v2, u2] 26)) ⟨w.heap.size + 1, 0, none⟩ = some (.bool s) ∧ World.cell? ((w.alloc (.cells #[.bool s, v1, u1] 26)).alloc (.cells #[.bool s, v2, u2] 26)) ⟨w.heap.size + 1, 1, none⟩ = some (v2) ∧ World.cell? ((w.alloc (.cells #[.bool s, v1, u1] 26)).alloc (.cells #[.bool s, v2, u2] 26)) ⟨w.heap.size + 1, 2, none⟩ = some (u2) := by simp [go_sem]
  have Ha := Lib.hid (h1.below BW (Nat.le_refl _))
  have Hb := Lib.hid (k1.below BW (Nat.le_refl _))
  have Hc := Lib.hid (h2.below BW (Nat.le_refl _))
  have Hd := Lib.hid (k2.below BW (Nat.le_refl _))
  clear h1 k1 h2 k2
  go_enter Tryz.func6, Tryz.ntmps6
  go_wp2_with fail
  generalize ((w.alloc (.cells #[.bool s, v1, u1] 26)).alloc (.cells #[.bool s, v2, u2] 26)) = w0 at *
  have B0 := Below.refl w0.heap.size w0
  refine (eqBigInt_c _ _ _ s _ _ xs Ha.out Hc.out).mono ?_
  rintro e w1 ⟨rfl, hb⟩
  replace c0_0 := keep_cell hb c0_0
  replace c0_1 := keep_cell hb c0_1
  replace c0_2 := keep_cell hb c0_2
  replace c1_0 := keep_cell hb c1_0
  replace c1_1 := keep_cell hb c1_1
  replace c1_2 := keep_cell hb c1_2
  replace Ha := Lib.hid (Ha.out.below hb (Nat.le_refl _))
  replace Hb := Lib.hid (Hb.out.below hb (Nat.le_refl _))
  replace Hc := Lib.hid (Hc.out.below hb (Nat.le_refl _))
  replace Hd := Lib.hid (Hd.out.below hb (Nat.le_refl _))
  replace B0 := B0.trans (hb.mono B0.size)
  clear hb
  go_wp2_with fail
  refine (eqIntS_c _ _ _ _ _ ys Hb.out Hd.out).mono ?_
  rintro e w2 ⟨rfl, hb⟩
  replace c0_0 := keep_cell hb c0_0
  replace c0_1 := keep_cell hb c0_1
  replace c0_2 := keep_cell hb c0_2
  replace c1_0 := keep_cell hb c1_0
  replace c1_1 := keep_cell hb c1_1
  replace c1_2 := keep_cell hb c1_2
  replace Ha := Lib.hid (Ha.out.below hb (Nat.le_refl _))
  replace Hb := Lib.hid (Hb.out.below hb (Nat.le_refl _))
  replace Hc := Lib.hid (Hc.out.below hb (Nat.le_refl _))
  replace Hd := Lib.hid (Hd.out.below hb (Nat.le_refl _))
  replace B0 := B0.trans (hb.mono B0.size)
  clear hb
  go_wp2
  go_ret
  exact retB rfl (BW.trans (B0.mono BW.size))

theorem eqRat_c (w : World) (s : Bool) (xs ys : List Int) {b1 e1 b2 e2 : Nat} {v1 u1 v2 u2 : Value} (h1 : Own w b1 v1 xs) (k1 : Own w e1 u1 ys) (h2 : Own w b2 v2 xs) (k2 : Own w e2 u2 ys) :
    Calls Tryz.prog 6 #[.agg #[.bool s, v1, u1], .agg #[.bool s, v2, u2]] w (RetB w true) := eqRat_k w s xs ys b1 e1 b2 e2 v1 u1 v2 u2 h1 k1 h2 k2
/-- Both rows of a fraction are marked. -/
def RetMk2 (w : World) (b c : Nat) (v u : Value) (k : Int) (n m : Nat) (e : Ending) (w' : World) : Prop :=
  ∃ r : Int, k + n + m = r ∧ e = .returned (.int .i64 r) ∧ Own w' b v (iota k n) ∧ Own w' c u (iota (k + n) m) ∧ ∃ wm : World, w.grownBy wm v.ownBlock ∧ wm.grownBy w' u.ownBlock

set_option maxHeartbeats 1000000 in
theorem markRat_k (w : World) (s : Bool) (xs ys : List Int) (k : Int) (b c : Nat) (v1 u1 : Value) (h1 : Own w b v1 xs) (k1 : Own w c u1 ys) (ha : Apart v1 u1) (hl0 : xs.length ≤ 8796093022207) (hl2 : ys.length ≤ 17592186044415) (hk0 : 0 ≤ k) (hk2 : k ≤ 8796093022207) :
    Calls Tryz.prog 7 #[.agg #[.bool s, v1, u1], .int .i64 k] w (RetMk2 w b c v1 u1 k xs.length ys.length) := by
  have hl1 : xs.length ≤ 17592186044415 := by omega
  have hk1 : k ≤ 17592186044415 := by omega
  have BW : Below w.heap.size w (w.alloc (.cells #[.bool s, v1, u1] 26)) := ((Below.refl w.heap.size w).alloc (Nat.le_refl _) _)
  obtain ⟨c0_0, c0_1, c0_2⟩ : World.cell? (w.alloc (.cells #[.bool s, v1, u1] 26)) ⟨w.heap.size, 0, none⟩ = some (.bool s) ∧ World.cell? (w.alloc (.cells #[.bool s, v1, u1] 26)) ⟨w.heap.size, 1, none⟩ = some (v1) ∧ World.cell? (w.alloc (.cells #[.bool s, v1, u1] 26)) ⟨w.heap.size, 2, none⟩ = some (u1) := by simp [go_sem]
  have HNE : Hid (v1.ownBlock ≠ some w.heap.size) := ne_of_top h1 (Nat.le_refl _)
  have Ha := Lib.hid (h1.below BW (Nat.le_refl _))
  have Hb := Lib.hid (k1.below BW (Nat.le_refl _))
  clear h1 k1
  have HA := Lib.hid ha
  clear ha
  go_enter Tryz.func7, Tryz.ntmps7
  go_wp2_with fail
  generalize (w.alloc (.cells #[.bool s, v1, u1] 26)) = w0 at *
  have B0 := Below.refl w0.heap.size w0
  refine (markZ_c _ _ _ s xs k Ha.out hl1 hk0 hk1).mono ?_
  rintro e w1 ⟨m, hm, rfl, ho1, hg⟩
  have HM := Lib.hid hm
  have m0 : 0 ≤ m := by omega
  have m1 : m ≤ 17592186044415 := by omega
  clear hm
  have Hb1 := Lib.hid (Hb.out.marked hg HA.out.symm)
  replace c0_2 := keep_grown hg c0_2 HNE.out
  have HO := Lib.hid ho1
  have HG := Lib.hid hg
  clear ho1 hg Ha Hb c0_0 c0_1
  go_wp2_with fail
  refine (markI_c _ _ _ ys m Hb1.out hl2 m0 m1).mono ?_
  rintro e w2 ⟨r, hr, rfl, ho2, hg2⟩
  have HR := Lib.hid hr
  have HO2 := Lib.hid ho2
  have HG2 := Lib.hid hg2
  clear hr ho2 hg2
  go_wp2
  go_ret
  exact ⟨r, by rw [HM.out]; exact HR.out, rfl, HO.out.marked HG2.out HA.out, by rw [HM.out]; exact HO2.out, w1, grown_below BW HG.out, HG2.out⟩

theorem markR_c (w : World) (s : Bool) (xs ys : List Int) (k : Int) {b c : Nat} {v1 u1 : Value} (h1 : Own w b v1 xs) (k1 : Own w c u1 ys) (ha : Apart v1 u1) (hl0 : xs.length ≤ 8796093022207) (hl2 : ys.length ≤ 17592186044415) (hk0 : 0 ≤ k) (hk2 : k ≤ 8796093022207) :
    Calls Tryz.prog 7 #[.agg #[.bool s, v1, u1], .int .i64 k] w (RetMk2 w b c v1 u1 k xs.length ys.length) := markRat_k w s xs ys k b c v1 u1 h1 k1 ha hl0 hl2 hk0 hk2
theorem mark2Below {w0 w wm w' : World} {v u : Value} {xs ys : List Int} {b c : Nat} (h : Own w b v xs) (k : Own w c u ys) (hB : Below w0.heap.size w0 w) (hg : w.grownBy wm v.ownBlock) (hg2 : wm.grownBy w' u.ownBlock) (h1 : w0.heap.size ≤ b) (h2 : w0.heap.size ≤ c) : Below w0.heap.size w0 w' := by
  have B1 := h.grownBelow hB hg h1 hB.size
  exact B1.grown hg2 B1.size (fun j hj => Nat.le_trans h2 (k.lt j hj).1)

set_option maxHeartbeats 1000000 in
theorem heldRat_k (w : World) (s : Bool) (n m : Nat) (k r : Int) (b c : Nat) (v1 u1 : Value) (h1 : Own w b v1 (iota k n)) (k1 : Own w c u1 (iota (k + n) m)) (hl0 : n ≤ 8796093022207) (hl2 : m ≤ 17592186044415) (hk0 : 0 ≤ k) (hk2 : k ≤ 8796093022207) (hm : k + n + m = r) :
    Calls Tryz.prog 8 #[.agg #[.bool s, v1, u1], .int .i64 k] w (RetI w r) := by
  have hl1 : n ≤ 17592186044415 := by omega
  have hk1 : k ≤ 17592186044415 := by omega
  have BW : Below w.heap.size w (w.alloc (.cells #[.bool s, v1, u1] 26)) := ((Below.refl w.heap.size w).alloc (Nat.le_refl _) _)
  obtain ⟨c0_0, c0_1, c0_2⟩ : World.cell? (w.alloc (.cells #[.bool s, v1, u1] 26)) ⟨w.heap.size, 0, none⟩ = some (.bool s) ∧ World.cell? (w.alloc (.cells #[.bool s, v1, u1] 26)) ⟨w.heap.size, 1, none⟩ = some (v1) ∧ World.cell? (w.alloc (.cells #[.bool s, v1, u1] 26)) ⟨w.heap.size, 2, none⟩ = some (u1) := by simp [go_sem]
  have Ha := Lib.hid (h1.below BW (Nat.le_refl _))
  have Hb := Lib.hid (k1.below BW (Nat.le_refl _))
  clear h1 k1
  have d1 : decide (k + (n : Int) < 0) = false := decide_eq_false (by omega)
  have d2 : decide (r < 0) = false := decide_eq_false (by omega)
  have HM := Lib.hid hm
  clear hm
  go_enter Tryz.func8, Tryz.ntmps8
  go_wp2_with fail
  generalize (w.alloc (.cells #[.bool s, v1, u1] 26)) = w0 at *
  have B0 := Below.refl w0.heap.size w0
  refine (heldZ_c _ _ _ _ n k (k + (n : Int)) Ha.out hl1 hk0 hk1 rfl).mono ?_
  rintro e w1 ⟨rfl, hb⟩
  replace c0_0 := keep_cell hb c0_0
  replace c0_1 := keep_cell hb c0_1
  replace c0_2 := keep_cell hb c0_2
  replace Ha := Lib.hid (Ha.out.below hb (Nat.le_refl _))
  replace Hb := Lib.hid (Hb.out.below hb (Nat.le_refl _))
  replace B0 := B0.trans (hb.mono B0.size)
  clear hb
  go_wp2_with fail
  refine (heldI_c _ _ _ m (k + (n : Int)) r Hb.out hl2 (by omega) (by omega) HM.out).mono ?_
  rintro e w2 ⟨rfl, hb⟩
  replace c0_0 := keep_cell hb c0_0
  replace c0_1 := keep_cell hb c0_1
  replace c0_2 := keep_cell hb c0_2
  replace Ha := Lib.hid (Ha.out.below hb (Nat.le_refl _))
  replace Hb := Lib.hid (Hb.out.below hb (Nat.le_refl _))
  replace B0 := B0.trans (hb.mono B0.size)
  clear hb
  go_wp2
  go_ret
  exact retI rfl (BW.trans (B0.mono BW.size))

theorem heldR_c (w : World) (s : Bool) (n m : Nat) (k r : Int) {b c : Nat} {v1 u1 : Value} (h1 : Own w b v1 (iota k n)) (k1 : Own w c u1 (iota (k + n) m)) (hl0 : n ≤ 8796093022207) (hl2 : m ≤ 17592186044415) (hk0 : 0 ≤ k) (hk2 : k ≤ 8796093022207) (hm : k + n + m = r) :
    Calls Tryz.prog 8 #[.agg #[.bool s, v1, u1], .int .i64 k] w (RetI w r) := heldRat_k w s n m k r b c v1 u1 h1 k1 hl0 hl2 hk0 hk2 hm
end Go.Proofs.YtcajdlpbdihbeaaGreatDoor
