/- InnerProduct, of the program and of the reference. -/
import Derived.Test.YtcmhpdhcpkhejaaVecT
namespace Go.Proofs.Ytcmhpdhcpkhejaa
open Go.RowKit Lm

/-- A fraction in new memory, and a truth value. -/
def RetQB (w : World) (z : Int) (d : Nat) (b : Bool) (e : Ending) (w' : World) : Prop :=
  ∃ u v, e = .returned (.tuple #[.agg #[.bool (ng z), u, v], .bool b]) ∧ Own w' w.heap.size u (limbs z.natAbs) ∧ Own w' w.heap.size v (limbs d) ∧ Apart u v ∧ Below w.heap.size w w'
theorem retQB_end {w w0 wk : World} {g : Nat} {z y : Int} {d f : Nat} {b c : Bool} {u v : Value} (h : z = y ∧ d = f ∧ b = c) (BW : Below w.heap.size w w0) (hg : w.heap.size ≤ g) (hg0 : g < w0.heap.size) (B0 : Below w0.heap.size w0 wk)
    (hu : Own wk w0.heap.size u (limbs y.natAbs)) (hv : Own wk w0.heap.size v (limbs f)) (ha : Apart u v) :
    RetQB w z d b (.returned (.tuple #[.agg #[.bool (ng y), u, v], .bool c])) (((wk.setCell ⟨g, 0, none⟩ (.bool (ng y))).setCell ⟨g, 1, none⟩ u).setCell ⟨g, 2, none⟩ v) := by
  obtain ⟨rfl, rfl, rfl⟩ := h
  exact ⟨u, v, rfl, (set3_own hu (ne_of_base hu hg0)).mono BW.size, (set3_own hv (ne_of_base hv hg0)).mono BW.size, ha, set3_below (BW.trans (B0.mono BW.size)) hg⟩
theorem retQB_nil {w w' : World} {z : Int} {d : Nat} {b : Bool} (h : z = 0 ∧ d = 0 ∧ b = false) (hB : Below w.heap.size w w') : RetQB w z d b (.returned (.tuple #[.agg #[.bool false, .slice none 0 0, .slice none 0 0], .bool false])) w' := by
  obtain ⟨rfl, rfl, rfl⟩ := h
  exact ⟨_, _, rfl, Own.nil _ _, Own.nil _ _, apart_nil, hB⟩
theorem retQB_fin {w w0 wk : World} {z y : Int} {d f : Nat} {b c : Bool} {u v : Value} (h : z = y ∧ d = f ∧ b = c) (BW : Below w.heap.size w w0) (hB : Below w.heap.size w wk)
    (hu : Own wk w0.heap.size u (limbs y.natAbs)) (hv : Own wk w0.heap.size v (limbs f)) (ha : Apart u v) : RetQB w z d b (.returned (.tuple #[.agg #[.bool (ng y), u, v], .bool c])) wk := by
  obtain ⟨rfl, rfl, rfl⟩ := h
  exact ⟨u, v, rfl, hu.mono BW.size, hv.mono BW.size, ha, hB⟩
def GivenP (w : World) (z : Int) (u v : Value) (e : Ending) (w' : World) : Prop := e = .returned (.tuple #[.agg #[.bool (ng z), u, v], .bool true]) ∧ Below w.heap.size w w'
def GivenN (w : World) (e : Ending) (w' : World) : Prop := e = .returned (.tuple #[.agg #[.bool false, .slice none 0 0, .slice none 0 0], .bool false]) ∧ Below w.heap.size w w'
open Classical in
/-- What InnerProduct gives. -/
noncomputable def ipQ (n : Nat) (A : Nat → Rc) (m : Nat) (B : Nat → Rc) : Int × Nat := if OkV n A ∧ OkV m B ∧ n = m then inn (fun i => numR (A i)) (fun i => denR (A i)) (fun i => numR (B i)) (fun i => denR (B i)) n else (0, 0)
noncomputable def ipB (n : Nat) (A : Nat → Rc) (m : Nat) (B : Nat → Rc) : Bool := decide (0 < (ipQ n A m B).2)
theorem ipQ_yes {n m : Nat} {A B : Nat → Rc} (h : OkV n A ∧ OkV m B ∧ n = m) : ipQ n A m B = inn (fun i => numR (A i)) (fun i => denR (A i)) (fun i => numR (B i)) (fun i => denR (B i)) n := if_pos h
theorem ipQ_no {n m : Nat} {A B : Nat → Rc} (h : ¬ (OkV n A ∧ OkV m B ∧ n = m)) : ipQ n A m B = (0, 0) := if_neg h

set_option maxHeartbeats 2000000 in
set_option maxRecDepth 100000 in
theorem given_t (w : World) (b1 b2 : Nat) (z : Int) (d : Nat) (a1 a2 : Option Addr) (c1 c2 : Nat) (h1 : Own w b1 (.slice a1 (limbs z.natAbs).length c1) (limbs z.natAbs)) (h2 : Own w b2 (.slice a2 (limbs d).length c2) (limbs d)) (hd : 0 < d) :
    Calls Try.prog 65 #[.agg #[.bool (ng z), (.slice a1 (limbs z.natAbs).length c1), (.slice a2 (limbs d).length c2)]] w (GivenP w z (.slice a1 (limbs z.natAbs).length c1) (.slice a2 (limbs d).length c2)) := by
  have BW : Below w.heap.size w ((w.alloc (.cells #[.bool (ng z), (.slice a1 (limbs z.natAbs).length c1), (.slice a2 (limbs d).length c2)] 45)).alloc (.cells #[.bool false, .slice none 0 0, .slice none 0 0] 45)) := (((Below.refl w.heap.size w).alloc (Nat.le_refl _) _).alloc (by simp) _)
  obtain ⟨c0_0, c0_1, c0_2, c1_0, c1_1, c1_2, q0, q1, q2⟩ : World.cell? ((w.alloc (.cells #[.bool (ng z), (.slice a1 (limbs z.natAbs).length c1), (.slice a2 (limbs d).length c2)] 45)).alloc (.cells #[.bool false, .slice none 0 0, .slice none 0 0] 45)) ⟨w.heap.size, 0, none⟩ = some (.bool (ng z)) ∧ World.cell? ((w.alloc (.cells #[.bool (ng z), (.slice a1 (limbs z.natAbs).length c1), (.slice a2 (limbs d).length c2)] 45)).alloc (.cells #[.bool false, .slice none 0 0, .slice none 0 0] 45)) ⟨w.heap.size, 1, none⟩ = some ((.slice a1 (limbs z.natAbs).length c1)) ∧ World.cell? ((w.alloc (.cells #[.bool (ng z), (.slice a1 (limbs z.natAbs).length c1), (.slice a2 (limbs d).length c2)] 45)).alloc (.cells #[.bool false, .slice none 0 0, .slice none 0 0] 45)) ⟨w.heap.size, 2, none⟩ = some ((.slice a2 (limbs d).length c2)) ∧ World.cell? ((w.alloc (.cells #[.bool (ng z), (.slice a1 (limbs z.natAbs).length c1), (.slice a2 (limbs d).length c2)] 45)).alloc (.cells #[.bool false, .slice none 0 0, .slice none 0 0] 45)) ⟨w.heap.size + 1, 0, none⟩ = some (.bool false) ∧ World.cell? ((w.alloc (.cells #[.bool (ng z), (.slice a1 (limbs z.natAbs).length c1), (.slice a2 (limbs d).length c2)] 45)).alloc (.cells #[.bool false, .slice none 0 0, .slice none 0 0] 45)) ⟨w.heap.size + 1, 1, none⟩ = some (.slice none 0 0) ∧ World.cell? ((w.alloc (.cells #[.bool (ng z), (.slice a1 (limbs z.natAbs).length c1), (.slice a2 (limbs d).length c2)] 45)).alloc (.cells #[.bool false, .slice none 0 0, .slice none 0 0] 45)) ⟨w.heap.size + 1, 2, none⟩ = some (.slice none 0 0) ∧ World.frozen? ((w.alloc (.cells #[.bool (ng z), (.slice a1 (limbs z.natAbs).length c1), (.slice a2 (limbs d).length c2)] 45)).alloc (.cells #[.bool false, .slice none 0 0, .slice none 0 0] 45)) ⟨w.heap.size + 1, 0, none⟩ = false ∧ World.frozen? ((w.alloc (.cells #[.bool (ng z), (.slice a1 (limbs z.natAbs).length c1), (.slice a2 (limbs d).length c2)] 45)).alloc (.cells #[.bool false, .slice none 0 0, .slice none 0 0] 45)) ⟨w.heap.size + 1, 1, none⟩ = false ∧ World.frozen? ((w.alloc (.cells #[.bool (ng z), (.slice a1 (limbs z.natAbs).length c1), (.slice a2 (limbs d).length c2)] 45)).alloc (.cells #[.bool false, .slice none 0 0, .slice none 0 0] 45)) ⟨w.heap.size + 1, 2, none⟩ = false := by simp [go_sem]
  have hg0 : w.heap.size + 1 < (((w.alloc (.cells #[.bool (ng z), (.slice a1 (limbs z.natAbs).length c1), (.slice a2 (limbs d).length c2)] 45)).alloc (.cells #[.bool false, .slice none 0 0, .slice none 0 0] 45))).heap.size := World.block_lt_of_cell? _ _ c1_0
  have Ha := Lib.hid (h1.below BW (Nat.le_refl _))
  have Hb := Lib.hid (h2.below BW (Nat.le_refl _))
  clear h1 h2
  have HD := Lib.hid hd
  clear hd
  go_enter Try.func65, Try.ntmps65
  go_wp2_with fail
  generalize ((w.alloc (.cells #[.bool (ng z), (.slice a1 (limbs z.natAbs).length c1), (.slice a2 (limbs d).length c2)] 45)).alloc (.cells #[.bool false, .slice none 0 0, .slice none 0 0] 45)) = w0 at *
  have B0 := Below.refl w0.heap.size w0
  refine (void_f _ _ _ _ _ d Hb.out HD.out).mono ?_
  rintro e w1 ⟨rfl, hb⟩
  replace c0_0 := keep_cell hb c0_0
  replace c0_1 := keep_cell hb c0_1
  replace c0_2 := keep_cell hb c0_2
  replace q0 := keep_frozen (w1 := w1) hb c1_0 q0
  replace c1_0 := keep_cell (w1 := w1) hb c1_0
  replace q1 := keep_frozen (w1 := w1) hb c1_1 q1
  replace c1_1 := keep_cell (w1 := w1) hb c1_1
  replace q2 := keep_frozen (w1 := w1) hb c1_2 q2
  replace c1_2 := keep_cell (w1 := w1) hb c1_2
  replace Ha := Lib.hid (Ha.out.below hb (Nat.le_refl _))
  replace Hb := Lib.hid (Hb.out.below hb (Nat.le_refl _))
  replace B0 := B0.trans (hb.mono B0.size)
  clear hb
  go_wp2
  exact bodyPost_ret (v := .tuple #[.agg #[.bool (ng z), (.slice a1 (limbs z.natAbs).length c1), (.slice a2 (limbs d).length c2)], .bool true]) (by simp [results, Try.results65, go_sem, c1_0, c1_1, c1_2]) rfl ⟨rfl, set3_below (BW.trans (B0.mono BW.size)) (by omega)⟩

set_option maxHeartbeats 2000000 in
set_option maxRecDepth 100000 in
theorem given_f (w : World) (b1 b2 : Nat) (z : Int) (d : Nat) (a1 a2 : Option Addr) (c1 c2 : Nat) (h1 : Own w b1 (.slice a1 (limbs z.natAbs).length c1) (limbs z.natAbs)) (h2 : Own w b2 (.slice a2 (limbs d).length c2) (limbs d)) (hd : d = 0) :
    Calls Try.prog 65 #[.agg #[.bool (ng z), (.slice a1 (limbs z.natAbs).length c1), (.slice a2 (limbs d).length c2)]] w (GivenN w) := by
  have BW : Below w.heap.size w ((w.alloc (.cells #[.bool (ng z), (.slice a1 (limbs z.natAbs).length c1), (.slice a2 (limbs d).length c2)] 45)).alloc (.cells #[.bool false, .slice none 0 0, .slice none 0 0] 45)) := (((Below.refl w.heap.size w).alloc (Nat.le_refl _) _).alloc (by simp) _)
  obtain ⟨c0_0, c0_1, c0_2, c1_0, c1_1, c1_2, q0, q1, q2⟩ : World.cell? ((w.alloc (.cells #[.bool (ng z), (.slice a1 (limbs z.natAbs).length c1), (.slice a2 (limbs d).length c2)] 45)).alloc (.cells #[.bool false, .slice none 0 0, .slice none 0 0] 45)) ⟨w.heap.size, 0, none⟩ = some (.bool (ng z)) ∧ World.cell? ((w.alloc (.cells #[.bool (ng z), (.slice a1 (limbs z.natAbs).length c1), (.slice a2 (limbs d).length c2)] 45)).alloc (.cells #[.bool false, .slice none 0 0, .slice none 0 0] 45)) ⟨w.heap.size, 1, none⟩ = some ((.slice a1 (limbs z.natAbs).length c1)) ∧ World.cell? ((w.alloc (.cells #[.bool (ng z), (.slice a1 (limbs z.natAbs).length c1), (.slice a2 (limbs d).length c2)] 45)).alloc (.cells #[.bool false, .slice none 0 0, .slice none 0 0] 45)) ⟨w.heap.size, 2, none⟩ = some ((.slice a2 (limbs d).length c2)) ∧ World.cell? ((w.alloc (.cells #[.bool (ng z), (.slice a1 (limbs z.natAbs).length c1), (.slice a2 (limbs d).length c2)] 45)).alloc (.cells #[.bool false, .slice none 0 0, .slice none 0 0] 45)) ⟨w.heap.size + 1, 0, none⟩ = some (.bool false) ∧ World.cell? ((w.alloc (.cells #[.bool (ng z), (.slice a1 (limbs z.natAbs).length c1), (.slice a2 (limbs d).length c2)] 45)).alloc (.cells #[.bool false, .slice none 0 0, .slice none 0 0] 45)) ⟨w.heap.size + 1, 1, none⟩ = some (.slice none 0 0) ∧ World.cell? ((w.alloc (.cells #[.bool (ng z), (.slice a1 (limbs z.natAbs).length c1), (.slice a2 (limbs d).length c2)] 45)).alloc (.cells #[.bool false, .slice none 0 0, .slice none 0 0] 45)) ⟨w.heap.size + 1, 2, none⟩ = some (.slice none 0 0) ∧ World.frozen? ((w.alloc (.cells #[.bool (ng z), (.slice a1 (limbs z.natAbs).length c1), (.slice a2 (limbs d).length c2)] 45)).alloc (.cells #[.bool false, .slice none 0 0, .slice none 0 0] 45)) ⟨w.heap.size + 1, 0, none⟩ = false ∧ World.frozen? ((w.alloc (.cells #[.bool (ng z), (.slice a1 (limbs z.natAbs).length c1), (.slice a2 (limbs d).length c2)] 45)).alloc (.cells #[.bool false, .slice none 0 0, .slice none 0 0] 45)) ⟨w.heap.size + 1, 1, none⟩ = false ∧ World.frozen? ((w.alloc (.cells #[.bool (ng z), (.slice a1 (limbs z.natAbs).length c1), (.slice a2 (limbs d).length c2)] 45)).alloc (.cells #[.bool false, .slice none 0 0, .slice none 0 0] 45)) ⟨w.heap.size + 1, 2, none⟩ = false := by simp [go_sem]
  have hg0 : w.heap.size + 1 < (((w.alloc (.cells #[.bool (ng z), (.slice a1 (limbs z.natAbs).length c1), (.slice a2 (limbs d).length c2)] 45)).alloc (.cells #[.bool false, .slice none 0 0, .slice none 0 0] 45))).heap.size := World.block_lt_of_cell? _ _ c1_0
  have Ha := Lib.hid (h1.below BW (Nat.le_refl _))
  have Hb := Lib.hid (h2.below BW (Nat.le_refl _))
  clear h1 h2
  have HD := Lib.hid hd
  clear hd
  go_enter Try.func65, Try.ntmps65
  go_wp2_with fail
  generalize ((w.alloc (.cells #[.bool (ng z), (.slice a1 (limbs z.natAbs).length c1), (.slice a2 (limbs d).length c2)] 45)).alloc (.cells #[.bool false, .slice none 0 0, .slice none 0 0] 45)) = w0 at *
  have B0 := Below.refl w0.heap.size w0
  refine (void_t _ _ _ _ _ d Hb.out HD.out).mono ?_
  rintro e w1 ⟨rfl, hb⟩
  replace c0_0 := keep_cell hb c0_0
  replace c0_1 := keep_cell hb c0_1
  replace c0_2 := keep_cell hb c0_2
  replace q0 := keep_frozen (w1 := w1) hb c1_0 q0
  replace c1_0 := keep_cell (w1 := w1) hb c1_0
  replace q1 := keep_frozen (w1 := w1) hb c1_1 q1
  replace c1_1 := keep_cell (w1 := w1) hb c1_1
  replace q2 := keep_frozen (w1 := w1) hb c1_2 q2
  replace c1_2 := keep_cell (w1 := w1) hb c1_2
  replace Ha := Lib.hid (Ha.out.below hb (Nat.le_refl _))
  replace Hb := Lib.hid (Hb.out.below hb (Nat.le_refl _))
  replace B0 := B0.trans (hb.mono B0.size)
  clear hb
  go_wp2
  exact bodyPost_ret (v := .tuple #[.agg #[.bool false, .slice none 0 0, .slice none 0 0], .bool false]) (by simp [results, Try.results65, go_sem, c1_0, c1_1, c1_2]) rfl ⟨rfl, set3_below (BW.trans (B0.mono BW.size)) (by omega)⟩

set_option maxHeartbeats 2000000 in
set_option maxRecDepth 100000 in
theorem InnerProduct_b1 (w : World) {lo hi lo2 hi2 : Nat} {v1 v2 : Value} (n : Nat) (A : Nat → Rc) (m : Nat) (B : Nat → Rc) (h1 : Vec w lo hi v1 n A) (h2 : Vec w lo2 hi2 v2 m B) (hA : ¬ OkV n A) : Calls Try.prog 35 #[v1, v2] w (RetQB w 0 0 false) := by
  obtain ⟨ao, cap, rfl, f1, -, -⟩ := h1.form
  obtain ⟨ao2, cap2, rfl, f2, -, -⟩ := h2.form
  have BW : Below w.heap.size w (w.alloc (.cells #[.bool false, .slice none 0 0, .slice none 0 0] 45)) := ((Below.refl w.heap.size w).alloc (Nat.le_refl _) _)
  obtain ⟨c0_0, c0_1, c0_2, q0, q1, q2⟩ : World.cell? (w.alloc (.cells #[.bool false, .slice none 0 0, .slice none 0 0] 45)) ⟨w.heap.size, 0, none⟩ = some (.bool false) ∧ World.cell? (w.alloc (.cells #[.bool false, .slice none 0 0, .slice none 0 0] 45)) ⟨w.heap.size, 1, none⟩ = some (.slice none 0 0) ∧ World.cell? (w.alloc (.cells #[.bool false, .slice none 0 0, .slice none 0 0] 45)) ⟨w.heap.size, 2, none⟩ = some (.slice none 0 0) ∧ World.frozen? (w.alloc (.cells #[.bool false, .slice none 0 0, .slice none 0 0] 45)) ⟨w.heap.size, 0, none⟩ = false ∧ World.frozen? (w.alloc (.cells #[.bool false, .slice none 0 0, .slice none 0 0] 45)) ⟨w.heap.size, 1, none⟩ = false ∧ World.frozen? (w.alloc (.cells #[.bool false, .slice none 0 0, .slice none 0 0] 45)) ⟨w.heap.size, 2, none⟩ = false := by simp [go_sem]
  have hg0 : w.heap.size < ((w.alloc (.cells #[.bool false, .slice none 0 0, .slice none 0 0] 45))).heap.size := World.block_lt_of_cell? _ _ c0_0
  have HV := Lib.hid (h1.bel BW)
  clear h1
  have HU := Lib.hid (h2.bel BW)
  clear h2
  have HA := Lib.hid hA
  clear hA
  go_enter Try.func35, Try.ntmps35
  go_wp2_with fail
  generalize (w.alloc (.cells #[.bool false, .slice none 0 0, .slice none 0 0] 45)) = w0 at *
  have B0 := Below.refl w0.heap.size w0
  refine (IsVector_f _ n A HV.out HA.out).mono ?_
  rintro e w1 ⟨rfl, hb⟩
  replace q0 := keep_frozen (w1 := w1) hb c0_0 q0
  replace c0_0 := keep_cell (w1 := w1) hb c0_0
  replace q1 := keep_frozen (w1 := w1) hb c0_1 q1
  replace c0_1 := keep_cell (w1 := w1) hb c0_1
  replace q2 := keep_frozen (w1 := w1) hb c0_2 q2
  replace c0_2 := keep_cell (w1 := w1) hb c0_2
  replace HV := Lib.hid (HV.out.bel hb)
  replace HU := Lib.hid (HU.out.bel hb)
  replace B0 := B0.trans (hb.mono B0.size)
  clear hb
  go_wp2
  exact bodyPost_ret (v := .tuple #[.agg #[.bool false, .slice none 0 0, .slice none 0 0], .bool false]) (by simp [results, Try.results35, go_sem, c0_0, c0_1, c0_2]) rfl (retQB_nil ⟨rfl, rfl, rfl⟩ (set3_below (BW.trans (B0.mono BW.size)) (by omega)))

set_option maxHeartbeats 2000000 in
set_option maxRecDepth 100000 in
theorem InnerProduct_b2 (w : World) {lo hi lo2 hi2 : Nat} {v1 v2 : Value} (n : Nat) (A : Nat → Rc) (m : Nat) (B : Nat → Rc) (h1 : Vec w lo hi v1 n A) (h2 : Vec w lo2 hi2 v2 m B) (hA : OkV n A) (hB : ¬ OkV m B) : Calls Try.prog 35 #[v1, v2] w (RetQB w 0 0 false) := by
  obtain ⟨ao, cap, rfl, f1, -, -⟩ := h1.form
  obtain ⟨ao2, cap2, rfl, f2, -, -⟩ := h2.form
  have BW : Below w.heap.size w (w.alloc (.cells #[.bool false, .slice none 0 0, .slice none 0 0] 45)) := ((Below.refl w.heap.size w).alloc (Nat.le_refl _) _)
  obtain ⟨c0_0, c0_1, c0_2, q0, q1, q2⟩ : World.cell? (w.alloc (.cells #[.bool false, .slice none 0 0, .slice none 0 0] 45)) ⟨w.heap.size, 0, none⟩ = some (.bool false) ∧ World.cell? (w.alloc (.cells #[.bool false, .slice none 0 0, .slice none 0 0] 45)) ⟨w.heap.size, 1, none⟩ = some (.slice none 0 0) ∧ World.cell? (w.alloc (.cells #[.bool false, .slice none 0 0, .slice none 0 0] 45)) ⟨w.heap.size, 2, none⟩ = some (.slice none 0 0) ∧ World.frozen? (w.alloc (.cells #[.bool false, .slice none 0 0, .slice none 0 0] 45)) ⟨w.heap.size, 0, none⟩ = false ∧ World.frozen? (w.alloc (.cells #[.bool false, .slice none 0 0, .slice none 0 0] 45)) ⟨w.heap.size, 1, none⟩ = false ∧ World.frozen? (w.alloc (.cells #[.bool false, .slice none 0 0, .slice none 0 0] 45)) ⟨w.heap.size, 2, none⟩ = false := by simp [go_sem]
  have hg0 : w.heap.size < ((w.alloc (.cells #[.bool false, .slice none 0 0, .slice none 0 0] 45))).heap.size := World.block_lt_of_cell? _ _ c0_0
  have HV := Lib.hid (h1.bel BW)
  clear h1
  have HU := Lib.hid (h2.bel BW)
  clear h2
  have HA := Lib.hid hA
  have HB := Lib.hid hB
  clear hA hB
  go_enter Try.func35, Try.ntmps35
  go_wp2_with fail
  generalize (w.alloc (.cells #[.bool false, .slice none 0 0, .slice none 0 0] 45)) = w0 at *
  have B0 := Below.refl w0.heap.size w0
  refine (IsVector_t _ n A HV.out HA.out).mono ?_
  rintro e w1 ⟨rfl, hb⟩
  replace q0 := keep_frozen (w1 := w1) hb c0_0 q0
  replace c0_0 := keep_cell (w1 := w1) hb c0_0
  replace q1 := keep_frozen (w1 := w1) hb c0_1 q1
  replace c0_1 := keep_cell (w1 := w1) hb c0_1
  replace q2 := keep_frozen (w1 := w1) hb c0_2 q2
  replace c0_2 := keep_cell (w1 := w1) hb c0_2
  replace HV := Lib.hid (HV.out.bel hb)
  replace HU := Lib.hid (HU.out.bel hb)
  replace B0 := B0.trans (hb.mono B0.size)
  clear hb
  go_wp2_with fail
  refine (IsVector_f _ m B HU.out HB.out).mono ?_
  rintro e w2 ⟨rfl, hb⟩
  replace q0 := keep_frozen (w1 := w2) hb c0_0 q0
  replace c0_0 := keep_cell (w1 := w2) hb c0_0
  replace q1 := keep_frozen (w1 := w2) hb c0_1 q1
  replace c0_1 := keep_cell (w1 := w2) hb c0_1
  replace q2 := keep_frozen (w1 := w2) hb c0_2 q2
  replace c0_2 := keep_cell (w1 := w2) hb c0_2
  replace HV := Lib.hid (HV.out.bel hb)
  replace HU := Lib.hid (HU.out.bel hb)
  replace B0 := B0.trans (hb.mono B0.size)
  clear hb
  go_wp2
  exact bodyPost_ret (v := .tuple #[.agg #[.bool false, .slice none 0 0, .slice none 0 0], .bool false]) (by simp [results, Try.results35, go_sem, c0_0, c0_1, c0_2]) rfl (retQB_nil ⟨rfl, rfl, rfl⟩ (set3_below (BW.trans (B0.mono BW.size)) (by omega)))

set_option maxHeartbeats 2000000 in
set_option maxRecDepth 100000 in
theorem InnerProduct_b3 (w : World) {lo hi lo2 hi2 : Nat} {v1 v2 : Value} (n : Nat) (A : Nat → Rc) (m : Nat) (B : Nat → Rc) (h1 : Vec w lo hi v1 n A) (h2 : Vec w lo2 hi2 v2 m B) (hA : OkV n A) (hB : OkV m B) (hne : n ≠ m) : Calls Try.prog 35 #[v1, v2] w (RetQB w 0 0 false) := by
  obtain ⟨ao, cap, rfl, f1, -, -⟩ := h1.form
  obtain ⟨ao2, cap2, rfl, f2, -, -⟩ := h2.form
  have BW : Below w.heap.size w (w.alloc (.cells #[.bool false, .slice none 0 0, .slice none 0 0] 45)) := ((Below.refl w.heap.size w).alloc (Nat.le_refl _) _)
  obtain ⟨c0_0, c0_1, c0_2, q0, q1, q2⟩ : World.cell? (w.alloc (.cells #[.bool false, .slice none 0 0, .slice none 0 0] 45)) ⟨w.heap.size, 0, none⟩ = some (.bool false) ∧ World.cell? (w.alloc (.cells #[.bool false, .slice none 0 0, .slice none 0 0] 45)) ⟨w.heap.size, 1, none⟩ = some (.slice none 0 0) ∧ World.cell? (w.alloc (.cells #[.bool false, .slice none 0 0, .slice none 0 0] 45)) ⟨w.heap.size, 2, none⟩ = some (.slice none 0 0) ∧ World.frozen? (w.alloc (.cells #[.bool false, .slice none 0 0, .slice none 0 0] 45)) ⟨w.heap.size, 0, none⟩ = false ∧ World.frozen? (w.alloc (.cells #[.bool false, .slice none 0 0, .slice none 0 0] 45)) ⟨w.heap.size, 1, none⟩ = false ∧ World.frozen? (w.alloc (.cells #[.bool false, .slice none 0 0, .slice none 0 0] 45)) ⟨w.heap.size, 2, none⟩ = false := by simp [go_sem]
  have hg0 : w.heap.size < ((w.alloc (.cells #[.bool false, .slice none 0 0, .slice none 0 0] 45))).heap.size := World.block_lt_of_cell? _ _ c0_0
  have HV := Lib.hid (h1.bel BW)
  clear h1
  have HU := Lib.hid (h2.bel BW)
  clear h2
  have HA := Lib.hid hA
  have HB := Lib.hid hB
  have d0 : ((n : Int) == m) = false := beq_false_of_ne (by omega)
  clear hA hB hne
  go_enter Try.func35, Try.ntmps35
  go_wp2_with fail
  generalize (w.alloc (.cells #[.bool false, .slice none 0 0, .slice none 0 0] 45)) = w0 at *
  have B0 := Below.refl w0.heap.size w0
  refine (IsVector_t _ n A HV.out HA.out).mono ?_
  rintro e w1 ⟨rfl, hb⟩
  replace q0 := keep_frozen (w1 := w1) hb c0_0 q0
  replace c0_0 := keep_cell (w1 := w1) hb c0_0
  replace q1 := keep_frozen (w1 := w1) hb c0_1 q1
  replace c0_1 := keep_cell (w1 := w1) hb c0_1
  replace q2 := keep_frozen (w1 := w1) hb c0_2 q2
  replace c0_2 := keep_cell (w1 := w1) hb c0_2
  replace HV := Lib.hid (HV.out.bel hb)
  replace HU := Lib.hid (HU.out.bel hb)
  replace B0 := B0.trans (hb.mono B0.size)
  clear hb
  go_wp2_with fail
  refine (IsVector_t _ m B HU.out HB.out).mono ?_
  rintro e w2 ⟨rfl, hb⟩
  replace q0 := keep_frozen (w1 := w2) hb c0_0 q0
  replace c0_0 := keep_cell (w1 := w2) hb c0_0
  replace q1 := keep_frozen (w1 := w2) hb c0_1 q1
  replace c0_1 := keep_cell (w1 := w2) hb c0_1
  replace q2 := keep_frozen (w1 := w2) hb c0_2 q2
  replace c0_2 := keep_cell (w1 := w2) hb c0_2
  replace HV := Lib.hid (HV.out.bel hb)
  replace HU := Lib.hid (HU.out.bel hb)
  replace B0 := B0.trans (hb.mono B0.size)
  clear hb
  go_wp2
  exact bodyPost_ret (v := .tuple #[.agg #[.bool false, .slice none 0 0, .slice none 0 0], .bool false]) (by simp [results, Try.results35, go_sem, c0_0, c0_1, c0_2]) rfl (retQB_nil ⟨rfl, rfl, rfl⟩ (set3_below (BW.trans (B0.mono BW.size)) (by omega)))

set_option maxHeartbeats 2000000 in
set_option maxRecDepth 100000 in
theorem sInnerProduct_bad (w : World) {lo hi lo2 hi2 : Nat} {v1 v2 : Value} (n : Nat) (A : Nat → Rc) (m : Nat) (B : Nat → Rc) (h1 : Vec w lo hi v1 n A) (h2 : Vec w lo2 hi2 v2 m B) (hbad : ¬ (OkV n A ∧ OkV m B ∧ n = m)) : Calls Try.prog 34 #[v1, v2] w (RetQB w 0 0 false) := by
  obtain ⟨ao, cap, rfl, f1, -, -⟩ := h1.form
  obtain ⟨ao2, cap2, rfl, f2, -, -⟩ := h2.form
  have BW : Below w.heap.size w (w.alloc (.cells #[.bool false, .slice none 0 0, .slice none 0 0] 45)) := ((Below.refl w.heap.size w).alloc (Nat.le_refl _) _)
  obtain ⟨c0_0, c0_1, c0_2, q0, q1, q2⟩ : World.cell? (w.alloc (.cells #[.bool false, .slice none 0 0, .slice none 0 0] 45)) ⟨w.heap.size, 0, none⟩ = some (.bool false) ∧ World.cell? (w.alloc (.cells #[.bool false, .slice none 0 0, .slice none 0 0] 45)) ⟨w.heap.size, 1, none⟩ = some (.slice none 0 0) ∧ World.cell? (w.alloc (.cells #[.bool false, .slice none 0 0, .slice none 0 0] 45)) ⟨w.heap.size, 2, none⟩ = some (.slice none 0 0) ∧ World.frozen? (w.alloc (.cells #[.bool false, .slice none 0 0, .slice none 0 0] 45)) ⟨w.heap.size, 0, none⟩ = false ∧ World.frozen? (w.alloc (.cells #[.bool false, .slice none 0 0, .slice none 0 0] 45)) ⟨w.heap.size, 1, none⟩ = false ∧ World.frozen? (w.alloc (.cells #[.bool false, .slice none 0 0, .slice none 0 0] 45)) ⟨w.heap.size, 2, none⟩ = false := by simp [go_sem]
  have hg0 : w.heap.size < ((w.alloc (.cells #[.bool false, .slice none 0 0, .slice none 0 0] 45))).heap.size := World.block_lt_of_cell? _ _ c0_0
  have HV := Lib.hid (h1.bel BW)
  clear h1
  have HU := Lib.hid (h2.bel BW)
  clear h2
  have HP := Lib.hid hbad
  clear hbad
  go_enter Try.func34, Try.ntmps34
  go_wp2_with fail
  generalize (w.alloc (.cells #[.bool false, .slice none 0 0, .slice none 0 0] 45)) = w0 at *
  have B0 := Below.refl w0.heap.size w0
  refine (l05Pair_f _ n A m B HV.out HU.out HP.out).mono ?_
  rintro e w1 ⟨rfl, hb⟩
  replace q0 := keep_frozen (w1 := w1) hb c0_0 q0
  replace c0_0 := keep_cell (w1 := w1) hb c0_0
  replace q1 := keep_frozen (w1 := w1) hb c0_1 q1
  replace c0_1 := keep_cell (w1 := w1) hb c0_1
  replace q2 := keep_frozen (w1 := w1) hb c0_2 q2
  replace c0_2 := keep_cell (w1 := w1) hb c0_2
  replace HV := Lib.hid (HV.out.bel hb)
  replace HU := Lib.hid (HU.out.bel hb)
  replace B0 := B0.trans (hb.mono B0.size)
  clear hb
  go_wp2
  exact bodyPost_ret (v := .tuple #[.agg #[.bool false, .slice none 0 0, .slice none 0 0], .bool false]) (by simp [results, Try.results34, go_sem, c0_0, c0_1, c0_2]) rfl (retQB_nil ⟨rfl, rfl, rfl⟩ (set3_below (BW.trans (B0.mono BW.size)) (by omega)))

set_option maxHeartbeats 2000000 in
set_option maxRecDepth 100000 in
theorem InnerProduct_gt (w : World) {lo hi lo2 hi2 : Nat} {v1 v2 : Value} (n : Nat) (A : Nat → Rc) (B : Nat → Rc) (h1 : Vec w lo hi v1 n A) (h2 : Vec w lo2 hi2 v2 n B) (hA : OkV n A) (hB : OkV n B) (z : Int) (e : Nat) (hz : z = (inn (fun i => numR (A i)) (fun i => denR (A i)) (fun i => numR (B i)) (fun i => denR (B i)) n).1 ∧ e = (inn (fun i => numR (A i)) (fun i => denR (A i)) (fun i => numR (B i)) (fun i => denR (B i)) n).2) (hd : 0 < e) :
    Calls Try.prog 35 #[v1, v2] w (RetQB w z e true) := by
  obtain ⟨ao, cap, rfl, f1, -, -⟩ := h1.form
  obtain ⟨ao2, cap2, rfl, f2, -, -⟩ := h2.form
  have BW : Below w.heap.size w (w.alloc (.cells #[.bool false, .slice none 0 0, .slice none 0 0] 45)) := ((Below.refl w.heap.size w).alloc (Nat.le_refl _) _)
  obtain ⟨c0_0, c0_1, c0_2, q0, q1, q2⟩ : World.cell? (w.alloc (.cells #[.bool false, .slice none 0 0, .slice none 0 0] 45)) ⟨w.heap.size, 0, none⟩ = some (.bool false) ∧ World.cell? (w.alloc (.cells #[.bool false, .slice none 0 0, .slice none 0 0] 45)) ⟨w.heap.size, 1, none⟩ = some (.slice none 0 0) ∧ World.cell? (w.alloc (.cells #[.bool false, .slice none 0 0, .slice none 0 0] 45)) ⟨w.heap.size, 2, none⟩ = some (.slice none 0 0) ∧ World.frozen? (w.alloc (.cells #[.bool false, .slice none 0 0, .slice none 0 0] 45)) ⟨w.heap.size, 0, none⟩ = false ∧ World.frozen? (w.alloc (.cells #[.bool false, .slice none 0 0, .slice none 0 0] 45)) ⟨w.heap.size, 1, none⟩ = false ∧ World.frozen? (w.alloc (.cells #[.bool false, .slice none 0 0, .slice none 0 0] 45)) ⟨w.heap.size, 2, none⟩ = false := by simp [go_sem]
  have hg0 : w.heap.size < ((w.alloc (.cells #[.bool false, .slice none 0 0, .slice none 0 0] 45))).heap.size := World.block_lt_of_cell? _ _ c0_0
  have HV := Lib.hid (h1.bel BW)
  clear h1
  have HU := Lib.hid (h2.bel BW)
  clear h2
  have HA := Lib.hid hA
  have HB := Lib.hid hB
  have HZ := Lib.hid hz
  have HD := Lib.hid hd
  clear hA hB hz hd
  go_enter Try.func35, Try.ntmps35
  go_wp2_with fail
  generalize (w.alloc (.cells #[.bool false, .slice none 0 0, .slice none 0 0] 45)) = w0 at *
  have B0 := Below.refl w0.heap.size w0
  refine (IsVector_t _ n A HV.out HA.out).mono ?_
  rintro e w1 ⟨rfl, hb⟩
  replace q0 := keep_frozen (w1 := w1) hb c0_0 q0
  replace c0_0 := keep_cell (w1 := w1) hb c0_0
  replace q1 := keep_frozen (w1 := w1) hb c0_1 q1
  replace c0_1 := keep_cell (w1 := w1) hb c0_1
  replace q2 := keep_frozen (w1 := w1) hb c0_2 q2
  replace c0_2 := keep_cell (w1 := w1) hb c0_2
  replace HV := Lib.hid (HV.out.bel hb)
  replace HU := Lib.hid (HU.out.bel hb)
  replace B0 := B0.trans (hb.mono B0.size)
  clear hb
  go_wp2_with fail
  refine (IsVector_t _ n B HU.out HB.out).mono ?_
  rintro e w2 ⟨rfl, hb⟩
  replace q0 := keep_frozen (w1 := w2) hb c0_0 q0
  replace c0_0 := keep_cell (w1 := w2) hb c0_0
  replace q1 := keep_frozen (w1 := w2) hb c0_1 q1
  replace c0_1 := keep_cell (w1 := w2) hb c0_1
  replace q2 := keep_frozen (w1 := w2) hb c0_2 q2
  replace c0_2 := keep_cell (w1 := w2) hb c0_2
  replace HV := Lib.hid (HV.out.bel hb)
  replace HU := Lib.hid (HU.out.bel hb)
  replace B0 := B0.trans (hb.mono B0.size)
  clear hb
  go_wp2_with fail
  refine (inner_c _ n (fun i => numR (A i)) (fun i => numR (B i)) (fun i => denR (A i)) (fun i => denR (B i)) (HV.out.toQ HA.out) (HU.out.toQ HB.out) (fun i hi => (okV_q HA.out i hi).2) (fun i hi => (okV_q HB.out i hi).2) z e HZ.out).mono ?_
  rintro e w3 ⟨vr, vs, rfl, ho1, ho2, ha, hb⟩
  replace q0 := keep_frozen (w1 := w3) hb c0_0 q0
  replace c0_0 := keep_cell (w1 := w3) hb c0_0
  replace q1 := keep_frozen (w1 := w3) hb c0_1 q1
  replace c0_1 := keep_cell (w1 := w3) hb c0_1
  replace q2 := keep_frozen (w1 := w3) hb c0_2 q2
  replace c0_2 := keep_cell (w1 := w3) hb c0_2
  replace HV := Lib.hid (HV.out.bel hb)
  replace HU := Lib.hid (HU.out.bel hb)
  have Hr := Lib.hid (ho1.mono B0.size)
  clear ho1
  have Hs := Lib.hid (ho2.mono B0.size)
  clear ho2
  have HAP := Lib.hid ha
  clear ha
  obtain ⟨ar, cr, rfl, -, -, -, -, -⟩ := Hr.out.form
  obtain ⟨aw, cw, rfl, -, -, -, -, -⟩ := Hs.out.form
  replace B0 := B0.trans (hb.mono B0.size)
  clear hb
  go_wp2_with fail
  refine (given_t _ _ _ z e ar aw cr cw Hr.out Hs.out HD.out).mono ?_
  rintro e w4 ⟨rfl, hb⟩
  replace q0 := keep_frozen (w1 := w4) hb c0_0 q0
  replace c0_0 := keep_cell (w1 := w4) hb c0_0
  replace q1 := keep_frozen (w1 := w4) hb c0_1 q1
  replace c0_1 := keep_cell (w1 := w4) hb c0_1
  replace q2 := keep_frozen (w1 := w4) hb c0_2 q2
  replace c0_2 := keep_cell (w1 := w4) hb c0_2
  replace Hr := Lib.hid (Hr.out.below hb (Nat.le_refl _))
  replace Hs := Lib.hid (Hs.out.below hb (Nat.le_refl _))
  replace HV := Lib.hid (HV.out.bel hb)
  replace HU := Lib.hid (HU.out.bel hb)
  replace B0 := B0.trans (hb.mono B0.size)
  clear hb
  go_wp2
  exact bodyPost_ret (v := .tuple #[.agg #[.bool (ng z), .slice ar (limbs z.natAbs).length cr, .slice aw (limbs e).length cw], .bool true]) (by simp [results, Try.results35, go_sem, c0_0, c0_1, c0_2]) rfl (retQB_end ⟨rfl, rfl, rfl⟩ BW (by omega) hg0 B0 Hr.out Hs.out HAP.out)

set_option maxHeartbeats 2000000 in
set_option maxRecDepth 100000 in
theorem InnerProduct_gf (w : World) {lo hi lo2 hi2 : Nat} {v1 v2 : Value} (n : Nat) (A : Nat → Rc) (B : Nat → Rc) (h1 : Vec w lo hi v1 n A) (h2 : Vec w lo2 hi2 v2 n B) (hA : OkV n A) (hB : OkV n B) (z : Int) (e : Nat) (hz : z = (inn (fun i => numR (A i)) (fun i => denR (A i)) (fun i => numR (B i)) (fun i => denR (B i)) n).1 ∧ e = (inn (fun i => numR (A i)) (fun i => denR (A i)) (fun i => numR (B i)) (fun i => denR (B i)) n).2) (hd : e = 0) (hz0 : z = 0) :
    Calls Try.prog 35 #[v1, v2] w (RetQB w z e false) := by
  obtain ⟨ao, cap, rfl, f1, -, -⟩ := h1.form
  obtain ⟨ao2, cap2, rfl, f2, -, -⟩ := h2.form
  have BW : Below w.heap.size w (w.alloc (.cells #[.bool false, .slice none 0 0, .slice none 0 0] 45)) := ((Below.refl w.heap.size w).alloc (Nat.le_refl _) _)
  obtain ⟨c0_0, c0_1, c0_2, q0, q1, q2⟩ : World.cell? (w.alloc (.cells #[.bool false, .slice none 0 0, .slice none 0 0] 45)) ⟨w.heap.size, 0, none⟩ = some (.bool false) ∧ World.cell? (w.alloc (.cells #[.bool false, .slice none 0 0, .slice none 0 0] 45)) ⟨w.heap.size, 1, none⟩ = some (.slice none 0 0) ∧ World.cell? (w.alloc (.cells #[.bool false, .slice none 0 0, .slice none 0 0] 45)) ⟨w.heap.size, 2, none⟩ = some (.slice none 0 0) ∧ World.frozen? (w.alloc (.cells #[.bool false, .slice none 0 0, .slice none 0 0] 45)) ⟨w.heap.size, 0, none⟩ = false ∧ World.frozen? (w.alloc (.cells #[.bool false, .slice none 0 0, .slice none 0 0] 45)) ⟨w.heap.size, 1, none⟩ = false ∧ World.frozen? (w.alloc (.cells #[.bool false, .slice none 0 0, .slice none 0 0] 45)) ⟨w.heap.size, 2, none⟩ = false := by simp [go_sem]
  have hg0 : w.heap.size < ((w.alloc (.cells #[.bool false, .slice none 0 0, .slice none 0 0] 45))).heap.size := World.block_lt_of_cell? _ _ c0_0
  have HV := Lib.hid (h1.bel BW)
  clear h1
  have HU := Lib.hid (h2.bel BW)
  clear h2
  have HA := Lib.hid hA
  have HB := Lib.hid hB
  have HZ := Lib.hid hz
  have HD := Lib.hid hd
  have HZ0 := Lib.hid hz0
  clear hA hB hz hd hz0
  go_enter Try.func35, Try.ntmps35
  go_wp2_with fail
  generalize (w.alloc (.cells #[.bool false, .slice none 0 0, .slice none 0 0] 45)) = w0 at *
  have B0 := Below.refl w0.heap.size w0
  refine (IsVector_t _ n A HV.out HA.out).mono ?_
  rintro e w1 ⟨rfl, hb⟩
  replace q0 := keep_frozen (w1 := w1) hb c0_0 q0
  replace c0_0 := keep_cell (w1 := w1) hb c0_0
  replace q1 := keep_frozen (w1 := w1) hb c0_1 q1
  replace c0_1 := keep_cell (w1 := w1) hb c0_1
  replace q2 := keep_frozen (w1 := w1) hb c0_2 q2
  replace c0_2 := keep_cell (w1 := w1) hb c0_2
  replace HV := Lib.hid (HV.out.bel hb)
  replace HU := Lib.hid (HU.out.bel hb)
  replace B0 := B0.trans (hb.mono B0.size)
  clear hb
  go_wp2_with fail
  refine (IsVector_t _ n B HU.out HB.out).mono ?_
  rintro e w2 ⟨rfl, hb⟩
  replace q0 := keep_frozen (w1 := w2) hb c0_0 q0
  replace c0_0 := keep_cell (w1 := w2) hb c0_0
  replace q1 := keep_frozen (w1 := w2) hb c0_1 q1
  replace c0_1 := keep_cell (w1 := w2) hb c0_1
  replace q2 := keep_frozen (w1 := w2) hb c0_2 q2
  replace c0_2 := keep_cell (w1 := w2) hb c0_2
  replace HV := Lib.hid (HV.out.bel hb)
  replace HU := Lib.hid (HU.out.bel hb)
  replace B0 := B0.trans (hb.mono B0.size)
  clear hb
  go_wp2_with fail
  refine (inner_c _ n (fun i => numR (A i)) (fun i => numR (B i)) (fun i => denR (A i)) (fun i => denR (B i)) (HV.out.toQ HA.out) (HU.out.toQ HB.out) (fun i hi => (okV_q HA.out i hi).2) (fun i hi => (okV_q HB.out i hi).2) z e HZ.out).mono ?_
  rintro e w3 ⟨vr, vs, rfl, ho1, ho2, ha, hb⟩
  replace q0 := keep_frozen (w1 := w3) hb c0_0 q0
  replace c0_0 := keep_cell (w1 := w3) hb c0_0
  replace q1 := keep_frozen (w1 := w3) hb c0_1 q1
  replace c0_1 := keep_cell (w1 := w3) hb c0_1
  replace q2 := keep_frozen (w1 := w3) hb c0_2 q2
  replace c0_2 := keep_cell (w1 := w3) hb c0_2
  replace HV := Lib.hid (HV.out.bel hb)
  replace HU := Lib.hid (HU.out.bel hb)
  have Hr := Lib.hid (ho1.mono B0.size)
  clear ho1
  have Hs := Lib.hid (ho2.mono B0.size)
  clear ho2
  have HAP := Lib.hid ha
  clear ha
  obtain ⟨ar, cr, rfl, -, -, -, -, -⟩ := Hr.out.form
  obtain ⟨aw, cw, rfl, -, -, -, -, -⟩ := Hs.out.form
  replace B0 := B0.trans (hb.mono B0.size)
  clear hb
  go_wp2_with fail
  refine (given_f _ _ _ z e ar aw cr cw Hr.out Hs.out HD.out).mono ?_
  rintro e w4 ⟨rfl, hb⟩
  replace q0 := keep_frozen (w1 := w4) hb c0_0 q0
  replace c0_0 := keep_cell (w1 := w4) hb c0_0
  replace q1 := keep_frozen (w1 := w4) hb c0_1 q1
  replace c0_1 := keep_cell (w1 := w4) hb c0_1
  replace q2 := keep_frozen (w1 := w4) hb c0_2 q2
  replace c0_2 := keep_cell (w1 := w4) hb c0_2
  replace Hr := Lib.hid (Hr.out.below hb (Nat.le_refl _))
  replace Hs := Lib.hid (Hs.out.below hb (Nat.le_refl _))
  replace HV := Lib.hid (HV.out.bel hb)
  replace HU := Lib.hid (HU.out.bel hb)
  replace B0 := B0.trans (hb.mono B0.size)
  clear hb
  go_wp2
  exact bodyPost_ret (v := .tuple #[.agg #[.bool false, .slice none 0 0, .slice none 0 0], .bool false]) (by simp [results, Try.results35, go_sem, c0_0, c0_1, c0_2]) rfl (retQB_nil ⟨HZ0.out, HD.out, rfl⟩ (set3_below (BW.trans (B0.mono BW.size)) (by omega)))

set_option maxHeartbeats 2000000 in
set_option maxRecDepth 100000 in
theorem sInnerProduct_gt (w : World) {lo hi lo2 hi2 : Nat} {v1 v2 : Value} (n : Nat) (A : Nat → Rc) (B : Nat → Rc) (h1 : Vec w lo hi v1 n A) (h2 : Vec w lo2 hi2 v2 n B) (hA : OkV n A) (hB : OkV n B) (z : Int) (e : Nat) (hz : z = (inn (fun i => numR (A i)) (fun i => denR (A i)) (fun i => numR (B i)) (fun i => denR (B i)) n).1 ∧ e = (inn (fun i => numR (A i)) (fun i => denR (A i)) (fun i => numR (B i)) (fun i => denR (B i)) n).2) (hd : 0 < e) :
    Calls Try.prog 34 #[v1, v2] w (RetQB w z e true) := by
  obtain ⟨ao, cap, rfl, f1, -, -⟩ := h1.form
  obtain ⟨ao2, cap2, rfl, f2, -, -⟩ := h2.form
  have BW : Below w.heap.size w (w.alloc (.cells #[.bool false, .slice none 0 0, .slice none 0 0] 45)) := ((Below.refl w.heap.size w).alloc (Nat.le_refl _) _)
  obtain ⟨c0_0, c0_1, c0_2, q0, q1, q2⟩ : World.cell? (w.alloc (.cells #[.bool false, .slice none 0 0, .slice none 0 0] 45)) ⟨w.heap.size, 0, none⟩ = some (.bool false) ∧ World.cell? (w.alloc (.cells #[.bool false, .slice none 0 0, .slice none 0 0] 45)) ⟨w.heap.size, 1, none⟩ = some (.slice none 0 0) ∧ World.cell? (w.alloc (.cells #[.bool false, .slice none 0 0, .slice none 0 0] 45)) ⟨w.heap.size, 2, none⟩ = some (.slice none 0 0) ∧ World.frozen? (w.alloc (.cells #[.bool false, .slice none 0 0, .slice none 0 0] 45)) ⟨w.heap.size, 0, none⟩ = false ∧ World.frozen? (w.alloc (.cells #[.bool false, .slice none 0 0, .slice none 0 0] 45)) ⟨w.heap.size, 1, none⟩ = false ∧ World.frozen? (w.alloc (.cells #[.bool false, .slice none 0 0, .slice none 0 0] 45)) ⟨w.heap.size, 2, none⟩ = false := by simp [go_sem]
  have hg0 : w.heap.size < ((w.alloc (.cells #[.bool false, .slice none 0 0, .slice none 0 0] 45))).heap.size := World.block_lt_of_cell? _ _ c0_0
  have HV := Lib.hid (h1.bel BW)
  clear h1
  have HU := Lib.hid (h2.bel BW)
  clear h2
  have HA := Lib.hid hA
  have HB := Lib.hid hB
  have HZ := Lib.hid hz
  have HD := Lib.hid hd
  clear hA hB hz hd
  go_enter Try.func34, Try.ntmps34
  go_wp2_with fail
  generalize (w.alloc (.cells #[.bool false, .slice none 0 0, .slice none 0 0] 45)) = w0 at *
  have B0 := Below.refl w0.heap.size w0
  refine (l05Pair_t _ n A n B HV.out HU.out HA.out HB.out rfl).mono ?_
  rintro e w1 ⟨rfl, hb⟩
  replace q0 := keep_frozen (w1 := w1) hb c0_0 q0
  replace c0_0 := keep_cell (w1 := w1) hb c0_0
  replace q1 := keep_frozen (w1 := w1) hb c0_1 q1
  replace c0_1 := keep_cell (w1 := w1) hb c0_1
  replace q2 := keep_frozen (w1 := w1) hb c0_2 q2
  replace c0_2 := keep_cell (w1 := w1) hb c0_2
  replace HV := Lib.hid (HV.out.bel hb)
  replace HU := Lib.hid (HU.out.bel hb)
  replace B0 := B0.trans (hb.mono B0.size)
  clear hb
  go_wp2_with fail
  refine (l05Inner_c _ n (fun i => numR (A i)) (fun i => numR (B i)) (fun i => denR (A i)) (fun i => denR (B i)) (HV.out.toQ HA.out) (HU.out.toQ HB.out) (fun i hi => (okV_q HA.out i hi).2) (fun i hi => (okV_q HB.out i hi).2) z e HZ.out).mono ?_
  rintro e w2 ⟨vr, vs, rfl, ho1, ho2, ha, hb⟩
  replace q0 := keep_frozen (w1 := w2) hb c0_0 q0
  replace c0_0 := keep_cell (w1 := w2) hb c0_0
  replace q1 := keep_frozen (w1 := w2) hb c0_1 q1
  replace c0_1 := keep_cell (w1 := w2) hb c0_1
  replace q2 := keep_frozen (w1 := w2) hb c0_2 q2
  replace c0_2 := keep_cell (w1 := w2) hb c0_2
  replace HV := Lib.hid (HV.out.bel hb)
  replace HU := Lib.hid (HU.out.bel hb)
  have Hr := Lib.hid (ho1.mono B0.size)
  clear ho1
  have Hs := Lib.hid (ho2.mono B0.size)
  clear ho2
  have HAP := Lib.hid ha
  clear ha
  obtain ⟨ar, cr, rfl, -, -, -, -, -⟩ := Hr.out.form
  obtain ⟨aw, cw, rfl, -, -, -, -, -⟩ := Hs.out.form
  replace B0 := B0.trans (hb.mono B0.size)
  clear hb
  have hz_lb : w0.heap.size ≤ w2.heap.size := B0.size
  have hb := alloc_bel w2 (.cells #[.bool (ng z), .slice ar (limbs z.natAbs).length cr, .slice aw (limbs e).length cw] 45)
  replace q0 := keep_frozen (w1 := _) hb c0_0 q0
  replace c0_0 := keep_cell (w1 := _) hb c0_0
  replace q1 := keep_frozen (w1 := _) hb c0_1 q1
  replace c0_1 := keep_cell (w1 := _) hb c0_1
  replace q2 := keep_frozen (w1 := _) hb c0_2 q2
  replace c0_2 := keep_cell (w1 := _) hb c0_2
  replace Hr := Lib.hid (Hr.out.below hb (Nat.le_refl _))
  replace Hs := Lib.hid (Hs.out.below hb (Nat.le_refl _))
  obtain ⟨lb_0, lb_1, lb_2⟩ : World.cell? (w2.alloc (.cells #[.bool (ng z), .slice ar (limbs z.natAbs).length cr, .slice aw (limbs e).length cw] 45)) ⟨w2.heap.size, 0, none⟩ = some (.bool (ng z)) ∧ World.cell? (w2.alloc (.cells #[.bool (ng z), .slice ar (limbs z.natAbs).length cr, .slice aw (limbs e).length cw] 45)) ⟨w2.heap.size, 1, none⟩ = some (.slice ar (limbs z.natAbs).length cr) ∧ World.cell? (w2.alloc (.cells #[.bool (ng z), .slice ar (limbs z.natAbs).length cr, .slice aw (limbs e).length cw] 45)) ⟨w2.heap.size, 2, none⟩ = some (.slice aw (limbs e).length cw) := by simp [go_sem]
  replace B0 := B0.trans (hb.mono B0.size)
  clear hb
  go_wp2_with fail
  generalize w2.alloc (.cells #[.bool (ng z), .slice ar (limbs z.natAbs).length cr, .slice aw (limbs e).length cw] 45) = w3 at *
  have HNR := Lib.hid (And.intro (ne_of_base Hr.out hg0) (ne_of_base Hs.out hg0))
  replace B0 := below_drew B0
  replace Hr := Lib.hid Hr.out.drew
  replace Hs := Lib.hid Hs.out.drew
  replace q0 := frozen_drew q0
  replace c0_0 := cell_drew c0_0
  replace q1 := frozen_drew q1
  replace c0_1 := cell_drew c0_1
  replace q2 := frozen_drew q2
  replace c0_2 := cell_drew c0_2
  replace lb_0 := cell_drew lb_0
  replace lb_1 := cell_drew lb_1
  replace lb_2 := cell_drew lb_2
  go_region_held3 (fun w' => w'.cell? ⟨w2.heap.size, 0, none⟩ = some (.bool (ng z)) ∧ w'.cell? ⟨w2.heap.size, 1, none⟩ = some (.slice ar (limbs z.natAbs).length cr) ∧ w'.cell? ⟨w2.heap.size, 2, none⟩ = some (.slice aw (limbs e).length cw)) (first | exact ⟨lb_0, lb_1, lb_2⟩ | exact ⟨set_far (set_far (set_far lb_0 (by dsimp only; omega)) (by dsimp only; omega)) (by dsimp only; omega), set_far (set_far (set_far lb_1 (by dsimp only; omega)) (by dsimp only; omega)) (by dsimp only; omega), set_far (set_far (set_far lb_2 (by dsimp only; omega)) (by dsimp only; omega)) (by dsimp only; omega)⟩ | go_keep)
    (first | (go_at_call 64; refine (l05Bad_f _ w0.heap.size _ _ _ e (by first | exact Hs.out | exact set3_own Hs.out HNR.out.2) HD.out).mono ?_; rintro e3 w3 ⟨rfl, hb3⟩; (first | (replace q0 := keep_frozen hb3 c0_0 q0; replace c0_0 := keep_cell hb3 c0_0; replace q1 := keep_frozen hb3 c0_1 q1; replace c0_1 := keep_cell hb3 c0_1; replace q2 := keep_frozen hb3 c0_2 q2; replace c0_2 := keep_cell hb3 c0_2; replace lb_0 := keep_cell hb3 lb_0; replace lb_1 := keep_cell hb3 lb_1; replace lb_2 := keep_cell hb3 lb_2; replace Hr := Lib.hid (Hr.out.below hb3 (Nat.le_refl _)); replace Hs := Lib.hid (Hs.out.below hb3 (Nat.le_refl _)); replace B0 := B0.trans (hb3.mono B0.size); clear hb3) | (have hW := set_box3 (a := .bool (ng z)) (b := .slice ar (limbs z.natAbs).length cr) (c := .slice aw (limbs e).length cw) c0_0 c0_1 c0_2; replace c0_0 := keep_cell hb3 hW.1; replace c0_1 := keep_cell hb3 hW.2.1; replace c0_2 := keep_cell hb3 hW.2.2; replace lb_0 := keep_cell hb3 (set_far (set_far (set_far lb_0 (by dsimp only; omega)) (by dsimp only; omega)) (by dsimp only; omega)); replace lb_1 := keep_cell hb3 (set_far (set_far (set_far lb_1 (by dsimp only; omega)) (by dsimp only; omega)) (by dsimp only; omega)); replace lb_2 := keep_cell hb3 (set_far (set_far (set_far lb_2 (by dsimp only; omega)) (by dsimp only; omega)) (by dsimp only; omega)); have BF := (set3_below (BW.trans (B0.mono BW.size)) (Nat.le_refl _)).trans (hb3.mono (Nat.le_trans BW.size (Nat.le_trans B0.size (by simp [World.setCell])))); replace Hr := Lib.hid ((set3_own Hr.out HNR.out.1).below hb3 (Nat.le_refl _)); replace Hs := Lib.hid ((set3_own Hs.out HNR.out.2).below hb3 (Nat.le_refl _)); clear hb3 B0 hW))))
  all_goals go_wp2
  all_goals first | exact bodyPost_ret (v := .tuple #[.agg #[.bool (ng z), .slice ar (limbs z.natAbs).length cr, .slice aw (limbs e).length cw], .bool true]) (by simp [results, Try.results34, go_sem, c0_0, c0_1, c0_2]) rfl (retQB_end ⟨rfl, rfl, rfl⟩ BW (Nat.le_refl _) hg0 B0 Hr.out Hs.out HAP.out) | exact bodyPost_ret (v := .tuple #[.agg #[.bool (ng z), .slice ar (limbs z.natAbs).length cr, .slice aw (limbs e).length cw], .bool true]) (by simp [results, Try.results34, go_sem, c0_0, c0_1, c0_2]) rfl (retQB_fin ⟨rfl, rfl, rfl⟩ BW BF Hr.out Hs.out HAP.out)

set_option maxHeartbeats 2000000 in
set_option maxRecDepth 100000 in
theorem sInnerProduct_gf (w : World) {lo hi lo2 hi2 : Nat} {v1 v2 : Value} (n : Nat) (A : Nat → Rc) (B : Nat → Rc) (h1 : Vec w lo hi v1 n A) (h2 : Vec w lo2 hi2 v2 n B) (hA : OkV n A) (hB : OkV n B) (z : Int) (e : Nat) (hz : z = (inn (fun i => numR (A i)) (fun i => denR (A i)) (fun i => numR (B i)) (fun i => denR (B i)) n).1 ∧ e = (inn (fun i => numR (A i)) (fun i => denR (A i)) (fun i => numR (B i)) (fun i => denR (B i)) n).2) (hd : e = 0) :
    Calls Try.prog 34 #[v1, v2] w (RetQB w z e false) := by
  obtain ⟨ao, cap, rfl, f1, -, -⟩ := h1.form
  obtain ⟨ao2, cap2, rfl, f2, -, -⟩ := h2.form
  have BW : Below w.heap.size w (w.alloc (.cells #[.bool false, .slice none 0 0, .slice none 0 0] 45)) := ((Below.refl w.heap.size w).alloc (Nat.le_refl _) _)
  obtain ⟨c0_0, c0_1, c0_2, q0, q1, q2⟩ : World.cell? (w.alloc (.cells #[.bool false, .slice none 0 0, .slice none 0 0] 45)) ⟨w.heap.size, 0, none⟩ = some (.bool false) ∧ World.cell? (w.alloc (.cells #[.bool false, .slice none 0 0, .slice none 0 0] 45)) ⟨w.heap.size, 1, none⟩ = some (.slice none 0 0) ∧ World.cell? (w.alloc (.cells #[.bool false, .slice none 0 0, .slice none 0 0] 45)) ⟨w.heap.size, 2, none⟩ = some (.slice none 0 0) ∧ World.frozen? (w.alloc (.cells #[.bool false, .slice none 0 0, .slice none 0 0] 45)) ⟨w.heap.size, 0, none⟩ = false ∧ World.frozen? (w.alloc (.cells #[.bool false, .slice none 0 0, .slice none 0 0] 45)) ⟨w.heap.size, 1, none⟩ = false ∧ World.frozen? (w.alloc (.cells #[.bool false, .slice none 0 0, .slice none 0 0] 45)) ⟨w.heap.size, 2, none⟩ = false := by simp [go_sem]
  have hg0 : w.heap.size < ((w.alloc (.cells #[.bool false, .slice none 0 0, .slice none 0 0] 45))).heap.size := World.block_lt_of_cell? _ _ c0_0
  have HV := Lib.hid (h1.bel BW)
  clear h1
  have HU := Lib.hid (h2.bel BW)
  clear h2
  have HA := Lib.hid hA
  have HB := Lib.hid hB
  have HZ := Lib.hid hz
  have HD := Lib.hid hd
  clear hA hB hz hd
  go_enter Try.func34, Try.ntmps34
  go_wp2_with fail
  generalize (w.alloc (.cells #[.bool false, .slice none 0 0, .slice none 0 0] 45)) = w0 at *
  have B0 := Below.refl w0.heap.size w0
  refine (l05Pair_t _ n A n B HV.out HU.out HA.out HB.out rfl).mono ?_
  rintro e w1 ⟨rfl, hb⟩
  replace q0 := keep_frozen (w1 := w1) hb c0_0 q0
  replace c0_0 := keep_cell (w1 := w1) hb c0_0
  replace q1 := keep_frozen (w1 := w1) hb c0_1 q1
  replace c0_1 := keep_cell (w1 := w1) hb c0_1
  replace q2 := keep_frozen (w1 := w1) hb c0_2 q2
  replace c0_2 := keep_cell (w1 := w1) hb c0_2
  replace HV := Lib.hid (HV.out.bel hb)
  replace HU := Lib.hid (HU.out.bel hb)
  replace B0 := B0.trans (hb.mono B0.size)
  clear hb
  go_wp2_with fail
  refine (l05Inner_c _ n (fun i => numR (A i)) (fun i => numR (B i)) (fun i => denR (A i)) (fun i => denR (B i)) (HV.out.toQ HA.out) (HU.out.toQ HB.out) (fun i hi => (okV_q HA.out i hi).2) (fun i hi => (okV_q HB.out i hi).2) z e HZ.out).mono ?_
  rintro e w2 ⟨vr, vs, rfl, ho1, ho2, ha, hb⟩
  replace q0 := keep_frozen (w1 := w2) hb c0_0 q0
  replace c0_0 := keep_cell (w1 := w2) hb c0_0
  replace q1 := keep_frozen (w1 := w2) hb c0_1 q1
  replace c0_1 := keep_cell (w1 := w2) hb c0_1
  replace q2 := keep_frozen (w1 := w2) hb c0_2 q2
  replace c0_2 := keep_cell (w1 := w2) hb c0_2
  replace HV := Lib.hid (HV.out.bel hb)
  replace HU := Lib.hid (HU.out.bel hb)
  have Hr := Lib.hid (ho1.mono B0.size)
  clear ho1
  have Hs := Lib.hid (ho2.mono B0.size)
  clear ho2
  have HAP := Lib.hid ha
  clear ha
  obtain ⟨ar, cr, rfl, -, -, -, -, -⟩ := Hr.out.form
  obtain ⟨aw, cw, rfl, -, -, -, -, -⟩ := Hs.out.form
  replace B0 := B0.trans (hb.mono B0.size)
  clear hb
  have hz_lb : w0.heap.size ≤ w2.heap.size := B0.size
  have hb := alloc_bel w2 (.cells #[.bool (ng z), .slice ar (limbs z.natAbs).length cr, .slice aw (limbs e).length cw] 45)
  replace q0 := keep_frozen (w1 := _) hb c0_0 q0
  replace c0_0 := keep_cell (w1 := _) hb c0_0
  replace q1 := keep_frozen (w1 := _) hb c0_1 q1
  replace c0_1 := keep_cell (w1 := _) hb c0_1
  replace q2 := keep_frozen (w1 := _) hb c0_2 q2
  replace c0_2 := keep_cell (w1 := _) hb c0_2
  replace Hr := Lib.hid (Hr.out.below hb (Nat.le_refl _))
  replace Hs := Lib.hid (Hs.out.below hb (Nat.le_refl _))
  obtain ⟨lb_0, lb_1, lb_2⟩ : World.cell? (w2.alloc (.cells #[.bool (ng z), .slice ar (limbs z.natAbs).length cr, .slice aw (limbs e).length cw] 45)) ⟨w2.heap.size, 0, none⟩ = some (.bool (ng z)) ∧ World.cell? (w2.alloc (.cells #[.bool (ng z), .slice ar (limbs z.natAbs).length cr, .slice aw (limbs e).length cw] 45)) ⟨w2.heap.size, 1, none⟩ = some (.slice ar (limbs z.natAbs).length cr) ∧ World.cell? (w2.alloc (.cells #[.bool (ng z), .slice ar (limbs z.natAbs).length cr, .slice aw (limbs e).length cw] 45)) ⟨w2.heap.size, 2, none⟩ = some (.slice aw (limbs e).length cw) := by simp [go_sem]
  replace B0 := B0.trans (hb.mono B0.size)
  clear hb
  go_wp2_with fail
  generalize w2.alloc (.cells #[.bool (ng z), .slice ar (limbs z.natAbs).length cr, .slice aw (limbs e).length cw] 45) = w3 at *
  have HNR := Lib.hid (And.intro (ne_of_base Hr.out hg0) (ne_of_base Hs.out hg0))
  replace B0 := below_drew B0
  replace Hr := Lib.hid Hr.out.drew
  replace Hs := Lib.hid Hs.out.drew
  replace q0 := frozen_drew q0
  replace c0_0 := cell_drew c0_0
  replace q1 := frozen_drew q1
  replace c0_1 := cell_drew c0_1
  replace q2 := frozen_drew q2
  replace c0_2 := cell_drew c0_2
  replace lb_0 := cell_drew lb_0
  replace lb_1 := cell_drew lb_1
  replace lb_2 := cell_drew lb_2
  go_region_held3 (fun w' => w'.cell? ⟨w2.heap.size, 0, none⟩ = some (.bool (ng z)) ∧ w'.cell? ⟨w2.heap.size, 1, none⟩ = some (.slice ar (limbs z.natAbs).length cr) ∧ w'.cell? ⟨w2.heap.size, 2, none⟩ = some (.slice aw (limbs e).length cw)) (first | exact ⟨lb_0, lb_1, lb_2⟩ | exact ⟨set_far (set_far (set_far lb_0 (by dsimp only; omega)) (by dsimp only; omega)) (by dsimp only; omega), set_far (set_far (set_far lb_1 (by dsimp only; omega)) (by dsimp only; omega)) (by dsimp only; omega), set_far (set_far (set_far lb_2 (by dsimp only; omega)) (by dsimp only; omega)) (by dsimp only; omega)⟩ | go_keep)
    (first | (go_at_call 64; refine (l05Bad_t _ w0.heap.size _ _ _ e (by first | exact Hs.out | exact set3_own Hs.out HNR.out.2) HD.out).mono ?_; rintro e3 w3 ⟨rfl, hb3⟩; (first | (replace q0 := keep_frozen hb3 c0_0 q0; replace c0_0 := keep_cell hb3 c0_0; replace q1 := keep_frozen hb3 c0_1 q1; replace c0_1 := keep_cell hb3 c0_1; replace q2 := keep_frozen hb3 c0_2 q2; replace c0_2 := keep_cell hb3 c0_2; replace lb_0 := keep_cell hb3 lb_0; replace lb_1 := keep_cell hb3 lb_1; replace lb_2 := keep_cell hb3 lb_2; replace Hr := Lib.hid (Hr.out.below hb3 (Nat.le_refl _)); replace Hs := Lib.hid (Hs.out.below hb3 (Nat.le_refl _)); replace B0 := B0.trans (hb3.mono B0.size); clear hb3) | (have hW := set_box3 (a := .bool (ng z)) (b := .slice ar (limbs z.natAbs).length cr) (c := .slice aw (limbs e).length cw) c0_0 c0_1 c0_2; replace c0_0 := keep_cell hb3 hW.1; replace c0_1 := keep_cell hb3 hW.2.1; replace c0_2 := keep_cell hb3 hW.2.2; replace lb_0 := keep_cell hb3 (set_far (set_far (set_far lb_0 (by dsimp only; omega)) (by dsimp only; omega)) (by dsimp only; omega)); replace lb_1 := keep_cell hb3 (set_far (set_far (set_far lb_1 (by dsimp only; omega)) (by dsimp only; omega)) (by dsimp only; omega)); replace lb_2 := keep_cell hb3 (set_far (set_far (set_far lb_2 (by dsimp only; omega)) (by dsimp only; omega)) (by dsimp only; omega)); have BF := (set3_below (BW.trans (B0.mono BW.size)) (Nat.le_refl _)).trans (hb3.mono (Nat.le_trans BW.size (Nat.le_trans B0.size (by simp [World.setCell])))); replace Hr := Lib.hid ((set3_own Hr.out HNR.out.1).below hb3 (Nat.le_refl _)); replace Hs := Lib.hid ((set3_own Hs.out HNR.out.2).below hb3 (Nat.le_refl _)); clear hb3 B0 hW))))
  all_goals go_wp2
  all_goals first | exact bodyPost_ret (v := .tuple #[.agg #[.bool (ng z), .slice ar (limbs z.natAbs).length cr, .slice aw (limbs e).length cw], .bool false]) (by simp [results, Try.results34, go_sem, c0_0, c0_1, c0_2]) rfl (retQB_end ⟨rfl, rfl, rfl⟩ BW (Nat.le_refl _) hg0 B0 Hr.out Hs.out HAP.out) | exact bodyPost_ret (v := .tuple #[.agg #[.bool (ng z), .slice ar (limbs z.natAbs).length cr, .slice aw (limbs e).length cw], .bool false]) (by simp [results, Try.results34, go_sem, c0_0, c0_1, c0_2]) rfl (retQB_fin ⟨rfl, rfl, rfl⟩ BW BF Hr.out Hs.out HAP.out)

theorem InnerProduct_c (w : World) {lo hi lo2 hi2 : Nat} {v1 v2 : Value} (n : Nat) (A : Nat → Rc) (m : Nat) (B : Nat → Rc) (h1 : Vec w lo hi v1 n A) (h2 : Vec w lo2 hi2 v2 m B) : Calls Try.prog 35 #[v1, v2] w (RetQB w (ipQ n A m B).1 (ipQ n A m B).2 (ipB n A m B)) := by
  unfold ipB
  by_cases h : OkV n A ∧ OkV m B ∧ n = m
  · have e0 := ipQ_yes h
    obtain ⟨hA, hB, rfl⟩ := h
    rw [e0]
    by_cases hd : 0 < (inn (fun i => numR (A i)) (fun i => denR (A i)) (fun i => numR (B i)) (fun i => denR (B i)) n).2
    · rw [decide_eq_true hd]
      exact InnerProduct_gt w n A B h1 h2 hA hB _ _ ⟨rfl, rfl⟩ hd
    · rw [decide_eq_false hd]
      have hq := inn_q (fun i => numR (A i)) (fun i => denR (A i)) (fun i => numR (B i)) (fun i => denR (B i)) n
      have hz : (inn (fun i => numR (A i)) (fun i => denR (A i)) (fun i => numR (B i)) (fun i => denR (B i)) n).1 = 0 := by
        rcases hq with hq | hq
        · exact absurd hq.1 hd
        · exact hq.1
      exact InnerProduct_gf w n A B h1 h2 hA hB _ _ ⟨rfl, rfl⟩ (by omega) hz
  · rw [ipQ_no h]
    by_cases hA : OkV n A
    · by_cases hB : OkV m B
      · exact InnerProduct_b3 w n A m B h1 h2 hA hB fun e => h ⟨hA, hB, e⟩
      · exact InnerProduct_b2 w n A m B h1 h2 hA hB
    · exact InnerProduct_b1 w n A m B h1 h2 hA

theorem sInnerProduct_c (w : World) {lo hi lo2 hi2 : Nat} {v1 v2 : Value} (n : Nat) (A : Nat → Rc) (m : Nat) (B : Nat → Rc) (h1 : Vec w lo hi v1 n A) (h2 : Vec w lo2 hi2 v2 m B) : Calls Try.prog 34 #[v1, v2] w (RetQB w (ipQ n A m B).1 (ipQ n A m B).2 (ipB n A m B)) := by
  unfold ipB
  by_cases h : OkV n A ∧ OkV m B ∧ n = m
  · have e0 := ipQ_yes h
    obtain ⟨hA, hB, rfl⟩ := h
    rw [e0]
    by_cases hd : 0 < (inn (fun i => numR (A i)) (fun i => denR (A i)) (fun i => numR (B i)) (fun i => denR (B i)) n).2
    · rw [decide_eq_true hd]
      exact sInnerProduct_gt w n A B h1 h2 hA hB _ _ ⟨rfl, rfl⟩ hd
    · rw [decide_eq_false hd]
      have hq := inn_q (fun i => numR (A i)) (fun i => denR (A i)) (fun i => numR (B i)) (fun i => denR (B i)) n
      have hz : (inn (fun i => numR (A i)) (fun i => denR (A i)) (fun i => numR (B i)) (fun i => denR (B i)) n).1 = 0 := by
        rcases hq with hq | hq
        · exact absurd hq.1 hd
        · exact hq.1
      exact sInnerProduct_gf w n A B h1 h2 hA hB _ _ ⟨rfl, rfl⟩ (by omega)
  · rw [ipQ_no h]
    exact sInnerProduct_bad w n A m B h1 h2 h

end Go.Proofs.Ytcmhpdhcpkhejaa
