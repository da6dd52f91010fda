/- The program's signed numbers: BigIntOf, BigIntToInt, floor division. -/
import Derived.Test.YtjhgomdfbljgdaaBigC
namespace Go.Proofs.Ytjhgomdfbljgdaa
open Go.RowKit Lm

theorem limbs_one : limbs 1 = [1] := by rw [limbs_small (by omega) (by omega)]; rfl
theorem own_one (w : World) : Own (w.alloc (.cells #[.int .i64 1] 3)) w.heap.size (.slice (some ⟨w.heap.size, 0, none⟩) 1 1) (limbs 1) := by
  rw [limbs_one]; exact Own.lit1 w 1

set_option maxHeartbeats 1000000 in
theorem BigIntOf_pos (w : World) (n z : Int) (hz : z = n) (h0 : 0 ≤ n) (hn : n ≤ 9223372036854775807) :
    Calls Try.prog 41 #[.int .i64 n] w (RetZ w z) := by
  have BW : Below w.heap.size w (w.alloc (.cells #[.bool false, .slice none 0 0] 33)) := ((Below.refl w.heap.size w).alloc (Nat.le_refl _) _)
  obtain ⟨c0_0, c0_1, q0, q1⟩ : World.cell? (w.alloc (.cells #[.bool false, .slice none 0 0] 33)) ⟨w.heap.size, 0, none⟩ = some (.bool false) ∧ World.cell? (w.alloc (.cells #[.bool false, .slice none 0 0] 33)) ⟨w.heap.size, 1, none⟩ = some (.slice none 0 0) ∧ World.frozen? (w.alloc (.cells #[.bool false, .slice none 0 0] 33)) ⟨w.heap.size, 0, none⟩ = false ∧ World.frozen? (w.alloc (.cells #[.bool false, .slice none 0 0] 33)) ⟨w.heap.size, 1, none⟩ = false := by simp [go_sem]
  have hg0 : w.heap.size < ((w.alloc (.cells #[.bool false, .slice none 0 0] 33))).heap.size := World.block_lt_of_cell? _ _ c0_0
  have HN : Hid (n.toNat = z.natAbs) := by unfold Hid; omega
  have HSG : Hid (z ≠ 0 → false = ng z) := fun _ => (ng_nonneg (by omega)).symm
  clear hz
  go_enter Try.func41, Try.ntmps41
  go_wp2_with fail
  generalize (w.alloc (.cells #[.bool false, .slice none 0 0] 33)) = w0 at *
  have B0 := Below.refl w0.heap.size w0
  refine (natOf_c _ n (by omega)).mono ?_
  rintro e w1 ⟨vo, rfl, ho1, hb⟩
  replace q0 := keep_frozen (w1 := w1) hb c0_0 q0
  replace c0_0 := keep_cell (w1 := w1) hb c0_0
  replace q1 := keep_frozen (w1 := w1) hb c0_1 q1
  replace c0_1 := keep_cell (w1 := w1) hb c0_1
  have Ho := Lib.hid (ho1.mono B0.size)
  clear ho1
  replace B0 := B0.trans (hb.mono B0.size)
  clear hb
  go_wp2_with fail
  refine (signed_zz _ _ _ _ _ z Ho.out HN HSG).mono ?_
  rintro e w2 ⟨vr, rfl, ho2, hp, hb⟩
  replace q0 := keep_frozen (w1 := w2) hb c0_0 q0
  replace c0_0 := keep_cell (w1 := w2) hb c0_0
  replace q1 := keep_frozen (w1 := w2) hb c0_1 q1
  replace c0_1 := keep_cell (w1 := w2) hb c0_1
  replace Ho := Lib.hid (Ho.out.below hb (Nat.le_refl _))
  have Hr := Lib.hid ho2
  clear ho2
  obtain ⟨ar, cr, rfl, -, -, -, -, -⟩ := Hr.out.form
  replace B0 := B0.trans (hb.mono B0.size)
  clear hb
  go_wp2
  exact bodyPost_ret (v := .agg #[.bool (ng z), .slice ar (limbs z.natAbs).length cr]) (by simp [results, Try.results41, go_sem, c0_0, c0_1]) rfl (retG_end BW (by omega) hg0 B0 Hr.out)

theorem limbs_len_le2 (n : Nat) (h : n ≤ 9223372036854775807) : (limbs n).length ≤ 1000 := by
  have := limbs_len_le (n := n) (k := 3)
  have h := this.2 (by simp only [pw]; omega)
  omega
theorem natOf_m (w : World) (m k : Int) (hm : m ≤ 9223372036854775807) (hk : Hid (k = m)) : Calls Try.prog 26 #[.int .i64 k] w (RetS w (limbs m.toNat)) := by
  rw [hk.out]; exact natOf_c w m hm

set_option maxHeartbeats 1000000 in
theorem BigIntOf_neg (w : World) (n z m : Int) (hz : z = n) (hm : m = -(n + 1)) (h0 : n < 0) (hn : -9223372036854775808 ≤ n) :
    Calls Try.prog 41 #[.int .i64 n] w (RetZ w z) := by
  have BW : Below w.heap.size w (w.alloc (.cells #[.bool false, .slice none 0 0] 33)) := ((Below.refl w.heap.size w).alloc (Nat.le_refl _) _)
  obtain ⟨c0_0, c0_1, q0, q1⟩ : World.cell? (w.alloc (.cells #[.bool false, .slice none 0 0] 33)) ⟨w.heap.size, 0, none⟩ = some (.bool false) ∧ World.cell? (w.alloc (.cells #[.bool false, .slice none 0 0] 33)) ⟨w.heap.size, 1, none⟩ = some (.slice none 0 0) ∧ World.frozen? (w.alloc (.cells #[.bool false, .slice none 0 0] 33)) ⟨w.heap.size, 0, none⟩ = false ∧ World.frozen? (w.alloc (.cells #[.bool false, .slice none 0 0] 33)) ⟨w.heap.size, 1, none⟩ = false := by simp [go_sem]
  have hg0 : w.heap.size < ((w.alloc (.cells #[.bool false, .slice none 0 0] 33))).heap.size := World.block_lt_of_cell? _ _ c0_0
  have HN : Hid (m.toNat + 1 = z.natAbs) := by unfold Hid; omega
  have HSG : Hid (z ≠ 0 → true = ng z) := fun _ => (ng_neg (by omega)).symm
  have e1 : IntKind.i64.wrap (n + 1) = n + 1 := IntWalk.i64_in _ (by omega)
  have e2 : IntKind.i64.wrap (-(n + 1)) = -(n + 1) := IntWalk.i64_in _ (by omega)
  have HM : Hid (-(n + 1) = m) := by unfold Hid; omega
  have hm1 : m ≤ 9223372036854775807 := by omega
  have M1 := limbs_len_le2 m.toNat (by omega)
  have M0 : (limbs 1).length ≤ 1000 := by rw [limbs_one]; simp
  clear hz hm
  go_enter Try.func41, Try.ntmps41
  go_wp2_with fail
  generalize (w.alloc (.cells #[.bool false, .slice none 0 0] 33)) = w0 at *
  have B0 := Below.refl w0.heap.size w0
  refine (natOf_m _ m _ hm1 HM).mono ?_
  rintro e w1 ⟨vo, rfl, ho1, hb⟩
  replace q0 := keep_frozen (w1 := w1) hb c0_0 q0
  replace c0_0 := keep_cell (w1 := w1) hb c0_0
  replace q1 := keep_frozen (w1 := w1) hb c0_1 q1
  replace c0_1 := keep_cell (w1 := w1) hb c0_1
  have Ho := Lib.hid (ho1.mono B0.size)
  clear ho1
  replace B0 := B0.trans (hb.mono B0.size)
  clear hb
  go_wp2_with fail
  refine (natAdd_c _ _ _ _ _ m.toNat 1 (Ho.out.alloc _) (own_one _) M1 M0).mono ?_
  rintro e w2 ⟨vp, rfl, ho1, hb⟩
  replace hb := alloc_below hb
  replace q0 := keep_frozen (w1 := w2) hb c0_0 q0
  replace c0_0 := keep_cell (w1 := w2) hb c0_0
  replace q1 := keep_frozen (w1 := w2) hb c0_1 q1
  replace c0_1 := keep_cell (w1 := w2) hb c0_1
  replace Ho := Lib.hid (Ho.out.below hb (Nat.le_refl _))
  have Hp := Lib.hid (ho1.mono (Nat.le_trans B0.size (heap_le_alloc _ _)))
  clear ho1
  replace B0 := B0.trans (hb.mono B0.size)
  clear hb
  go_wp2_with fail
  refine (signed_zz _ _ _ _ _ z Hp.out HN HSG).mono ?_
  rintro e w3 ⟨vr, rfl, ho2, hp, hb⟩
  replace q0 := keep_frozen (w1 := w3) hb c0_0 q0
  replace c0_0 := keep_cell (w1 := w3) hb c0_0
  replace q1 := keep_frozen (w1 := w3) hb c0_1 q1
  replace c0_1 := keep_cell (w1 := w3) hb c0_1
  replace Ho := Lib.hid (Ho.out.below hb (Nat.le_refl _))
  replace Hp := Lib.hid (Hp.out.below hb (Nat.le_refl _))
  have Hr := Lib.hid ho2
  clear ho2
  obtain ⟨ar, cr, rfl, -, -, -, -, -⟩ := Hr.out.form
  replace B0 := B0.trans (hb.mono B0.size)
  clear hb
  go_wp2
  exact bodyPost_ret (v := .agg #[.bool (ng z), .slice ar (limbs z.natAbs).length cr]) (by simp [results, Try.results41, go_sem, c0_0, c0_1]) rfl (retG_end BW (by omega) hg0 B0 Hr.out)

theorem BigIntOf_c (w : World) (n : Int) (h1 : -9223372036854775808 ≤ n) (h2 : n ≤ 9223372036854775807) : Calls Try.prog 41 #[.int .i64 n] w (RetZ w n) := by
  by_cases h : 0 ≤ n
  · exact BigIntOf_pos w n n rfl h h2
  · exact BigIntOf_neg w n n _ rfl rfl (by omega) h1

theorem natToInt_not (w : World) (b1 : Nat) (v1 : Value) (n : Nat) (h1 : Own w b1 v1 (limbs n)) (hl : (limbs n).length ≤ 60) (hn : 9223372036854775807 < n) : Calls Try.prog 37 #[v1] w (RetIB w 0 false) := by
  by_cases h3 : (limbs n).length ≤ 3
  · exact natToInt_big w b1 v1 n h1 h3 hn
  · exact natToInt_long w b1 v1 n h1 hl (by omega)

set_option maxHeartbeats 1000000 in
theorem BigIntToInt_bad (w : World) (b1 : Nat) (s : Bool) (v1 : Value) (xs : List Int) (h1 : Own w b1 v1 xs) (hx : ¬ OkG s xs) :
    Calls Try.prog 53 #[.agg #[.bool s, v1]] w (RetIB w 0 false) := by
  have BW : Below w.heap.size w (w.alloc (.cells #[.bool s, v1] 33)) := ((Below.refl w.heap.size w).alloc (Nat.le_refl _) _)
  obtain ⟨c0_0, c0_1⟩ : World.cell? (w.alloc (.cells #[.bool s, v1] 33)) ⟨w.heap.size, 0, none⟩ = some (.bool s) ∧ World.cell? (w.alloc (.cells #[.bool s, v1] 33)) ⟨w.heap.size, 1, none⟩ = some (v1) := by simp [go_sem]
  have Hv := Lib.hid (h1.below BW (Nat.le_refl _))
  clear h1
  have HX := Lib.hid hx
  clear hx
  go_enter Try.func53, Try.ntmps53
  go_wp2_with fail
  generalize (w.alloc (.cells #[.bool s, v1] 33)) = w0 at *
  have B0 := Below.refl w0.heap.size w0
  refine (bigIntOk_f _ _ _ _ _ Hv.out HX.out).mono ?_
  rintro e w1 ⟨rfl, hb⟩
  replace c0_0 := keep_cell hb c0_0
  replace c0_1 := keep_cell hb c0_1
  replace Hv := Lib.hid (Hv.out.below hb (Nat.le_refl _))
  replace B0 := B0.trans (hb.mono B0.size)
  clear hb
  go_wp2
  go_ret2
  exact retIB rfl rfl (BW.trans (B0.mono BW.size))

set_option maxHeartbeats 1000000 in
theorem BigIntToInt_ny (w : World) (b1 : Nat) (v1 : Value) (x : Int) (h1 : Own w b1 v1 (limbs x.natAbs)) (hl1 : (limbs x.natAbs).length ≤ 60) (hx : x < 0) (hsg : ng x = true) (hm : x.natAbs ≤ 9223372036854775807) :
    Calls Try.prog 53 #[.agg #[.bool true, v1]] w (RetIB w x true) := by
  have BW : Below w.heap.size w (w.alloc (.cells #[.bool true, v1] 33)) := ((Below.refl w.heap.size w).alloc (Nat.le_refl _) _)
  obtain ⟨c0_0, c0_1⟩ : World.cell? (w.alloc (.cells #[.bool true, v1] 33)) ⟨w.heap.size, 0, none⟩ = some (.bool true) ∧ World.cell? (w.alloc (.cells #[.bool true, v1] 33)) ⟨w.heap.size, 1, none⟩ = some (v1) := by simp [go_sem]
  have Hv := Lib.hid (h1.below BW (Nat.le_refl _))
  clear h1
  have HL := Lib.hid hl1
  have HG := Lib.hid (okG_of x hl1)
  rw [hsg] at HG
  clear hl1
  have n0 : (0 : Int) ≤ (x.natAbs : Int) := by omega
  have n1 : (x.natAbs : Int) ≤ 9223372036854775807 := by omega
  go_enter Try.func53, Try.ntmps53
  go_wp2_with fail
  generalize (w.alloc (.cells #[.bool true, v1] 33)) = w0 at *
  have B0 := Below.refl w0.heap.size w0
  refine (bigIntOk_t _ _ _ _ _ Hv.out HG.out).mono ?_
  rintro e w1 ⟨rfl, hb⟩
  replace c0_0 := keep_cell hb c0_0
  replace c0_1 := keep_cell hb c0_1
  replace Hv := Lib.hid (Hv.out.below hb (Nat.le_refl _))
  replace B0 := B0.trans (hb.mono B0.size)
  clear hb
  go_wp2_with fail
  refine (natToInt_ok _ _ _ x.natAbs Hv.out hm).mono ?_
  rintro e w2 ⟨rfl, hb⟩
  replace c0_0 := keep_cell hb c0_0
  replace c0_1 := keep_cell hb c0_1
  replace Hv := Lib.hid (Hv.out.below hb (Nat.le_refl _))
  replace B0 := B0.trans (hb.mono B0.size)
  clear hb
  go_wp2
  go_ret2
  exact retIB (by omega) rfl (BW.trans (B0.mono BW.size))

set_option maxHeartbeats 1000000 in
theorem BigIntToInt_nn (w : World) (b1 : Nat) (v1 : Value) (x : Int) (h1 : Own w b1 v1 (limbs x.natAbs)) (hl1 : (limbs x.natAbs).length ≤ 60) (_hx : x < 0) (hsg : ng x = true) (hm : 9223372036854775807 < x.natAbs) :
    Calls Try.prog 53 #[.agg #[.bool true, v1]] w (RetIB w 0 false) := by
  have BW : Below w.heap.size w (w.alloc (.cells #[.bool true, v1] 33)) := ((Below.refl w.heap.size w).alloc (Nat.le_refl _) _)
  obtain ⟨c0_0, c0_1⟩ : World.cell? (w.alloc (.cells #[.bool true, v1] 33)) ⟨w.heap.size, 0, none⟩ = some (.bool true) ∧ World.cell? (w.alloc (.cells #[.bool true, v1] 33)) ⟨w.heap.size, 1, none⟩ = some (v1) := by simp [go_sem]
  have Hv := Lib.hid (h1.below BW (Nat.le_refl _))
  clear h1
  have HL := Lib.hid hl1
  have HG := Lib.hid (okG_of x hl1)
  rw [hsg] at HG
  clear hl1
  go_enter Try.func53, Try.ntmps53
  go_wp2_with fail
  generalize (w.alloc (.cells #[.bool true, v1] 33)) = w0 at *
  have B0 := Below.refl w0.heap.size w0
  refine (bigIntOk_t _ _ _ _ _ Hv.out HG.out).mono ?_
  rintro e w1 ⟨rfl, hb⟩
  replace c0_0 := keep_cell hb c0_0
  replace c0_1 := keep_cell hb c0_1
  replace Hv := Lib.hid (Hv.out.below hb (Nat.le_refl _))
  replace B0 := B0.trans (hb.mono B0.size)
  clear hb
  go_wp2_with fail
  refine (natToInt_not _ _ _ x.natAbs Hv.out HL.out hm).mono ?_
  rintro e w2 ⟨rfl, hb⟩
  replace c0_0 := keep_cell hb c0_0
  replace c0_1 := keep_cell hb c0_1
  replace Hv := Lib.hid (Hv.out.below hb (Nat.le_refl _))
  replace B0 := B0.trans (hb.mono B0.size)
  clear hb
  go_wp2
  go_ret2
  exact retIB rfl rfl (BW.trans (B0.mono BW.size))

set_option maxHeartbeats 1000000 in
theorem BigIntToInt_py (w : World) (b1 : Nat) (v1 : Value) (x : Int) (h1 : Own w b1 v1 (limbs x.natAbs)) (hl1 : (limbs x.natAbs).length ≤ 60) (hx : 0 ≤ x) (hsg : ng x = false) (hm : x.natAbs ≤ 9223372036854775807) :
    Calls Try.prog 53 #[.agg #[.bool false, v1]] w (RetIB w x true) := by
  have BW : Below w.heap.size w (w.alloc (.cells #[.bool false, v1] 33)) := ((Below.refl w.heap.size w).alloc (Nat.le_refl _) _)
  obtain ⟨c0_0, c0_1⟩ : World.cell? (w.alloc (.cells #[.bool false, v1] 33)) ⟨w.heap.size, 0, none⟩ = some (.bool false) ∧ World.cell? (w.alloc (.cells #[.bool false, v1] 33)) ⟨w.heap.size, 1, none⟩ = some (v1) := by simp [go_sem]
  have Hv := Lib.hid (h1.below BW (Nat.le_refl _))
  clear h1
  have HL := Lib.hid hl1
  have HG := Lib.hid (okG_of x hl1)
  rw [hsg] at HG
  clear hl1
  have n0 : (0 : Int) ≤ (x.natAbs : Int) := by omega
  have n1 : (x.natAbs : Int) ≤ 9223372036854775807 := by omega
  go_enter Try.func53, Try.ntmps53
  go_wp2_with fail
  generalize (w.alloc (.cells #[.bool false, v1] 33)) = w0 at *
  have B0 := Below.refl w0.heap.size w0
  refine (bigIntOk_t _ _ _ _ _ Hv.out HG.out).mono ?_
  rintro e w1 ⟨rfl, hb⟩
  replace c0_0 := keep_cell hb c0_0
  replace c0_1 := keep_cell hb c0_1
  replace Hv := Lib.hid (Hv.out.below hb (Nat.le_refl _))
  replace B0 := B0.trans (hb.mono B0.size)
  clear hb
  go_wp2_with fail
  refine (natToInt_ok _ _ _ x.natAbs Hv.out hm).mono ?_
  rintro e w2 ⟨rfl, hb⟩
  replace c0_0 := keep_cell hb c0_0
  replace c0_1 := keep_cell hb c0_1
  replace Hv := Lib.hid (Hv.out.below hb (Nat.le_refl _))
  replace B0 := B0.trans (hb.mono B0.size)
  clear hb
  go_wp2
  go_ret2
  exact retIB (by omega) rfl (BW.trans (B0.mono BW.size))

set_option maxHeartbeats 1000000 in
theorem BigIntToInt_pn (w : World) (b1 : Nat) (v1 : Value) (x : Int) (h1 : Own w b1 v1 (limbs x.natAbs)) (hl1 : (limbs x.natAbs).length ≤ 60) (_hx : 0 ≤ x) (hsg : ng x = false) (hm : 9223372036854775807 < x.natAbs) :
    Calls Try.prog 53 #[.agg #[.bool false, v1]] w (RetIB w 0 false) := by
  have BW : Below w.heap.size w (w.alloc (.cells #[.bool false, v1] 33)) := ((Below.refl w.heap.size w).alloc (Nat.le_refl _) _)
  obtain ⟨c0_0, c0_1⟩ : World.cell? (w.alloc (.cells #[.bool false, v1] 33)) ⟨w.heap.size, 0, none⟩ = some (.bool false) ∧ World.cell? (w.alloc (.cells #[.bool false, v1] 33)) ⟨w.heap.size, 1, none⟩ = some (v1) := by simp [go_sem]
  have Hv := Lib.hid (h1.below BW (Nat.le_refl _))
  clear h1
  have HL := Lib.hid hl1
  have HG := Lib.hid (okG_of x hl1)
  rw [hsg] at HG
  clear hl1
  go_enter Try.func53, Try.ntmps53
  go_wp2_with fail
  generalize (w.alloc (.cells #[.bool false, v1] 33)) = w0 at *
  have B0 := Below.refl w0.heap.size w0
  refine (bigIntOk_t _ _ _ _ _ Hv.out HG.out).mono ?_
  rintro e w1 ⟨rfl, hb⟩
  replace c0_0 := keep_cell hb c0_0
  replace c0_1 := keep_cell hb c0_1
  replace Hv := Lib.hid (Hv.out.below hb (Nat.le_refl _))
  replace B0 := B0.trans (hb.mono B0.size)
  clear hb
  go_wp2_with fail
  refine (natToInt_not _ _ _ x.natAbs Hv.out HL.out hm).mono ?_
  rintro e w2 ⟨rfl, hb⟩
  replace c0_0 := keep_cell hb c0_0
  replace c0_1 := keep_cell hb c0_1
  replace Hv := Lib.hid (Hv.out.below hb (Nat.le_refl _))
  replace B0 := B0.trans (hb.mono B0.size)
  clear hb
  go_wp2
  go_ret2
  exact retIB rfl rfl (BW.trans (B0.mono BW.size))

open Classical in
noncomputable def ztoIntN (s : Bool) (xs : List Int) : Int := if OkG s xs ∧ nv xs ≤ 9223372036854775807 then zv s xs else 0
open Classical in
noncomputable def ztoIntB (s : Bool) (xs : List Int) : Bool := decide (OkG s xs ∧ nv xs ≤ 9223372036854775807)
open Classical in
theorem ztoInt_no {s : Bool} {xs : List Int} (h : ¬ (OkG s xs ∧ nv xs ≤ 9223372036854775807)) : ztoIntN s xs = 0 ∧ ztoIntB s xs = false := ⟨if_neg h, decide_eq_false h⟩
open Classical in
theorem ztoInt_yes {s : Bool} {xs : List Int} (h : OkG s xs ∧ nv xs ≤ 9223372036854775807) : ztoIntN s xs = zv s xs ∧ ztoIntB s xs = true := ⟨if_pos h, decide_eq_true h⟩
theorem BigIntToInt_c (w : World) (b1 : Nat) (s : Bool) (v1 : Value) (xs : List Int) (h1 : Own w b1 v1 xs) : Calls Try.prog 53 #[.agg #[.bool s, v1]] w (RetIB w (ztoIntN s xs) (ztoIntB s xs)) := by
  by_cases hx : OkG s xs
  · by_cases hc : nv xs ≤ 9223372036854775807
    · obtain ⟨e1, e2⟩ := ztoInt_yes ⟨hx, hc⟩
      rw [e1, e2]
      obtain ⟨x, rfl, rfl, hl1, e3⟩ := okG_z hx
      rw [nv_limbs] at hc
      rw [e3]
      rcases ng_cases x with ⟨h3, e4⟩ | ⟨h3, e4⟩
      · rw [e4]; exact BigIntToInt_ny w b1 v1 x h1 hl1 h3 e4 (by omega)
      · rw [e4]; exact BigIntToInt_py w b1 v1 x h1 hl1 h3 e4 (by omega)
    · obtain ⟨e1, e2⟩ := ztoInt_no (fun h => hc h.2)
      rw [e1, e2]
      obtain ⟨x, rfl, rfl, hl1, e3⟩ := okG_z hx
      rw [nv_limbs] at hc
      rcases ng_cases x with ⟨h3, e4⟩ | ⟨h3, e4⟩
      · rw [e4]; exact BigIntToInt_nn w b1 v1 x h1 hl1 h3 e4 (by omega)
      · rw [e4]; exact BigIntToInt_pn w b1 v1 x h1 hl1 h3 e4 (by omega)
  · obtain ⟨e1, e2⟩ := ztoInt_no (fun h => hx h.1)
    rw [e1, e2]
    exact BigIntToInt_bad w b1 s v1 xs h1 hx

theorem retGS_end {w w0 wk : World} {g : Nat} {s : Bool} {u v : Value} {xs ys : List Int} (BW : Below w.heap.size w w0) (hg : w.heap.size ≤ g) (hg0 : g < w0.heap.size) (B0 : Below w0.heap.size w0 wk) (ho : Own wk w0.heap.size u xs) (hv : Own wk w0.heap.size v ys) (ha : Apart u v) :
    RetGS w s xs ys (.returned (.tuple #[.agg #[.bool s, u], v])) ((wk.setCell ⟨g, 0, none⟩ (.bool s)).setCell ⟨g, 1, none⟩ u) :=
  ⟨u, v, rfl, ((ho.setBelow2 (a := ⟨g, 0, none⟩) hg0 _).setBelow2 (a := ⟨g, 1, none⟩) hg0 _).mono BW.size, ((hv.setBelow2 (a := ⟨g, 0, none⟩) hg0 _).setBelow2 (a := ⟨g, 1, none⟩) hg0 _).mono BW.size, ha, ((BW.trans (B0.mono BW.size)).setCell hg _).setCell hg _⟩
theorem apart_part {v u v0 : Value} (h : Apart v0 u) (hv : v.ownBlock = none ∨ v.ownBlock = v0.ownBlock) : Apart v u := by
  intro k hk hu
  rcases hv with hv | hv
  · rw [hv] at hk; cases hk
  · exact h k (hv ▸ hk) hu

theorem natDiv_r (w : World) (b1 b2 : Nat) (v1 v2 : Value) (a b r : Nat) (h1 : Own w b1 v1 (limbs a)) (h2 : Own w b2 v2 (limbs b)) (hs1 : (limbs a).length ≤ 1000) (hb : 0 < b) (hr : Hid (r = a % b)) :
    Calls Try.prog 88 #[v1, v2] w (RetSS w (limbs (a / b)) (limbs r)) := by
  rw [hr.out]; exact natDiv_c w b1 b2 v1 v2 a b h1 h2 hs1 hb

theorem ediv_neg_aux {n m q r : Nat} (hm : 0 < m) (h : n = m * q + r) (hr : r < m) : -(n : Int) / (m : Int) = -(q : Int) - (if r = 0 then 0 else 1) := by
  have h1 : (n : Int) = m * q + r := by exact_mod_cast h
  split
  · next h0 =>
    subst h0
    have : -(n : Int) = m * (-(q : Int)) := by rw [h1, Int.mul_neg]; simp
    rw [this, Int.mul_ediv_cancel_left _ (by omega)]; omega
  · next h0 =>
    have : -(n : Int) = (m - r : Int) + m * (-(q : Int) - 1) := by rw [h1, Int.mul_sub, Int.mul_neg]; omega
    rw [this, Int.add_mul_ediv_left _ _ (by omega), Int.ediv_eq_zero_of_lt (by omega) (by omega)]; omega
theorem ediv_natAbs_neg {x : Int} {m : Nat} (hx : x < 0) (hm : 0 < m) : x / (m : Int) = -((x.natAbs / m : Nat) : Int) - (if x.natAbs % m = 0 then 0 else 1) := by
  have h := ediv_neg_aux (n := x.natAbs) (q := x.natAbs / m) (r := x.natAbs % m) hm (Nat.div_add_mod _ _).symm (Nat.mod_lt _ hm)
  rwa [show -(x.natAbs : Int) = x by omega] at h
theorem natAbs_div {x : Int} {m q r : Nat} (hm : 0 < m) (hq : q = x.natAbs / m) (hr : r = x.natAbs % m) (hx : x < 0) : 0 < q ∨ 0 < r := by
  rcases Nat.eq_zero_or_pos q with h | h
  · right
    rw [hr]
    rw [hq, Nat.div_eq_zero_iff] at h
    rw [Nat.mod_eq_of_lt (by omega)]; omega
  · exact .inl h
theorem floor_pos_q {x z : Int} {m : Nat} (hx : 0 ≤ x) (_hm : 0 < m) (hz : z = x / (m : Int)) : x.natAbs / m = z.natAbs := by
  obtain ⟨n, rfl⟩ : ∃ n : Nat, x = n := ⟨x.natAbs, by omega⟩
  rw [hz, Int.natAbs_natCast, ← Int.natCast_ediv, Int.natAbs_natCast]
theorem floor_pos_s {x z : Int} {m : Nat} (hx : 0 ≤ x) (_hm : 0 < m) (hz : z = x / (m : Int)) (_h : z ≠ 0) : false = ng z := by
  obtain ⟨n, rfl⟩ : ∃ n : Nat, x = n := ⟨x.natAbs, by omega⟩
  rw [hz, ← Int.natCast_ediv, ng_nat]
theorem floor_neg_s {x z : Int} {m : Nat} (hx : x < 0) (hm : 0 < m) (hz : z = x / (m : Int)) (h0 : z ≠ 0) : true = ng z := by
  rw [ediv_natAbs_neg hx hm] at hz
  generalize x.natAbs / m = q at hz
  generalize x.natAbs % m = r at hz
  refine (ng_neg ?_).symm
  split at hz <;> omega
theorem floor_zero_q {x z : Int} {m : Nat} (hx : x < 0) (hm : 0 < m) (hz : z = x / (m : Int)) (h0 : x.natAbs % m = 0) : x.natAbs / m = z.natAbs := by
  rw [ediv_natAbs_neg hx hm, if_pos h0] at hz
  generalize x.natAbs / m = q at *
  omega
theorem floor_rest_q {x z : Int} {m r : Nat} (hx : x < 0) (hm : 0 < m) (hz : z = x / (m : Int)) (hr : r = x.natAbs % m) (h0 : 0 < r) : x.natAbs / m + 1 = z.natAbs := by
  rw [ediv_natAbs_neg hx hm, if_neg (by omega)] at hz
  generalize x.natAbs / m = q at *
  omega
/-- The rest of the floor division. -/
def flR (x : Int) (m : Nat) : Nat := (x % (m : Int)).toNat
theorem flR_pos {x : Int} {m : Nat} (hx : 0 ≤ x) : flR x m = x.natAbs % m := by
  obtain ⟨n, rfl⟩ : ∃ n : Nat, x = n := ⟨x.natAbs, by omega⟩
  unfold flR
  rw [Int.natAbs_natCast, ← Int.natCast_emod]; omega
theorem flR_neg {x : Int} {m : Nat} (hx : x < 0) (hm : 0 < m) : flR x m = if x.natAbs % m = 0 then 0 else m - x.natAbs % m := by
  unfold flR
  have h := ediv_natAbs_neg hx hm
  have h1 := Int.mul_ediv_add_emod x m
  have h2 : (x.natAbs : Int) = m * (x.natAbs / m : Nat) + (x.natAbs % m : Nat) := by exact_mod_cast (Nat.div_add_mod x.natAbs m).symm
  have h3 : (x.natAbs % m : Nat) < m := Nat.mod_lt _ hm
  rw [h] at h1
  generalize x.natAbs / m = q at *
  generalize x.natAbs % m = r at *
  split
  · next h0 => rw [if_pos h0, Int.sub_zero, Int.mul_neg] at h1; omega
  · next h0 => rw [if_neg h0, Int.mul_sub, Int.mul_neg] at h1; omega

set_option maxHeartbeats 1000000 in
theorem bigFloor_pos (w : World) (b1 b2 : Nat) (v1 v2 : Value) (x : Int) (m : Nat) (h1 : Own w b1 v1 (limbs x.natAbs)) (h2 : Own w b2 v2 (limbs m)) (hl1 : (limbs x.natAbs).length ≤ 60) (_hl2 : (limbs m).length ≤ 60) (hm : 0 < m) (z : Int) (r : Nat) (hz : z = x / (m : Int)) (hr : r = x.natAbs % m) (hx : 0 ≤ x) :
    Calls Try.prog 92 #[.agg #[.bool false, v1], v2] w (RetZS w z r) := by
  have BW : Below w.heap.size w ((w.alloc (.cells #[.bool false, v1] 33)).alloc (.cells #[.bool false, .slice none 0 0] 33)) := (((Below.refl w.heap.size w).alloc (Nat.le_refl _) _).alloc (by simp) _)
  obtain ⟨c0_0, c0_1, c1_0, c1_1, q0, q1⟩ : World.cell? ((w.alloc (.cells #[.bool false, v1] 33)).alloc (.cells #[.bool false, .slice none 0 0] 33)) ⟨w.heap.size, 0, none⟩ = some (.bool false) ∧ World.cell? ((w.alloc (.cells #[.bool false, v1] 33)).alloc (.cells #[.bool false, .slice none 0 0] 33)) ⟨w.heap.size, 1, none⟩ = some (v1) ∧ World.cell? ((w.alloc (.cells #[.bool false, v1] 33)).alloc (.cells #[.bool false, .slice none 0 0] 33)) ⟨w.heap.size + 1, 0, none⟩ = some (.bool false) ∧ World.cell? ((w.alloc (.cells #[.bool false, v1] 33)).alloc (.cells #[.bool false, .slice none 0 0] 33)) ⟨w.heap.size + 1, 1, none⟩ = some (.slice none 0 0) ∧ World.frozen? ((w.alloc (.cells #[.bool false, v1] 33)).alloc (.cells #[.bool false, .slice none 0 0] 33)) ⟨w.heap.size + 1, 0, none⟩ = false ∧ World.frozen? ((w.alloc (.cells #[.bool false, v1] 33)).alloc (.cells #[.bool false, .slice none 0 0] 33)) ⟨w.heap.size + 1, 1, none⟩ = false := by simp [go_sem]
  have hg0 : w.heap.size + 1 < (((w.alloc (.cells #[.bool false, v1] 33)).alloc (.cells #[.bool false, .slice none 0 0] 33))).heap.size := World.block_lt_of_cell? _ _ c1_0
  have Hv := Lib.hid (h1.below BW (Nat.le_refl _))
  have Hu := Lib.hid (h2.below BW (Nat.le_refl _))
  clear h1 h2
  have m1 : (limbs x.natAbs).length ≤ 1000 := by omega
  have HM := Lib.hid hm
  have HR := Lib.hid hr
  have HN : Hid (x.natAbs / m = z.natAbs) := Lib.hid (floor_pos_q hx hm hz)
  have HSG : Hid (z ≠ 0 → false = ng z) := floor_pos_s hx hm hz
  clear hz hr hm hx
  go_enter Try.func92, Try.ntmps92
  go_wp2_with fail
  generalize ((w.alloc (.cells #[.bool false, v1] 33)).alloc (.cells #[.bool false, .slice none 0 0] 33)) = w0 at *
  have B0 := Below.refl w0.heap.size w0
  refine (natDiv_r _ _ _ _ _ x.natAbs m _ Hv.out Hu.out m1 HM.out HR).mono ?_
  rintro e w1 ⟨vq, ve, rfl, ho1, ho2, ha, hb⟩
  replace c0_0 := keep_cell hb c0_0
  replace c0_1 := keep_cell hb c0_1
  replace q0 := keep_frozen (w1 := w1) hb c1_0 q0
  replace c1_0 := keep_cell (w1 := w1) hb c1_0
  replace q1 := keep_frozen (w1 := w1) hb c1_1 q1
  replace c1_1 := keep_cell (w1 := w1) hb c1_1
  replace Hv := Lib.hid (Hv.out.below hb (Nat.le_refl _))
  replace Hu := Lib.hid (Hu.out.below hb (Nat.le_refl _))
  have Hq := Lib.hid (ho1.mono B0.size)
  clear ho1
  have He := Lib.hid (ho2.mono B0.size)
  clear ho2
  have HA := Lib.hid ha
  clear ha
  replace B0 := B0.trans (hb.mono B0.size)
  clear hb
  go_wp2_with fail
  refine (signed_zz _ _ _ _ _ z Hq.out HN HSG).mono ?_
  rintro e w2 ⟨vr, rfl, ho2, hp, hb⟩
  replace c0_0 := keep_cell hb c0_0
  replace c0_1 := keep_cell hb c0_1
  replace q0 := keep_frozen (w1 := w2) hb c1_0 q0
  replace c1_0 := keep_cell (w1 := w2) hb c1_0
  replace q1 := keep_frozen (w1 := w2) hb c1_1 q1
  replace c1_1 := keep_cell (w1 := w2) hb c1_1
  replace Hv := Lib.hid (Hv.out.below hb (Nat.le_refl _))
  replace Hu := Lib.hid (Hu.out.below hb (Nat.le_refl _))
  replace Hq := Lib.hid (Hq.out.below hb (Nat.le_refl _))
  replace He := Lib.hid (He.out.below hb (Nat.le_refl _))
  have Hr := Lib.hid ho2
  clear ho2
  have HAP := apart_part HA.out hp
  obtain ⟨ae, ce, rfl, -, -, -, -, -⟩ := He.out.form
  replace B0 := B0.trans (hb.mono B0.size)
  clear hb
  obtain ⟨ar, cr, rfl, -, -, -, -, -⟩ := Hr.out.form
  go_wp2
  exact bodyPost_ret (v := .tuple #[.agg #[.bool (ng z), .slice ar (limbs z.natAbs).length cr], .slice ae (limbs r).length ce]) (by simp [results, Try.results92, go_sem, c1_0, c1_1]) rfl (retGS_end BW (by omega) hg0 B0 (Hr.out) (He.out) HAP)

set_option maxHeartbeats 1000000 in
theorem bigFloor_zero (w : World) (b1 b2 : Nat) (v1 v2 : Value) (x : Int) (m : Nat) (h1 : Own w b1 v1 (limbs x.natAbs)) (h2 : Own w b2 v2 (limbs m)) (hl1 : (limbs x.natAbs).length ≤ 60) (_hl2 : (limbs m).length ≤ 60) (hm : 0 < m) (z : Int) (r : Nat) (hz : z = x / (m : Int)) (hr : r = x.natAbs % m) (hx : x < 0) (h0 : r = 0) :
    Calls Try.prog 92 #[.agg #[.bool true, v1], v2] w (RetZS w z 0) := by
  have BW : Below w.heap.size w ((w.alloc (.cells #[.bool true, v1] 33)).alloc (.cells #[.bool false, .slice none 0 0] 33)) := (((Below.refl w.heap.size w).alloc (Nat.le_refl _) _).alloc (by simp) _)
  obtain ⟨c0_0, c0_1, c1_0, c1_1, q0, q1⟩ : World.cell? ((w.alloc (.cells #[.bool true, v1] 33)).alloc (.cells #[.bool false, .slice none 0 0] 33)) ⟨w.heap.size, 0, none⟩ = some (.bool true) ∧ World.cell? ((w.alloc (.cells #[.bool true, v1] 33)).alloc (.cells #[.bool false, .slice none 0 0] 33)) ⟨w.heap.size, 1, none⟩ = some (v1) ∧ World.cell? ((w.alloc (.cells #[.bool true, v1] 33)).alloc (.cells #[.bool false, .slice none 0 0] 33)) ⟨w.heap.size + 1, 0, none⟩ = some (.bool false) ∧ World.cell? ((w.alloc (.cells #[.bool true, v1] 33)).alloc (.cells #[.bool false, .slice none 0 0] 33)) ⟨w.heap.size + 1, 1, none⟩ = some (.slice none 0 0) ∧ World.frozen? ((w.alloc (.cells #[.bool true, v1] 33)).alloc (.cells #[.bool false, .slice none 0 0] 33)) ⟨w.heap.size + 1, 0, none⟩ = false ∧ World.frozen? ((w.alloc (.cells #[.bool true, v1] 33)).alloc (.cells #[.bool false, .slice none 0 0] 33)) ⟨w.heap.size + 1, 1, none⟩ = false := by simp [go_sem]
  have hg0 : w.heap.size + 1 < (((w.alloc (.cells #[.bool true, v1] 33)).alloc (.cells #[.bool false, .slice none 0 0] 33))).heap.size := World.block_lt_of_cell? _ _ c1_0
  have Hv := Lib.hid (h1.below BW (Nat.le_refl _))
  have Hu := Lib.hid (h2.below BW (Nat.le_refl _))
  clear h1 h2
  have m1 : (limbs x.natAbs).length ≤ 1000 := by omega
  have HM := Lib.hid hm
  have HR := Lib.hid hr
  have HN : Hid (x.natAbs / m = z.natAbs) := Lib.hid (floor_zero_q hx hm hz (hr.symm.trans h0))
  have HSG : Hid (z ≠ 0 → true = ng z) := floor_neg_s hx hm hz
  have E0 := Lib.hid h0
  clear hz hr hm hx h0
  go_enter Try.func92, Try.ntmps92
  go_wp2_with fail
  generalize ((w.alloc (.cells #[.bool true, v1] 33)).alloc (.cells #[.bool false, .slice none 0 0] 33)) = w0 at *
  have B0 := Below.refl w0.heap.size w0
  refine (natDiv_r _ _ _ _ _ x.natAbs m _ Hv.out Hu.out m1 HM.out HR).mono ?_
  rintro e w1 ⟨vq, ve, rfl, ho1, ho2, ha, hb⟩
  replace c0_0 := keep_cell hb c0_0
  replace c0_1 := keep_cell hb c0_1
  replace q0 := keep_frozen (w1 := w1) hb c1_0 q0
  replace c1_0 := keep_cell (w1 := w1) hb c1_0
  replace q1 := keep_frozen (w1 := w1) hb c1_1 q1
  replace c1_1 := keep_cell (w1 := w1) hb c1_1
  replace Hv := Lib.hid (Hv.out.below hb (Nat.le_refl _))
  replace Hu := Lib.hid (Hu.out.below hb (Nat.le_refl _))
  have Hq := Lib.hid (ho1.mono B0.size)
  clear ho1
  have He := Lib.hid (ho2.mono B0.size)
  clear ho2
  have HA := Lib.hid ha
  clear ha
  have he : Own _ _ ve (limbs r) := He.out
  rw [E0.out] at he
  have He := Lib.hid he
  clear he
  obtain ⟨ae, ce, rfl, -, -, -, -, -⟩ := He.out.form
  have d1 : decide (0 < (limbs 0).length) = false := rfl
  have d2 : decide ((0 : Int) < (limbs 0).length) = false := rfl
  replace B0 := B0.trans (hb.mono B0.size)
  clear hb
  go_wp2_with fail
  refine (signed_zz _ _ _ _ _ z Hq.out HN HSG).mono ?_
  rintro e w2 ⟨vr, rfl, ho2, hp, hb⟩
  replace c0_0 := keep_cell hb c0_0
  replace c0_1 := keep_cell hb c0_1
  replace q0 := keep_frozen (w1 := w2) hb c1_0 q0
  replace c1_0 := keep_cell (w1 := w2) hb c1_0
  replace q1 := keep_frozen (w1 := w2) hb c1_1 q1
  replace c1_1 := keep_cell (w1 := w2) hb c1_1
  replace Hv := Lib.hid (Hv.out.below hb (Nat.le_refl _))
  replace Hu := Lib.hid (Hu.out.below hb (Nat.le_refl _))
  replace Hq := Lib.hid (Hq.out.below hb (Nat.le_refl _))
  replace He := Lib.hid (He.out.below hb (Nat.le_refl _))
  have Hr := Lib.hid ho2
  clear ho2
  have HAP := apart_part HA.out hp
  replace B0 := B0.trans (hb.mono B0.size)
  clear hb
  obtain ⟨ar, cr, rfl, -, -, -, -, -⟩ := Hr.out.form
  go_wp2
  exact bodyPost_ret (v := .tuple #[.agg #[.bool (ng z), .slice ar (limbs z.natAbs).length cr], .slice ae (limbs 0).length ce]) (by simp [results, Try.results92, go_sem, c1_0, c1_1]) rfl (retGS_end BW (by omega) hg0 B0 (Hr.out) (He.out) HAP)

set_option maxHeartbeats 1000000 in
theorem bigFloor_rest (w : World) (b1 b2 : Nat) (v1 v2 : Value) (x : Int) (m : Nat) (h1 : Own w b1 v1 (limbs x.natAbs)) (h2 : Own w b2 v2 (limbs m)) (hl1 : (limbs x.natAbs).length ≤ 60) (hl2 : (limbs m).length ≤ 60) (hm : 0 < m) (z : Int) (r : Nat) (hz : z = x / (m : Int)) (hr : r = x.natAbs % m) (hx : x < 0) (h0 : 0 < r) :
    Calls Try.prog 92 #[.agg #[.bool true, v1], v2] w (RetZS w z (m - r)) := by
  have BW : Below w.heap.size w ((w.alloc (.cells #[.bool true, v1] 33)).alloc (.cells #[.bool false, .slice none 0 0] 33)) := (((Below.refl w.heap.size w).alloc (Nat.le_refl _) _).alloc (by simp) _)
  obtain ⟨c0_0, c0_1, c1_0, c1_1, q0, q1⟩ : World.cell? ((w.alloc (.cells #[.bool true, v1] 33)).alloc (.cells #[.bool false, .slice none 0 0] 33)) ⟨w.heap.size, 0, none⟩ = some (.bool true) ∧ World.cell? ((w.alloc (.cells #[.bool true, v1] 33)).alloc (.cells #[.bool false, .slice none 0 0] 33)) ⟨w.heap.size, 1, none⟩ = some (v1) ∧ World.cell? ((w.alloc (.cells #[.bool true, v1] 33)).alloc (.cells #[.bool false, .slice none 0 0] 33)) ⟨w.heap.size + 1, 0, none⟩ = some (.bool false) ∧ World.cell? ((w.alloc (.cells #[.bool true, v1] 33)).alloc (.cells #[.bool false, .slice none 0 0] 33)) ⟨w.heap.size + 1, 1, none⟩ = some (.slice none 0 0) ∧ World.frozen? ((w.alloc (.cells #[.bool true, v1] 33)).alloc (.cells #[.bool false, .slice none 0 0] 33)) ⟨w.heap.size + 1, 0, none⟩ = false ∧ World.frozen? ((w.alloc (.cells #[.bool true, v1] 33)).alloc (.cells #[.bool false, .slice none 0 0] 33)) ⟨w.heap.size + 1, 1, none⟩ = false := by simp [go_sem]
  have hg0 : w.heap.size + 1 < (((w.alloc (.cells #[.bool true, v1] 33)).alloc (.cells #[.bool false, .slice none 0 0] 33))).heap.size := World.block_lt_of_cell? _ _ c1_0
  have Hv := Lib.hid (h1.below BW (Nat.le_refl _))
  have Hu := Lib.hid (h2.below BW (Nat.le_refl _))
  clear h1 h2
  have m1 : (limbs x.natAbs).length ≤ 1000 := by omega
  have HM := Lib.hid hm
  have HR := Lib.hid hr
  have HN : Hid (x.natAbs / m + 1 = z.natAbs) := Lib.hid (floor_rest_q hx hm hz hr h0)
  have HSG : Hid (z ≠ 0 → true = ng z) := floor_neg_s hx hm hz
  have hrm : r ≤ m := by rw [hr]; exact Nat.le_of_lt (Nat.mod_lt _ hm)
  have d0 := limbs_len_pos.2 h0
  have Q1 : (limbs (x.natAbs / m)).length ≤ 1000 := Nat.le_trans (limbs_len_mono (Nat.div_le_self _ _)) m1
  have M0 : (limbs 1).length ≤ 1000 := by rw [limbs_one]; simp
  have m2 : (limbs m).length ≤ 1000 := by omega
  clear hz hr hm hx h0
  go_enter Try.func92, Try.ntmps92
  go_wp2_with fail
  generalize ((w.alloc (.cells #[.bool true, v1] 33)).alloc (.cells #[.bool false, .slice none 0 0] 33)) = w0 at *
  have B0 := Below.refl w0.heap.size w0
  refine (natDiv_r _ _ _ _ _ x.natAbs m _ Hv.out Hu.out m1 HM.out HR).mono ?_
  rintro e w1 ⟨vq, ve, rfl, ho1, ho2, ha, hb⟩
  replace c0_0 := keep_cell hb c0_0
  replace c0_1 := keep_cell hb c0_1
  replace q0 := keep_frozen (w1 := w1) hb c1_0 q0
  replace c1_0 := keep_cell (w1 := w1) hb c1_0
  replace q1 := keep_frozen (w1 := w1) hb c1_1 q1
  replace c1_1 := keep_cell (w1 := w1) hb c1_1
  replace Hv := Lib.hid (Hv.out.below hb (Nat.le_refl _))
  replace Hu := Lib.hid (Hu.out.below hb (Nat.le_refl _))
  have Hq := Lib.hid (ho1.mono B0.size)
  clear ho1
  have He := Lib.hid (ho2.mono B0.size)
  clear ho2
  have HA := Lib.hid ha
  clear ha
  obtain ⟨ae, ce, rfl, -, -, -, -, -⟩ := He.out.form
  have d1 : decide (0 < (limbs r).length) = true := decide_eq_true d0
  have d2 : decide ((0 : Int) < (limbs r).length) = true := decide_eq_true (by omega)
  replace B0 := B0.trans (hb.mono B0.size)
  clear hb
  go_wp2_with fail
  refine (natAdd_c _ _ _ _ _ (x.natAbs / m) 1 (Hq.out.alloc _) (own_one _) Q1 M0).mono ?_
  rintro e w2 ⟨vp, rfl, ho1, hb⟩
  replace hb := alloc_below hb
  replace c0_0 := keep_cell hb c0_0
  replace c0_1 := keep_cell hb c0_1
  replace q0 := keep_frozen (w1 := w2) hb c1_0 q0
  replace c1_0 := keep_cell (w1 := w2) hb c1_0
  replace q1 := keep_frozen (w1 := w2) hb c1_1 q1
  replace c1_1 := keep_cell (w1 := w2) hb c1_1
  replace Hv := Lib.hid (Hv.out.below hb (Nat.le_refl _))
  replace Hu := Lib.hid (Hu.out.below hb (Nat.le_refl _))
  replace Hq := Lib.hid (Hq.out.below hb (Nat.le_refl _))
  replace He := Lib.hid (He.out.below hb (Nat.le_refl _))
  have Hp := Lib.hid (ho1.mono (Nat.le_trans B0.size (heap_le_alloc _ _)))
  clear ho1
  replace B0 := B0.trans (hb.mono B0.size)
  clear hb
  go_wp2_with fail
  refine (natSub_c _ _ _ _ _ m r Hu.out He.out m2 hrm).mono ?_
  rintro e w3 ⟨vk, rfl, ho1, hb⟩
  have HAK := Lib.hid (apart_new Hp.out (.inr rfl) ho1)
  replace c0_0 := keep_cell hb c0_0
  replace c0_1 := keep_cell hb c0_1
  replace q0 := keep_frozen (w1 := w3) hb c1_0 q0
  replace c1_0 := keep_cell (w1 := w3) hb c1_0
  replace q1 := keep_frozen (w1 := w3) hb c1_1 q1
  replace c1_1 := keep_cell (w1 := w3) hb c1_1
  replace Hv := Lib.hid (Hv.out.below hb (Nat.le_refl _))
  replace Hu := Lib.hid (Hu.out.below hb (Nat.le_refl _))
  replace Hq := Lib.hid (Hq.out.below hb (Nat.le_refl _))
  replace He := Lib.hid (He.out.below hb (Nat.le_refl _))
  replace Hp := Lib.hid (Hp.out.below hb (Nat.le_refl _))
  have Hk := Lib.hid (ho1.mono B0.size)
  clear ho1
  replace B0 := B0.trans (hb.mono B0.size)
  clear hb
  go_wp2_with fail
  refine (signed_zz _ _ _ _ _ z Hp.out HN HSG).mono ?_
  rintro e w4 ⟨vr, rfl, ho2, hp, hb⟩
  replace c0_0 := keep_cell hb c0_0
  replace c0_1 := keep_cell hb c0_1
  replace q0 := keep_frozen (w1 := w4) hb c1_0 q0
  replace c1_0 := keep_cell (w1 := w4) hb c1_0
  replace q1 := keep_frozen (w1 := w4) hb c1_1 q1
  replace c1_1 := keep_cell (w1 := w4) hb c1_1
  replace Hv := Lib.hid (Hv.out.below hb (Nat.le_refl _))
  replace Hu := Lib.hid (Hu.out.below hb (Nat.le_refl _))
  replace Hq := Lib.hid (Hq.out.below hb (Nat.le_refl _))
  replace He := Lib.hid (He.out.below hb (Nat.le_refl _))
  replace Hp := Lib.hid (Hp.out.below hb (Nat.le_refl _))
  replace Hk := Lib.hid (Hk.out.below hb (Nat.le_refl _))
  have Hr := Lib.hid ho2
  clear ho2
  have HAP := apart_part HAK.out hp
  obtain ⟨ak, ck, rfl, -, -, -, -, -⟩ := Hk.out.form
  replace B0 := B0.trans (hb.mono B0.size)
  clear hb
  obtain ⟨ar, cr, rfl, -, -, -, -, -⟩ := Hr.out.form
  go_wp2
  exact bodyPost_ret (v := .tuple #[.agg #[.bool (ng z), .slice ar (limbs z.natAbs).length cr], .slice ak (limbs (m - r)).length ck]) (by simp [results, Try.results92, go_sem, c1_0, c1_1]) rfl (retGS_end BW (by omega) hg0 B0 (Hr.out) (Hk.out) HAP)

theorem bigFloor_c (w : World) (b1 b2 : Nat) (v1 v2 : Value) (x : Int) (m : Nat) (h1 : Own w b1 v1 (limbs x.natAbs)) (h2 : Own w b2 v2 (limbs m)) (hl1 : (limbs x.natAbs).length ≤ 60) (hl2 : (limbs m).length ≤ 60) (hm : 0 < m) :
    Calls Try.prog 92 #[.agg #[.bool (ng x), v1], v2] w (RetZS w (x / (m : Int)) (flR x m)) := by
  rcases ng_cases x with ⟨h3, e1⟩ | ⟨h3, e1⟩ <;> rw [e1]
  · rw [flR_neg h3 hm]
    by_cases h0 : x.natAbs % m = 0
    · rw [if_pos h0]; exact bigFloor_zero w b1 b2 v1 v2 x m h1 h2 hl1 hl2 hm _ _ rfl rfl h3 h0
    · rw [if_neg h0]; exact bigFloor_rest w b1 b2 v1 v2 x m h1 h2 hl1 hl2 hm _ _ rfl rfl h3 (by omega)
  · rw [flR_pos h3]
    exact bigFloor_pos w b1 b2 v1 v2 x m h1 h2 hl1 hl2 hm _ _ rfl rfl h3

theorem retZS_nil {w w' : World} {e : Ending} (h : RetGS w false [] [] e w') : RetZS w 0 0 e w' := h

set_option maxHeartbeats 1000000 in
theorem FloorDiv_bad1 (w : World) (b1 : Nat) (s : Bool) (v1 v2 : Value) (xs : List Int) (h1 : Own w b1 v1 xs) (hx : ¬ OkG s xs) :
    Calls Try.prog 65 #[.agg #[.bool s, v1], v2] w (RetZS w 0 0) := by
  have BW : Below w.heap.size w ((w.alloc (.cells #[.bool s, v1] 33)).alloc (.cells #[.bool false, .slice none 0 0] 33)) := (((Below.refl w.heap.size w).alloc (Nat.le_refl _) _).alloc (by simp) _)
  obtain ⟨c0_0, c0_1, c1_0, c1_1, q0, q1⟩ : World.cell? ((w.alloc (.cells #[.bool s, v1] 33)).alloc (.cells #[.bool false, .slice none 0 0] 33)) ⟨w.heap.size, 0, none⟩ = some (.bool s) ∧ World.cell? ((w.alloc (.cells #[.bool s, v1] 33)).alloc (.cells #[.bool false, .slice none 0 0] 33)) ⟨w.heap.size, 1, none⟩ = some (v1) ∧ World.cell? ((w.alloc (.cells #[.bool s, v1] 33)).alloc (.cells #[.bool false, .slice none 0 0] 33)) ⟨w.heap.size + 1, 0, none⟩ = some (.bool false) ∧ World.cell? ((w.alloc (.cells #[.bool s, v1] 33)).alloc (.cells #[.bool false, .slice none 0 0] 33)) ⟨w.heap.size + 1, 1, none⟩ = some (.slice none 0 0) ∧ World.frozen? ((w.alloc (.cells #[.bool s, v1] 33)).alloc (.cells #[.bool false, .slice none 0 0] 33)) ⟨w.heap.size + 1, 0, none⟩ = false ∧ World.frozen? ((w.alloc (.cells #[.bool s, v1] 33)).alloc (.cells #[.bool false, .slice none 0 0] 33)) ⟨w.heap.size + 1, 1, none⟩ = false := by simp [go_sem]
  have hg0 : w.heap.size + 1 < (((w.alloc (.cells #[.bool s, v1] 33)).alloc (.cells #[.bool false, .slice none 0 0] 33))).heap.size := World.block_lt_of_cell? _ _ c1_0
  have Hv := Lib.hid (h1.below BW (Nat.le_refl _))
  clear h1
  have HX := Lib.hid hx
  clear hx
  go_enter Try.func65, Try.ntmps65
  go_wp2_with fail
  generalize ((w.alloc (.cells #[.bool s, v1] 33)).alloc (.cells #[.bool false, .slice none 0 0] 33)) = w0 at *
  have B0 := Below.refl w0.heap.size w0
  refine (bigIntOk_f _ _ _ _ _ Hv.out HX.out).mono ?_
  rintro e w1 ⟨rfl, hb⟩
  replace c0_0 := keep_cell hb c0_0
  replace c0_1 := keep_cell hb c0_1
  replace q0 := keep_frozen (w1 := w1) hb c1_0 q0
  replace c1_0 := keep_cell (w1 := w1) hb c1_0
  replace q1 := keep_frozen (w1 := w1) hb c1_1 q1
  replace c1_1 := keep_cell (w1 := w1) hb c1_1
  replace Hv := Lib.hid (Hv.out.below hb (Nat.le_refl _))
  have HAP : Apart (.slice none 0 0) (.slice none 0 0) := apart_nil
  replace B0 := B0.trans (hb.mono B0.size)
  clear hb
  go_wp2
  exact bodyPost_ret (v := .tuple #[.agg #[.bool false, .slice none 0 0], .slice none 0 0]) (by simp [results, Try.results65, go_sem, c1_0, c1_1]) rfl (retGS_end BW (by omega) hg0 B0 (Own.nil _ _) (Own.nil _ _) HAP)

set_option maxHeartbeats 1000000 in
theorem FloorDiv_bad2 (w : World) (b1 b2 : Nat) (s : Bool) (v1 v2 : Value) (xs ys : List Int) (h1 : Own w b1 v1 xs) (h2 : Own w b2 v2 ys) (hx : OkG s xs) (hy : ¬ OkP ys) :
    Calls Try.prog 65 #[.agg #[.bool s, v1], v2] w (RetZS w 0 0) := by
  have BW : Below w.heap.size w ((w.alloc (.cells #[.bool s, v1] 33)).alloc (.cells #[.bool false, .slice none 0 0] 33)) := (((Below.refl w.heap.size w).alloc (Nat.le_refl _) _).alloc (by simp) _)
  obtain ⟨c0_0, c0_1, c1_0, c1_1, q0, q1⟩ : World.cell? ((w.alloc (.cells #[.bool s, v1] 33)).alloc (.cells #[.bool false, .slice none 0 0] 33)) ⟨w.heap.size, 0, none⟩ = some (.bool s) ∧ World.cell? ((w.alloc (.cells #[.bool s, v1] 33)).alloc (.cells #[.bool false, .slice none 0 0] 33)) ⟨w.heap.size, 1, none⟩ = some (v1) ∧ World.cell? ((w.alloc (.cells #[.bool s, v1] 33)).alloc (.cells #[.bool false, .slice none 0 0] 33)) ⟨w.heap.size + 1, 0, none⟩ = some (.bool false) ∧ World.cell? ((w.alloc (.cells #[.bool s, v1] 33)).alloc (.cells #[.bool false, .slice none 0 0] 33)) ⟨w.heap.size + 1, 1, none⟩ = some (.slice none 0 0) ∧ World.frozen? ((w.alloc (.cells #[.bool s, v1] 33)).alloc (.cells #[.bool false, .slice none 0 0] 33)) ⟨w.heap.size + 1, 0, none⟩ = false ∧ World.frozen? ((w.alloc (.cells #[.bool s, v1] 33)).alloc (.cells #[.bool false, .slice none 0 0] 33)) ⟨w.heap.size + 1, 1, none⟩ = false := by simp [go_sem]
  have hg0 : w.heap.size + 1 < (((w.alloc (.cells #[.bool s, v1] 33)).alloc (.cells #[.bool false, .slice none 0 0] 33))).heap.size := World.block_lt_of_cell? _ _ c1_0
  have Hv := Lib.hid (h1.below BW (Nat.le_refl _))
  have Hu := Lib.hid (h2.below BW (Nat.le_refl _))
  clear h1 h2
  have HX := Lib.hid hx
  have HY := Lib.hid hy
  clear hx hy
  go_enter Try.func65, Try.ntmps65
  go_wp2_with fail
  generalize ((w.alloc (.cells #[.bool s, v1] 33)).alloc (.cells #[.bool false, .slice none 0 0] 33)) = w0 at *
  have B0 := Below.refl w0.heap.size w0
  refine (bigIntOk_t _ _ _ _ _ Hv.out HX.out).mono ?_
  rintro e w1 ⟨rfl, hb⟩
  replace c0_0 := keep_cell hb c0_0
  replace c0_1 := keep_cell hb c0_1
  replace q0 := keep_frozen (w1 := w1) hb c1_0 q0
  replace c1_0 := keep_cell (w1 := w1) hb c1_0
  replace q1 := keep_frozen (w1 := w1) hb c1_1 q1
  replace c1_1 := keep_cell (w1 := w1) hb c1_1
  replace Hv := Lib.hid (Hv.out.below hb (Nat.le_refl _))
  replace Hu := Lib.hid (Hu.out.below hb (Nat.le_refl _))
  replace B0 := B0.trans (hb.mono B0.size)
  clear hb
  go_wp2_with fail
  refine (natOk_f _ _ _ _ Hu.out HY.out).mono ?_
  rintro e w2 ⟨rfl, hb⟩
  replace c0_0 := keep_cell hb c0_0
  replace c0_1 := keep_cell hb c0_1
  replace q0 := keep_frozen (w1 := w2) hb c1_0 q0
  replace c1_0 := keep_cell (w1 := w2) hb c1_0
  replace q1 := keep_frozen (w1 := w2) hb c1_1 q1
  replace c1_1 := keep_cell (w1 := w2) hb c1_1
  replace Hv := Lib.hid (Hv.out.below hb (Nat.le_refl _))
  replace Hu := Lib.hid (Hu.out.below hb (Nat.le_refl _))
  have HAP : Apart (.slice none 0 0) (.slice none 0 0) := apart_nil
  replace B0 := B0.trans (hb.mono B0.size)
  clear hb
  go_wp2
  exact bodyPost_ret (v := .tuple #[.agg #[.bool false, .slice none 0 0], .slice none 0 0]) (by simp [results, Try.results65, go_sem, c1_0, c1_1]) rfl (retGS_end BW (by omega) hg0 B0 (Own.nil _ _) (Own.nil _ _) HAP)

set_option maxHeartbeats 1000000 in
theorem FloorDiv_bad3 (w : World) (b1 b2 : Nat) (s : Bool) (v1 v2 : Value) (xs : List Int) (h1 : Own w b1 v1 xs) (h2 : Own w b2 v2 []) (hx : OkG s xs) (hy : OkP []) :
    Calls Try.prog 65 #[.agg #[.bool s, v1], v2] w (RetZS w 0 0) := by
  obtain ⟨a2, c2, rfl, -, -, -, -, -⟩ := h2.form
  have BW : Below w.heap.size w ((w.alloc (.cells #[.bool s, v1] 33)).alloc (.cells #[.bool false, .slice none 0 0] 33)) := (((Below.refl w.heap.size w).alloc (Nat.le_refl _) _).alloc (by simp) _)
  obtain ⟨c0_0, c0_1, c1_0, c1_1, q0, q1⟩ : World.cell? ((w.alloc (.cells #[.bool s, v1] 33)).alloc (.cells #[.bool false, .slice none 0 0] 33)) ⟨w.heap.size, 0, none⟩ = some (.bool s) ∧ World.cell? ((w.alloc (.cells #[.bool s, v1] 33)).alloc (.cells #[.bool false, .slice none 0 0] 33)) ⟨w.heap.size, 1, none⟩ = some (v1) ∧ World.cell? ((w.alloc (.cells #[.bool s, v1] 33)).alloc (.cells #[.bool false, .slice none 0 0] 33)) ⟨w.heap.size + 1, 0, none⟩ = some (.bool false) ∧ World.cell? ((w.alloc (.cells #[.bool s, v1] 33)).alloc (.cells #[.bool false, .slice none 0 0] 33)) ⟨w.heap.size + 1, 1, none⟩ = some (.slice none 0 0) ∧ World.frozen? ((w.alloc (.cells #[.bool s, v1] 33)).alloc (.cells #[.bool false, .slice none 0 0] 33)) ⟨w.heap.size + 1, 0, none⟩ = false ∧ World.frozen? ((w.alloc (.cells #[.bool s, v1] 33)).alloc (.cells #[.bool false, .slice none 0 0] 33)) ⟨w.heap.size + 1, 1, none⟩ = false := by simp [go_sem]
  have hg0 : w.heap.size + 1 < (((w.alloc (.cells #[.bool s, v1] 33)).alloc (.cells #[.bool false, .slice none 0 0] 33))).heap.size := World.block_lt_of_cell? _ _ c1_0
  have Hv := Lib.hid (h1.below BW (Nat.le_refl _))
  have Hu := Lib.hid (h2.below BW (Nat.le_refl _))
  clear h1 h2
  have HX := Lib.hid hx
  have HY := Lib.hid hy
  clear hx hy
  have d1 : (([] : List Int).length == 0) = true := rfl
  have d2 : ((([] : List Int).length : Int) == 0) = true := rfl
  go_enter Try.func65, Try.ntmps65
  go_wp2_with fail
  generalize ((w.alloc (.cells #[.bool s, v1] 33)).alloc (.cells #[.bool false, .slice none 0 0] 33)) = w0 at *
  have B0 := Below.refl w0.heap.size w0
  refine (bigIntOk_t _ _ _ _ _ Hv.out HX.out).mono ?_
  rintro e w1 ⟨rfl, hb⟩
  replace c0_0 := keep_cell hb c0_0
  replace c0_1 := keep_cell hb c0_1
  replace q0 := keep_frozen (w1 := w1) hb c1_0 q0
  replace c1_0 := keep_cell (w1 := w1) hb c1_0
  replace q1 := keep_frozen (w1 := w1) hb c1_1 q1
  replace c1_1 := keep_cell (w1 := w1) hb c1_1
  replace Hv := Lib.hid (Hv.out.below hb (Nat.le_refl _))
  replace Hu := Lib.hid (Hu.out.below hb (Nat.le_refl _))
  replace B0 := B0.trans (hb.mono B0.size)
  clear hb
  go_wp2_with fail
  refine (natOk_t _ _ _ _ Hu.out HY.out).mono ?_
  rintro e w2 ⟨rfl, hb⟩
  replace c0_0 := keep_cell hb c0_0
  replace c0_1 := keep_cell hb c0_1
  replace q0 := keep_frozen (w1 := w2) hb c1_0 q0
  replace c1_0 := keep_cell (w1 := w2) hb c1_0
  replace q1 := keep_frozen (w1 := w2) hb c1_1 q1
  replace c1_1 := keep_cell (w1 := w2) hb c1_1
  replace Hv := Lib.hid (Hv.out.below hb (Nat.le_refl _))
  replace Hu := Lib.hid (Hu.out.below hb (Nat.le_refl _))
  have HAP : Apart (.slice none 0 0) (.slice none 0 0) := apart_nil
  replace B0 := B0.trans (hb.mono B0.size)
  clear hb
  go_wp2
  exact bodyPost_ret (v := .tuple #[.agg #[.bool false, .slice none 0 0], .slice none 0 0]) (by simp [results, Try.results65, go_sem, c1_0, c1_1]) rfl (retGS_end BW (by omega) hg0 B0 (Own.nil _ _) (Own.nil _ _) HAP)

theorem bigFloor_zr (w : World) (b1 b2 : Nat) (v1 v2 : Value) (x : Int) (m : Nat) (z : Int) (r : Nat) (h1 : Own w b1 v1 (limbs x.natAbs)) (h2 : Own w b2 v2 (limbs m)) (hl1 : (limbs x.natAbs).length ≤ 60) (hl2 : (limbs m).length ≤ 60) (hm : 0 < m) (hz : Hid (z = x / (m : Int))) (hr : Hid (r = flR x m)) :
    Calls Try.prog 92 #[.agg #[.bool (ng x), v1], v2] w (RetZS w z r) := by
  rw [hz.out, hr.out]; exact bigFloor_c w b1 b2 v1 v2 x m h1 h2 hl1 hl2 hm
theorem retGS_alloc {w w' : World} {s : Bool} {xs ys : List Int} {e : Ending} (h : RetGS w s xs ys e w') (o : Obj) : RetGS w s xs ys e (w'.alloc o) := by
  obtain ⟨v, u, rfl, h1, h2, h3, h4⟩ := h
  exact ⟨v, u, rfl, h1.alloc _, h2.alloc _, h3, h4.alloc h4.size _⟩
theorem set_two {w : World} {g : Nat} {a b x y : Value} (h0 : w.cell? ⟨g, 0, none⟩ = some x) (h1 : w.cell? ⟨g, 1, none⟩ = some y) :
    ((w.setCell ⟨g, 0, none⟩ a).setCell ⟨g, 1, none⟩ b).cell? ⟨g, 0, none⟩ = some a ∧ ((w.setCell ⟨g, 0, none⟩ a).setCell ⟨g, 1, none⟩ b).cell? ⟨g, 1, none⟩ = some b := by
  simp [go_sem, h0, h1]
theorem floor_le {x : Int} {m : Nat} (hm : 0 < m) : (x / (m : Int)).natAbs ≤ x.natAbs := by
  rcases ng_cases x with ⟨h3, -⟩ | ⟨h3, -⟩
  · have h := ediv_natAbs_neg h3 hm
    have h1 := Nat.div_add_mod x.natAbs m
    have h2 : x.natAbs / m ≤ m * (x.natAbs / m) := Nat.le_mul_of_pos_left _ hm
    generalize x.natAbs / m = q at *
    generalize x.natAbs % m = r at *
    split at h <;> omega
  · have h := floor_pos_q h3 hm (z := x / (m : Int)) rfl
    rw [← h]; exact Nat.div_le_self _ _
theorem floor_len {x : Int} {m : Nat} (hl : (limbs x.natAbs).length ≤ 60) (hm : 0 < m) : (limbs (x / (m : Int)).natAbs).length ≤ 60 := Nat.le_trans (limbs_len_mono (floor_le hm)) hl
theorem flR_lt {x : Int} {m : Nat} (hm : 0 < m) : flR x m < m := by
  unfold flR
  have h1 := Int.emod_nonneg x (b := (m : Int)) (by omega)
  have h2 := Int.emod_lt_of_pos x (b := (m : Int)) (by omega)
  omega

set_option maxHeartbeats 1000000 in
theorem FloorDiv_good (w : World) (b1 b2 : Nat) (v1 v2 : Value) (x : Int) (m : Nat) (h1 : Own w b1 v1 (limbs x.natAbs)) (h2 : Own w b2 v2 (limbs m)) (hl1 : (limbs x.natAbs).length ≤ 60) (hl2 : (limbs m).length ≤ 60) (hm : 0 < m) (z : Int) (r : Nat) (hz : z = x / (m : Int)) (hr : r = flR x m) :
    Calls Try.prog 65 #[.agg #[.bool (ng x), v1], v2] w (RetZS w z r) := by
  obtain ⟨a2, c2, rfl, -, -, -, -, -⟩ := h2.form
  have BW : Below w.heap.size w ((w.alloc (.cells #[.bool (ng x), v1] 33)).alloc (.cells #[.bool false, .slice none 0 0] 33)) := (((Below.refl w.heap.size w).alloc (Nat.le_refl _) _).alloc (by simp) _)
  obtain ⟨c0_0, c0_1, c1_0, c1_1, q0, q1⟩ : World.cell? ((w.alloc (.cells #[.bool (ng x), v1] 33)).alloc (.cells #[.bool false, .slice none 0 0] 33)) ⟨w.heap.size, 0, none⟩ = some (.bool (ng x)) ∧ World.cell? ((w.alloc (.cells #[.bool (ng x), v1] 33)).alloc (.cells #[.bool false, .slice none 0 0] 33)) ⟨w.heap.size, 1, none⟩ = some (v1) ∧ World.cell? ((w.alloc (.cells #[.bool (ng x), v1] 33)).alloc (.cells #[.bool false, .slice none 0 0] 33)) ⟨w.heap.size + 1, 0, none⟩ = some (.bool false) ∧ World.cell? ((w.alloc (.cells #[.bool (ng x), v1] 33)).alloc (.cells #[.bool false, .slice none 0 0] 33)) ⟨w.heap.size + 1, 1, none⟩ = some (.slice none 0 0) ∧ World.frozen? ((w.alloc (.cells #[.bool (ng x), v1] 33)).alloc (.cells #[.bool false, .slice none 0 0] 33)) ⟨w.heap.size + 1, 0, none⟩ = false ∧ World.frozen? ((w.alloc (.cells #[.bool (ng x), v1] 33)).alloc (.cells #[.bool false, .slice none 0 0] 33)) ⟨w.heap.size + 1, 1, none⟩ = false := by simp [go_sem]
  have hg0 : w.heap.size + 1 < (((w.alloc (.cells #[.bool (ng x), v1] 33)).alloc (.cells #[.bool false, .slice none 0 0] 33))).heap.size := World.block_lt_of_cell? _ _ c1_0
  have Hv := Lib.hid (h1.below BW (Nat.le_refl _))
  have Hu := Lib.hid (h2.below BW (Nat.le_refl _))
  clear h1 h2
  have HM := Lib.hid hm
  have HR := Lib.hid hr
  have HZ := Lib.hid hz
  have hp := limbs_len_pos.2 hm
  have d1 : ((limbs m).length == 0) = false := beq_eq_false_iff_ne.2 (by omega)
  have d2 : (((limbs m).length : Int) == 0) = false := beq_eq_false_iff_ne.2 (by omega)
  have hzl : (limbs z.natAbs).length ≤ 60 := by rw [hz]; exact floor_len hl1 hm
  have d3 : decide (60 < (limbs z.natAbs).length) = false := decide_eq_false (by omega)
  have d4 : decide ((60 : Int) < (limbs z.natAbs).length) = false := decide_eq_false (by omega)
  clear hm hr hz
  go_enter Try.func65, Try.ntmps65
  go_wp2_with fail
  generalize ((w.alloc (.cells #[.bool (ng x), v1] 33)).alloc (.cells #[.bool false, .slice none 0 0] 33)) = w0 at *
  have B0 := Below.refl w0.heap.size w0
  refine (bigIntOk_z _ _ _ x Hv.out hl1).mono ?_
  rintro e w1 ⟨rfl, hb⟩
  replace c0_0 := keep_cell hb c0_0
  replace c0_1 := keep_cell hb c0_1
  replace q0 := keep_frozen (w1 := w1) hb c1_0 q0
  replace c1_0 := keep_cell (w1 := w1) hb c1_0
  replace q1 := keep_frozen (w1 := w1) hb c1_1 q1
  replace c1_1 := keep_cell (w1 := w1) hb c1_1
  replace Hv := Lib.hid (Hv.out.below hb (Nat.le_refl _))
  replace Hu := Lib.hid (Hu.out.below hb (Nat.le_refl _))
  replace B0 := B0.trans (hb.mono B0.size)
  clear hb
  go_wp2_with fail
  refine (natOk_t _ _ _ _ Hu.out (limbs_ok hl2)).mono ?_
  rintro e w2 ⟨rfl, hb⟩
  replace c0_0 := keep_cell hb c0_0
  replace c0_1 := keep_cell hb c0_1
  replace q0 := keep_frozen (w1 := w2) hb c1_0 q0
  replace c1_0 := keep_cell (w1 := w2) hb c1_0
  replace q1 := keep_frozen (w1 := w2) hb c1_1 q1
  replace c1_1 := keep_cell (w1 := w2) hb c1_1
  replace Hv := Lib.hid (Hv.out.below hb (Nat.le_refl _))
  replace Hu := Lib.hid (Hu.out.below hb (Nat.le_refl _))
  replace B0 := B0.trans (hb.mono B0.size)
  clear hb
  go_wp2_with fail
  refine (bigFloor_zr _ _ _ _ _ x m z r Hv.out Hu.out hl1 hl2 HM.out HZ HR).mono ?_
  rintro e w3 ⟨vq, ve, rfl, ho1, ho2, ha, hb⟩
  replace c0_0 := keep_cell hb c0_0
  replace c0_1 := keep_cell hb c0_1
  replace q0 := keep_frozen (w1 := w3) hb c1_0 q0
  replace c1_0 := keep_cell (w1 := w3) hb c1_0
  replace q1 := keep_frozen (w1 := w3) hb c1_1 q1
  replace c1_1 := keep_cell (w1 := w3) hb c1_1
  replace Hv := Lib.hid (Hv.out.below hb (Nat.le_refl _))
  replace Hu := Lib.hid (Hu.out.below hb (Nat.le_refl _))
  have Hq := Lib.hid (ho1.mono B0.size)
  clear ho1
  have He := Lib.hid (ho2.mono B0.size)
  clear ho2
  obtain ⟨aq, cq, rfl, -, -, -, -, -⟩ := Hq.out.form
  obtain ⟨ae, ce, rfl, -, -, -, -, -⟩ := He.out.form
  have HAP := ha
  clear ha
  replace B0 := B0.trans (hb.mono B0.size)
  clear hb
  have hg3 := Nat.lt_of_lt_of_le hg0 B0.size
  go_wp2
  obtain ⟨k0, k1⟩ := set_two (a := .bool (ng z)) (b := .slice aq (limbs z.natAbs).length cq) c1_0 c1_1
  have k2 := keep_cell (alloc_bel _ (.cells #[.bool (ng z), .slice aq (limbs z.natAbs).length cq] 33)) k0
  have k3 := keep_cell (alloc_bel _ (.cells #[.bool (ng z), .slice aq (limbs z.natAbs).length cq] 33)) k1
  refine bodyPost_ret (v := .tuple #[.agg #[.bool (ng z), .slice aq (limbs z.natAbs).length cq], .slice ae (limbs r).length ce]) ?_ rfl (retGS_alloc (retGS_end BW (by omega) hg0 B0 Hq.out He.out HAP) _)
  simp [results, Try.results65, go_sem, k2, k3]

open Classical in
noncomputable def fdivQ (s : Bool) (xs ys : List Int) : Int := if OkG s xs ∧ OkP ys ∧ ys ≠ [] then zv s xs / nv ys else 0
open Classical in
noncomputable def fdivR (s : Bool) (xs ys : List Int) : Nat := if OkG s xs ∧ OkP ys ∧ ys ≠ [] then flR (zv s xs) (nv ys).toNat else 0
theorem fdiv_no {s : Bool} {xs ys : List Int} (h : ¬ (OkG s xs ∧ OkP ys ∧ ys ≠ [])) : fdivQ s xs ys = 0 ∧ fdivR s xs ys = 0 := ⟨if_neg h, if_neg h⟩
theorem fdiv_yes {s : Bool} {xs ys : List Int} (h : OkG s xs ∧ OkP ys ∧ ys ≠ []) : fdivQ s xs ys = zv s xs / nv ys ∧ fdivR s xs ys = flR (zv s xs) (nv ys).toNat := ⟨if_pos h, if_pos h⟩
/-- The four cases. -/
theorem fdiv_cases (s : Bool) (xs ys : List Int) : (¬ OkG s xs ∧ fdivQ s xs ys = 0 ∧ fdivR s xs ys = 0) ∨ (OkG s xs ∧ ¬ OkP ys ∧ fdivQ s xs ys = 0 ∧ fdivR s xs ys = 0) ∨ (OkG s xs ∧ OkP ys ∧ ys = [] ∧ fdivQ s xs ys = 0 ∧ fdivR s xs ys = 0) ∨
    (∃ (x : Int) (m : Nat), s = ng x ∧ xs = limbs x.natAbs ∧ ys = limbs m ∧ (limbs x.natAbs).length ≤ 60 ∧ (limbs m).length ≤ 60 ∧ 0 < m ∧ fdivQ s xs ys = x / (m : Int) ∧ fdivR s xs ys = flR x m) := by
  by_cases hx : OkG s xs
  · by_cases hy : OkP ys
    · by_cases h0 : ys = []
      · exact .inr (.inr (.inl ⟨hx, hy, h0, fdiv_no fun h => h.2.2 h0⟩))
      · obtain ⟨e1, e2⟩ := fdiv_yes ⟨hx, hy, h0⟩
        rw [e1, e2]
        obtain ⟨x, rfl, rfl, hl1, e3⟩ := okG_z hx
        obtain ⟨m, rfl, hl2⟩ := ok_limbs hy
        rw [e3, nv_toNat, nv_limbs]
        refine .inr (.inr (.inr ⟨x, m, rfl, rfl, rfl, hl1, hl2, ?_, rfl, rfl⟩))
        rcases Nat.eq_zero_or_pos m with h | h
        · subst h; exact absurd limbs_zero h0
        · exact h
    · exact .inr (.inl ⟨hx, hy, fdiv_no fun h => hy h.2.1⟩)
  · exact .inl ⟨hx, fdiv_no fun h => hx h.1⟩
theorem BigIntFloorDiv_c (w : World) (b1 b2 : Nat) (s : Bool) (v1 v2 : Value) (xs ys : List Int) (h1 : Own w b1 v1 xs) (h2 : Own w b2 v2 ys) :
    Calls Try.prog 65 #[.agg #[.bool s, v1], v2] w (RetZS w (fdivQ s xs ys) (fdivR s xs ys)) := by
  rcases fdiv_cases s xs ys with ⟨hx, e1, e2⟩ | ⟨hx, hy, e1, e2⟩ | ⟨hx, hy, h0, e1, e2⟩ | ⟨x, m, rfl, rfl, rfl, hl1, hl2, hm, e1, e2⟩ <;> rw [e1, e2]
  · exact FloorDiv_bad1 w b1 s v1 v2 xs h1 hx
  · exact FloorDiv_bad2 w b1 b2 s v1 v2 xs ys h1 h2 hx hy
  · subst h0; exact FloorDiv_bad3 w b1 b2 s v1 v2 xs h1 h2 hx hy
  · exact FloorDiv_good w b1 b2 v1 v2 x m h1 h2 hl1 hl2 hm _ _ rfl rfl
theorem fdivQ_len (s : Bool) (xs ys : List Int) : (limbs (fdivQ s xs ys).natAbs).length ≤ 1000 := by
  rcases fdiv_cases s xs ys with ⟨_, e1, _⟩ | ⟨_, _, e1, _⟩ | ⟨_, _, _, e1, _⟩ | ⟨x, m, rfl, rfl, rfl, hl1, hl2, hm, e1, e2⟩ <;> rw [e1]
  · exact limbs_len0
  · exact limbs_len0
  · exact limbs_len0
  · exact Nat.le_trans (floor_len hl1 hm) (by omega)
theorem fdivR_len (s : Bool) (xs ys : List Int) : (limbs (fdivR s xs ys)).length ≤ 1000 := by
  rcases fdiv_cases s xs ys with ⟨_, _, e1⟩ | ⟨_, _, _, e1⟩ | ⟨_, _, _, _, e1⟩ | ⟨x, m, rfl, rfl, rfl, hl1, hl2, hm, e1, e2⟩
  · rw [e1]; exact limbs_len0
  · rw [e1]; exact limbs_len0
  · rw [e1]; exact limbs_len0
  · rw [e2]; exact Nat.le_trans (limbs_len_mono (Nat.le_of_lt (flR_lt hm))) (by omega)

end Go.Proofs.Ytjhgomdfbljgdaa
