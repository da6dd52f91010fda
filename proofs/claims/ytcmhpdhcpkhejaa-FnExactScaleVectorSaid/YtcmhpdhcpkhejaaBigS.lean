/- The reference's signed numbers. -/
import Derived.Test.YtcmhpdhcpkhejaaBigD
namespace Go.Proofs.Ytcmhpdhcpkhejaa
open Go.RowKit Lm

set_option maxHeartbeats 1000000 in
theorem sBigIntOk_bad (w : World) (b1 : Nat) (s : Bool) (v1 : Value) (xs : List Int) (h1 : Own w b1 v1 xs) (hx : ¬ OkP xs) :
    Calls Try.prog 73 #[.agg #[.bool s, v1]] w (RetB w false) := by
  have BW : Below w.heap.size w (w.alloc (.cells #[.bool s, v1] 43)) := ((Below.refl w.heap.size w).alloc (Nat.le_refl _) _)
  obtain ⟨c0_0, c0_1⟩ : World.cell? (w.alloc (.cells #[.bool s, v1] 43)) ⟨w.heap.size, 0, none⟩ = some (.bool s) ∧ World.cell? (w.alloc (.cells #[.bool s, v1] 43)) ⟨w.heap.size, 1, none⟩ = some (v1) := by simp [go_sem]
  have Hv := Lib.hid (h1.below BW (Nat.le_refl _))
  clear h1
  have HX := Lib.hid hx
  clear hx
  go_enter Try.func73, Try.ntmps73
  go_wp2_with fail
  generalize (w.alloc (.cells #[.bool s, v1] 43)) = w0 at *
  have B0 := Below.refl w0.heap.size w0
  refine (specNatOk_f _ _ _ _ Hv.out HX.out).mono ?_
  rintro e w1 ⟨rfl, hb⟩
  replace c0_0 := keep_cell hb c0_0
  replace c0_1 := keep_cell hb c0_1
  replace Hv := Lib.hid (Hv.out.below hb (Nat.le_refl _))
  replace B0 := B0.trans (hb.mono B0.size)
  clear hb
  go_wp2
  go_ret
  exact retB rfl (BW.trans (B0.mono BW.size))

set_option maxHeartbeats 1000000 in
theorem sBigIntOk_pos (w : World) (b1 : Nat) (v1 : Value) (xs : List Int) (h1 : Own w b1 v1 xs) (hx : OkP xs) :
    Calls Try.prog 73 #[.agg #[.bool false, v1]] w (RetB w true) := by
  have BW : Below w.heap.size w (w.alloc (.cells #[.bool false, v1] 43)) := ((Below.refl w.heap.size w).alloc (Nat.le_refl _) _)
  obtain ⟨c0_0, c0_1⟩ : World.cell? (w.alloc (.cells #[.bool false, v1] 43)) ⟨w.heap.size, 0, none⟩ = some (.bool false) ∧ World.cell? (w.alloc (.cells #[.bool false, v1] 43)) ⟨w.heap.size, 1, none⟩ = some (v1) := by simp [go_sem]
  have Hv := Lib.hid (h1.below BW (Nat.le_refl _))
  clear h1
  have HX := Lib.hid hx
  clear hx
  go_enter Try.func73, Try.ntmps73
  go_wp2_with fail
  generalize (w.alloc (.cells #[.bool false, v1] 43)) = w0 at *
  have B0 := Below.refl w0.heap.size w0
  refine (specNatOk_t _ _ _ _ Hv.out HX.out).mono ?_
  rintro e w1 ⟨rfl, hb⟩
  replace c0_0 := keep_cell hb c0_0
  replace c0_1 := keep_cell hb c0_1
  replace Hv := Lib.hid (Hv.out.below hb (Nat.le_refl _))
  replace B0 := B0.trans (hb.mono B0.size)
  clear hb
  go_wp2
  go_ret
  exact retB rfl (BW.trans (B0.mono BW.size))

set_option maxHeartbeats 1000000 in
theorem sBigIntOk_some (w : World) (b1 : Nat) (v1 : Value) (xs : List Int) (h1 : Own w b1 v1 xs) (hx : OkP xs) (hl : xs ≠ []) :
    Calls Try.prog 73 #[.agg #[.bool true, v1]] w (RetB w true) := by
  obtain ⟨a1, c1, rfl, -, -, -, -, -⟩ := h1.form
  have BW : Below w.heap.size w (w.alloc (.cells #[.bool true, (.slice a1 xs.length c1)] 43)) := ((Below.refl w.heap.size w).alloc (Nat.le_refl _) _)
  obtain ⟨c0_0, c0_1⟩ : World.cell? (w.alloc (.cells #[.bool true, (.slice a1 xs.length c1)] 43)) ⟨w.heap.size, 0, none⟩ = some (.bool true) ∧ World.cell? (w.alloc (.cells #[.bool true, (.slice a1 xs.length c1)] 43)) ⟨w.heap.size, 1, none⟩ = some ((.slice a1 xs.length c1)) := by simp [go_sem]
  have Hv := Lib.hid (h1.below BW (Nat.le_refl _))
  clear h1
  have HX := Lib.hid hx
  clear hx
  have hl2 := List.length_pos_iff.2 hl
  have d1 : decide (0 < xs.length) = true := decide_eq_true hl2
  have d2 : decide ((0 : Int) < xs.length) = true := decide_eq_true (by omega)
  clear hl
  go_enter Try.func73, Try.ntmps73
  go_wp2_with fail
  generalize (w.alloc (.cells #[.bool true, (.slice a1 xs.length c1)] 43)) = w0 at *
  have B0 := Below.refl w0.heap.size w0
  refine (specNatOk_t _ _ _ _ Hv.out HX.out).mono ?_
  rintro e w1 ⟨rfl, hb⟩
  replace c0_0 := keep_cell hb c0_0
  replace c0_1 := keep_cell hb c0_1
  replace Hv := Lib.hid (Hv.out.below hb (Nat.le_refl _))
  replace B0 := B0.trans (hb.mono B0.size)
  clear hb
  go_wp2
  go_ret
  exact retB rfl (BW.trans (B0.mono BW.size))

set_option maxHeartbeats 1000000 in
theorem sBigIntOk_none (w : World) (b1 : Nat) (v1 : Value) (xs : List Int) (h1 : Own w b1 v1 xs) (hx : OkP xs) (hl : xs = []) :
    Calls Try.prog 73 #[.agg #[.bool true, v1]] w (RetB w false) := by
  subst hl
  obtain ⟨a1, c1, rfl, -, -, -, -, -⟩ := h1.form
  have BW : Below w.heap.size w (w.alloc (.cells #[.bool true, (.slice a1 ([] : List Int).length c1)] 43)) := ((Below.refl w.heap.size w).alloc (Nat.le_refl _) _)
  obtain ⟨c0_0, c0_1⟩ : World.cell? (w.alloc (.cells #[.bool true, (.slice a1 ([] : List Int).length c1)] 43)) ⟨w.heap.size, 0, none⟩ = some (.bool true) ∧ World.cell? (w.alloc (.cells #[.bool true, (.slice a1 ([] : List Int).length c1)] 43)) ⟨w.heap.size, 1, none⟩ = some ((.slice a1 ([] : List Int).length c1)) := by simp [go_sem]
  have Hv := Lib.hid (h1.below BW (Nat.le_refl _))
  clear h1
  have HX := Lib.hid hx
  clear hx
  have d1 : decide (0 < ([] : List Int).length) = false := rfl
  have d2 : decide ((0 : Int) < ([] : List Int).length) = false := rfl
  go_enter Try.func73, Try.ntmps73
  go_wp2_with fail
  generalize (w.alloc (.cells #[.bool true, (.slice a1 ([] : List Int).length c1)] 43)) = w0 at *
  have B0 := Below.refl w0.heap.size w0
  refine (specNatOk_t _ _ _ _ Hv.out HX.out).mono ?_
  rintro e w1 ⟨rfl, hb⟩
  replace c0_0 := keep_cell hb c0_0
  replace c0_1 := keep_cell hb c0_1
  replace Hv := Lib.hid (Hv.out.below hb (Nat.le_refl _))
  replace B0 := B0.trans (hb.mono B0.size)
  clear hb
  go_wp2
  go_ret
  exact retB rfl (BW.trans (B0.mono BW.size))

theorem sBigIntOk_t (w : World) (b1 : Nat) (s : Bool) (v1 : Value) (xs : List Int) (h1 : Own w b1 v1 xs) (h : OkG s xs) : Calls Try.prog 73 #[.agg #[.bool s, v1]] w (RetB w true) := by
  cases s with
  | false => exact sBigIntOk_pos w b1 v1 xs h1 h.1
  | true => exact sBigIntOk_some w b1 v1 xs h1 h.1 (fun e => by have := h.2 e; cases this)
theorem sBigIntOk_f (w : World) (b1 : Nat) (s : Bool) (v1 : Value) (xs : List Int) (h1 : Own w b1 v1 xs) (h : ¬ OkG s xs) : Calls Try.prog 73 #[.agg #[.bool s, v1]] w (RetB w false) := by
  by_cases hx : OkP xs
  · by_cases hl : xs = []
    · obtain rfl : s = true := by
        cases s with
        | true => rfl
        | false => exact absurd ⟨hx, fun _ => rfl⟩ h
      exact sBigIntOk_none w b1 v1 xs h1 hx hl
    · exact absurd ⟨hx, fun e => absurd e hl⟩ h
  · exact sBigIntOk_bad w b1 s v1 xs h1 hx
theorem sBigIntOk_z (w : World) (b1 : Nat) (v1 : Value) (z : Int) (h1 : Own w b1 v1 (limbs z.natAbs)) (h : (limbs z.natAbs).length ≤ 60) : Calls Try.prog 73 #[.agg #[.bool (ng z), v1]] w (RetB w true) :=
  sBigIntOk_t w b1 _ v1 _ h1 (okG_of z h)
/-- One contract for both answers. -/
theorem sBigIntOk_c (w : World) (b1 : Nat) (s : Bool) (v1 : Value) (xs : List Int) (h1 : Own w b1 v1 xs) : Calls Try.prog 73 #[.agg #[.bool s, v1]] w (RetB w (okGB s xs)) := by
  by_cases h : OkG s xs
  · rw [show okGB s xs = true by simp [okGB, h]]; exact sBigIntOk_t w b1 s v1 xs h1 h
  · rw [show okGB s xs = false by simp [okGB, h]]; exact sBigIntOk_f w b1 s v1 xs h1 h
theorem bigIntOk_c (w : World) (b1 : Nat) (s : Bool) (v1 : Value) (xs : List Int) (h1 : Own w b1 v1 xs) : Calls Try.prog 77 #[.agg #[.bool s, v1]] w (RetB w (okGB s xs)) := by
  by_cases h : OkG s xs
  · rw [show okGB s xs = true by simp [okGB, h]]; exact bigIntOk_t w b1 s v1 xs h1 h
  · rw [show okGB s xs = false by simp [okGB, h]]; exact bigIntOk_f w b1 s v1 xs h1 h

theorem l02Cap_m (w : World) (b1 : Nat) (v1 : Value) (xs : List Int) (n : Nat) (m : List Int) (h1 : Own w b1 v1 xs) (hx : InR xs) (hn : nv xs = n) (hm : Hid (fitV n = m)) : Calls Try.prog 108 #[v1] w (RetV w b1 v1 m) := by
  rw [← hm.out]; exact l02Cap_c w b1 v1 xs n h1 hx hn

set_option maxHeartbeats 1000000 in
theorem l03Make_f (w : World) (b1 : Nat) (v1 : Value) (o m : List Int) (n : Nat) (h1 : Own w b1 v1 o) (hi : InR o) (hn : nv o = n) (hm : fitV n = m) :
    Calls Try.prog 87 #[.bool false, v1] w (RetG w false m) := by
  have BW : Below w.heap.size w (w.alloc (.cells #[.bool false, .slice none 0 0] 43)) := ((Below.refl w.heap.size w).alloc (Nat.le_refl _) _)
  obtain ⟨c0_0, c0_1, q0, q1⟩ : World.cell? (w.alloc (.cells #[.bool false, .slice none 0 0] 43)) ⟨w.heap.size, 0, none⟩ = some (.bool false) ∧ World.cell? (w.alloc (.cells #[.bool false, .slice none 0 0] 43)) ⟨w.heap.size, 1, none⟩ = some (.slice none 0 0) ∧ World.frozen? (w.alloc (.cells #[.bool false, .slice none 0 0] 43)) ⟨w.heap.size, 0, none⟩ = false ∧ World.frozen? (w.alloc (.cells #[.bool false, .slice none 0 0] 43)) ⟨w.heap.size, 1, none⟩ = false := by simp [go_sem]
  have hg0 : w.heap.size < ((w.alloc (.cells #[.bool false, .slice none 0 0] 43))).heap.size := World.block_lt_of_cell? _ _ c0_0
  have Hv := Lib.hid (h1.below BW (Nat.le_refl _))
  clear h1
  have HI := Lib.hid hi
  have HN := Lib.hid hn
  have HM := Lib.hid hm
  have hml : m.length ≤ 60 := by rw [← hm]; exact fitV_len n
  clear hi hn hm
  go_enter Try.func87, Try.ntmps87
  go_wp2_with fail
  generalize (w.alloc (.cells #[.bool false, .slice none 0 0] 43)) = w0 at *
  have B0 := Below.refl w0.heap.size w0
  refine (l02Cap_m _ _ _ _ n m Hv.out HI.out HN.out HM).mono ?_
  rintro e w1 ⟨vm, rfl, ho1, hp, hb⟩
  replace q0 := keep_frozen (w1 := w1) hb c0_0 q0
  replace c0_0 := keep_cell (w1 := w1) hb c0_0
  replace q1 := keep_frozen (w1 := w1) hb c0_1 q1
  replace c0_1 := keep_cell (w1 := w1) hb c0_1
  replace Hv := Lib.hid (Hv.out.below hb (Nat.le_refl _))
  have Hm := Lib.hid ho1
  clear ho1
  obtain ⟨am, cm, rfl, -, -, -, -, -⟩ := Hm.out.form
  replace B0 := B0.trans (hb.mono B0.size)
  clear hb
  have HL := Lib.hid (Own.lit0 w1)
  go_wp2_with (at_builtin; refine app_own rfl _ _ rfl _ _ w1.heap.size _ [] (m) rfl rfl HL.out (Hm.out.alloc _) (by simp; omega) (by simp) ?_)
  intro vr w2 hx hg hat
  try rw [List.nil_append] at hx
  have hb := HL.out.grownBelow ((Below.refl _ _).alloc (Nat.le_refl _) _) hg (Nat.le_refl _) (by simp)
  clear HL hg hat
  replace q0 := keep_frozen (w1 := w2) hb c0_0 q0
  replace c0_0 := keep_cell (w1 := w2) hb c0_0
  replace q1 := keep_frozen (w1 := w2) hb c0_1 q1
  replace c0_1 := keep_cell (w1 := w2) hb c0_1
  replace Hv := Lib.hid (Hv.out.below hb (Nat.le_refl _))
  replace Hm := Lib.hid (Hm.out.below hb (Nat.le_refl _))
  have Hr := Lib.hid (hx.mono B0.size)
  clear hx
  replace B0 := B0.trans (hb.mono B0.size)
  clear hb
  obtain ⟨ar, cr, rfl, -, -, -, -, -⟩ := Hr.out.form
  go_wp2
  exact bodyPost_ret (v := .agg #[.bool false, .slice ar m.length cr]) (by simp [results, Try.results87, go_sem, c0_0, c0_1]) rfl (retG_end BW (by omega) hg0 B0 Hr.out)

set_option maxHeartbeats 1000000 in
theorem l03Make_p (w : World) (b1 : Nat) (v1 : Value) (o m : List Int) (n : Nat) (h1 : Own w b1 v1 o) (hi : InR o) (hn : nv o = n) (hm : fitV n = m) (hp : 0 < m.length) :
    Calls Try.prog 87 #[.bool true, v1] w (RetG w true m) := by
  have BW : Below w.heap.size w (w.alloc (.cells #[.bool false, .slice none 0 0] 43)) := ((Below.refl w.heap.size w).alloc (Nat.le_refl _) _)
  obtain ⟨c0_0, c0_1, q0, q1⟩ : World.cell? (w.alloc (.cells #[.bool false, .slice none 0 0] 43)) ⟨w.heap.size, 0, none⟩ = some (.bool false) ∧ World.cell? (w.alloc (.cells #[.bool false, .slice none 0 0] 43)) ⟨w.heap.size, 1, none⟩ = some (.slice none 0 0) ∧ World.frozen? (w.alloc (.cells #[.bool false, .slice none 0 0] 43)) ⟨w.heap.size, 0, none⟩ = false ∧ World.frozen? (w.alloc (.cells #[.bool false, .slice none 0 0] 43)) ⟨w.heap.size, 1, none⟩ = false := by simp [go_sem]
  have hg0 : w.heap.size < ((w.alloc (.cells #[.bool false, .slice none 0 0] 43))).heap.size := World.block_lt_of_cell? _ _ c0_0
  have Hv := Lib.hid (h1.below BW (Nat.le_refl _))
  clear h1
  have HI := Lib.hid hi
  have HN := Lib.hid hn
  have HM := Lib.hid hm
  have hml : m.length ≤ 60 := by rw [← hm]; exact fitV_len n
  clear hi hn hm
  have d1 : decide (0 < m.length) = true := decide_eq_true hp
  have d2 : decide ((0 : Int) < m.length) = true := decide_eq_true (by omega)
  go_enter Try.func87, Try.ntmps87
  go_wp2_with fail
  generalize (w.alloc (.cells #[.bool false, .slice none 0 0] 43)) = w0 at *
  have B0 := Below.refl w0.heap.size w0
  refine (l02Cap_m _ _ _ _ n m Hv.out HI.out HN.out HM).mono ?_
  rintro e w1 ⟨vm, rfl, ho1, hp, hb⟩
  replace q0 := keep_frozen (w1 := w1) hb c0_0 q0
  replace c0_0 := keep_cell (w1 := w1) hb c0_0
  replace q1 := keep_frozen (w1 := w1) hb c0_1 q1
  replace c0_1 := keep_cell (w1 := w1) hb c0_1
  replace Hv := Lib.hid (Hv.out.below hb (Nat.le_refl _))
  have Hm := Lib.hid ho1
  clear ho1
  obtain ⟨am, cm, rfl, -, -, -, -, -⟩ := Hm.out.form
  replace B0 := B0.trans (hb.mono B0.size)
  clear hb
  have HL := Lib.hid (Own.lit0 w1)
  go_wp2_with (at_builtin; refine app_own rfl _ _ rfl _ _ w1.heap.size _ [] (m) rfl rfl HL.out (Hm.out.alloc _) (by simp; omega) (by simp) ?_)
  intro vr w2 hx hg hat
  try rw [List.nil_append] at hx
  have hb := HL.out.grownBelow ((Below.refl _ _).alloc (Nat.le_refl _) _) hg (Nat.le_refl _) (by simp)
  clear HL hg hat
  replace q0 := keep_frozen (w1 := w2) hb c0_0 q0
  replace c0_0 := keep_cell (w1 := w2) hb c0_0
  replace q1 := keep_frozen (w1 := w2) hb c0_1 q1
  replace c0_1 := keep_cell (w1 := w2) hb c0_1
  replace Hv := Lib.hid (Hv.out.below hb (Nat.le_refl _))
  replace Hm := Lib.hid (Hm.out.below hb (Nat.le_refl _))
  have Hr := Lib.hid (hx.mono B0.size)
  clear hx
  replace B0 := B0.trans (hb.mono B0.size)
  clear hb
  obtain ⟨ar, cr, rfl, -, -, -, -, -⟩ := Hr.out.form
  go_wp2
  exact bodyPost_ret (v := .agg #[.bool true, .slice ar m.length cr]) (by simp [results, Try.results87, go_sem, c0_0, c0_1]) rfl (retG_end BW (by omega) hg0 B0 Hr.out)

set_option maxHeartbeats 1000000 in
theorem l03Make_e (w : World) (b1 : Nat) (v1 : Value) (o m : List Int) (n : Nat) (h1 : Own w b1 v1 o) (hi : InR o) (hn : nv o = n) (hm : fitV n = m) (hp : m = []) :
    Calls Try.prog 87 #[.bool true, v1] w (RetG w false m) := by
  subst hp
  have BW : Below w.heap.size w (w.alloc (.cells #[.bool false, .slice none 0 0] 43)) := ((Below.refl w.heap.size w).alloc (Nat.le_refl _) _)
  obtain ⟨c0_0, c0_1, q0, q1⟩ : World.cell? (w.alloc (.cells #[.bool false, .slice none 0 0] 43)) ⟨w.heap.size, 0, none⟩ = some (.bool false) ∧ World.cell? (w.alloc (.cells #[.bool false, .slice none 0 0] 43)) ⟨w.heap.size, 1, none⟩ = some (.slice none 0 0) ∧ World.frozen? (w.alloc (.cells #[.bool false, .slice none 0 0] 43)) ⟨w.heap.size, 0, none⟩ = false ∧ World.frozen? (w.alloc (.cells #[.bool false, .slice none 0 0] 43)) ⟨w.heap.size, 1, none⟩ = false := by simp [go_sem]
  have hg0 : w.heap.size < ((w.alloc (.cells #[.bool false, .slice none 0 0] 43))).heap.size := World.block_lt_of_cell? _ _ c0_0
  have Hv := Lib.hid (h1.below BW (Nat.le_refl _))
  clear h1
  have HI := Lib.hid hi
  have HN := Lib.hid hn
  have HM := Lib.hid hm
  have hml : ([] : List Int).length ≤ 60 := by rw [← hm]; exact fitV_len n
  clear hi hn hm
  have d1 : decide (0 < ([] : List Int).length) = false := rfl
  have d2 : decide ((0 : Int) < ([] : List Int).length) = false := rfl
  go_enter Try.func87, Try.ntmps87
  go_wp2_with fail
  generalize (w.alloc (.cells #[.bool false, .slice none 0 0] 43)) = w0 at *
  have B0 := Below.refl w0.heap.size w0
  refine (l02Cap_m _ _ _ _ n ([] : List Int) Hv.out HI.out HN.out HM).mono ?_
  rintro e w1 ⟨vm, rfl, ho1, hp, hb⟩
  replace q0 := keep_frozen (w1 := w1) hb c0_0 q0
  replace c0_0 := keep_cell (w1 := w1) hb c0_0
  replace q1 := keep_frozen (w1 := w1) hb c0_1 q1
  replace c0_1 := keep_cell (w1 := w1) hb c0_1
  replace Hv := Lib.hid (Hv.out.below hb (Nat.le_refl _))
  have Hm := Lib.hid ho1
  clear ho1
  obtain ⟨am, cm, rfl, -, -, -, -, -⟩ := Hm.out.form
  replace B0 := B0.trans (hb.mono B0.size)
  clear hb
  have HL := Lib.hid (Own.lit0 w1)
  go_wp2_with (at_builtin; refine app_own rfl _ _ rfl _ _ w1.heap.size _ [] (([] : List Int)) rfl rfl HL.out (Hm.out.alloc _) (by simp) (by simp) ?_)
  intro vr w2 hx hg hat
  try rw [List.nil_append] at hx
  have hb := HL.out.grownBelow ((Below.refl _ _).alloc (Nat.le_refl _) _) hg (Nat.le_refl _) (by simp)
  clear HL hg hat
  replace q0 := keep_frozen (w1 := w2) hb c0_0 q0
  replace c0_0 := keep_cell (w1 := w2) hb c0_0
  replace q1 := keep_frozen (w1 := w2) hb c0_1 q1
  replace c0_1 := keep_cell (w1 := w2) hb c0_1
  replace Hv := Lib.hid (Hv.out.below hb (Nat.le_refl _))
  replace Hm := Lib.hid (Hm.out.below hb (Nat.le_refl _))
  have Hr := Lib.hid (hx.mono B0.size)
  clear hx
  replace B0 := B0.trans (hb.mono B0.size)
  clear hb
  obtain ⟨ar, cr, rfl, -, -, -, -, -⟩ := Hr.out.form
  go_wp2
  exact bodyPost_ret (v := .agg #[.bool false, .slice ar ([] : List Int).length cr]) (by simp [results, Try.results87, go_sem, c0_0, c0_1]) rfl (retG_end BW (by omega) hg0 B0 Hr.out)

theorem retZ_conv {w : World} {z : Int} {s : Bool} {f : FuncId} {args : Array Value} (e : ng z = s) (h : Calls Try.prog f args w (RetG w s (limbs z.natAbs))) : Calls Try.prog f args w (RetZ w z) := by
  subst e; exact h
theorem fit_hid {z x : Int} {n : Nat} (hz : z = fitZ x) (hn : n = x.natAbs) : z.natAbs = if (limbs n).length ≤ 60 then n else 0 := by
  subst hn; rw [hz]; unfold fitZ
  split
  · rfl
  · rfl
theorem fit_sg {z x : Int} {s : Bool} (hz : z = fitZ x) (hs : x ≠ 0 → s = ng x) (h0 : z ≠ 0) : s = ng z := by
  unfold fitZ at hz
  split at hz
  · subst hz; exact hs h0
  · exact absurd hz h0
theorem fit_len {z : Int} {n : Nat} (h : z.natAbs = n) (hl : (limbs n).length ≤ 60) : z.natAbs = if (limbs n).length ≤ 60 then n else 0 := by rw [if_pos hl]; exact h

theorem l03Make_zz (w : World) (b1 : Nat) (s : Bool) (v1 : Value) (o : List Int) (n : Nat) (z : Int) (h1 : Own w b1 v1 o) (hi : InR o) (hn : nv o = n) (hz : Hid (z.natAbs = if (limbs n).length ≤ 60 then n else 0)) (hs : Hid (z ≠ 0 → s = ng z)) :
    Calls Try.prog 87 #[.bool s, v1] w (RetZ w z) := by
  have hm : fitV n = limbs z.natAbs := by
    have h := hz.out
    unfold fitV
    split at h
    · next h1 => rw [if_pos h1, h]
    · next h1 => rw [if_neg h1, h]; exact limbs_zero.symm
  by_cases h0 : z = 0
  · subst h0
    cases s with
    | false => exact l03Make_f w b1 v1 o _ n h1 hi hn hm
    | true => exact l03Make_e w b1 v1 o _ n h1 hi hn hm limbs_zero
  · have h2 := hs.out h0
    have hp : 0 < (limbs z.natAbs).length := limbs_len_pos.2 (by omega)
    subst h2
    rcases ng_cases z with ⟨h3, e⟩ | ⟨h3, e⟩
    · rw [e]; exact retZ_conv e (l03Make_p w b1 v1 o _ n h1 hi hn hm hp)
    · rw [e]; exact retZ_conv e (l03Make_f w b1 v1 o _ n h1 hi hn hm)
/-- Of a number in normal form. -/
theorem l03Make_n (w : World) (b1 : Nat) (s : Bool) (v1 : Value) (n : Nat) (z : Int) (h1 : Own w b1 v1 (limbs n)) (hz : Hid (z.natAbs = if (limbs n).length ≤ 60 then n else 0)) (hs : Hid (z ≠ 0 → s = ng z)) :
    Calls Try.prog 87 #[.bool s, v1] w (RetZ w z) := l03Make_zz w b1 s v1 _ n z h1 (limbs_inR _) (nv_limbs _) hz hs

theorem limbs_len_small {n : Nat} (h : n ≤ 9223372036854775808) : (limbs n).length ≤ 60 := by
  have := limbs_len_le (n := n) (k := 3)
  have h := this.2 (by simp only [pw]; omega)
  omega
theorem minLimbs : [(854775808 : Int), 223372036, 9] = limbs 9223372036854775808 := by
  refine Norm.limbs ⟨InR.cons (by omega) (by omega) (InR.cons (by omega) (by omega) (InR.cons (by omega) (by omega) InR.nil)), .inr ?_⟩ ?_
  · decide
  · decide
theorem own_min (w : World) : Own (w.alloc (.cells #[.int .i64 854775808, .int .i64 223372036, .int .i64 9] 3)) w.heap.size (.slice (some ⟨w.heap.size, 0, none⟩) 3 3) (limbs 9223372036854775808) := by
  rw [← minLimbs]; exact Own.lit3 w _ _ _
theorem own_minN (w : World) (N g : Nat) (hN : Hid (N = 9223372036854775808)) (hg : Hid (w.heap.size = g)) : Own (w.alloc (.cells #[.int .i64 854775808, .int .i64 223372036, .int .i64 9] 3)) w.heap.size (.slice (some ⟨g, 0, none⟩) 3 3) (limbs N) := by
  rw [hN.out, ← hg.out]; exact own_min w

set_option maxHeartbeats 1000000 in
theorem sBigIntOf_pos (w : World) (n z : Int) (hz : z = n) (h0 : 0 ≤ n) (hn : n ≤ 9223372036854775807) :
    Calls Try.prog 72 #[.int .i64 n] w (RetZ w z) := by
  have BW : Below w.heap.size w (w.alloc (.cells #[.bool false, .slice none 0 0] 43)) := ((Below.refl w.heap.size w).alloc (Nat.le_refl _) _)
  obtain ⟨c0_0, c0_1, q0, q1⟩ : World.cell? (w.alloc (.cells #[.bool false, .slice none 0 0] 43)) ⟨w.heap.size, 0, none⟩ = some (.bool false) ∧ World.cell? (w.alloc (.cells #[.bool false, .slice none 0 0] 43)) ⟨w.heap.size, 1, none⟩ = some (.slice none 0 0) ∧ World.frozen? (w.alloc (.cells #[.bool false, .slice none 0 0] 43)) ⟨w.heap.size, 0, none⟩ = false ∧ World.frozen? (w.alloc (.cells #[.bool false, .slice none 0 0] 43)) ⟨w.heap.size, 1, none⟩ = false := by simp [go_sem]
  have hg0 : w.heap.size < ((w.alloc (.cells #[.bool false, .slice none 0 0] 43))).heap.size := World.block_lt_of_cell? _ _ c0_0
  have HN : Hid (z.natAbs = if (limbs n.toNat).length ≤ 60 then n.toNat else 0) := fit_len (by omega) (limbs_len_small (by omega))
  have HSG : Hid (z ≠ 0 → false = ng z) := fun _ => (ng_nonneg (by omega)).symm
  have t1 : ((n : Int) == -9223372036854775808) = false := beq_eq_false_iff_ne.2 (by omega)
  clear hz
  go_enter Try.func72, Try.ntmps72
  go_wp2_with fail
  generalize (w.alloc (.cells #[.bool false, .slice none 0 0] 43)) = w0 at *
  have B0 := Below.refl w0.heap.size w0
  refine (specNatOf_c _ n hn).mono ?_
  rintro e w1 ⟨vo, rfl, ho1, hb⟩
  replace q0 := keep_frozen (w1 := w1) hb c0_0 q0
  replace c0_0 := keep_cell (w1 := w1) hb c0_0
  replace q1 := keep_frozen (w1 := w1) hb c0_1 q1
  replace c0_1 := keep_cell (w1 := w1) hb c0_1
  have Ho := Lib.hid (ho1.mono B0.size)
  clear ho1
  replace B0 := B0.trans (hb.mono B0.size)
  clear hb
  go_wp2_with fail
  refine (l03Make_n _ _ _ _ n.toNat z Ho.out HN HSG).mono ?_
  rintro e w2 ⟨vr, rfl, ho2, hb⟩
  replace q0 := keep_frozen (w1 := w2) hb c0_0 q0
  replace c0_0 := keep_cell (w1 := w2) hb c0_0
  replace q1 := keep_frozen (w1 := w2) hb c0_1 q1
  replace c0_1 := keep_cell (w1 := w2) hb c0_1
  replace Ho := Lib.hid (Ho.out.below hb (Nat.le_refl _))
  have Hr := Lib.hid (ho2.mono B0.size)
  clear ho2
  obtain ⟨ar, cr, rfl, -, -, -, -, -⟩ := Hr.out.form
  replace B0 := B0.trans (hb.mono B0.size)
  clear hb
  go_wp2
  exact bodyPost_ret (v := .agg #[.bool (ng z), .slice ar (limbs z.natAbs).length cr]) (by simp [results, Try.results72, go_sem, c0_0, c0_1]) rfl (retG_end BW (by omega) hg0 B0 Hr.out)

theorem specNatOf_m (w : World) (m k : Int) (hm : m ≤ 9223372036854775807) (hk : Hid (k = m)) : Calls Try.prog 99 #[.int .i64 k] w (RetS w (limbs m.toNat)) := by
  rw [hk.out]; exact specNatOf_c w m hm

set_option maxHeartbeats 1000000 in
theorem sBigIntOf_neg (w : World) (n z m : Int) (hz : z = n) (hm : m = -n) (h0 : n < 0) (hn : -9223372036854775808 < n) :
    Calls Try.prog 72 #[.int .i64 n] w (RetZ w z) := by
  have BW : Below w.heap.size w (w.alloc (.cells #[.bool false, .slice none 0 0] 43)) := ((Below.refl w.heap.size w).alloc (Nat.le_refl _) _)
  obtain ⟨c0_0, c0_1, q0, q1⟩ : World.cell? (w.alloc (.cells #[.bool false, .slice none 0 0] 43)) ⟨w.heap.size, 0, none⟩ = some (.bool false) ∧ World.cell? (w.alloc (.cells #[.bool false, .slice none 0 0] 43)) ⟨w.heap.size, 1, none⟩ = some (.slice none 0 0) ∧ World.frozen? (w.alloc (.cells #[.bool false, .slice none 0 0] 43)) ⟨w.heap.size, 0, none⟩ = false ∧ World.frozen? (w.alloc (.cells #[.bool false, .slice none 0 0] 43)) ⟨w.heap.size, 1, none⟩ = false := by simp [go_sem]
  have hg0 : w.heap.size < ((w.alloc (.cells #[.bool false, .slice none 0 0] 43))).heap.size := World.block_lt_of_cell? _ _ c0_0
  have HN : Hid (z.natAbs = if (limbs m.toNat).length ≤ 60 then m.toNat else 0) := fit_len (by omega) (limbs_len_small (by omega))
  have HSG : Hid (z ≠ 0 → true = ng z) := fun _ => (ng_neg (by omega)).symm
  have t1 : ((n : Int) == -9223372036854775808) = false := beq_eq_false_iff_ne.2 (by omega)
  have HM : Hid (-n = m) := by unfold Hid; omega
  have hm1 : m ≤ 9223372036854775807 := by omega
  clear hz hm
  go_enter Try.func72, Try.ntmps72
  go_wp2_with fail
  generalize (w.alloc (.cells #[.bool false, .slice none 0 0] 43)) = w0 at *
  have B0 := Below.refl w0.heap.size w0
  refine (specNatOf_m _ m _ hm1 HM).mono ?_
  rintro e w1 ⟨vo, rfl, ho1, hb⟩
  replace q0 := keep_frozen (w1 := w1) hb c0_0 q0
  replace c0_0 := keep_cell (w1 := w1) hb c0_0
  replace q1 := keep_frozen (w1 := w1) hb c0_1 q1
  replace c0_1 := keep_cell (w1 := w1) hb c0_1
  have Ho := Lib.hid (ho1.mono B0.size)
  clear ho1
  replace B0 := B0.trans (hb.mono B0.size)
  clear hb
  go_wp2_with fail
  refine (l03Make_n _ _ _ _ m.toNat z Ho.out HN HSG).mono ?_
  rintro e w2 ⟨vr, rfl, ho2, hb⟩
  replace q0 := keep_frozen (w1 := w2) hb c0_0 q0
  replace c0_0 := keep_cell (w1 := w2) hb c0_0
  replace q1 := keep_frozen (w1 := w2) hb c0_1 q1
  replace c0_1 := keep_cell (w1 := w2) hb c0_1
  replace Ho := Lib.hid (Ho.out.below hb (Nat.le_refl _))
  have Hr := Lib.hid (ho2.mono B0.size)
  clear ho2
  obtain ⟨ar, cr, rfl, -, -, -, -, -⟩ := Hr.out.form
  replace B0 := B0.trans (hb.mono B0.size)
  clear hb
  go_wp2
  exact bodyPost_ret (v := .agg #[.bool (ng z), .slice ar (limbs z.natAbs).length cr]) (by simp [results, Try.results72, go_sem, c0_0, c0_1]) rfl (retG_end BW (by omega) hg0 B0 Hr.out)

set_option maxHeartbeats 1000000 in
theorem sBigIntOf_min (w : World) (z : Int) (hz : z = -9223372036854775808) (N : Nat) (hN : N = 9223372036854775808) :
    Calls Try.prog 72 #[.int .i64 (-9223372036854775808)] w (RetZ w z) := by
  have BW : Below w.heap.size w (w.alloc (.cells #[.bool false, .slice none 0 0] 43)) := ((Below.refl w.heap.size w).alloc (Nat.le_refl _) _)
  obtain ⟨c0_0, c0_1, q0, q1⟩ : World.cell? (w.alloc (.cells #[.bool false, .slice none 0 0] 43)) ⟨w.heap.size, 0, none⟩ = some (.bool false) ∧ World.cell? (w.alloc (.cells #[.bool false, .slice none 0 0] 43)) ⟨w.heap.size, 1, none⟩ = some (.slice none 0 0) ∧ World.frozen? (w.alloc (.cells #[.bool false, .slice none 0 0] 43)) ⟨w.heap.size, 0, none⟩ = false ∧ World.frozen? (w.alloc (.cells #[.bool false, .slice none 0 0] 43)) ⟨w.heap.size, 1, none⟩ = false := by simp [go_sem]
  have hg0 : w.heap.size < ((w.alloc (.cells #[.bool false, .slice none 0 0] 43))).heap.size := World.block_lt_of_cell? _ _ c0_0
  have HN : Hid (z.natAbs = if (limbs N).length ≤ 60 then N else 0) := fit_len (by omega) (limbs_len_small (by omega))
  have HSG : Hid (z ≠ 0 → true = ng z) := fun _ => (ng_neg (by omega)).symm
  have HK := Lib.hid hN
  have HS0 : Hid ((w.alloc (.cells #[.bool false, .slice none 0 0] 43)).heap.size = w.heap.size + 1) := by simp [Hid]
  clear hz hN
  go_enter Try.func72, Try.ntmps72
  go_wp2_with fail
  generalize (w.alloc (.cells #[.bool false, .slice none 0 0] 43)) = w0 at *
  have B0 := Below.refl w0.heap.size w0
  refine (l03Make_n _ _ _ _ N z (own_minN w0 N _ HK HS0) HN HSG).mono ?_
  rintro e w1 ⟨vr, rfl, ho2, hb⟩
  replace hb := alloc_below hb
  replace q0 := keep_frozen (w1 := w1) hb c0_0 q0
  replace c0_0 := keep_cell (w1 := w1) hb c0_0
  replace q1 := keep_frozen (w1 := w1) hb c0_1 q1
  replace c0_1 := keep_cell (w1 := w1) hb c0_1
  have Hr := Lib.hid (ho2.mono (Nat.le_trans B0.size (heap_le_alloc _ _)))
  clear ho2
  obtain ⟨ar, cr, rfl, -, -, -, -, -⟩ := Hr.out.form
  replace B0 := B0.trans (hb.mono B0.size)
  clear hb
  go_wp2
  exact bodyPost_ret (v := .agg #[.bool (ng z), .slice ar (limbs z.natAbs).length cr]) (by simp [results, Try.results72, go_sem, c0_0, c0_1]) rfl (retG_end BW (by omega) hg0 B0 Hr.out)

theorem sBigIntOf_c (w : World) (n : Int) (h1 : -9223372036854775808 ≤ n) (h2 : n ≤ 9223372036854775807) : Calls Try.prog 72 #[.int .i64 n] w (RetZ w n) := by
  by_cases h : 0 ≤ n
  · exact sBigIntOf_pos w n n rfl h h2
  · by_cases h3 : n = -9223372036854775808
    · subst h3; exact sBigIntOf_min w _ rfl _ rfl
    · exact sBigIntOf_neg w n n _ rfl rfl (by omega) (by omega)

theorem sToInt_no (w : World) (b1 : Nat) (v1 : Value) (xs : List Int) (h1 : Own w b1 v1 xs) (h : ¬ (OkP xs ∧ nv xs ≤ 9223372036854775807)) : Calls Try.prog 100 #[v1] w (RetIB w 0 false) := by
  obtain ⟨e1, e2⟩ := toInt_no h
  have h2 := specNatToInt_c w b1 v1 xs h1
  rw [e1, e2] at h2
  exact h2
theorem sToInt_nil (w : World) (b1 : Nat) (v1 : Value) (h1 : Own w b1 v1 []) : Calls Try.prog 100 #[v1] w (RetIB w 0 true) := by
  exact specNatToInt_ok w b1 v1 0 h1 (by omega)

set_option maxHeartbeats 1000000 in
theorem l03Add_same (w : World) (b1 b2 : Nat) (v1 v2 : Value) (x y : Int) (h1 : Own w b1 v1 (limbs x.natAbs)) (h2 : Own w b2 v2 (limbs y.natAbs)) (hs1 : (limbs x.natAbs).length ≤ 900) (hs2 : (limbs y.natAbs).length ≤ 900) (z : Int) (hz : z = fitZ (x + y)) (hs : ng y = ng x) :
    Calls Try.prog 86 #[.agg #[.bool (ng x), v1], .agg #[.bool (ng y), v2]] w (RetZ w z) := by
  rw [hs]
  have BW : Below w.heap.size w (((w.alloc (.cells #[.bool (ng x), v1] 43)).alloc (.cells #[.bool (ng x), v2] 43)).alloc (.cells #[.bool false, .slice none 0 0] 43)) := ((((Below.refl w.heap.size w).alloc (Nat.le_refl _) _).alloc (by simp) _).alloc (by simp; omega) _)
  obtain ⟨c0_0, c0_1, c1_0, c1_1, c2_0, c2_1, q0, q1⟩ : World.cell? (((w.alloc (.cells #[.bool (ng x), v1] 43)).alloc (.cells #[.bool (ng x), v2] 43)).alloc (.cells #[.bool false, .slice none 0 0] 43)) ⟨w.heap.size, 0, none⟩ = some (.bool (ng x)) ∧ World.cell? (((w.alloc (.cells #[.bool (ng x), v1] 43)).alloc (.cells #[.bool (ng x), v2] 43)).alloc (.cells #[.bool false, .slice none 0 0] 43)) ⟨w.heap.size, 1, none⟩ = some (v1) ∧ World.cell? (((w.alloc (.cells #[.bool (ng x), v1] 43)).alloc (.cells #[.bool (ng x), v2] 43)).alloc (.cells #[.bool false, .slice none 0 0] 43)) ⟨w.heap.size + 1, 0, none⟩ = some (.bool (ng x)) ∧ World.cell? (((w.alloc (.cells #[.bool (ng x), v1] 43)).alloc (.cells #[.bool (ng x), v2] 43)).alloc (.cells #[.bool false, .slice none 0 0] 43)) ⟨w.heap.size + 1, 1, none⟩ = some (v2) ∧ World.cell? (((w.alloc (.cells #[.bool (ng x), v1] 43)).alloc (.cells #[.bool (ng x), v2] 43)).alloc (.cells #[.bool false, .slice none 0 0] 43)) ⟨w.heap.size + 1 + 1, 0, none⟩ = some (.bool false) ∧ World.cell? (((w.alloc (.cells #[.bool (ng x), v1] 43)).alloc (.cells #[.bool (ng x), v2] 43)).alloc (.cells #[.bool false, .slice none 0 0] 43)) ⟨w.heap.size + 1 + 1, 1, none⟩ = some (.slice none 0 0) ∧ World.frozen? (((w.alloc (.cells #[.bool (ng x), v1] 43)).alloc (.cells #[.bool (ng x), v2] 43)).alloc (.cells #[.bool false, .slice none 0 0] 43)) ⟨w.heap.size + 1 + 1, 0, none⟩ = false ∧ World.frozen? (((w.alloc (.cells #[.bool (ng x), v1] 43)).alloc (.cells #[.bool (ng x), v2] 43)).alloc (.cells #[.bool false, .slice none 0 0] 43)) ⟨w.heap.size + 1 + 1, 1, none⟩ = false := by simp [go_sem]
  have hg0 : w.heap.size + 1 + 1 < ((((w.alloc (.cells #[.bool (ng x), v1] 43)).alloc (.cells #[.bool (ng x), v2] 43)).alloc (.cells #[.bool false, .slice none 0 0] 43))).heap.size := World.block_lt_of_cell? _ _ c2_0
  have Hv := Lib.hid (h1.below BW (Nat.le_refl _))
  have Hu := Lib.hid (h2.below BW (Nat.le_refl _))
  clear h1 h2
  have HN := Lib.hid (fit_hid hz (add_same_n rfl hs))
  have HSG := Lib.hid (fit_sg hz (add_same_s rfl hs))
  clear hz
  go_enter Try.func86, Try.ntmps86
  go_wp2_with fail
  generalize (((w.alloc (.cells #[.bool (ng x), v1] 43)).alloc (.cells #[.bool (ng x), v2] 43)).alloc (.cells #[.bool false, .slice none 0 0] 43)) = w0 at *
  have B0 := Below.refl w0.heap.size w0
  replace Hv := Lib.hid Hv.out.drew
  replace Hu := Lib.hid Hu.out.drew
  replace B0 := below_drew B0
  replace q0 := frozen_drew q0
  replace c2_0 := cell_drew c2_0
  replace q1 := frozen_drew q1
  replace c2_1 := cell_drew c2_1
  go_region_held3 (fun w' => w'.cell? ⟨w.heap.size, 0, none⟩ = some (.bool (ng x)) ∧ w'.cell? ⟨w.heap.size, 1, none⟩ = some (v1) ∧ w'.cell? ⟨w.heap.size + 1, 1, none⟩ = some (v2)) (first | exact ⟨c0_0, c0_1, c1_1⟩ | (go_split_ands; exact ⟨keep_cell hb2 ‹_›, keep_cell hb2 ‹_›, keep_cell hb2 ‹_›⟩) | (go_split_ands; exact ⟨keep_cell hb1 ‹_›, keep_cell hb1 ‹_›, keep_cell hb1 ‹_›⟩) | (go_split_ands; exact ⟨(set_far (set_far ‹_› (by dsimp only; omega)) (by dsimp only; omega)), (set_far (set_far ‹_› (by dsimp only; omega)) (by dsimp only; omega)), (set_far (set_far ‹_› (by dsimp only; omega)) (by dsimp only; omega))⟩) | (go_split_ands; exact ⟨(set_far (set_far (set_far ‹_› (by dsimp only; omega)) (by dsimp only; omega)) (by dsimp only; omega)), (set_far (set_far (set_far ‹_› (by dsimp only; omega)) (by dsimp only; omega)) (by dsimp only; omega)), (set_far (set_far (set_far ‹_› (by dsimp only; omega)) (by dsimp only; omega)) (by dsimp only; omega))⟩) | (go_split_ands; exact ⟨(set_far ‹_› (by dsimp only; omega)), (set_far ‹_› (by dsimp only; omega)), (set_far ‹_› (by dsimp only; omega))⟩) | go_keep)
    (first | (go_at_call 105; refine (l02Add_c _ _ _ _ _ x.natAbs y.natAbs Hv.out Hu.out (by omega) (by omega)).mono ?_; rintro e w1 ⟨vo, oo, rfl, ho1, hio, hno, hlo, hb1⟩; have q0 := keep_frozen (w1 := w1) hb1 c2_0 q0; have c2_0 := keep_cell (w1 := w1) hb1 c2_0; have q1 := keep_frozen (w1 := w1) hb1 c2_1 q1; have c2_1 := keep_cell (w1 := w1) hb1 c2_1; have Hv := Lib.hid (Hv.out.below hb1 (Nat.le_refl _)); have Hu := Lib.hid (Hu.out.below hb1 (Nat.le_refl _)); (try (have Hr := Lib.hid (Hr.out.below hb1 (Nat.le_refl _)))); have Ho := Lib.hid (ho1.mono B0.size); clear ho1; have B0 := B0.trans (hb1.mono B0.size)) | (go_at_call 87; refine (l03Make_zz _ _ _ _ _ _ z Ho.out hio hno HN HSG).mono ?_; rintro e w2 ⟨vr, rfl, ho2, hb2⟩; have q0 := keep_frozen (w1 := w2) hb2 c2_0 q0; have c2_0 := keep_cell (w1 := w2) hb2 c2_0; have q1 := keep_frozen (w1 := w2) hb2 c2_1 q1; have c2_1 := keep_cell (w1 := w2) hb2 c2_1; have Hv := Lib.hid (Hv.out.below hb2 (Nat.le_refl _)); have Hu := Lib.hid (Hu.out.below hb2 (Nat.le_refl _)); (try (have Ho := Lib.hid (Ho.out.below hb2 (Nat.le_refl _)))); have Hr := Lib.hid (ho2.mono B0.size); clear ho2; obtain ⟨ar, cr, rfl, -, -, -, -, -⟩ := Hr.out.form; have B0 := B0.trans (hb2.mono B0.size)))
  go_wp2
  exact bodyPost_ret (v := .agg #[.bool (ng z), .slice ar (limbs z.natAbs).length cr]) (by simp [results, Try.results86, go_sem, c2_0, c2_1]) rfl (retG_end BW (by omega) hg0 B0 Hr.out)

set_option maxHeartbeats 1000000 in
theorem l03Add_ge (w : World) (b1 b2 : Nat) (v1 v2 : Value) (x y : Int) (h1 : Own w b1 v1 (limbs x.natAbs)) (h2 : Own w b2 v2 (limbs y.natAbs)) (hs1 : (limbs x.natAbs).length ≤ 900) (_hs2 : (limbs y.natAbs).length ≤ 900) (z : Int) (hz : z = fitZ (x + y)) (hs : ng x ≠ ng y) (hc : y.natAbs ≤ x.natAbs) :
    Calls Try.prog 86 #[.agg #[.bool (ng x), v1], .agg #[.bool (ng y), v2]] w (RetZ w z) := by
  have BW : Below w.heap.size w (((w.alloc (.cells #[.bool (ng x), v1] 43)).alloc (.cells #[.bool (ng y), v2] 43)).alloc (.cells #[.bool false, .slice none 0 0] 43)) := ((((Below.refl w.heap.size w).alloc (Nat.le_refl _) _).alloc (by simp) _).alloc (by simp; omega) _)
  obtain ⟨c0_0, c0_1, c1_0, c1_1, c2_0, c2_1, q0, q1⟩ : World.cell? (((w.alloc (.cells #[.bool (ng x), v1] 43)).alloc (.cells #[.bool (ng y), v2] 43)).alloc (.cells #[.bool false, .slice none 0 0] 43)) ⟨w.heap.size, 0, none⟩ = some (.bool (ng x)) ∧ World.cell? (((w.alloc (.cells #[.bool (ng x), v1] 43)).alloc (.cells #[.bool (ng y), v2] 43)).alloc (.cells #[.bool false, .slice none 0 0] 43)) ⟨w.heap.size, 1, none⟩ = some (v1) ∧ World.cell? (((w.alloc (.cells #[.bool (ng x), v1] 43)).alloc (.cells #[.bool (ng y), v2] 43)).alloc (.cells #[.bool false, .slice none 0 0] 43)) ⟨w.heap.size + 1, 0, none⟩ = some (.bool (ng y)) ∧ World.cell? (((w.alloc (.cells #[.bool (ng x), v1] 43)).alloc (.cells #[.bool (ng y), v2] 43)).alloc (.cells #[.bool false, .slice none 0 0] 43)) ⟨w.heap.size + 1, 1, none⟩ = some (v2) ∧ World.cell? (((w.alloc (.cells #[.bool (ng x), v1] 43)).alloc (.cells #[.bool (ng y), v2] 43)).alloc (.cells #[.bool false, .slice none 0 0] 43)) ⟨w.heap.size + 1 + 1, 0, none⟩ = some (.bool false) ∧ World.cell? (((w.alloc (.cells #[.bool (ng x), v1] 43)).alloc (.cells #[.bool (ng y), v2] 43)).alloc (.cells #[.bool false, .slice none 0 0] 43)) ⟨w.heap.size + 1 + 1, 1, none⟩ = some (.slice none 0 0) ∧ World.frozen? (((w.alloc (.cells #[.bool (ng x), v1] 43)).alloc (.cells #[.bool (ng y), v2] 43)).alloc (.cells #[.bool false, .slice none 0 0] 43)) ⟨w.heap.size + 1 + 1, 0, none⟩ = false ∧ World.frozen? (((w.alloc (.cells #[.bool (ng x), v1] 43)).alloc (.cells #[.bool (ng y), v2] 43)).alloc (.cells #[.bool false, .slice none 0 0] 43)) ⟨w.heap.size + 1 + 1, 1, none⟩ = false := by simp [go_sem]
  have hg0 : w.heap.size + 1 + 1 < ((((w.alloc (.cells #[.bool (ng x), v1] 43)).alloc (.cells #[.bool (ng y), v2] 43)).alloc (.cells #[.bool false, .slice none 0 0] 43))).heap.size := World.block_lt_of_cell? _ _ c2_0
  have Hv := Lib.hid (h1.below BW (Nat.le_refl _))
  have Hu := Lib.hid (h2.below BW (Nat.le_refl _))
  clear h1 h2
  have HN := Lib.hid (fit_hid hz (add_ge_n rfl hs hc))
  have HSG := Lib.hid (fit_sg hz (add_ge_s rfl hs hc))
  have HC := Lib.hid hc
  clear hz hc
  have d1 : (ng x == ng y) = false := by simpa using hs
  clear hs
  go_enter Try.func86, Try.ntmps86
  go_wp2_with fail
  generalize (((w.alloc (.cells #[.bool (ng x), v1] 43)).alloc (.cells #[.bool (ng y), v2] 43)).alloc (.cells #[.bool false, .slice none 0 0] 43)) = w0 at *
  have B0 := Below.refl w0.heap.size w0
  refine (l02Cmp_ge _ _ _ _ _ x.natAbs y.natAbs Hv.out Hu.out HC.out).mono ?_
  rintro e w1 ⟨c, hc, rfl, hb⟩
  replace c0_0 := keep_cell hb c0_0
  replace c0_1 := keep_cell hb c0_1
  replace c1_0 := keep_cell hb c1_0
  replace c1_1 := keep_cell hb c1_1
  replace q0 := keep_frozen (w1 := w1) hb c2_0 q0
  replace c2_0 := keep_cell (w1 := w1) hb c2_0
  replace q1 := keep_frozen (w1 := w1) hb c2_1 q1
  replace c2_1 := keep_cell (w1 := w1) hb c2_1
  replace Hv := Lib.hid (Hv.out.below hb (Nat.le_refl _))
  replace Hu := Lib.hid (Hu.out.below hb (Nat.le_refl _))
  replace B0 := B0.trans (hb.mono B0.size)
  clear hb
  go_wp2_with fail
  replace Hv := Lib.hid Hv.out.drew
  replace Hu := Lib.hid Hu.out.drew
  replace B0 := below_drew B0
  replace q0 := frozen_drew q0
  replace c2_0 := cell_drew c2_0
  replace q1 := frozen_drew q1
  replace c2_1 := cell_drew c2_1
  go_region_held3 (fun w' => w'.cell? ⟨w.heap.size, 0, none⟩ = some (.bool (ng x)) ∧ w'.cell? ⟨w.heap.size, 1, none⟩ = some (v1) ∧ w'.cell? ⟨w.heap.size + 1, 1, none⟩ = some (v2)) (first | exact ⟨c0_0, c0_1, c1_1⟩ | (go_split_ands; exact ⟨keep_cell hb3 ‹_›, keep_cell hb3 ‹_›, keep_cell hb3 ‹_›⟩) | (go_split_ands; exact ⟨keep_cell hb2 ‹_›, keep_cell hb2 ‹_›, keep_cell hb2 ‹_›⟩) | (go_split_ands; exact ⟨(set_far (set_far ‹_› (by dsimp only; omega)) (by dsimp only; omega)), (set_far (set_far ‹_› (by dsimp only; omega)) (by dsimp only; omega)), (set_far (set_far ‹_› (by dsimp only; omega)) (by dsimp only; omega))⟩) | (go_split_ands; exact ⟨(set_far (set_far (set_far ‹_› (by dsimp only; omega)) (by dsimp only; omega)) (by dsimp only; omega)), (set_far (set_far (set_far ‹_› (by dsimp only; omega)) (by dsimp only; omega)) (by dsimp only; omega)), (set_far (set_far (set_far ‹_› (by dsimp only; omega)) (by dsimp only; omega)) (by dsimp only; omega))⟩) | (go_split_ands; exact ⟨(set_far ‹_› (by dsimp only; omega)), (set_far ‹_› (by dsimp only; omega)), (set_far ‹_› (by dsimp only; omega))⟩) | go_keep)
    (first | (go_at_call 107; refine (l02Sub_c _ _ _ _ _ x.natAbs y.natAbs Hv.out Hu.out (by omega) HC.out).mono ?_; rintro e w2 ⟨vo, rfl, ho1, hb2⟩; have q0 := keep_frozen (w1 := w2) hb2 c2_0 q0; have c2_0 := keep_cell (w1 := w2) hb2 c2_0; have q1 := keep_frozen (w1 := w2) hb2 c2_1 q1; have c2_1 := keep_cell (w1 := w2) hb2 c2_1; have Hv := Lib.hid (Hv.out.below hb2 (Nat.le_refl _)); have Hu := Lib.hid (Hu.out.below hb2 (Nat.le_refl _)); (try (have Hr := Lib.hid (Hr.out.below hb2 (Nat.le_refl _)))); have Ho := Lib.hid (ho1.mono B0.size); clear ho1; have B0 := B0.trans (hb2.mono B0.size)) | (go_at_call 87; refine (l03Make_n _ _ _ _ _ z Ho.out HN HSG).mono ?_; rintro e w3 ⟨vr, rfl, ho2, hb3⟩; have q0 := keep_frozen (w1 := w3) hb3 c2_0 q0; have c2_0 := keep_cell (w1 := w3) hb3 c2_0; have q1 := keep_frozen (w1 := w3) hb3 c2_1 q1; have c2_1 := keep_cell (w1 := w3) hb3 c2_1; have Hv := Lib.hid (Hv.out.below hb3 (Nat.le_refl _)); have Hu := Lib.hid (Hu.out.below hb3 (Nat.le_refl _)); (try (have Ho := Lib.hid (Ho.out.below hb3 (Nat.le_refl _)))); have Hr := Lib.hid (ho2.mono B0.size); clear ho2; obtain ⟨ar, cr, rfl, -, -, -, -, -⟩ := Hr.out.form; have B0 := B0.trans (hb3.mono B0.size)))
  go_wp2
  exact bodyPost_ret (v := .agg #[.bool (ng z), .slice ar (limbs z.natAbs).length cr]) (by simp [results, Try.results86, go_sem, c2_0, c2_1]) rfl (retG_end BW (by omega) hg0 B0 Hr.out)

set_option maxHeartbeats 1000000 in
theorem l03Add_lt (w : World) (b1 b2 : Nat) (v1 v2 : Value) (x y : Int) (h1 : Own w b1 v1 (limbs x.natAbs)) (h2 : Own w b2 v2 (limbs y.natAbs)) (_hs1 : (limbs x.natAbs).length ≤ 900) (hs2 : (limbs y.natAbs).length ≤ 900) (z : Int) (hz : z = fitZ (x + y)) (hs : ng x ≠ ng y) (hc : x.natAbs < y.natAbs) :
    Calls Try.prog 86 #[.agg #[.bool (ng x), v1], .agg #[.bool (ng y), v2]] w (RetZ w z) := by
  have BW : Below w.heap.size w (((w.alloc (.cells #[.bool (ng x), v1] 43)).alloc (.cells #[.bool (ng y), v2] 43)).alloc (.cells #[.bool false, .slice none 0 0] 43)) := ((((Below.refl w.heap.size w).alloc (Nat.le_refl _) _).alloc (by simp) _).alloc (by simp; omega) _)
  obtain ⟨c0_0, c0_1, c1_0, c1_1, c2_0, c2_1, q0, q1⟩ : World.cell? (((w.alloc (.cells #[.bool (ng x), v1] 43)).alloc (.cells #[.bool (ng y), v2] 43)).alloc (.cells #[.bool false, .slice none 0 0] 43)) ⟨w.heap.size, 0, none⟩ = some (.bool (ng x)) ∧ World.cell? (((w.alloc (.cells #[.bool (ng x), v1] 43)).alloc (.cells #[.bool (ng y), v2] 43)).alloc (.cells #[.bool false, .slice none 0 0] 43)) ⟨w.heap.size, 1, none⟩ = some (v1) ∧ World.cell? (((w.alloc (.cells #[.bool (ng x), v1] 43)).alloc (.cells #[.bool (ng y), v2] 43)).alloc (.cells #[.bool false, .slice none 0 0] 43)) ⟨w.heap.size + 1, 0, none⟩ = some (.bool (ng y)) ∧ World.cell? (((w.alloc (.cells #[.bool (ng x), v1] 43)).alloc (.cells #[.bool (ng y), v2] 43)).alloc (.cells #[.bool false, .slice none 0 0] 43)) ⟨w.heap.size + 1, 1, none⟩ = some (v2) ∧ World.cell? (((w.alloc (.cells #[.bool (ng x), v1] 43)).alloc (.cells #[.bool (ng y), v2] 43)).alloc (.cells #[.bool false, .slice none 0 0] 43)) ⟨w.heap.size + 1 + 1, 0, none⟩ = some (.bool false) ∧ World.cell? (((w.alloc (.cells #[.bool (ng x), v1] 43)).alloc (.cells #[.bool (ng y), v2] 43)).alloc (.cells #[.bool false, .slice none 0 0] 43)) ⟨w.heap.size + 1 + 1, 1, none⟩ = some (.slice none 0 0) ∧ World.frozen? (((w.alloc (.cells #[.bool (ng x), v1] 43)).alloc (.cells #[.bool (ng y), v2] 43)).alloc (.cells #[.bool false, .slice none 0 0] 43)) ⟨w.heap.size + 1 + 1, 0, none⟩ = false ∧ World.frozen? (((w.alloc (.cells #[.bool (ng x), v1] 43)).alloc (.cells #[.bool (ng y), v2] 43)).alloc (.cells #[.bool false, .slice none 0 0] 43)) ⟨w.heap.size + 1 + 1, 1, none⟩ = false := by simp [go_sem]
  have hg0 : w.heap.size + 1 + 1 < ((((w.alloc (.cells #[.bool (ng x), v1] 43)).alloc (.cells #[.bool (ng y), v2] 43)).alloc (.cells #[.bool false, .slice none 0 0] 43))).heap.size := World.block_lt_of_cell? _ _ c2_0
  have Hv := Lib.hid (h1.below BW (Nat.le_refl _))
  have Hu := Lib.hid (h2.below BW (Nat.le_refl _))
  clear h1 h2
  have HN := Lib.hid (fit_hid hz (add_lt_n rfl hs hc))
  have HSG := Lib.hid (fit_sg hz (add_lt_s rfl hs hc))
  have HC := Lib.hid hc
  clear hz hc
  have d1 : (ng x == ng y) = false := by simpa using hs
  clear hs
  go_enter Try.func86, Try.ntmps86
  go_wp2_with fail
  generalize (((w.alloc (.cells #[.bool (ng x), v1] 43)).alloc (.cells #[.bool (ng y), v2] 43)).alloc (.cells #[.bool false, .slice none 0 0] 43)) = w0 at *
  have B0 := Below.refl w0.heap.size w0
  refine (l02Cmp_lt _ _ _ _ _ x.natAbs y.natAbs Hv.out Hu.out HC.out).mono ?_
  rintro e w1 ⟨rfl, hb⟩
  replace c0_0 := keep_cell hb c0_0
  replace c0_1 := keep_cell hb c0_1
  replace c1_0 := keep_cell hb c1_0
  replace c1_1 := keep_cell hb c1_1
  replace q0 := keep_frozen (w1 := w1) hb c2_0 q0
  replace c2_0 := keep_cell (w1 := w1) hb c2_0
  replace q1 := keep_frozen (w1 := w1) hb c2_1 q1
  replace c2_1 := keep_cell (w1 := w1) hb c2_1
  replace Hv := Lib.hid (Hv.out.below hb (Nat.le_refl _))
  replace Hu := Lib.hid (Hu.out.below hb (Nat.le_refl _))
  replace B0 := B0.trans (hb.mono B0.size)
  clear hb
  go_wp2_with fail
  replace Hv := Lib.hid Hv.out.drew
  replace Hu := Lib.hid Hu.out.drew
  replace B0 := below_drew B0
  replace q0 := frozen_drew q0
  replace c2_0 := cell_drew c2_0
  replace q1 := frozen_drew q1
  replace c2_1 := cell_drew c2_1
  go_region_held3 (fun w' => w'.cell? ⟨w.heap.size, 1, none⟩ = some (v1) ∧ w'.cell? ⟨w.heap.size + 1, 0, none⟩ = some (.bool (ng y)) ∧ w'.cell? ⟨w.heap.size + 1, 1, none⟩ = some (v2)) (first | exact ⟨c0_1, c1_0, c1_1⟩ | (go_split_ands; exact ⟨keep_cell hb3 ‹_›, keep_cell hb3 ‹_›, keep_cell hb3 ‹_›⟩) | (go_split_ands; exact ⟨keep_cell hb2 ‹_›, keep_cell hb2 ‹_›, keep_cell hb2 ‹_›⟩) | (go_split_ands; exact ⟨(set_far (set_far ‹_› (by dsimp only; omega)) (by dsimp only; omega)), (set_far (set_far ‹_› (by dsimp only; omega)) (by dsimp only; omega)), (set_far (set_far ‹_› (by dsimp only; omega)) (by dsimp only; omega))⟩) | (go_split_ands; exact ⟨(set_far (set_far (set_far ‹_› (by dsimp only; omega)) (by dsimp only; omega)) (by dsimp only; omega)), (set_far (set_far (set_far ‹_› (by dsimp only; omega)) (by dsimp only; omega)) (by dsimp only; omega)), (set_far (set_far (set_far ‹_› (by dsimp only; omega)) (by dsimp only; omega)) (by dsimp only; omega))⟩) | (go_split_ands; exact ⟨(set_far ‹_› (by dsimp only; omega)), (set_far ‹_› (by dsimp only; omega)), (set_far ‹_› (by dsimp only; omega))⟩) | go_keep)
    (first | (go_at_call 107; refine (l02Sub_c _ _ _ _ _ y.natAbs x.natAbs Hu.out Hv.out (by omega) (Nat.le_of_lt HC.out)).mono ?_; rintro e w2 ⟨vo, rfl, ho1, hb2⟩; have q0 := keep_frozen (w1 := w2) hb2 c2_0 q0; have c2_0 := keep_cell (w1 := w2) hb2 c2_0; have q1 := keep_frozen (w1 := w2) hb2 c2_1 q1; have c2_1 := keep_cell (w1 := w2) hb2 c2_1; have Hv := Lib.hid (Hv.out.below hb2 (Nat.le_refl _)); have Hu := Lib.hid (Hu.out.below hb2 (Nat.le_refl _)); (try (have Hr := Lib.hid (Hr.out.below hb2 (Nat.le_refl _)))); have Ho := Lib.hid (ho1.mono B0.size); clear ho1; have B0 := B0.trans (hb2.mono B0.size)) | (go_at_call 87; refine (l03Make_n _ _ _ _ _ z Ho.out HN HSG).mono ?_; rintro e w3 ⟨vr, rfl, ho2, hb3⟩; have q0 := keep_frozen (w1 := w3) hb3 c2_0 q0; have c2_0 := keep_cell (w1 := w3) hb3 c2_0; have q1 := keep_frozen (w1 := w3) hb3 c2_1 q1; have c2_1 := keep_cell (w1 := w3) hb3 c2_1; have Hv := Lib.hid (Hv.out.below hb3 (Nat.le_refl _)); have Hu := Lib.hid (Hu.out.below hb3 (Nat.le_refl _)); (try (have Ho := Lib.hid (Ho.out.below hb3 (Nat.le_refl _)))); have Hr := Lib.hid (ho2.mono B0.size); clear ho2; obtain ⟨ar, cr, rfl, -, -, -, -, -⟩ := Hr.out.form; have B0 := B0.trans (hb3.mono B0.size)))
  go_wp2
  exact bodyPost_ret (v := .agg #[.bool (ng z), .slice ar (limbs z.natAbs).length cr]) (by simp [results, Try.results86, go_sem, c2_0, c2_1]) rfl (retG_end BW (by omega) hg0 B0 Hr.out)

theorem l03Add_c (w : World) (b1 b2 : Nat) (v1 v2 : Value) (x y : Int) (h1 : Own w b1 v1 (limbs x.natAbs)) (h2 : Own w b2 v2 (limbs y.natAbs)) (hs1 : (limbs x.natAbs).length ≤ 900) (hs2 : (limbs y.natAbs).length ≤ 900) (z : Int) (hz : z = fitZ (x + y)) :
    Calls Try.prog 86 #[.agg #[.bool (ng x), v1], .agg #[.bool (ng y), v2]] w (RetZ w z) := by
  by_cases hs : ng y = ng x
  · exact l03Add_same w b1 b2 v1 v2 x y h1 h2 hs1 hs2 z hz hs
  · by_cases hc : y.natAbs ≤ x.natAbs
    · exact l03Add_ge w b1 b2 v1 v2 x y h1 h2 hs1 hs2 z hz (fun e => hs e.symm) hc
    · exact l03Add_lt w b1 b2 v1 v2 x y h1 h2 hs1 hs2 z hz (fun e => hs e.symm) (by omega)

theorem fit_mul {z x y : Int} (hz : z = fitZ (x * y)) : z.natAbs = if (limbs (x.natAbs * y.natAbs)).length ≤ 60 then x.natAbs * y.natAbs else 0 := fit_hid hz (Int.natAbs_mul x y).symm

theorem l02Div_r (w : World) (b1 b2 : Nat) (v1 v2 : Value) (a b r : Nat) (h1 : Own w b1 v1 (limbs a)) (h2 : Own w b2 v2 (limbs b)) (hs1 : (limbs a).length ≤ 1000) (hs2 : (limbs b).length ≤ 900) (hb : 0 < b) (hr : Hid (r = a % b)) :
    Calls Try.prog 102 #[v1, v2] w (RetSS w (limbs (a / b)) (limbs r)) := by
  rw [hr.out]; exact l02Div_c w b1 b2 v1 v2 a b h1 h2 hs1 hs2 hb

end Go.Proofs.Ytcmhpdhcpkhejaa
