/- The reference's signed numbers. -/
import Derived.Test.YtcmhpdhcpkhejaaDoorBigD
namespace Go.Proofs.YtcmhpdhcpkhejaaDoor
open Go.RowKit Lm

set_option maxHeartbeats 1000000 in
theorem sBigIntOk_bad (w : World) (b1 : Nat) (s : Bool) (v1 : Value) (xs : List Int) (h1 : Own w b1 v1 xs) (hx : ¬ OkP xs) :
    Calls Tryd.prog 33 #[.agg #[.bool s, v1]] w (RetB w false) := by
  have BW : Below w.heap.size w (w.alloc (.cells #[.bool s, v1] 37)) := ((Below.refl w.heap.size w).alloc (Nat.le_refl _) _)
  obtain ⟨c0_0, c0_1⟩ : World.cell? (w.alloc (.cells #[.bool s, v1] 37)) ⟨w.heap.size, 0, none⟩ = some (.bool s) ∧ World.cell? (w.alloc (.cells #[.bool s, v1] 37)) ⟨w.heap.size, 1, none⟩ = some (v1) := by simp [go_sem]
  have Hv := Lib.hid (h1.below BW (Nat.le_refl _))
  clear h1
  have HX := Lib.hid hx
  clear hx
  go_enter Tryd.func33, Tryd.ntmps33
  go_wp2_with fail
  generalize (w.alloc (.cells #[.bool s, v1] 37)) = w0 at *
  have B0 := Below.refl w0.heap.size w0
  refine (specNatOk_f _ _ _ _ Hv.out HX.out).mono ?_
  rintro e w1 ⟨rfl, hb⟩
  replace c0_0 := keep_cell hb c0_0
  replace c0_1 := keep_cell hb c0_1
  replace Hv := Lib.hid (Hv.out.below hb (Nat.le_refl _))
  replace B0 := B0.trans (hb.mono B0.size)
  clear hb
  go_wp2
  go_ret
  exact retB rfl (BW.trans (B0.mono BW.size))

set_option maxHeartbeats 1000000 in
theorem sBigIntOk_pos (w : World) (b1 : Nat) (v1 : Value) (xs : List Int) (h1 : Own w b1 v1 xs) (hx : OkP xs) :
    Calls Tryd.prog 33 #[.agg #[.bool false, v1]] w (RetB w true) := by
  have BW : Below w.heap.size w (w.alloc (.cells #[.bool false, v1] 37)) := ((Below.refl w.heap.size w).alloc (Nat.le_refl _) _)
  obtain ⟨c0_0, c0_1⟩ : World.cell? (w.alloc (.cells #[.bool false, v1] 37)) ⟨w.heap.size, 0, none⟩ = some (.bool false) ∧ World.cell? (w.alloc (.cells #[.bool false, v1] 37)) ⟨w.heap.size, 1, none⟩ = some (v1) := by simp [go_sem]
  have Hv := Lib.hid (h1.below BW (Nat.le_refl _))
  clear h1
  have HX := Lib.hid hx
  clear hx
  go_enter Tryd.func33, Tryd.ntmps33
  go_wp2_with fail
  generalize (w.alloc (.cells #[.bool false, v1] 37)) = w0 at *
  have B0 := Below.refl w0.heap.size w0
  refine (specNatOk_t _ _ _ _ Hv.out HX.out).mono ?_
  rintro e w1 ⟨rfl, hb⟩
  replace c0_0 := keep_cell hb c0_0
  replace c0_1 := keep_cell hb c0_1
  replace Hv := Lib.hid (Hv.out.below hb (Nat.le_refl _))
  replace B0 := B0.trans (hb.mono B0.size)
  clear hb
  go_wp2
  go_ret
  exact retB rfl (BW.trans (B0.mono BW.size))

set_option maxHeartbeats 1000000 in
theorem sBigIntOk_some (w : World) (b1 : Nat) (v1 : Value) (xs : List Int) (h1 : Own w b1 v1 xs) (hx : OkP xs) (hl : xs ≠ []) :
    Calls Tryd.prog 33 #[.agg #[.bool true, v1]] w (RetB w true) := by
  obtain ⟨a1, c1, rfl, -, -, -, -, -⟩ := h1.form
  have BW : Below w.heap.size w (w.alloc (.cells #[.bool true, (.slice a1 xs.length c1)] 37)) := ((Below.refl w.heap.size w).alloc (Nat.le_refl _) _)
  obtain ⟨c0_0, c0_1⟩ : World.cell? (w.alloc (.cells #[.bool true, (.slice a1 xs.length c1)] 37)) ⟨w.heap.size, 0, none⟩ = some (.bool true) ∧ World.cell? (w.alloc (.cells #[.bool true, (.slice a1 xs.length c1)] 37)) ⟨w.heap.size, 1, none⟩ = some ((.slice a1 xs.length c1)) := by simp [go_sem]
  have Hv := Lib.hid (h1.below BW (Nat.le_refl _))
  clear h1
  have HX := Lib.hid hx
  clear hx
  have hl2 := List.length_pos_iff.2 hl
  have d1 : decide (0 < xs.length) = true := decide_eq_true hl2
  have d2 : decide ((0 : Int) < xs.length) = true := decide_eq_true (by omega)
  clear hl
  go_enter Tryd.func33, Tryd.ntmps33
  go_wp2_with fail
  generalize (w.alloc (.cells #[.bool true, (.slice a1 xs.length c1)] 37)) = w0 at *
  have B0 := Below.refl w0.heap.size w0
  refine (specNatOk_t _ _ _ _ Hv.out HX.out).mono ?_
  rintro e w1 ⟨rfl, hb⟩
  replace c0_0 := keep_cell hb c0_0
  replace c0_1 := keep_cell hb c0_1
  replace Hv := Lib.hid (Hv.out.below hb (Nat.le_refl _))
  replace B0 := B0.trans (hb.mono B0.size)
  clear hb
  go_wp2
  go_ret
  exact retB rfl (BW.trans (B0.mono BW.size))

set_option maxHeartbeats 1000000 in
theorem sBigIntOk_none (w : World) (b1 : Nat) (v1 : Value) (xs : List Int) (h1 : Own w b1 v1 xs) (hx : OkP xs) (hl : xs = []) :
    Calls Tryd.prog 33 #[.agg #[.bool true, v1]] w (RetB w false) := by
  subst hl
  obtain ⟨a1, c1, rfl, -, -, -, -, -⟩ := h1.form
  have BW : Below w.heap.size w (w.alloc (.cells #[.bool true, (.slice a1 ([] : List Int).length c1)] 37)) := ((Below.refl w.heap.size w).alloc (Nat.le_refl _) _)
  obtain ⟨c0_0, c0_1⟩ : World.cell? (w.alloc (.cells #[.bool true, (.slice a1 ([] : List Int).length c1)] 37)) ⟨w.heap.size, 0, none⟩ = some (.bool true) ∧ World.cell? (w.alloc (.cells #[.bool true, (.slice a1 ([] : List Int).length c1)] 37)) ⟨w.heap.size, 1, none⟩ = some ((.slice a1 ([] : List Int).length c1)) := by simp [go_sem]
  have Hv := Lib.hid (h1.below BW (Nat.le_refl _))
  clear h1
  have HX := Lib.hid hx
  clear hx
  have d1 : decide (0 < ([] : List Int).length) = false := rfl
  have d2 : decide ((0 : Int) < ([] : List Int).length) = false := rfl
  go_enter Tryd.func33, Tryd.ntmps33
  go_wp2_with fail
  generalize (w.alloc (.cells #[.bool true, (.slice a1 ([] : List Int).length c1)] 37)) = w0 at *
  have B0 := Below.refl w0.heap.size w0
  refine (specNatOk_t _ _ _ _ Hv.out HX.out).mono ?_
  rintro e w1 ⟨rfl, hb⟩
  replace c0_0 := keep_cell hb c0_0
  replace c0_1 := keep_cell hb c0_1
  replace Hv := Lib.hid (Hv.out.below hb (Nat.le_refl _))
  replace B0 := B0.trans (hb.mono B0.size)
  clear hb
  go_wp2
  go_ret
  exact retB rfl (BW.trans (B0.mono BW.size))

theorem sBigIntOk_t (w : World) (b1 : Nat) (s : Bool) (v1 : Value) (xs : List Int) (h1 : Own w b1 v1 xs) (h : OkG s xs) : Calls Tryd.prog 33 #[.agg #[.bool s, v1]] w (RetB w true) := by
  cases s with
  | false => exact sBigIntOk_pos w b1 v1 xs h1 h.1
  | true => exact sBigIntOk_some w b1 v1 xs h1 h.1 (fun e => by have := h.2 e; cases this)
theorem sBigIntOk_f (w : World) (b1 : Nat) (s : Bool) (v1 : Value) (xs : List Int) (h1 : Own w b1 v1 xs) (h : ¬ OkG s xs) : Calls Tryd.prog 33 #[.agg #[.bool s, v1]] w (RetB w false) := by
  by_cases hx : OkP xs
  · by_cases hl : xs = []
    · obtain rfl : s = true := by
        cases s with
        | true => rfl
        | false => exact absurd ⟨hx, fun _ => rfl⟩ h
      exact sBigIntOk_none w b1 v1 xs h1 hx hl
    · exact absurd ⟨hx, fun e => absurd e hl⟩ h
  · exact sBigIntOk_bad w b1 s v1 xs h1 hx
theorem sBigIntOk_z (w : World) (b1 : Nat) (v1 : Value) (z : Int) (h1 : Own w b1 v1 (limbs z.natAbs)) (h : (limbs z.natAbs).length ≤ 60) : Calls Tryd.prog 33 #[.agg #[.bool (ng z), v1]] w (RetB w true) :=
  sBigIntOk_t w b1 _ v1 _ h1 (okG_of z h)
/-- One contract for both answers. -/
theorem sBigIntOk_c (w : World) (b1 : Nat) (s : Bool) (v1 : Value) (xs : List Int) (h1 : Own w b1 v1 xs) : Calls Tryd.prog 33 #[.agg #[.bool s, v1]] w (RetB w (okGB s xs)) := by
  by_cases h : OkG s xs
  · rw [show okGB s xs = true by simp [okGB, h]]; exact sBigIntOk_t w b1 s v1 xs h1 h
  · rw [show okGB s xs = false by simp [okGB, h]]; exact sBigIntOk_f w b1 s v1 xs h1 h
theorem bigIntOk_c (w : World) (b1 : Nat) (s : Bool) (v1 : Value) (xs : List Int) (h1 : Own w b1 v1 xs) : Calls Tryd.prog 38 #[.agg #[.bool s, v1]] w (RetB w (okGB s xs)) := by
  by_cases h : OkG s xs
  · rw [show okGB s xs = true by simp [okGB, h]]; exact bigIntOk_t w b1 s v1 xs h1 h
  · rw [show okGB s xs = false by simp [okGB, h]]; exact bigIntOk_f w b1 s v1 xs h1 h

theorem retZ_conv {w : World} {z : Int} {s : Bool} {f : FuncId} {args : Array Value} (e : ng z = s) (h : Calls Tryd.prog f args w (RetG w s (limbs z.natAbs))) : Calls Tryd.prog f args w (RetZ w z) := by
  subst e; exact h
theorem fit_hid {z x : Int} {n : Nat} (hz : z = fitZ x) (hn : n = x.natAbs) : z.natAbs = if (limbs n).length ≤ 60 then n else 0 := by
  subst hn; rw [hz]; unfold fitZ
  split
  · rfl
  · rfl
theorem fit_sg {z x : Int} {s : Bool} (hz : z = fitZ x) (hs : x ≠ 0 → s = ng x) (h0 : z ≠ 0) : s = ng z := by
  unfold fitZ at hz
  split at hz
  · subst hz; exact hs h0
  · exact absurd hz h0
theorem fit_len {z : Int} {n : Nat} (h : z.natAbs = n) (hl : (limbs n).length ≤ 60) : z.natAbs = if (limbs n).length ≤ 60 then n else 0 := by rw [if_pos hl]; exact h

theorem limbs_len_small {n : Nat} (h : n ≤ 9223372036854775808) : (limbs n).length ≤ 60 := by
  have := limbs_len_le (n := n) (k := 3)
  have h := this.2 (by simp only [pw]; omega)
  omega
theorem minLimbs : [(854775808 : Int), 223372036, 9] = limbs 9223372036854775808 := by
  refine Norm.limbs ⟨InR.cons (by omega) (by omega) (InR.cons (by omega) (by omega) (InR.cons (by omega) (by omega) InR.nil)), .inr ?_⟩ ?_
  · decide
  · decide
theorem own_min (w : World) : Own (w.alloc (.cells #[.int .i64 854775808, .int .i64 223372036, .int .i64 9] 3)) w.heap.size (.slice (some ⟨w.heap.size, 0, none⟩) 3 3) (limbs 9223372036854775808) := by
  rw [← minLimbs]; exact Own.lit3 w _ _ _
theorem own_minN (w : World) (N g : Nat) (hN : Hid (N = 9223372036854775808)) (hg : Hid (w.heap.size = g)) : Own (w.alloc (.cells #[.int .i64 854775808, .int .i64 223372036, .int .i64 9] 3)) w.heap.size (.slice (some ⟨g, 0, none⟩) 3 3) (limbs N) := by
  rw [hN.out, ← hg.out]; exact own_min w

theorem specNatOf_m (w : World) (m k : Int) (hm : m ≤ 9223372036854775807) (hk : Hid (k = m)) : Calls Tryd.prog 57 #[.int .i64 k] w (RetS w (limbs m.toNat)) := by
  rw [hk.out]; exact specNatOf_c w m hm

theorem sToInt_no (w : World) (b1 : Nat) (v1 : Value) (xs : List Int) (h1 : Own w b1 v1 xs) (h : ¬ (OkP xs ∧ nv xs ≤ 9223372036854775807)) : Calls Tryd.prog 47 #[v1] w (RetIB w 0 false) := by
  obtain ⟨e1, e2⟩ := toInt_no h
  have h2 := specNatToInt_c w b1 v1 xs h1
  rw [e1, e2] at h2
  exact h2
theorem sToInt_nil (w : World) (b1 : Nat) (v1 : Value) (h1 : Own w b1 v1 []) : Calls Tryd.prog 47 #[v1] w (RetIB w 0 true) := by
  exact specNatToInt_ok w b1 v1 0 h1 (by omega)

theorem fit_mul {z x y : Int} (hz : z = fitZ (x * y)) : z.natAbs = if (limbs (x.natAbs * y.natAbs)).length ≤ 60 then x.natAbs * y.natAbs else 0 := fit_hid hz (Int.natAbs_mul x y).symm

theorem l02Div_r (w : World) (b1 b2 : Nat) (v1 v2 : Value) (a b r : Nat) (h1 : Own w b1 v1 (limbs a)) (h2 : Own w b2 v2 (limbs b)) (hs1 : (limbs a).length ≤ 1000) (hs2 : (limbs b).length ≤ 900) (hb : 0 < b) (hr : Hid (r = a % b)) :
    Calls Tryd.prog 49 #[v1, v2] w (RetSS w (limbs (a / b)) (limbs r)) := by
  rw [hr.out]; exact l02Div_c w b1 b2 v1 v2 a b h1 h2 hs1 hs2 hb

end Go.Proofs.YtcmhpdhcpkhejaaDoor
