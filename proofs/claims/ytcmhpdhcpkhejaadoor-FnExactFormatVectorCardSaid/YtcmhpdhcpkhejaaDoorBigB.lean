/- The program's signed numbers. -/
import Derived.Test.YtcmhpdhcpkhejaaDoorBigA
import Derived.Test.YtcmhpdhcpkhejaaDoorToIntC
namespace Go.Proofs.YtcmhpdhcpkhejaaDoor
open Go.RowKit Lm

set_option maxHeartbeats 1000000 in
theorem bigIntOk_bad (w : World) (b1 : Nat) (s : Bool) (v1 : Value) (xs : List Int) (h1 : Own w b1 v1 xs) (hx : ¬ OkP xs) :
    Calls Tryd.prog 38 #[.agg #[.bool s, v1]] w (RetB w false) := by
  have BW : Below w.heap.size w (w.alloc (.cells #[.bool s, v1] 37)) := ((Below.refl w.heap.size w).alloc (Nat.le_refl _) _)
  obtain ⟨c0_0, c0_1⟩ : World.cell? (w.alloc (.cells #[.bool s, v1] 37)) ⟨w.heap.size, 0, none⟩ = some (.bool s) ∧ World.cell? (w.alloc (.cells #[.bool s, v1] 37)) ⟨w.heap.size, 1, none⟩ = some (v1) := by simp [go_sem]
  have Hv := Lib.hid (h1.below BW (Nat.le_refl _))
  clear h1
  have HX := Lib.hid hx
  clear hx
  go_enter Tryd.func38, Tryd.ntmps38
  go_wp2_with fail
  generalize (w.alloc (.cells #[.bool s, v1] 37)) = w0 at *
  have B0 := Below.refl w0.heap.size w0
  refine (natOk_f _ _ _ _ Hv.out HX.out).mono ?_
  rintro e w1 ⟨rfl, hb⟩
  replace c0_0 := keep_cell hb c0_0
  replace c0_1 := keep_cell hb c0_1
  replace Hv := Lib.hid (Hv.out.below hb (Nat.le_refl _))
  replace B0 := B0.trans (hb.mono B0.size)
  clear hb
  go_wp2
  go_ret
  exact retB rfl (BW.trans (B0.mono BW.size))

set_option maxHeartbeats 1000000 in
theorem bigIntOk_some (w : World) (b1 : Nat) (s : Bool) (v1 : Value) (xs : List Int) (h1 : Own w b1 v1 xs) (hx : OkP xs) (hl : xs ≠ []) :
    Calls Tryd.prog 38 #[.agg #[.bool s, v1]] w (RetB w true) := by
  obtain ⟨a1, c1, rfl, -, -, -, -, -⟩ := h1.form
  have BW : Below w.heap.size w (w.alloc (.cells #[.bool s, (.slice a1 xs.length c1)] 37)) := ((Below.refl w.heap.size w).alloc (Nat.le_refl _) _)
  obtain ⟨c0_0, c0_1⟩ : World.cell? (w.alloc (.cells #[.bool s, (.slice a1 xs.length c1)] 37)) ⟨w.heap.size, 0, none⟩ = some (.bool s) ∧ World.cell? (w.alloc (.cells #[.bool s, (.slice a1 xs.length c1)] 37)) ⟨w.heap.size, 1, none⟩ = some ((.slice a1 xs.length c1)) := by simp [go_sem]
  have Hv := Lib.hid (h1.below BW (Nat.le_refl _))
  clear h1
  have HX := Lib.hid hx
  clear hx
  have hl2 := List.length_pos_iff.2 hl
  have d1 : decide (0 < xs.length) = true := decide_eq_true hl2
  have d2 : decide ((0 : Int) < xs.length) = true := decide_eq_true (by omega)
  clear hl
  go_enter Tryd.func38, Tryd.ntmps38
  go_wp2_with fail
  generalize (w.alloc (.cells #[.bool s, (.slice a1 xs.length c1)] 37)) = w0 at *
  have B0 := Below.refl w0.heap.size w0
  refine (natOk_t _ _ _ _ Hv.out HX.out).mono ?_
  rintro e w1 ⟨rfl, hb⟩
  replace c0_0 := keep_cell hb c0_0
  replace c0_1 := keep_cell hb c0_1
  replace Hv := Lib.hid (Hv.out.below hb (Nat.le_refl _))
  replace B0 := B0.trans (hb.mono B0.size)
  clear hb
  go_wp2
  go_ret
  exact retB rfl (BW.trans (B0.mono BW.size))

set_option maxHeartbeats 1000000 in
theorem bigIntOk_none (w : World) (b1 : Nat) (s : Bool) (v1 : Value) (xs : List Int) (h1 : Own w b1 v1 xs) (hx : OkP xs) (hl : xs = []) :
    Calls Tryd.prog 38 #[.agg #[.bool s, v1]] w (RetB w (!s)) := by
  subst hl
  obtain ⟨a1, c1, rfl, -, -, -, -, -⟩ := h1.form
  have BW : Below w.heap.size w (w.alloc (.cells #[.bool s, (.slice a1 ([] : List Int).length c1)] 37)) := ((Below.refl w.heap.size w).alloc (Nat.le_refl _) _)
  obtain ⟨c0_0, c0_1⟩ : World.cell? (w.alloc (.cells #[.bool s, (.slice a1 ([] : List Int).length c1)] 37)) ⟨w.heap.size, 0, none⟩ = some (.bool s) ∧ World.cell? (w.alloc (.cells #[.bool s, (.slice a1 ([] : List Int).length c1)] 37)) ⟨w.heap.size, 1, none⟩ = some ((.slice a1 ([] : List Int).length c1)) := by simp [go_sem]
  have Hv := Lib.hid (h1.below BW (Nat.le_refl _))
  clear h1
  have HX := Lib.hid hx
  clear hx
  have d1 : decide (0 < ([] : List Int).length) = false := rfl
  have d2 : decide ((0 : Int) < ([] : List Int).length) = false := rfl
  go_enter Tryd.func38, Tryd.ntmps38
  go_wp2_with fail
  generalize (w.alloc (.cells #[.bool s, (.slice a1 ([] : List Int).length c1)] 37)) = w0 at *
  have B0 := Below.refl w0.heap.size w0
  refine (natOk_t _ _ _ _ Hv.out HX.out).mono ?_
  rintro e w1 ⟨rfl, hb⟩
  replace c0_0 := keep_cell hb c0_0
  replace c0_1 := keep_cell hb c0_1
  replace Hv := Lib.hid (Hv.out.below hb (Nat.le_refl _))
  replace B0 := B0.trans (hb.mono B0.size)
  clear hb
  go_wp2
  go_ret
  exact retB rfl (BW.trans (B0.mono BW.size))

theorem bigIntOk_t (w : World) (b1 : Nat) (s : Bool) (v1 : Value) (xs : List Int) (h1 : Own w b1 v1 xs) (h : OkG s xs) : Calls Tryd.prog 38 #[.agg #[.bool s, v1]] w (RetB w true) := by
  by_cases hl : xs = []
  · obtain rfl := h.2 hl
    exact bigIntOk_none w b1 false v1 xs h1 h.1 hl
  · exact bigIntOk_some w b1 s v1 xs h1 h.1 hl
theorem bigIntOk_f (w : World) (b1 : Nat) (s : Bool) (v1 : Value) (xs : List Int) (h1 : Own w b1 v1 xs) (h : ¬ OkG s xs) : Calls Tryd.prog 38 #[.agg #[.bool s, v1]] w (RetB w false) := by
  by_cases hx : OkP xs
  · by_cases hl : xs = []
    · obtain rfl : s = true := by
        cases s with
        | true => rfl
        | false => exact absurd ⟨hx, fun _ => rfl⟩ h
      exact bigIntOk_none w b1 true v1 xs h1 hx hl
    · exact absurd ⟨hx, fun e => absurd e hl⟩ h
  · exact bigIntOk_bad w b1 s v1 xs h1 hx
theorem bigIntOk_z (w : World) (b1 : Nat) (v1 : Value) (z : Int) (h1 : Own w b1 v1 (limbs z.natAbs)) (h : (limbs z.natAbs).length ≤ 60) : Calls Tryd.prog 38 #[.agg #[.bool (ng z), v1]] w (RetB w true) :=
  bigIntOk_t w b1 _ v1 _ h1 (okG_of z h)

theorem neg_ng {x z : Int} (h : z = -x) : z ≠ 0 → (!(ng x)) = ng z := by
  subst h
  intro h
  by_cases h1 : x < 0
  · rw [ng_neg h1, ng_nonneg (by omega)]; rfl
  · rw [ng_nonneg (by omega), ng_neg (by omega)]; rfl

theorem ng_iff {x : Int} : ng x = true ↔ x < 0 := by simp [ng]
theorem ng_iff' {x : Int} : ng x = false ↔ 0 ≤ x := by simp [ng]
theorem ng_cases (x : Int) : (x < 0 ∧ ng x = true) ∨ (0 ≤ x ∧ ng x = false) := by
  by_cases h : x < 0
  · exact .inl ⟨h, ng_neg h⟩
  · exact .inr ⟨by omega, ng_nonneg (by omega)⟩
theorem add_same_n {x y z : Int} (hz : z = x + y) (hs : ng y = ng x) : x.natAbs + y.natAbs = z.natAbs := by
  rcases ng_cases x with ⟨h1, e1⟩ | ⟨h1, e1⟩ <;> rcases ng_cases y with ⟨h2, e2⟩ | ⟨h2, e2⟩ <;> rw [e1, e2] at hs <;> first | exact Bool.noConfusion hs | rfl | (exfalso; omega) | omega
theorem add_same_s {x y z : Int} (hz : z = x + y) (hs : ng y = ng x) (_h0 : z ≠ 0) : ng x = ng z := by
  rcases ng_cases x with ⟨h1, e1⟩ | ⟨h1, e1⟩ <;> rcases ng_cases y with ⟨h2, e2⟩ | ⟨h2, e2⟩ <;> rcases ng_cases z with ⟨h3, e3⟩ | ⟨h3, e3⟩ <;> rw [e1, e2] at hs <;> rw [e1, e3] <;> first | exact Bool.noConfusion hs | rfl | (exfalso; omega) | omega
theorem add_ge_n {x y z : Int} (hz : z = x + y) (hs : ng x ≠ ng y) (hc : y.natAbs ≤ x.natAbs) : x.natAbs - y.natAbs = z.natAbs := by
  rcases ng_cases x with ⟨h1, e1⟩ | ⟨h1, e1⟩ <;> rcases ng_cases y with ⟨h2, e2⟩ | ⟨h2, e2⟩ <;> rw [e1, e2] at hs <;> first | exact absurd rfl hs | rfl | (exfalso; omega) | omega
theorem add_ge_s {x y z : Int} (hz : z = x + y) (hs : ng x ≠ ng y) (hc : y.natAbs ≤ x.natAbs) (h0 : z ≠ 0) : ng x = ng z := by
  rcases ng_cases x with ⟨h1, e1⟩ | ⟨h1, e1⟩ <;> rcases ng_cases y with ⟨h2, e2⟩ | ⟨h2, e2⟩ <;> rcases ng_cases z with ⟨h3, e3⟩ | ⟨h3, e3⟩ <;> rw [e1, e2] at hs <;> rw [e1, e3] <;> first | exact absurd rfl hs | rfl | (exfalso; omega) | omega
theorem add_lt_n {x y z : Int} (hz : z = x + y) (hs : ng x ≠ ng y) (hc : x.natAbs < y.natAbs) : y.natAbs - x.natAbs = z.natAbs := by
  rcases ng_cases x with ⟨h1, e1⟩ | ⟨h1, e1⟩ <;> rcases ng_cases y with ⟨h2, e2⟩ | ⟨h2, e2⟩ <;> rw [e1, e2] at hs <;> first | exact absurd rfl hs | rfl | (exfalso; omega) | omega
theorem add_lt_s {x y z : Int} (hz : z = x + y) (hs : ng x ≠ ng y) (hc : x.natAbs < y.natAbs) (h0 : z ≠ 0) : ng y = ng z := by
  rcases ng_cases x with ⟨h1, e1⟩ | ⟨h1, e1⟩ <;> rcases ng_cases y with ⟨h2, e2⟩ | ⟨h2, e2⟩ <;> rcases ng_cases z with ⟨h3, e3⟩ | ⟨h3, e3⟩ <;> rw [e1, e2] at hs <;> rw [e2, e3] <;> first | exact absurd rfl hs | rfl | (exfalso; omega) | omega
theorem ne_xor {x y : Int} : (ng x != ng y) = (ng x ^^ ng y) := by cases ng x <;> cases ng y <;> rfl
theorem mul_s {x y z : Int} (hz : z = x * y) (h0 : z ≠ 0) : (ng x != ng y) = ng z := by
  subst hz
  have hx : x ≠ 0 := fun h => h0 (by rw [h, Int.zero_mul])
  have hy : y ≠ 0 := fun h => h0 (by rw [h, Int.mul_zero])
  rcases ng_cases x with ⟨h1, e1⟩ | ⟨h1, e1⟩ <;> rcases ng_cases y with ⟨h2, e2⟩ | ⟨h2, e2⟩ <;> rw [e1, e2]
  · rw [ng_nonneg (Int.le_of_lt (Int.mul_pos_of_neg_of_neg h1 h2))]; rfl
  · rw [ng_neg (Int.mul_neg_of_neg_of_pos h1 (by omega))]; rfl
  · rw [ng_neg (Int.mul_neg_of_pos_of_neg (by omega) h2)]; rfl
  · rw [ng_nonneg (Int.mul_nonneg h1 h2)]; rfl

end Go.Proofs.YtcmhpdhcpkhejaaDoor
