/- The program's signed numbers. -/
import Derived.Test.YtcmhpdhcpkhejaaBigA
import Derived.Test.YtcmhpdhcpkhejaaToIntC
namespace Go.Proofs.Ytcmhpdhcpkhejaa
open Go.RowKit Lm

theorem signed_some (w : World) (b1 : Nat) (s : Bool) (v1 : Value) (xs : List Int) (h1 : Own w b1 v1 xs) (hx : xs ≠ []) :
    Calls Try.prog 109 #[.bool s, v1] w (RetGV w b1 v1 s xs) := by
  have hl : 0 < xs.length := List.length_pos_iff.2 hx
  obtain ⟨a1, c1, rfl, -, -, -, -, -⟩ := h1.form
  have d1 : (xs.length == 0) = false := beq_eq_false_iff_ne.2 (by omega)
  have d2 : ((xs.length : Int) == 0) = false := beq_eq_false_iff_ne.2 (by omega)
  have H1 := Lib.hid h1
  clear h1 hx
  go_enter Try.func109, Try.ntmps109
  go_wp2
  exact bodyPost_ret (v := .agg #[.bool s, .slice a1 xs.length c1]) (by simp [results, Try.results109, go_sem]) rfl ⟨_, rfl, H1.out.alloc _, .inr rfl, (Below.refl _ _).alloc (Nat.le_refl _) _⟩
theorem signed_nil (w : World) (b1 : Nat) (s : Bool) (v1 : Value) (h1 : Own w b1 v1 []) :
    Calls Try.prog 109 #[.bool s, v1] w (RetGV w b1 v1 false []) := by
  obtain ⟨a1, c1, rfl, -, -, -, -, -⟩ := h1.form
  have d1 : (([] : List Int).length == 0) = true := rfl
  have d2 : ((([] : List Int).length : Int) == 0) = true := rfl
  clear h1
  go_enter Try.func109, Try.ntmps109
  go_wp2
  exact bodyPost_ret (v := .agg #[.bool false, .slice none 0 0]) (by simp [results, Try.results109, go_sem]) rfl ⟨_, rfl, Own.nil _ _, .inl rfl, (Below.refl _ _).alloc (Nat.le_refl _) _⟩
theorem signed_z (w : World) (b1 : Nat) (s : Bool) (v1 : Value) (z : Int) (h1 : Own w b1 v1 (limbs z.natAbs)) (hs : z ≠ 0 → s = ng z) :
    Calls Try.prog 109 #[.bool s, v1] w (RetZV w b1 v1 z) := by
  by_cases h : z = 0
  · subst h
    exact signed_nil w b1 s v1 h1
  · rw [hs h]
    exact signed_some w b1 _ v1 _ h1 (fun e => by rw [limbs_nil] at e; omega)

set_option maxHeartbeats 1000000 in
theorem bigIntOk_bad (w : World) (b1 : Nat) (s : Bool) (v1 : Value) (xs : List Int) (h1 : Own w b1 v1 xs) (hx : ¬ OkP xs) :
    Calls Try.prog 77 #[.agg #[.bool s, v1]] w (RetB w false) := by
  have BW : Below w.heap.size w (w.alloc (.cells #[.bool s, v1] 43)) := ((Below.refl w.heap.size w).alloc (Nat.le_refl _) _)
  obtain ⟨c0_0, c0_1⟩ : World.cell? (w.alloc (.cells #[.bool s, v1] 43)) ⟨w.heap.size, 0, none⟩ = some (.bool s) ∧ World.cell? (w.alloc (.cells #[.bool s, v1] 43)) ⟨w.heap.size, 1, none⟩ = some (v1) := by simp [go_sem]
  have Hv := Lib.hid (h1.below BW (Nat.le_refl _))
  clear h1
  have HX := Lib.hid hx
  clear hx
  go_enter Try.func77, Try.ntmps77
  go_wp2_with fail
  generalize (w.alloc (.cells #[.bool s, v1] 43)) = w0 at *
  have B0 := Below.refl w0.heap.size w0
  refine (natOk_f _ _ _ _ Hv.out HX.out).mono ?_
  rintro e w1 ⟨rfl, hb⟩
  replace c0_0 := keep_cell hb c0_0
  replace c0_1 := keep_cell hb c0_1
  replace Hv := Lib.hid (Hv.out.below hb (Nat.le_refl _))
  replace B0 := B0.trans (hb.mono B0.size)
  clear hb
  go_wp2
  go_ret
  exact retB rfl (BW.trans (B0.mono BW.size))

set_option maxHeartbeats 1000000 in
theorem bigIntOk_some (w : World) (b1 : Nat) (s : Bool) (v1 : Value) (xs : List Int) (h1 : Own w b1 v1 xs) (hx : OkP xs) (hl : xs ≠ []) :
    Calls Try.prog 77 #[.agg #[.bool s, v1]] w (RetB w true) := by
  obtain ⟨a1, c1, rfl, -, -, -, -, -⟩ := h1.form
  have BW : Below w.heap.size w (w.alloc (.cells #[.bool s, (.slice a1 xs.length c1)] 43)) := ((Below.refl w.heap.size w).alloc (Nat.le_refl _) _)
  obtain ⟨c0_0, c0_1⟩ : World.cell? (w.alloc (.cells #[.bool s, (.slice a1 xs.length c1)] 43)) ⟨w.heap.size, 0, none⟩ = some (.bool s) ∧ World.cell? (w.alloc (.cells #[.bool s, (.slice a1 xs.length c1)] 43)) ⟨w.heap.size, 1, none⟩ = some ((.slice a1 xs.length c1)) := by simp [go_sem]
  have Hv := Lib.hid (h1.below BW (Nat.le_refl _))
  clear h1
  have HX := Lib.hid hx
  clear hx
  have hl2 := List.length_pos_iff.2 hl
  have d1 : decide (0 < xs.length) = true := decide_eq_true hl2
  have d2 : decide ((0 : Int) < xs.length) = true := decide_eq_true (by omega)
  clear hl
  go_enter Try.func77, Try.ntmps77
  go_wp2_with fail
  generalize (w.alloc (.cells #[.bool s, (.slice a1 xs.length c1)] 43)) = w0 at *
  have B0 := Below.refl w0.heap.size w0
  refine (natOk_t _ _ _ _ Hv.out HX.out).mono ?_
  rintro e w1 ⟨rfl, hb⟩
  replace c0_0 := keep_cell hb c0_0
  replace c0_1 := keep_cell hb c0_1
  replace Hv := Lib.hid (Hv.out.below hb (Nat.le_refl _))
  replace B0 := B0.trans (hb.mono B0.size)
  clear hb
  go_wp2
  go_ret
  exact retB rfl (BW.trans (B0.mono BW.size))

set_option maxHeartbeats 1000000 in
theorem bigIntOk_none (w : World) (b1 : Nat) (s : Bool) (v1 : Value) (xs : List Int) (h1 : Own w b1 v1 xs) (hx : OkP xs) (hl : xs = []) :
    Calls Try.prog 77 #[.agg #[.bool s, v1]] w (RetB w (!s)) := by
  subst hl
  obtain ⟨a1, c1, rfl, -, -, -, -, -⟩ := h1.form
  have BW : Below w.heap.size w (w.alloc (.cells #[.bool s, (.slice a1 ([] : List Int).length c1)] 43)) := ((Below.refl w.heap.size w).alloc (Nat.le_refl _) _)
  obtain ⟨c0_0, c0_1⟩ : World.cell? (w.alloc (.cells #[.bool s, (.slice a1 ([] : List Int).length c1)] 43)) ⟨w.heap.size, 0, none⟩ = some (.bool s) ∧ World.cell? (w.alloc (.cells #[.bool s, (.slice a1 ([] : List Int).length c1)] 43)) ⟨w.heap.size, 1, none⟩ = some ((.slice a1 ([] : List Int).length c1)) := by simp [go_sem]
  have Hv := Lib.hid (h1.below BW (Nat.le_refl _))
  clear h1
  have HX := Lib.hid hx
  clear hx
  have d1 : decide (0 < ([] : List Int).length) = false := rfl
  have d2 : decide ((0 : Int) < ([] : List Int).length) = false := rfl
  go_enter Try.func77, Try.ntmps77
  go_wp2_with fail
  generalize (w.alloc (.cells #[.bool s, (.slice a1 ([] : List Int).length c1)] 43)) = w0 at *
  have B0 := Below.refl w0.heap.size w0
  refine (natOk_t _ _ _ _ Hv.out HX.out).mono ?_
  rintro e w1 ⟨rfl, hb⟩
  replace c0_0 := keep_cell hb c0_0
  replace c0_1 := keep_cell hb c0_1
  replace Hv := Lib.hid (Hv.out.below hb (Nat.le_refl _))
  replace B0 := B0.trans (hb.mono B0.size)
  clear hb
  go_wp2
  go_ret
  exact retB rfl (BW.trans (B0.mono BW.size))

theorem bigIntOk_t (w : World) (b1 : Nat) (s : Bool) (v1 : Value) (xs : List Int) (h1 : Own w b1 v1 xs) (h : OkG s xs) : Calls Try.prog 77 #[.agg #[.bool s, v1]] w (RetB w true) := by
  by_cases hl : xs = []
  · obtain rfl := h.2 hl
    exact bigIntOk_none w b1 false v1 xs h1 h.1 hl
  · exact bigIntOk_some w b1 s v1 xs h1 h.1 hl
theorem bigIntOk_f (w : World) (b1 : Nat) (s : Bool) (v1 : Value) (xs : List Int) (h1 : Own w b1 v1 xs) (h : ¬ OkG s xs) : Calls Try.prog 77 #[.agg #[.bool s, v1]] w (RetB w false) := by
  by_cases hx : OkP xs
  · by_cases hl : xs = []
    · obtain rfl : s = true := by
        cases s with
        | true => rfl
        | false => exact absurd ⟨hx, fun _ => rfl⟩ h
      exact bigIntOk_none w b1 true v1 xs h1 hx hl
    · exact absurd ⟨hx, fun e => absurd e hl⟩ h
  · exact bigIntOk_bad w b1 s v1 xs h1 hx
theorem bigIntOk_z (w : World) (b1 : Nat) (v1 : Value) (z : Int) (h1 : Own w b1 v1 (limbs z.natAbs)) (h : (limbs z.natAbs).length ≤ 60) : Calls Try.prog 77 #[.agg #[.bool (ng z), v1]] w (RetB w true) :=
  bigIntOk_t w b1 _ v1 _ h1 (okG_of z h)

theorem signed_zz (w : World) (b1 : Nat) (s : Bool) (v1 : Value) (n : Nat) (z : Int) (h1 : Own w b1 v1 (limbs n)) (hn : Hid (n = z.natAbs)) (hs : Hid (z ≠ 0 → s = ng z)) :
    Calls Try.prog 109 #[.bool s, v1] w (RetZV w b1 v1 z) := by
  have h := hn.out
  subst h
  exact signed_z w b1 s v1 z h1 hs.out
theorem neg_ng {x z : Int} (h : z = -x) : z ≠ 0 → (!(ng x)) = ng z := by
  subst h
  intro h
  by_cases h1 : x < 0
  · rw [ng_neg h1, ng_nonneg (by omega)]; rfl
  · rw [ng_nonneg (by omega), ng_neg (by omega)]; rfl

set_option maxHeartbeats 1000000 in
theorem bigNeg_c (w : World) (b1 : Nat) (v1 : Value) (x : Int) (h1 : Own w b1 v1 (limbs x.natAbs)) (hs1 : (limbs x.natAbs).length ≤ 900) (z : Int) (hz : z = -x) :
    Calls Try.prog 114 #[.agg #[.bool (ng x), v1]] w (RetZ w z) := by
  have BW : Below w.heap.size w ((w.alloc (.cells #[.bool (ng x), v1] 43)).alloc (.cells #[.bool false, .slice none 0 0] 43)) := (((Below.refl w.heap.size w).alloc (Nat.le_refl _) _).alloc (by simp) _)
  obtain ⟨c0_0, c0_1, c1_0, c1_1, q0, q1⟩ : World.cell? ((w.alloc (.cells #[.bool (ng x), v1] 43)).alloc (.cells #[.bool false, .slice none 0 0] 43)) ⟨w.heap.size, 0, none⟩ = some (.bool (ng x)) ∧ World.cell? ((w.alloc (.cells #[.bool (ng x), v1] 43)).alloc (.cells #[.bool false, .slice none 0 0] 43)) ⟨w.heap.size, 1, none⟩ = some (v1) ∧ World.cell? ((w.alloc (.cells #[.bool (ng x), v1] 43)).alloc (.cells #[.bool false, .slice none 0 0] 43)) ⟨w.heap.size + 1, 0, none⟩ = some (.bool false) ∧ World.cell? ((w.alloc (.cells #[.bool (ng x), v1] 43)).alloc (.cells #[.bool false, .slice none 0 0] 43)) ⟨w.heap.size + 1, 1, none⟩ = some (.slice none 0 0) ∧ World.frozen? ((w.alloc (.cells #[.bool (ng x), v1] 43)).alloc (.cells #[.bool false, .slice none 0 0] 43)) ⟨w.heap.size + 1, 0, none⟩ = false ∧ World.frozen? ((w.alloc (.cells #[.bool (ng x), v1] 43)).alloc (.cells #[.bool false, .slice none 0 0] 43)) ⟨w.heap.size + 1, 1, none⟩ = false := by simp [go_sem]
  have hg0 : w.heap.size + 1 < (((w.alloc (.cells #[.bool (ng x), v1] 43)).alloc (.cells #[.bool false, .slice none 0 0] 43))).heap.size := World.block_lt_of_cell? _ _ c1_0
  have Hv := Lib.hid (h1.below BW (Nat.le_refl _))
  clear h1
  have HN : Hid (x.natAbs = z.natAbs) := by unfold Hid; rw [hz]; omega
  have HSG := Lib.hid (neg_ng hz)
  clear hz
  go_enter Try.func114, Try.ntmps114
  go_wp2_with fail
  generalize ((w.alloc (.cells #[.bool (ng x), v1] 43)).alloc (.cells #[.bool false, .slice none 0 0] 43)) = w0 at *
  have B0 := Below.refl w0.heap.size w0
  replace Hv := Lib.hid Hv.out.drew
  replace B0 := below_drew B0
  replace q0 := frozen_drew q0
  replace c1_0 := cell_drew c1_0
  replace q1 := frozen_drew q1
  replace c1_1 := cell_drew c1_1
  go_region_held3 (fun w' => w'.cell? ⟨w.heap.size, 0, none⟩ = some (.bool (ng x)) ∧ w'.cell? ⟨w.heap.size, 1, none⟩ = some (v1)) (first | exact ⟨c0_0, c0_1⟩ | (go_split_ands; exact ⟨keep_cell hb2 ‹_›, keep_cell hb2 ‹_›⟩) | (go_split_ands; exact ⟨keep_cell hb1 ‹_›, keep_cell hb1 ‹_›⟩) | (go_split_ands; exact ⟨(set_far (set_far ‹_› (by dsimp only; omega)) (by dsimp only; omega)), (set_far (set_far ‹_› (by dsimp only; omega)) (by dsimp only; omega))⟩) | (go_split_ands; exact ⟨(set_far (set_far (set_far ‹_› (by dsimp only; omega)) (by dsimp only; omega)) (by dsimp only; omega)), (set_far (set_far (set_far ‹_› (by dsimp only; omega)) (by dsimp only; omega)) (by dsimp only; omega))⟩) | (go_split_ands; exact ⟨(set_far ‹_› (by dsimp only; omega)), (set_far ‹_› (by dsimp only; omega))⟩) | go_keep)
    (first | (go_at_call 92; refine (copyInts_c _ _ _ _ Hv.out (by omega)).mono ?_; rintro e w1 ⟨vu, rfl, ho1, hb1⟩; have q0 := keep_frozen (w1 := w1) hb1 c1_0 q0; have c1_0 := keep_cell (w1 := w1) hb1 c1_0; have q1 := keep_frozen (w1 := w1) hb1 c1_1 q1; have c1_1 := keep_cell (w1 := w1) hb1 c1_1; have Hv := Lib.hid (Hv.out.below hb1 (Nat.le_refl _)); (try (have Hr := Lib.hid (Hr.out.below hb1 (Nat.le_refl _)))); have Hu := Lib.hid (ho1.mono B0.size); clear ho1; have B0 := B0.trans (hb1.mono B0.size)) | (go_at_call 109; refine (signed_zz _ _ _ _ x.natAbs z Hu.out HN HSG).mono ?_; rintro e w2 ⟨vr, rfl, ho2, hp, hb2⟩; have q0 := keep_frozen (w1 := w2) hb2 c1_0 q0; have c1_0 := keep_cell (w1 := w2) hb2 c1_0; have q1 := keep_frozen (w1 := w2) hb2 c1_1 q1; have c1_1 := keep_cell (w1 := w2) hb2 c1_1; have Hv := Lib.hid (Hv.out.below hb2 (Nat.le_refl _)); (try (have Hu := Lib.hid (Hu.out.below hb2 (Nat.le_refl _)))); have Hr := Lib.hid ho2; clear ho2; obtain ⟨ar, cr, rfl, -, -, -, -, -⟩ := Hr.out.form; have B0 := B0.trans (hb2.mono B0.size)))
  go_wp2
  exact bodyPost_ret (v := .agg #[.bool (ng z), .slice ar (limbs z.natAbs).length cr]) (by simp [results, Try.results114, go_sem, c1_0, c1_1]) rfl (retG_end BW (by omega) hg0 B0 Hr.out)

theorem ng_iff {x : Int} : ng x = true ↔ x < 0 := by simp [ng]
theorem ng_iff' {x : Int} : ng x = false ↔ 0 ≤ x := by simp [ng]
theorem ng_cases (x : Int) : (x < 0 ∧ ng x = true) ∨ (0 ≤ x ∧ ng x = false) := by
  by_cases h : x < 0
  · exact .inl ⟨h, ng_neg h⟩
  · exact .inr ⟨by omega, ng_nonneg (by omega)⟩
theorem add_same_n {x y z : Int} (hz : z = x + y) (hs : ng y = ng x) : x.natAbs + y.natAbs = z.natAbs := by
  rcases ng_cases x with ⟨h1, e1⟩ | ⟨h1, e1⟩ <;> rcases ng_cases y with ⟨h2, e2⟩ | ⟨h2, e2⟩ <;> rw [e1, e2] at hs <;> first | exact Bool.noConfusion hs | rfl | (exfalso; omega) | omega
theorem add_same_s {x y z : Int} (hz : z = x + y) (hs : ng y = ng x) (_h0 : z ≠ 0) : ng x = ng z := by
  rcases ng_cases x with ⟨h1, e1⟩ | ⟨h1, e1⟩ <;> rcases ng_cases y with ⟨h2, e2⟩ | ⟨h2, e2⟩ <;> rcases ng_cases z with ⟨h3, e3⟩ | ⟨h3, e3⟩ <;> rw [e1, e2] at hs <;> rw [e1, e3] <;> first | exact Bool.noConfusion hs | rfl | (exfalso; omega) | omega
theorem add_ge_n {x y z : Int} (hz : z = x + y) (hs : ng x ≠ ng y) (hc : y.natAbs ≤ x.natAbs) : x.natAbs - y.natAbs = z.natAbs := by
  rcases ng_cases x with ⟨h1, e1⟩ | ⟨h1, e1⟩ <;> rcases ng_cases y with ⟨h2, e2⟩ | ⟨h2, e2⟩ <;> rw [e1, e2] at hs <;> first | exact absurd rfl hs | rfl | (exfalso; omega) | omega
theorem add_ge_s {x y z : Int} (hz : z = x + y) (hs : ng x ≠ ng y) (hc : y.natAbs ≤ x.natAbs) (h0 : z ≠ 0) : ng x = ng z := by
  rcases ng_cases x with ⟨h1, e1⟩ | ⟨h1, e1⟩ <;> rcases ng_cases y with ⟨h2, e2⟩ | ⟨h2, e2⟩ <;> rcases ng_cases z with ⟨h3, e3⟩ | ⟨h3, e3⟩ <;> rw [e1, e2] at hs <;> rw [e1, e3] <;> first | exact absurd rfl hs | rfl | (exfalso; omega) | omega
theorem add_lt_n {x y z : Int} (hz : z = x + y) (hs : ng x ≠ ng y) (hc : x.natAbs < y.natAbs) : y.natAbs - x.natAbs = z.natAbs := by
  rcases ng_cases x with ⟨h1, e1⟩ | ⟨h1, e1⟩ <;> rcases ng_cases y with ⟨h2, e2⟩ | ⟨h2, e2⟩ <;> rw [e1, e2] at hs <;> first | exact absurd rfl hs | rfl | (exfalso; omega) | omega
theorem add_lt_s {x y z : Int} (hz : z = x + y) (hs : ng x ≠ ng y) (hc : x.natAbs < y.natAbs) (h0 : z ≠ 0) : ng y = ng z := by
  rcases ng_cases x with ⟨h1, e1⟩ | ⟨h1, e1⟩ <;> rcases ng_cases y with ⟨h2, e2⟩ | ⟨h2, e2⟩ <;> rcases ng_cases z with ⟨h3, e3⟩ | ⟨h3, e3⟩ <;> rw [e1, e2] at hs <;> rw [e2, e3] <;> first | exact absurd rfl hs | rfl | (exfalso; omega) | omega
theorem ne_xor {x y : Int} : (ng x != ng y) = (ng x ^^ ng y) := by cases ng x <;> cases ng y <;> rfl
theorem mul_s {x y z : Int} (hz : z = x * y) (h0 : z ≠ 0) : (ng x != ng y) = ng z := by
  subst hz
  have hx : x ≠ 0 := fun h => h0 (by rw [h, Int.zero_mul])
  have hy : y ≠ 0 := fun h => h0 (by rw [h, Int.mul_zero])
  rcases ng_cases x with ⟨h1, e1⟩ | ⟨h1, e1⟩ <;> rcases ng_cases y with ⟨h2, e2⟩ | ⟨h2, e2⟩ <;> rw [e1, e2]
  · rw [ng_nonneg (Int.le_of_lt (Int.mul_pos_of_neg_of_neg h1 h2))]; rfl
  · rw [ng_neg (Int.mul_neg_of_neg_of_pos h1 (by omega))]; rfl
  · rw [ng_neg (Int.mul_neg_of_pos_of_neg (by omega) h2)]; rfl
  · rw [ng_nonneg (Int.mul_nonneg h1 h2)]; rfl

set_option maxHeartbeats 1000000 in
theorem bigAdd_same (w : World) (b1 b2 : Nat) (v1 v2 : Value) (x y : Int) (h1 : Own w b1 v1 (limbs x.natAbs)) (h2 : Own w b2 v2 (limbs y.natAbs)) (hs1 : (limbs x.natAbs).length ≤ 900) (hs2 : (limbs y.natAbs).length ≤ 900) (z : Int) (hz : z = x + y) (hs : ng y = ng x) :
    Calls Try.prog 91 #[.agg #[.bool (ng x), v1], .agg #[.bool (ng y), v2]] w (RetZ w z) := by
  rw [hs]
  have BW : Below w.heap.size w (((w.alloc (.cells #[.bool (ng x), v1] 43)).alloc (.cells #[.bool (ng x), v2] 43)).alloc (.cells #[.bool false, .slice none 0 0] 43)) := ((((Below.refl w.heap.size w).alloc (Nat.le_refl _) _).alloc (by simp) _).alloc (by simp; omega) _)
  obtain ⟨c0_0, c0_1, c1_0, c1_1, c2_0, c2_1, q0, q1⟩ : World.cell? (((w.alloc (.cells #[.bool (ng x), v1] 43)).alloc (.cells #[.bool (ng x), v2] 43)).alloc (.cells #[.bool false, .slice none 0 0] 43)) ⟨w.heap.size, 0, none⟩ = some (.bool (ng x)) ∧ World.cell? (((w.alloc (.cells #[.bool (ng x), v1] 43)).alloc (.cells #[.bool (ng x), v2] 43)).alloc (.cells #[.bool false, .slice none 0 0] 43)) ⟨w.heap.size, 1, none⟩ = some (v1) ∧ World.cell? (((w.alloc (.cells #[.bool (ng x), v1] 43)).alloc (.cells #[.bool (ng x), v2] 43)).alloc (.cells #[.bool false, .slice none 0 0] 43)) ⟨w.heap.size + 1, 0, none⟩ = some (.bool (ng x)) ∧ World.cell? (((w.alloc (.cells #[.bool (ng x), v1] 43)).alloc (.cells #[.bool (ng x), v2] 43)).alloc (.cells #[.bool false, .slice none 0 0] 43)) ⟨w.heap.size + 1, 1, none⟩ = some (v2) ∧ World.cell? (((w.alloc (.cells #[.bool (ng x), v1] 43)).alloc (.cells #[.bool (ng x), v2] 43)).alloc (.cells #[.bool false, .slice none 0 0] 43)) ⟨w.heap.size + 1 + 1, 0, none⟩ = some (.bool false) ∧ World.cell? (((w.alloc (.cells #[.bool (ng x), v1] 43)).alloc (.cells #[.bool (ng x), v2] 43)).alloc (.cells #[.bool false, .slice none 0 0] 43)) ⟨w.heap.size + 1 + 1, 1, none⟩ = some (.slice none 0 0) ∧ World.frozen? (((w.alloc (.cells #[.bool (ng x), v1] 43)).alloc (.cells #[.bool (ng x), v2] 43)).alloc (.cells #[.bool false, .slice none 0 0] 43)) ⟨w.heap.size + 1 + 1, 0, none⟩ = false ∧ World.frozen? (((w.alloc (.cells #[.bool (ng x), v1] 43)).alloc (.cells #[.bool (ng x), v2] 43)).alloc (.cells #[.bool false, .slice none 0 0] 43)) ⟨w.heap.size + 1 + 1, 1, none⟩ = false := by simp [go_sem]
  have hg0 : w.heap.size + 1 + 1 < ((((w.alloc (.cells #[.bool (ng x), v1] 43)).alloc (.cells #[.bool (ng x), v2] 43)).alloc (.cells #[.bool false, .slice none 0 0] 43))).heap.size := World.block_lt_of_cell? _ _ c2_0
  have Hv := Lib.hid (h1.below BW (Nat.le_refl _))
  have Hu := Lib.hid (h2.below BW (Nat.le_refl _))
  clear h1 h2
  have HN : Hid (x.natAbs + y.natAbs = z.natAbs) := add_same_n hz hs
  have HSG : Hid (z ≠ 0 → ng x = ng z) := add_same_s hz hs
  clear hz
  go_enter Try.func91, Try.ntmps91
  go_wp2_with fail
  generalize (((w.alloc (.cells #[.bool (ng x), v1] 43)).alloc (.cells #[.bool (ng x), v2] 43)).alloc (.cells #[.bool false, .slice none 0 0] 43)) = w0 at *
  have B0 := Below.refl w0.heap.size w0
  replace Hv := Lib.hid Hv.out.drew
  replace Hu := Lib.hid Hu.out.drew
  replace B0 := below_drew B0
  replace q0 := frozen_drew q0
  replace c2_0 := cell_drew c2_0
  replace q1 := frozen_drew q1
  replace c2_1 := cell_drew c2_1
  go_region_held3 (fun w' => w'.cell? ⟨w.heap.size, 0, none⟩ = some (.bool (ng x)) ∧ w'.cell? ⟨w.heap.size, 1, none⟩ = some (v1) ∧ w'.cell? ⟨w.heap.size + 1, 1, none⟩ = some (v2)) (first | exact ⟨c0_0, c0_1, c1_1⟩ | (go_split_ands; exact ⟨keep_cell hb2 ‹_›, keep_cell hb2 ‹_›, keep_cell hb2 ‹_›⟩) | (go_split_ands; exact ⟨keep_cell hb1 ‹_›, keep_cell hb1 ‹_›, keep_cell hb1 ‹_›⟩) | (go_split_ands; exact ⟨(set_far (set_far ‹_› (by dsimp only; omega)) (by dsimp only; omega)), (set_far (set_far ‹_› (by dsimp only; omega)) (by dsimp only; omega)), (set_far (set_far ‹_› (by dsimp only; omega)) (by dsimp only; omega))⟩) | (go_split_ands; exact ⟨(set_far (set_far (set_far ‹_› (by dsimp only; omega)) (by dsimp only; omega)) (by dsimp only; omega)), (set_far (set_far (set_far ‹_› (by dsimp only; omega)) (by dsimp only; omega)) (by dsimp only; omega)), (set_far (set_far (set_far ‹_› (by dsimp only; omega)) (by dsimp only; omega)) (by dsimp only; omega))⟩) | (go_split_ands; exact ⟨(set_far ‹_› (by dsimp only; omega)), (set_far ‹_› (by dsimp only; omega)), (set_far ‹_› (by dsimp only; omega))⟩) | go_keep)
    (first | (go_at_call 110; refine (natAdd_c _ _ _ _ _ x.natAbs y.natAbs Hv.out Hu.out (by omega) (by omega)).mono ?_; rintro e w1 ⟨vo, rfl, ho1, hb1⟩; have q0 := keep_frozen (w1 := w1) hb1 c2_0 q0; have c2_0 := keep_cell (w1 := w1) hb1 c2_0; have q1 := keep_frozen (w1 := w1) hb1 c2_1 q1; have c2_1 := keep_cell (w1 := w1) hb1 c2_1; have Hv := Lib.hid (Hv.out.below hb1 (Nat.le_refl _)); have Hu := Lib.hid (Hu.out.below hb1 (Nat.le_refl _)); (try (have Hr := Lib.hid (Hr.out.below hb1 (Nat.le_refl _)))); have Ho := Lib.hid (ho1.mono B0.size); clear ho1; have B0 := B0.trans (hb1.mono B0.size)) | (go_at_call 109; refine (signed_zz _ _ _ _ _ z Ho.out HN HSG).mono ?_; rintro e w2 ⟨vr, rfl, ho2, hp, hb2⟩; have q0 := keep_frozen (w1 := w2) hb2 c2_0 q0; have c2_0 := keep_cell (w1 := w2) hb2 c2_0; have q1 := keep_frozen (w1 := w2) hb2 c2_1 q1; have c2_1 := keep_cell (w1 := w2) hb2 c2_1; have Hv := Lib.hid (Hv.out.below hb2 (Nat.le_refl _)); have Hu := Lib.hid (Hu.out.below hb2 (Nat.le_refl _)); (try (have Ho := Lib.hid (Ho.out.below hb2 (Nat.le_refl _)))); have Hr := Lib.hid ho2; clear ho2; obtain ⟨ar, cr, rfl, -, -, -, -, -⟩ := Hr.out.form; have B0 := B0.trans (hb2.mono B0.size)))
  go_wp2
  exact bodyPost_ret (v := .agg #[.bool (ng z), .slice ar (limbs z.natAbs).length cr]) (by simp [results, Try.results91, go_sem, c2_0, c2_1]) rfl (retG_end BW (by omega) hg0 B0 Hr.out)

set_option maxHeartbeats 1000000 in
theorem bigAdd_ge (w : World) (b1 b2 : Nat) (v1 v2 : Value) (x y : Int) (h1 : Own w b1 v1 (limbs x.natAbs)) (h2 : Own w b2 v2 (limbs y.natAbs)) (hs1 : (limbs x.natAbs).length ≤ 900) (_hs2 : (limbs y.natAbs).length ≤ 900) (z : Int) (hz : z = x + y) (hs : ng x ≠ ng y) (hc : y.natAbs ≤ x.natAbs) :
    Calls Try.prog 91 #[.agg #[.bool (ng x), v1], .agg #[.bool (ng y), v2]] w (RetZ w z) := by
  have BW : Below w.heap.size w (((w.alloc (.cells #[.bool (ng x), v1] 43)).alloc (.cells #[.bool (ng y), v2] 43)).alloc (.cells #[.bool false, .slice none 0 0] 43)) := ((((Below.refl w.heap.size w).alloc (Nat.le_refl _) _).alloc (by simp) _).alloc (by simp; omega) _)
  obtain ⟨c0_0, c0_1, c1_0, c1_1, c2_0, c2_1, q0, q1⟩ : World.cell? (((w.alloc (.cells #[.bool (ng x), v1] 43)).alloc (.cells #[.bool (ng y), v2] 43)).alloc (.cells #[.bool false, .slice none 0 0] 43)) ⟨w.heap.size, 0, none⟩ = some (.bool (ng x)) ∧ World.cell? (((w.alloc (.cells #[.bool (ng x), v1] 43)).alloc (.cells #[.bool (ng y), v2] 43)).alloc (.cells #[.bool false, .slice none 0 0] 43)) ⟨w.heap.size, 1, none⟩ = some (v1) ∧ World.cell? (((w.alloc (.cells #[.bool (ng x), v1] 43)).alloc (.cells #[.bool (ng y), v2] 43)).alloc (.cells #[.bool false, .slice none 0 0] 43)) ⟨w.heap.size + 1, 0, none⟩ = some (.bool (ng y)) ∧ World.cell? (((w.alloc (.cells #[.bool (ng x), v1] 43)).alloc (.cells #[.bool (ng y), v2] 43)).alloc (.cells #[.bool false, .slice none 0 0] 43)) ⟨w.heap.size + 1, 1, none⟩ = some (v2) ∧ World.cell? (((w.alloc (.cells #[.bool (ng x), v1] 43)).alloc (.cells #[.bool (ng y), v2] 43)).alloc (.cells #[.bool false, .slice none 0 0] 43)) ⟨w.heap.size + 1 + 1, 0, none⟩ = some (.bool false) ∧ World.cell? (((w.alloc (.cells #[.bool (ng x), v1] 43)).alloc (.cells #[.bool (ng y), v2] 43)).alloc (.cells #[.bool false, .slice none 0 0] 43)) ⟨w.heap.size + 1 + 1, 1, none⟩ = some (.slice none 0 0) ∧ World.frozen? (((w.alloc (.cells #[.bool (ng x), v1] 43)).alloc (.cells #[.bool (ng y), v2] 43)).alloc (.cells #[.bool false, .slice none 0 0] 43)) ⟨w.heap.size + 1 + 1, 0, none⟩ = false ∧ World.frozen? (((w.alloc (.cells #[.bool (ng x), v1] 43)).alloc (.cells #[.bool (ng y), v2] 43)).alloc (.cells #[.bool false, .slice none 0 0] 43)) ⟨w.heap.size + 1 + 1, 1, none⟩ = false := by simp [go_sem]
  have hg0 : w.heap.size + 1 + 1 < ((((w.alloc (.cells #[.bool (ng x), v1] 43)).alloc (.cells #[.bool (ng y), v2] 43)).alloc (.cells #[.bool false, .slice none 0 0] 43))).heap.size := World.block_lt_of_cell? _ _ c2_0
  have Hv := Lib.hid (h1.below BW (Nat.le_refl _))
  have Hu := Lib.hid (h2.below BW (Nat.le_refl _))
  clear h1 h2
  have HN : Hid (x.natAbs - y.natAbs = z.natAbs) := add_ge_n hz hs hc
  have HSG : Hid (z ≠ 0 → ng x = ng z) := add_ge_s hz hs hc
  have HC := Lib.hid hc
  clear hz hc
  have d1 : (ng x == ng y) = false := by simpa using hs
  clear hs
  go_enter Try.func91, Try.ntmps91
  go_wp2_with fail
  generalize (((w.alloc (.cells #[.bool (ng x), v1] 43)).alloc (.cells #[.bool (ng y), v2] 43)).alloc (.cells #[.bool false, .slice none 0 0] 43)) = w0 at *
  have B0 := Below.refl w0.heap.size w0
  refine (natCmp_ge _ _ _ _ _ x.natAbs y.natAbs Hv.out Hu.out HC.out).mono ?_
  rintro e w1 ⟨c, hc, rfl, hb⟩
  replace c0_0 := keep_cell hb c0_0
  replace c0_1 := keep_cell hb c0_1
  replace c1_0 := keep_cell hb c1_0
  replace c1_1 := keep_cell hb c1_1
  replace q0 := keep_frozen (w1 := w1) hb c2_0 q0
  replace c2_0 := keep_cell (w1 := w1) hb c2_0
  replace q1 := keep_frozen (w1 := w1) hb c2_1 q1
  replace c2_1 := keep_cell (w1 := w1) hb c2_1
  replace Hv := Lib.hid (Hv.out.below hb (Nat.le_refl _))
  replace Hu := Lib.hid (Hu.out.below hb (Nat.le_refl _))
  replace B0 := B0.trans (hb.mono B0.size)
  clear hb
  go_wp2_with fail
  replace Hv := Lib.hid Hv.out.drew
  replace Hu := Lib.hid Hu.out.drew
  replace B0 := below_drew B0
  replace q0 := frozen_drew q0
  replace c2_0 := cell_drew c2_0
  replace q1 := frozen_drew q1
  replace c2_1 := cell_drew c2_1
  go_region_held3 (fun w' => w'.cell? ⟨w.heap.size, 0, none⟩ = some (.bool (ng x)) ∧ w'.cell? ⟨w.heap.size, 1, none⟩ = some (v1) ∧ w'.cell? ⟨w.heap.size + 1, 1, none⟩ = some (v2)) (first | exact ⟨c0_0, c0_1, c1_1⟩ | (go_split_ands; exact ⟨keep_cell hb3 ‹_›, keep_cell hb3 ‹_›, keep_cell hb3 ‹_›⟩) | (go_split_ands; exact ⟨keep_cell hb2 ‹_›, keep_cell hb2 ‹_›, keep_cell hb2 ‹_›⟩) | (go_split_ands; exact ⟨(set_far (set_far ‹_› (by dsimp only; omega)) (by dsimp only; omega)), (set_far (set_far ‹_› (by dsimp only; omega)) (by dsimp only; omega)), (set_far (set_far ‹_› (by dsimp only; omega)) (by dsimp only; omega))⟩) | (go_split_ands; exact ⟨(set_far (set_far (set_far ‹_› (by dsimp only; omega)) (by dsimp only; omega)) (by dsimp only; omega)), (set_far (set_far (set_far ‹_› (by dsimp only; omega)) (by dsimp only; omega)) (by dsimp only; omega)), (set_far (set_far (set_far ‹_› (by dsimp only; omega)) (by dsimp only; omega)) (by dsimp only; omega))⟩) | (go_split_ands; exact ⟨(set_far ‹_› (by dsimp only; omega)), (set_far ‹_› (by dsimp only; omega)), (set_far ‹_› (by dsimp only; omega))⟩) | go_keep)
    (first | (go_at_call 112; refine (natSub_c _ _ _ _ _ x.natAbs y.natAbs Hv.out Hu.out (by omega) HC.out).mono ?_; rintro e w2 ⟨vo, rfl, ho1, hb2⟩; have q0 := keep_frozen (w1 := w2) hb2 c2_0 q0; have c2_0 := keep_cell (w1 := w2) hb2 c2_0; have q1 := keep_frozen (w1 := w2) hb2 c2_1 q1; have c2_1 := keep_cell (w1 := w2) hb2 c2_1; have Hv := Lib.hid (Hv.out.below hb2 (Nat.le_refl _)); have Hu := Lib.hid (Hu.out.below hb2 (Nat.le_refl _)); (try (have Hr := Lib.hid (Hr.out.below hb2 (Nat.le_refl _)))); have Ho := Lib.hid (ho1.mono B0.size); clear ho1; have B0 := B0.trans (hb2.mono B0.size)) | (go_at_call 109; refine (signed_zz _ _ _ _ _ z Ho.out HN HSG).mono ?_; rintro e w3 ⟨vr, rfl, ho2, hp, hb3⟩; have q0 := keep_frozen (w1 := w3) hb3 c2_0 q0; have c2_0 := keep_cell (w1 := w3) hb3 c2_0; have q1 := keep_frozen (w1 := w3) hb3 c2_1 q1; have c2_1 := keep_cell (w1 := w3) hb3 c2_1; have Hv := Lib.hid (Hv.out.below hb3 (Nat.le_refl _)); have Hu := Lib.hid (Hu.out.below hb3 (Nat.le_refl _)); (try (have Ho := Lib.hid (Ho.out.below hb3 (Nat.le_refl _)))); have Hr := Lib.hid ho2; clear ho2; obtain ⟨ar, cr, rfl, -, -, -, -, -⟩ := Hr.out.form; have B0 := B0.trans (hb3.mono B0.size)))
  go_wp2
  exact bodyPost_ret (v := .agg #[.bool (ng z), .slice ar (limbs z.natAbs).length cr]) (by simp [results, Try.results91, go_sem, c2_0, c2_1]) rfl (retG_end BW (by omega) hg0 B0 Hr.out)

set_option maxHeartbeats 1000000 in
theorem bigAdd_lt (w : World) (b1 b2 : Nat) (v1 v2 : Value) (x y : Int) (h1 : Own w b1 v1 (limbs x.natAbs)) (h2 : Own w b2 v2 (limbs y.natAbs)) (_hs1 : (limbs x.natAbs).length ≤ 900) (hs2 : (limbs y.natAbs).length ≤ 900) (z : Int) (hz : z = x + y) (hs : ng x ≠ ng y) (hc : x.natAbs < y.natAbs) :
    Calls Try.prog 91 #[.agg #[.bool (ng x), v1], .agg #[.bool (ng y), v2]] w (RetZ w z) := by
  have BW : Below w.heap.size w (((w.alloc (.cells #[.bool (ng x), v1] 43)).alloc (.cells #[.bool (ng y), v2] 43)).alloc (.cells #[.bool false, .slice none 0 0] 43)) := ((((Below.refl w.heap.size w).alloc (Nat.le_refl _) _).alloc (by simp) _).alloc (by simp; omega) _)
  obtain ⟨c0_0, c0_1, c1_0, c1_1, c2_0, c2_1, q0, q1⟩ : World.cell? (((w.alloc (.cells #[.bool (ng x), v1] 43)).alloc (.cells #[.bool (ng y), v2] 43)).alloc (.cells #[.bool false, .slice none 0 0] 43)) ⟨w.heap.size, 0, none⟩ = some (.bool (ng x)) ∧ World.cell? (((w.alloc (.cells #[.bool (ng x), v1] 43)).alloc (.cells #[.bool (ng y), v2] 43)).alloc (.cells #[.bool false, .slice none 0 0] 43)) ⟨w.heap.size, 1, none⟩ = some (v1) ∧ World.cell? (((w.alloc (.cells #[.bool (ng x), v1] 43)).alloc (.cells #[.bool (ng y), v2] 43)).alloc (.cells #[.bool false, .slice none 0 0] 43)) ⟨w.heap.size + 1, 0, none⟩ = some (.bool (ng y)) ∧ World.cell? (((w.alloc (.cells #[.bool (ng x), v1] 43)).alloc (.cells #[.bool (ng y), v2] 43)).alloc (.cells #[.bool false, .slice none 0 0] 43)) ⟨w.heap.size + 1, 1, none⟩ = some (v2) ∧ World.cell? (((w.alloc (.cells #[.bool (ng x), v1] 43)).alloc (.cells #[.bool (ng y), v2] 43)).alloc (.cells #[.bool false, .slice none 0 0] 43)) ⟨w.heap.size + 1 + 1, 0, none⟩ = some (.bool false) ∧ World.cell? (((w.alloc (.cells #[.bool (ng x), v1] 43)).alloc (.cells #[.bool (ng y), v2] 43)).alloc (.cells #[.bool false, .slice none 0 0] 43)) ⟨w.heap.size + 1 + 1, 1, none⟩ = some (.slice none 0 0) ∧ World.frozen? (((w.alloc (.cells #[.bool (ng x), v1] 43)).alloc (.cells #[.bool (ng y), v2] 43)).alloc (.cells #[.bool false, .slice none 0 0] 43)) ⟨w.heap.size + 1 + 1, 0, none⟩ = false ∧ World.frozen? (((w.alloc (.cells #[.bool (ng x), v1] 43)).alloc (.cells #[.bool (ng y), v2] 43)).alloc (.cells #[.bool false, .slice none 0 0] 43)) ⟨w.heap.size + 1 + 1, 1, none⟩ = false := by simp [go_sem]
  have hg0 : w.heap.size + 1 + 1 < ((((w.alloc (.cells #[.bool (ng x), v1] 43)).alloc (.cells #[.bool (ng y), v2] 43)).alloc (.cells #[.bool false, .slice none 0 0] 43))).heap.size := World.block_lt_of_cell? _ _ c2_0
  have Hv := Lib.hid (h1.below BW (Nat.le_refl _))
  have Hu := Lib.hid (h2.below BW (Nat.le_refl _))
  clear h1 h2
  have HN : Hid (y.natAbs - x.natAbs = z.natAbs) := add_lt_n hz hs hc
  have HSG : Hid (z ≠ 0 → ng y = ng z) := add_lt_s hz hs hc
  have HC := Lib.hid hc
  clear hz hc
  have d1 : (ng x == ng y) = false := by simpa using hs
  clear hs
  go_enter Try.func91, Try.ntmps91
  go_wp2_with fail
  generalize (((w.alloc (.cells #[.bool (ng x), v1] 43)).alloc (.cells #[.bool (ng y), v2] 43)).alloc (.cells #[.bool false, .slice none 0 0] 43)) = w0 at *
  have B0 := Below.refl w0.heap.size w0
  refine (natCmp_lt _ _ _ _ _ x.natAbs y.natAbs Hv.out Hu.out HC.out).mono ?_
  rintro e w1 ⟨rfl, hb⟩
  replace c0_0 := keep_cell hb c0_0
  replace c0_1 := keep_cell hb c0_1
  replace c1_0 := keep_cell hb c1_0
  replace c1_1 := keep_cell hb c1_1
  replace q0 := keep_frozen (w1 := w1) hb c2_0 q0
  replace c2_0 := keep_cell (w1 := w1) hb c2_0
  replace q1 := keep_frozen (w1 := w1) hb c2_1 q1
  replace c2_1 := keep_cell (w1 := w1) hb c2_1
  replace Hv := Lib.hid (Hv.out.below hb (Nat.le_refl _))
  replace Hu := Lib.hid (Hu.out.below hb (Nat.le_refl _))
  replace B0 := B0.trans (hb.mono B0.size)
  clear hb
  go_wp2_with fail
  replace Hv := Lib.hid Hv.out.drew
  replace Hu := Lib.hid Hu.out.drew
  replace B0 := below_drew B0
  replace q0 := frozen_drew q0
  replace c2_0 := cell_drew c2_0
  replace q1 := frozen_drew q1
  replace c2_1 := cell_drew c2_1
  go_region_held3 (fun w' => w'.cell? ⟨w.heap.size, 1, none⟩ = some (v1) ∧ w'.cell? ⟨w.heap.size + 1, 0, none⟩ = some (.bool (ng y)) ∧ w'.cell? ⟨w.heap.size + 1, 1, none⟩ = some (v2)) (first | exact ⟨c0_1, c1_0, c1_1⟩ | (go_split_ands; exact ⟨keep_cell hb3 ‹_›, keep_cell hb3 ‹_›, keep_cell hb3 ‹_›⟩) | (go_split_ands; exact ⟨keep_cell hb2 ‹_›, keep_cell hb2 ‹_›, keep_cell hb2 ‹_›⟩) | (go_split_ands; exact ⟨(set_far (set_far ‹_› (by dsimp only; omega)) (by dsimp only; omega)), (set_far (set_far ‹_› (by dsimp only; omega)) (by dsimp only; omega)), (set_far (set_far ‹_› (by dsimp only; omega)) (by dsimp only; omega))⟩) | (go_split_ands; exact ⟨(set_far (set_far (set_far ‹_› (by dsimp only; omega)) (by dsimp only; omega)) (by dsimp only; omega)), (set_far (set_far (set_far ‹_› (by dsimp only; omega)) (by dsimp only; omega)) (by dsimp only; omega)), (set_far (set_far (set_far ‹_› (by dsimp only; omega)) (by dsimp only; omega)) (by dsimp only; omega))⟩) | (go_split_ands; exact ⟨(set_far ‹_› (by dsimp only; omega)), (set_far ‹_› (by dsimp only; omega)), (set_far ‹_› (by dsimp only; omega))⟩) | go_keep)
    (first | (go_at_call 112; refine (natSub_c _ _ _ _ _ y.natAbs x.natAbs Hu.out Hv.out (by omega) (Nat.le_of_lt HC.out)).mono ?_; rintro e w2 ⟨vo, rfl, ho1, hb2⟩; have q0 := keep_frozen (w1 := w2) hb2 c2_0 q0; have c2_0 := keep_cell (w1 := w2) hb2 c2_0; have q1 := keep_frozen (w1 := w2) hb2 c2_1 q1; have c2_1 := keep_cell (w1 := w2) hb2 c2_1; have Hv := Lib.hid (Hv.out.below hb2 (Nat.le_refl _)); have Hu := Lib.hid (Hu.out.below hb2 (Nat.le_refl _)); (try (have Hr := Lib.hid (Hr.out.below hb2 (Nat.le_refl _)))); have Ho := Lib.hid (ho1.mono B0.size); clear ho1; have B0 := B0.trans (hb2.mono B0.size)) | (go_at_call 109; refine (signed_zz _ _ _ _ _ z Ho.out HN HSG).mono ?_; rintro e w3 ⟨vr, rfl, ho2, hp, hb3⟩; have q0 := keep_frozen (w1 := w3) hb3 c2_0 q0; have c2_0 := keep_cell (w1 := w3) hb3 c2_0; have q1 := keep_frozen (w1 := w3) hb3 c2_1 q1; have c2_1 := keep_cell (w1 := w3) hb3 c2_1; have Hv := Lib.hid (Hv.out.below hb3 (Nat.le_refl _)); have Hu := Lib.hid (Hu.out.below hb3 (Nat.le_refl _)); (try (have Ho := Lib.hid (Ho.out.below hb3 (Nat.le_refl _)))); have Hr := Lib.hid ho2; clear ho2; obtain ⟨ar, cr, rfl, -, -, -, -, -⟩ := Hr.out.form; have B0 := B0.trans (hb3.mono B0.size)))
  go_wp2
  exact bodyPost_ret (v := .agg #[.bool (ng z), .slice ar (limbs z.natAbs).length cr]) (by simp [results, Try.results91, go_sem, c2_0, c2_1]) rfl (retG_end BW (by omega) hg0 B0 Hr.out)

theorem bigAdd_c (w : World) (b1 b2 : Nat) (v1 v2 : Value) (x y : Int) (h1 : Own w b1 v1 (limbs x.natAbs)) (h2 : Own w b2 v2 (limbs y.natAbs)) (hs1 : (limbs x.natAbs).length ≤ 900) (hs2 : (limbs y.natAbs).length ≤ 900) (z : Int) (hz : z = x + y) :
    Calls Try.prog 91 #[.agg #[.bool (ng x), v1], .agg #[.bool (ng y), v2]] w (RetZ w z) := by
  by_cases hs : ng y = ng x
  · exact bigAdd_same w b1 b2 v1 v2 x y h1 h2 hs1 hs2 z hz hs
  · by_cases hc : y.natAbs ≤ x.natAbs
    · exact bigAdd_ge w b1 b2 v1 v2 x y h1 h2 hs1 hs2 z hz (fun e => hs e.symm) hc
    · exact bigAdd_lt w b1 b2 v1 v2 x y h1 h2 hs1 hs2 z hz (fun e => hs e.symm) (by omega)

set_option maxHeartbeats 1000000 in
theorem bigMul_c (w : World) (b1 b2 : Nat) (v1 v2 : Value) (x y : Int) (h1 : Own w b1 v1 (limbs x.natAbs)) (h2 : Own w b2 v2 (limbs y.natAbs)) (hs1 : (limbs x.natAbs).length ≤ 900) (hs2 : (limbs y.natAbs).length ≤ 900) (z : Int) (hz : z = x * y) :
    Calls Try.prog 93 #[.agg #[.bool (ng x), v1], .agg #[.bool (ng y), v2]] w (RetZ w z) := by
  have BW : Below w.heap.size w (((w.alloc (.cells #[.bool (ng x), v1] 43)).alloc (.cells #[.bool (ng y), v2] 43)).alloc (.cells #[.bool false, .slice none 0 0] 43)) := ((((Below.refl w.heap.size w).alloc (Nat.le_refl _) _).alloc (by simp) _).alloc (by simp; omega) _)
  obtain ⟨c0_0, c0_1, c1_0, c1_1, c2_0, c2_1, q0, q1⟩ : World.cell? (((w.alloc (.cells #[.bool (ng x), v1] 43)).alloc (.cells #[.bool (ng y), v2] 43)).alloc (.cells #[.bool false, .slice none 0 0] 43)) ⟨w.heap.size, 0, none⟩ = some (.bool (ng x)) ∧ World.cell? (((w.alloc (.cells #[.bool (ng x), v1] 43)).alloc (.cells #[.bool (ng y), v2] 43)).alloc (.cells #[.bool false, .slice none 0 0] 43)) ⟨w.heap.size, 1, none⟩ = some (v1) ∧ World.cell? (((w.alloc (.cells #[.bool (ng x), v1] 43)).alloc (.cells #[.bool (ng y), v2] 43)).alloc (.cells #[.bool false, .slice none 0 0] 43)) ⟨w.heap.size + 1, 0, none⟩ = some (.bool (ng y)) ∧ World.cell? (((w.alloc (.cells #[.bool (ng x), v1] 43)).alloc (.cells #[.bool (ng y), v2] 43)).alloc (.cells #[.bool false, .slice none 0 0] 43)) ⟨w.heap.size + 1, 1, none⟩ = some (v2) ∧ World.cell? (((w.alloc (.cells #[.bool (ng x), v1] 43)).alloc (.cells #[.bool (ng y), v2] 43)).alloc (.cells #[.bool false, .slice none 0 0] 43)) ⟨w.heap.size + 1 + 1, 0, none⟩ = some (.bool false) ∧ World.cell? (((w.alloc (.cells #[.bool (ng x), v1] 43)).alloc (.cells #[.bool (ng y), v2] 43)).alloc (.cells #[.bool false, .slice none 0 0] 43)) ⟨w.heap.size + 1 + 1, 1, none⟩ = some (.slice none 0 0) ∧ World.frozen? (((w.alloc (.cells #[.bool (ng x), v1] 43)).alloc (.cells #[.bool (ng y), v2] 43)).alloc (.cells #[.bool false, .slice none 0 0] 43)) ⟨w.heap.size + 1 + 1, 0, none⟩ = false ∧ World.frozen? (((w.alloc (.cells #[.bool (ng x), v1] 43)).alloc (.cells #[.bool (ng y), v2] 43)).alloc (.cells #[.bool false, .slice none 0 0] 43)) ⟨w.heap.size + 1 + 1, 1, none⟩ = false := by simp [go_sem]
  have hg0 : w.heap.size + 1 + 1 < ((((w.alloc (.cells #[.bool (ng x), v1] 43)).alloc (.cells #[.bool (ng y), v2] 43)).alloc (.cells #[.bool false, .slice none 0 0] 43))).heap.size := World.block_lt_of_cell? _ _ c2_0
  have Hv := Lib.hid (h1.below BW (Nat.le_refl _))
  have Hu := Lib.hid (h2.below BW (Nat.le_refl _))
  clear h1 h2
  have HN : Hid (x.natAbs * y.natAbs = z.natAbs) := by unfold Hid; rw [hz, Int.natAbs_mul]
  have HSG : Hid (z ≠ 0 → (ng x != ng y) = ng z) := mul_s hz
  clear hz
  go_enter Try.func93, Try.ntmps93
  go_wp2_with fail
  generalize (((w.alloc (.cells #[.bool (ng x), v1] 43)).alloc (.cells #[.bool (ng y), v2] 43)).alloc (.cells #[.bool false, .slice none 0 0] 43)) = w0 at *
  have B0 := Below.refl w0.heap.size w0
  replace Hv := Lib.hid Hv.out.drew
  replace Hu := Lib.hid Hu.out.drew
  replace B0 := below_drew B0
  replace q0 := frozen_drew q0
  replace c2_0 := cell_drew c2_0
  replace q1 := frozen_drew q1
  replace c2_1 := cell_drew c2_1
  go_region_held3 (fun w' => w'.cell? ⟨w.heap.size, 0, none⟩ = some (.bool (ng x)) ∧ w'.cell? ⟨w.heap.size, 1, none⟩ = some (v1) ∧ w'.cell? ⟨w.heap.size + 1, 0, none⟩ = some (.bool (ng y)) ∧ w'.cell? ⟨w.heap.size + 1, 1, none⟩ = some (v2)) (first | exact ⟨c0_0, c0_1, c1_0, c1_1⟩ | (go_split_ands; exact ⟨keep_cell hb2 ‹_›, keep_cell hb2 ‹_›, keep_cell hb2 ‹_›, keep_cell hb2 ‹_›⟩) | (go_split_ands; exact ⟨keep_cell hb1 ‹_›, keep_cell hb1 ‹_›, keep_cell hb1 ‹_›, keep_cell hb1 ‹_›⟩) | (go_split_ands; exact ⟨(set_far (set_far ‹_› (by dsimp only; omega)) (by dsimp only; omega)), (set_far (set_far ‹_› (by dsimp only; omega)) (by dsimp only; omega)), (set_far (set_far ‹_› (by dsimp only; omega)) (by dsimp only; omega)), (set_far (set_far ‹_› (by dsimp only; omega)) (by dsimp only; omega))⟩) | (go_split_ands; exact ⟨(set_far (set_far (set_far ‹_› (by dsimp only; omega)) (by dsimp only; omega)) (by dsimp only; omega)), (set_far (set_far (set_far ‹_› (by dsimp only; omega)) (by dsimp only; omega)) (by dsimp only; omega)), (set_far (set_far (set_far ‹_› (by dsimp only; omega)) (by dsimp only; omega)) (by dsimp only; omega)), (set_far (set_far (set_far ‹_› (by dsimp only; omega)) (by dsimp only; omega)) (by dsimp only; omega))⟩) | (go_split_ands; exact ⟨(set_far ‹_› (by dsimp only; omega)), (set_far ‹_› (by dsimp only; omega)), (set_far ‹_› (by dsimp only; omega)), (set_far ‹_› (by dsimp only; omega))⟩) | go_keep)
    (first | (go_at_call 94; refine (natMul_c _ _ _ _ _ x.natAbs y.natAbs Hv.out Hu.out (by omega) (by omega)).mono ?_; rintro e w1 ⟨vo, rfl, ho1, hb1⟩; have q0 := keep_frozen (w1 := w1) hb1 c2_0 q0; have c2_0 := keep_cell (w1 := w1) hb1 c2_0; have q1 := keep_frozen (w1 := w1) hb1 c2_1 q1; have c2_1 := keep_cell (w1 := w1) hb1 c2_1; have Hv := Lib.hid (Hv.out.below hb1 (Nat.le_refl _)); have Hu := Lib.hid (Hu.out.below hb1 (Nat.le_refl _)); (try (have Hr := Lib.hid (Hr.out.below hb1 (Nat.le_refl _)))); have Ho := Lib.hid (ho1.mono B0.size); clear ho1; have B0 := B0.trans (hb1.mono B0.size)) | (go_at_call 109; refine (signed_zz _ _ _ _ _ z Ho.out HN HSG).mono ?_; rintro e w2 ⟨vr, rfl, ho2, hp, hb2⟩; have q0 := keep_frozen (w1 := w2) hb2 c2_0 q0; have c2_0 := keep_cell (w1 := w2) hb2 c2_0; have q1 := keep_frozen (w1 := w2) hb2 c2_1 q1; have c2_1 := keep_cell (w1 := w2) hb2 c2_1; have Hv := Lib.hid (Hv.out.below hb2 (Nat.le_refl _)); have Hu := Lib.hid (Hu.out.below hb2 (Nat.le_refl _)); (try (have Ho := Lib.hid (Ho.out.below hb2 (Nat.le_refl _)))); have Hr := Lib.hid ho2; clear ho2; obtain ⟨ar, cr, rfl, -, -, -, -, -⟩ := Hr.out.form; have B0 := B0.trans (hb2.mono B0.size)))
  go_wp2
  exact bodyPost_ret (v := .agg #[.bool (ng z), .slice ar (limbs z.natAbs).length cr]) (by simp [results, Try.results93, go_sem, c2_0, c2_1]) rfl (retG_end BW (by omega) hg0 B0 Hr.out)

end Go.Proofs.Ytcmhpdhcpkhejaa
