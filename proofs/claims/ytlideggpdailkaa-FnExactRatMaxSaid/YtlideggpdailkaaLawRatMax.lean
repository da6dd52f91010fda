/- FnExactRatMax: the program's RatMax answers what the reference's RatMax answers, for every input; no condition. -/
import Derived.Test.YtlideggpdailkaaRatW
import Derived.Test.YtlideggpdailkaaLawR
import Derived.Test.YtlideggpdailkaaLawK
namespace Go.Proofs.Ytlideggpdailkaa.lawRatMax
open Go.ChangeShapes Go.WideShapes Go.ChangeAt Go.RowKit Lm Go.Proofs.Ytlideggpdailkaa

set_option maxHeartbeats 4000000 in
set_option maxRecDepth 100000 in
theorem walk (w : World) (s0 : Bool) (a0 d0 : Value) (x0n x0d : List Int) (h0 : Rd2 w a0 d0 x0n x0d) (hm0 : x0n.length ≤ 9223372036854775807 ∧ x0d.length ≤ 9223372036854775807) (s1 : Bool) (a1 d1 : Value) (x1n x1d : List Int) (h1 : Rd2 w a1 d1 x1n x1d) (hm1 : x1n.length ≤ 9223372036854775807 ∧ x1d.length ≤ 9223372036854775807) (t0 : Bool) (r0n r0d : List Int) (hr0 : r0n.length ≤ 1000 ∧ r0d.length ≤ 1000)
    (C1 : ∀ (w : World) (b0 : Nat) (u0 : Value) (e0 : Nat) (f0 : Value) (b1 : Nat) (u1 : Value) (e1 : Nat) (f1 : Value), Own w b0 u0 x0n → Own w e0 f0 x0d → Own w b1 u1 x1n → Own w e1 f1 x1d → Calls Try.prog 42 #[.agg #[.bool s0, u0, f0], .agg #[.bool s1, u1, f1]] w (RetR w t0 r0n r0d))
    (C2 : ∀ (w : World) (b0 : Nat) (u0 : Value) (e0 : Nat) (f0 : Value) (b1 : Nat) (u1 : Value) (e1 : Nat) (f1 : Value), Own w b0 u0 x0n → Own w e0 f0 x0d → Own w b1 u1 x1n → Own w e1 f1 x1d → Calls Try.prog 43 #[.agg #[.bool s0, u0, f0], .agg #[.bool s1, u1, f1]] w (RetR w t0 r0n r0d)) :
    Calls Try.prog 11 #[.agg #[.bool s0, a0, d0], .agg #[.bool s1, a1, d1]] w (RetB w true) := by
  obtain ⟨⟨p0, q0, hv0, hc0⟩, ⟨pd0, qd0, hw0, hd0⟩⟩ := id h0
  subst hv0
  subst hw0
  clear hc0 hd0
  obtain ⟨⟨p1, q1, hv1, hc1⟩, ⟨pd1, qd1, hw1, hd1⟩⟩ := id h1
  subst hv1
  subst hw1
  clear hc1 hd1
  obtain ⟨hr0n, hr0d⟩ := hr0
  obtain ⟨hm0n, hm0d⟩ := hm0
  have R0 := Lib.hid h0
  obtain ⟨hm1n, hm1d⟩ := hm1
  have R1 := Lib.hid h1
  have K1 := Lib.hid C1
  have K2 := Lib.hid C2
  clear h0 h1 C1 C2
  by_cases hlx0n : (0 : Int) ≤ 1048576 - (x0n.length : Int)
  case neg =>
    have HL : Hid (1048576 - (x0n.length : Int) < 0) := by unfold Hid; omega
    have BW : Below w.heap.size w ((w.alloc (.cells #[.bool s0, .slice p0 x0n.length q0, .slice pd0 x0d.length qd0] 26)).alloc (.cells #[.bool s1, .slice p1 x1n.length q1, .slice pd1 x1d.length qd1] 26)) := (((Below.refl w.heap.size w).alloc (Nat.le_refl _) _).alloc (by simp) _)
    obtain ⟨c0_0, c0_1, c0_2, c1_0, c1_1, c1_2⟩ : World.cell? ((w.alloc (.cells #[.bool s0, .slice p0 x0n.length q0, .slice pd0 x0d.length qd0] 26)).alloc (.cells #[.bool s1, .slice p1 x1n.length q1, .slice pd1 x1d.length qd1] 26)) ⟨w.heap.size, 0, none⟩ = some (.bool s0) ∧ World.cell? ((w.alloc (.cells #[.bool s0, .slice p0 x0n.length q0, .slice pd0 x0d.length qd0] 26)).alloc (.cells #[.bool s1, .slice p1 x1n.length q1, .slice pd1 x1d.length qd1] 26)) ⟨w.heap.size, 1, none⟩ = some (.slice p0 x0n.length q0) ∧ World.cell? ((w.alloc (.cells #[.bool s0, .slice p0 x0n.length q0, .slice pd0 x0d.length qd0] 26)).alloc (.cells #[.bool s1, .slice p1 x1n.length q1, .slice pd1 x1d.length qd1] 26)) ⟨w.heap.size, 2, none⟩ = some (.slice pd0 x0d.length qd0) ∧ World.cell? ((w.alloc (.cells #[.bool s0, .slice p0 x0n.length q0, .slice pd0 x0d.length qd0] 26)).alloc (.cells #[.bool s1, .slice p1 x1n.length q1, .slice pd1 x1d.length qd1] 26)) ⟨w.heap.size + 1, 0, none⟩ = some (.bool s1) ∧ World.cell? ((w.alloc (.cells #[.bool s0, .slice p0 x0n.length q0, .slice pd0 x0d.length qd0] 26)).alloc (.cells #[.bool s1, .slice p1 x1n.length q1, .slice pd1 x1d.length qd1] 26)) ⟨w.heap.size + 1, 1, none⟩ = some (.slice p1 x1n.length q1) ∧ World.cell? ((w.alloc (.cells #[.bool s0, .slice p0 x0n.length q0, .slice pd0 x0d.length qd0] 26)).alloc (.cells #[.bool s1, .slice p1 x1n.length q1, .slice pd1 x1d.length qd1] 26)) ⟨w.heap.size + 1, 2, none⟩ = some (.slice pd1 x1d.length qd1) := by simp [go_sem]
    go_enter Try.func11, Try.ntmps11
    go_wp2_with fail
    generalize ((w.alloc (.cells #[.bool s0, .slice p0 x0n.length q0, .slice pd0 x0d.length qd0] 26)).alloc (.cells #[.bool s1, .slice p1 x1n.length q1, .slice pd1 x1d.length qd1] 26)) = w0 at *
    have B0 := Below.refl w0.heap.size w0
    refine (szRat_x1 _ s0 x0n.length x0d.length _ _ _ _ (1048576) HL.out (by omega) hm0n (by omega)).mono ?_
    rintro e w1 ⟨rfl, hb⟩
    replace c0_0 := keep_cell hb c0_0
    replace c0_1 := keep_cell hb c0_1
    replace c0_2 := keep_cell hb c0_2
    replace c1_0 := keep_cell hb c1_0
    replace c1_1 := keep_cell hb c1_1
    replace c1_2 := keep_cell hb c1_2
    replace B0 := B0.trans (hb.mono B0.size)
    clear hb
    go_wp2
    go_ret
    exact retB rfl (BW.trans (B0.mono BW.size))
  case pos =>
    by_cases hlx0d : (0 : Int) ≤ 1048576 - (x0n.length : Int) - (x0d.length : Int)
    case neg =>
      have HL : Hid (1048576 - (x0n.length : Int) - (x0d.length : Int) < 0) := by unfold Hid; omega
      have BW : Below w.heap.size w ((w.alloc (.cells #[.bool s0, .slice p0 x0n.length q0, .slice pd0 x0d.length qd0] 26)).alloc (.cells #[.bool s1, .slice p1 x1n.length q1, .slice pd1 x1d.length qd1] 26)) := (((Below.refl w.heap.size w).alloc (Nat.le_refl _) _).alloc (by simp) _)
      obtain ⟨c0_0, c0_1, c0_2, c1_0, c1_1, c1_2⟩ : World.cell? ((w.alloc (.cells #[.bool s0, .slice p0 x0n.length q0, .slice pd0 x0d.length qd0] 26)).alloc (.cells #[.bool s1, .slice p1 x1n.length q1, .slice pd1 x1d.length qd1] 26)) ⟨w.heap.size, 0, none⟩ = some (.bool s0) ∧ World.cell? ((w.alloc (.cells #[.bool s0, .slice p0 x0n.length q0, .slice pd0 x0d.length qd0] 26)).alloc (.cells #[.bool s1, .slice p1 x1n.length q1, .slice pd1 x1d.length qd1] 26)) ⟨w.heap.size, 1, none⟩ = some (.slice p0 x0n.length q0) ∧ World.cell? ((w.alloc (.cells #[.bool s0, .slice p0 x0n.length q0, .slice pd0 x0d.length qd0] 26)).alloc (.cells #[.bool s1, .slice p1 x1n.length q1, .slice pd1 x1d.length qd1] 26)) ⟨w.heap.size, 2, none⟩ = some (.slice pd0 x0d.length qd0) ∧ World.cell? ((w.alloc (.cells #[.bool s0, .slice p0 x0n.length q0, .slice pd0 x0d.length qd0] 26)).alloc (.cells #[.bool s1, .slice p1 x1n.length q1, .slice pd1 x1d.length qd1] 26)) ⟨w.heap.size + 1, 0, none⟩ = some (.bool s1) ∧ World.cell? ((w.alloc (.cells #[.bool s0, .slice p0 x0n.length q0, .slice pd0 x0d.length qd0] 26)).alloc (.cells #[.bool s1, .slice p1 x1n.length q1, .slice pd1 x1d.length qd1] 26)) ⟨w.heap.size + 1, 1, none⟩ = some (.slice p1 x1n.length q1) ∧ World.cell? ((w.alloc (.cells #[.bool s0, .slice p0 x0n.length q0, .slice pd0 x0d.length qd0] 26)).alloc (.cells #[.bool s1, .slice p1 x1n.length q1, .slice pd1 x1d.length qd1] 26)) ⟨w.heap.size + 1, 2, none⟩ = some (.slice pd1 x1d.length qd1) := by simp [go_sem]
      go_enter Try.func11, Try.ntmps11
      go_wp2_with fail
      generalize ((w.alloc (.cells #[.bool s0, .slice p0 x0n.length q0, .slice pd0 x0d.length qd0] 26)).alloc (.cells #[.bool s1, .slice p1 x1n.length q1, .slice pd1 x1d.length qd1] 26)) = w0 at *
      have B0 := Below.refl w0.heap.size w0
      refine (szRat_x2 _ s0 x0n.length x0d.length _ _ _ _ (1048576) hlx0n HL.out (by omega) hm0d (by omega)).mono ?_
      rintro e w1 ⟨rfl, hb⟩
      replace c0_0 := keep_cell hb c0_0
      replace c0_1 := keep_cell hb c0_1
      replace c0_2 := keep_cell hb c0_2
      replace c1_0 := keep_cell hb c1_0
      replace c1_1 := keep_cell hb c1_1
      replace c1_2 := keep_cell hb c1_2
      replace B0 := B0.trans (hb.mono B0.size)
      clear hb
      go_wp2
      go_ret
      exact retB rfl (BW.trans (B0.mono BW.size))
    case pos =>
      by_cases hlx1n : (0 : Int) ≤ 1048576 - (x0n.length : Int) - (x0d.length : Int) - (x1n.length : Int)
      case neg =>
        have HL : Hid (1048576 - (x0n.length : Int) - (x0d.length : Int) - (x1n.length : Int) < 0) := by unfold Hid; omega
        have BW : Below w.heap.size w ((w.alloc (.cells #[.bool s0, .slice p0 x0n.length q0, .slice pd0 x0d.length qd0] 26)).alloc (.cells #[.bool s1, .slice p1 x1n.length q1, .slice pd1 x1d.length qd1] 26)) := (((Below.refl w.heap.size w).alloc (Nat.le_refl _) _).alloc (by simp) _)
        obtain ⟨c0_0, c0_1, c0_2, c1_0, c1_1, c1_2⟩ : World.cell? ((w.alloc (.cells #[.bool s0, .slice p0 x0n.length q0, .slice pd0 x0d.length qd0] 26)).alloc (.cells #[.bool s1, .slice p1 x1n.length q1, .slice pd1 x1d.length qd1] 26)) ⟨w.heap.size, 0, none⟩ = some (.bool s0) ∧ World.cell? ((w.alloc (.cells #[.bool s0, .slice p0 x0n.length q0, .slice pd0 x0d.length qd0] 26)).alloc (.cells #[.bool s1, .slice p1 x1n.length q1, .slice pd1 x1d.length qd1] 26)) ⟨w.heap.size, 1, none⟩ = some (.slice p0 x0n.length q0) ∧ World.cell? ((w.alloc (.cells #[.bool s0, .slice p0 x0n.length q0, .slice pd0 x0d.length qd0] 26)).alloc (.cells #[.bool s1, .slice p1 x1n.length q1, .slice pd1 x1d.length qd1] 26)) ⟨w.heap.size, 2, none⟩ = some (.slice pd0 x0d.length qd0) ∧ World.cell? ((w.alloc (.cells #[.bool s0, .slice p0 x0n.length q0, .slice pd0 x0d.length qd0] 26)).alloc (.cells #[.bool s1, .slice p1 x1n.length q1, .slice pd1 x1d.length qd1] 26)) ⟨w.heap.size + 1, 0, none⟩ = some (.bool s1) ∧ World.cell? ((w.alloc (.cells #[.bool s0, .slice p0 x0n.length q0, .slice pd0 x0d.length qd0] 26)).alloc (.cells #[.bool s1, .slice p1 x1n.length q1, .slice pd1 x1d.length qd1] 26)) ⟨w.heap.size + 1, 1, none⟩ = some (.slice p1 x1n.length q1) ∧ World.cell? ((w.alloc (.cells #[.bool s0, .slice p0 x0n.length q0, .slice pd0 x0d.length qd0] 26)).alloc (.cells #[.bool s1, .slice p1 x1n.length q1, .slice pd1 x1d.length qd1] 26)) ⟨w.heap.size + 1, 2, none⟩ = some (.slice pd1 x1d.length qd1) := by simp [go_sem]
        go_enter Try.func11, Try.ntmps11
        go_wp2_with fail
        generalize ((w.alloc (.cells #[.bool s0, .slice p0 x0n.length q0, .slice pd0 x0d.length qd0] 26)).alloc (.cells #[.bool s1, .slice p1 x1n.length q1, .slice pd1 x1d.length qd1] 26)) = w0 at *
        have B0 := Below.refl w0.heap.size w0
        refine (szRat_ok _ s0 x0n.length x0d.length _ _ _ _ (1048576) hlx0n hlx0d (by omega)).mono ?_
        rintro e w1 ⟨rfl, hb⟩
        replace c0_0 := keep_cell hb c0_0
        replace c0_1 := keep_cell hb c0_1
        replace c0_2 := keep_cell hb c0_2
        replace c1_0 := keep_cell hb c1_0
        replace c1_1 := keep_cell hb c1_1
        replace c1_2 := keep_cell hb c1_2
        replace B0 := B0.trans (hb.mono B0.size)
        clear hb
        have dl0 : decide (1048576 - (x0n.length : Int) - (x0d.length : Int) < 0) = false := decide_eq_false (by omega)
        go_wp2_with fail
        refine (szRat_x1 _ s1 x1n.length x1d.length _ _ _ _ (1048576 - (x0n.length : Int) - (x0d.length : Int)) HL.out (by omega) hm1n (by omega)).mono ?_
        rintro e w2 ⟨rfl, hb⟩
        replace c0_0 := keep_cell hb c0_0
        replace c0_1 := keep_cell hb c0_1
        replace c0_2 := keep_cell hb c0_2
        replace c1_0 := keep_cell hb c1_0
        replace c1_1 := keep_cell hb c1_1
        replace c1_2 := keep_cell hb c1_2
        replace B0 := B0.trans (hb.mono B0.size)
        clear hb
        go_wp2
        go_ret
        exact retB rfl (BW.trans (B0.mono BW.size))
      case pos =>
        by_cases hlx1d : (0 : Int) ≤ 1048576 - (x0n.length : Int) - (x0d.length : Int) - (x1n.length : Int) - (x1d.length : Int)
        case neg =>
          have HL : Hid (1048576 - (x0n.length : Int) - (x0d.length : Int) - (x1n.length : Int) - (x1d.length : Int) < 0) := by unfold Hid; omega
          have BW : Below w.heap.size w ((w.alloc (.cells #[.bool s0, .slice p0 x0n.length q0, .slice pd0 x0d.length qd0] 26)).alloc (.cells #[.bool s1, .slice p1 x1n.length q1, .slice pd1 x1d.length qd1] 26)) := (((Below.refl w.heap.size w).alloc (Nat.le_refl _) _).alloc (by simp) _)
          obtain ⟨c0_0, c0_1, c0_2, c1_0, c1_1, c1_2⟩ : World.cell? ((w.alloc (.cells #[.bool s0, .slice p0 x0n.length q0, .slice pd0 x0d.length qd0] 26)).alloc (.cells #[.bool s1, .slice p1 x1n.length q1, .slice pd1 x1d.length qd1] 26)) ⟨w.heap.size, 0, none⟩ = some (.bool s0) ∧ World.cell? ((w.alloc (.cells #[.bool s0, .slice p0 x0n.length q0, .slice pd0 x0d.length qd0] 26)).alloc (.cells #[.bool s1, .slice p1 x1n.length q1, .slice pd1 x1d.length qd1] 26)) ⟨w.heap.size, 1, none⟩ = some (.slice p0 x0n.length q0) ∧ World.cell? ((w.alloc (.cells #[.bool s0, .slice p0 x0n.length q0, .slice pd0 x0d.length qd0] 26)).alloc (.cells #[.bool s1, .slice p1 x1n.length q1, .slice pd1 x1d.length qd1] 26)) ⟨w.heap.size, 2, none⟩ = some (.slice pd0 x0d.length qd0) ∧ World.cell? ((w.alloc (.cells #[.bool s0, .slice p0 x0n.length q0, .slice pd0 x0d.length qd0] 26)).alloc (.cells #[.bool s1, .slice p1 x1n.length q1, .slice pd1 x1d.length qd1] 26)) ⟨w.heap.size + 1, 0, none⟩ = some (.bool s1) ∧ World.cell? ((w.alloc (.cells #[.bool s0, .slice p0 x0n.length q0, .slice pd0 x0d.length qd0] 26)).alloc (.cells #[.bool s1, .slice p1 x1n.length q1, .slice pd1 x1d.length qd1] 26)) ⟨w.heap.size + 1, 1, none⟩ = some (.slice p1 x1n.length q1) ∧ World.cell? ((w.alloc (.cells #[.bool s0, .slice p0 x0n.length q0, .slice pd0 x0d.length qd0] 26)).alloc (.cells #[.bool s1, .slice p1 x1n.length q1, .slice pd1 x1d.length qd1] 26)) ⟨w.heap.size + 1, 2, none⟩ = some (.slice pd1 x1d.length qd1) := by simp [go_sem]
          go_enter Try.func11, Try.ntmps11
          go_wp2_with fail
          generalize ((w.alloc (.cells #[.bool s0, .slice p0 x0n.length q0, .slice pd0 x0d.length qd0] 26)).alloc (.cells #[.bool s1, .slice p1 x1n.length q1, .slice pd1 x1d.length qd1] 26)) = w0 at *
          have B0 := Below.refl w0.heap.size w0
          refine (szRat_ok _ s0 x0n.length x0d.length _ _ _ _ (1048576) hlx0n hlx0d (by omega)).mono ?_
          rintro e w1 ⟨rfl, hb⟩
          replace c0_0 := keep_cell hb c0_0
          replace c0_1 := keep_cell hb c0_1
          replace c0_2 := keep_cell hb c0_2
          replace c1_0 := keep_cell hb c1_0
          replace c1_1 := keep_cell hb c1_1
          replace c1_2 := keep_cell hb c1_2
          replace B0 := B0.trans (hb.mono B0.size)
          clear hb
          have dl0 : decide (1048576 - (x0n.length : Int) - (x0d.length : Int) < 0) = false := decide_eq_false (by omega)
          go_wp2_with fail
          refine (szRat_x2 _ s1 x1n.length x1d.length _ _ _ _ (1048576 - (x0n.length : Int) - (x0d.length : Int)) hlx1n HL.out (by omega) hm1d (by omega)).mono ?_
          rintro e w2 ⟨rfl, hb⟩
          replace c0_0 := keep_cell hb c0_0
          replace c0_1 := keep_cell hb c0_1
          replace c0_2 := keep_cell hb c0_2
          replace c1_0 := keep_cell hb c1_0
          replace c1_1 := keep_cell hb c1_1
          replace c1_2 := keep_cell hb c1_2
          replace B0 := B0.trans (hb.mono B0.size)
          clear hb
          go_wp2
          go_ret
          exact retB rfl (BW.trans (B0.mono BW.size))
        case pos =>
          have hx0n : x0n.length ≤ 17592186044415 := by omega
          have hx0d : x0d.length ≤ 17592186044415 := by omega
          have hx1n : x1n.length ≤ 17592186044415 := by omega
          have hx1d : x1d.length ≤ 17592186044415 := by omega
          have BW : Below w.heap.size w ((w.alloc (.cells #[.bool s0, .slice p0 x0n.length q0, .slice pd0 x0d.length qd0] 26)).alloc (.cells #[.bool s1, .slice p1 x1n.length q1, .slice pd1 x1d.length qd1] 26)) := (((Below.refl w.heap.size w).alloc (Nat.le_refl _) _).alloc (by simp) _)
          obtain ⟨c0_0, c0_1, c0_2, c1_0, c1_1, c1_2⟩ : World.cell? ((w.alloc (.cells #[.bool s0, .slice p0 x0n.length q0, .slice pd0 x0d.length qd0] 26)).alloc (.cells #[.bool s1, .slice p1 x1n.length q1, .slice pd1 x1d.length qd1] 26)) ⟨w.heap.size, 0, none⟩ = some (.bool s0) ∧ World.cell? ((w.alloc (.cells #[.bool s0, .slice p0 x0n.length q0, .slice pd0 x0d.length qd0] 26)).alloc (.cells #[.bool s1, .slice p1 x1n.length q1, .slice pd1 x1d.length qd1] 26)) ⟨w.heap.size, 1, none⟩ = some (.slice p0 x0n.length q0) ∧ World.cell? ((w.alloc (.cells #[.bool s0, .slice p0 x0n.length q0, .slice pd0 x0d.length qd0] 26)).alloc (.cells #[.bool s1, .slice p1 x1n.length q1, .slice pd1 x1d.length qd1] 26)) ⟨w.heap.size, 2, none⟩ = some (.slice pd0 x0d.length qd0) ∧ World.cell? ((w.alloc (.cells #[.bool s0, .slice p0 x0n.length q0, .slice pd0 x0d.length qd0] 26)).alloc (.cells #[.bool s1, .slice p1 x1n.length q1, .slice pd1 x1d.length qd1] 26)) ⟨w.heap.size + 1, 0, none⟩ = some (.bool s1) ∧ World.cell? ((w.alloc (.cells #[.bool s0, .slice p0 x0n.length q0, .slice pd0 x0d.length qd0] 26)).alloc (.cells #[.bool s1, .slice p1 x1n.length q1, .slice pd1 x1d.length qd1] 26)) ⟨w.heap.size + 1, 1, none⟩ = some (.slice p1 x1n.length q1) ∧ World.cell? ((w.alloc (.cells #[.bool s0, .slice p0 x0n.length q0, .slice pd0 x0d.length qd0] 26)).alloc (.cells #[.bool s1, .slice p1 x1n.length q1, .slice pd1 x1d.length qd1] 26)) ⟨w.heap.size + 1, 2, none⟩ = some (.slice pd1 x1d.length qd1) := by simp [go_sem]
          go_enter Try.func11, Try.ntmps11
          go_wp2_with fail
          generalize ((w.alloc (.cells #[.bool s0, .slice p0 x0n.length q0, .slice pd0 x0d.length qd0] 26)).alloc (.cells #[.bool s1, .slice p1 x1n.length q1, .slice pd1 x1d.length qd1] 26)) = w0 at *
          have B0 := Below.refl w0.heap.size w0
          refine (szRat_ok _ s0 x0n.length x0d.length _ _ _ _ (1048576) hlx0n hlx0d (by omega)).mono ?_
          rintro e w1 ⟨rfl, hb⟩
          replace c0_0 := keep_cell hb c0_0
          replace c0_1 := keep_cell hb c0_1
          replace c0_2 := keep_cell hb c0_2
          replace c1_0 := keep_cell hb c1_0
          replace c1_1 := keep_cell hb c1_1
          replace c1_2 := keep_cell hb c1_2
          replace B0 := B0.trans (hb.mono B0.size)
          clear hb
          have dl0 : decide (1048576 - (x0n.length : Int) - (x0d.length : Int) < 0) = false := decide_eq_false (by omega)
          go_wp2_with fail
          refine (szRat_ok _ s1 x1n.length x1d.length _ _ _ _ (1048576 - (x0n.length : Int) - (x0d.length : Int)) hlx1n hlx1d (by omega)).mono ?_
          rintro e w2 ⟨rfl, hb⟩
          replace c0_0 := keep_cell hb c0_0
          replace c0_1 := keep_cell hb c0_1
          replace c0_2 := keep_cell hb c0_2
          replace c1_0 := keep_cell hb c1_0
          replace c1_1 := keep_cell hb c1_1
          replace c1_2 := keep_cell hb c1_2
          replace B0 := B0.trans (hb.mono B0.size)
          clear hb
          have dl1 : decide (1048576 - (x0n.length : Int) - (x0d.length : Int) - (x1n.length : Int) - (x1d.length : Int) < 0) = false := decide_eq_false (by omega)
          go_upto_region 8 with fail
          go_cut [6] (fun o6 wx => ∃ (gbw0 : Nat) (vw0n : Value) (vw0d : Value), o6 = .pointer (some ⟨gbw0, 0, none⟩) ∧ wx.cell? ⟨gbw0, 0, none⟩ = some (.bool t0) ∧ wx.cell? ⟨gbw0, 1, none⟩ = some vw0n ∧ wx.cell? ⟨gbw0, 2, none⟩ = some vw0d ∧ Hid (Own wx w0.heap.size vw0n r0n) ∧ Hid (Own wx w0.heap.size vw0d r0d) ∧ Hid (Apart vw0n vw0d) ∧ Below w2.heap.size w2 wx)
          case first =>
            have BC := below_drew (Below.refl w2.heap.size w2)
            have BWC := BW.trans (B0.mono BW.size)
            have hc0 := B0.size
            have hl_c0_0 := World.block_lt_of_cell? w2 _ c0_0
            have hl_c1_0 := World.block_lt_of_cell? w2 _ c1_0
            go_region_held3 (fun w' => w'.cell? ⟨w.heap.size, 0, none⟩ = some (.bool s0) ∧ w'.cell? ⟨w.heap.size, 1, none⟩ = some (.slice p0 x0n.length q0) ∧ w'.cell? ⟨w.heap.size, 2, none⟩ = some (.slice pd0 x0d.length qd0) ∧ w'.cell? ⟨w.heap.size + 1, 0, none⟩ = some (.bool s1) ∧ w'.cell? ⟨w.heap.size + 1, 1, none⟩ = some (.slice p1 x1n.length q1) ∧ w'.cell? ⟨w.heap.size + 1, 2, none⟩ = some (.slice pd1 x1d.length qd1) ∧ Below w2.heap.size w2 w') (first | exact ⟨keep_cell (BC) c0_0, keep_cell (BC) c0_1, keep_cell (BC) c0_2, keep_cell (BC) c1_0, keep_cell (BC) c1_1, keep_cell (BC) c1_2, BC⟩ | exact ⟨keep_cell (BC.alloc BC.size _) c0_0, keep_cell (BC.alloc BC.size _) c0_1, keep_cell (BC.alloc BC.size _) c0_2, keep_cell (BC.alloc BC.size _) c1_0, keep_cell (BC.alloc BC.size _) c1_1, keep_cell (BC.alloc BC.size _) c1_2, BC.alloc BC.size _⟩ | exact ⟨keep_cell (below_drew ((below_undrew BC).alloc BC.size _)) c0_0, keep_cell (below_drew ((below_undrew BC).alloc BC.size _)) c0_1, keep_cell (below_drew ((below_undrew BC).alloc BC.size _)) c0_2, keep_cell (below_drew ((below_undrew BC).alloc BC.size _)) c1_0, keep_cell (below_drew ((below_undrew BC).alloc BC.size _)) c1_1, keep_cell (below_drew ((below_undrew BC).alloc BC.size _)) c1_2, below_drew ((below_undrew BC).alloc BC.size _)⟩ | exact ⟨keep_cell (((BC.setCell hgz _).setCell hgz _).setCell hgz _) c0_0, keep_cell (((BC.setCell hgz _).setCell hgz _).setCell hgz _) c0_1, keep_cell (((BC.setCell hgz _).setCell hgz _).setCell hgz _) c0_2, keep_cell (((BC.setCell hgz _).setCell hgz _).setCell hgz _) c1_0, keep_cell (((BC.setCell hgz _).setCell hgz _).setCell hgz _) c1_1, keep_cell (((BC.setCell hgz _).setCell hgz _).setCell hgz _) c1_2, (((BC.setCell hgz _).setCell hgz _).setCell hgz _)⟩ | go_keep)
                          (first | (go_at_call_of 19 (Value.agg #[Value.bool s0, Value.slice p0 x0n.length q0, Value.slice pd0 x0d.length qd0]); refine (toRat_c _ _ _ s0 x0n x0d (R0.out.below (BWC.trans (Below.mono (by first | exact BC | exact BC.alloc BC.size _ | exact below_drew ((below_undrew BC).alloc BC.size _)) BWC.size))) hx0n hx0d).mono ?_; rintro e w3 ⟨vy0n, vy0d, rfl, ho1, ho2, ha, hb3⟩; (first | (replace f0 := keep_frozen hb3 k0 f0; replace k0 := keep_cell hb3 k0; replace f1 := keep_frozen hb3 k1 f1; replace k1 := keep_cell hb3 k1; replace f2 := keep_frozen hb3 k2 f2; replace k2 := keep_cell hb3 k2) | (with_reducible have hk := new_box3 hb3; obtain ⟨k0, k1, k2, f0, f1, f2⟩ := hk; have hgz := BC.size) | (with_reducible have hk := new_box3d hb3; obtain ⟨k0, k1, k2, f0, f1, f2⟩ := hk; have hgz := BC.size) | skip); (first | (with_reducible replace ho1 := Own.unalloc ho1) | (with_reducible replace ho1 := Own.unallocd ho1) | skip); (first | (with_reducible replace ho2 := Own.unalloc ho2) | (with_reducible replace ho2 := Own.unallocd ho2) | skip); (first | (with_reducible replace hb3 := alloc_below hb3) | (with_reducible replace hb3 := alloc_belowd hb3) | skip); (try (replace Hy0n := Lib.hid (Hy0n.out.below hb3 (Nat.le_refl _)))); (try (replace Hy0d := Lib.hid (Hy0d.out.below hb3 (Nat.le_refl _)))); (try (replace Hy1n := Lib.hid (Hy1n.out.below hb3 (Nat.le_refl _)))); (try (replace Hy1d := Lib.hid (Hy1d.out.below hb3 (Nat.le_refl _)))); have Hy0n := Lib.hid (ho1.mono (Nat.le_trans hc0 BC.size)); clear ho1; have Hy0d := Lib.hid (ho2.mono (Nat.le_trans hc0 BC.size)); clear ho2; have HA_y0n_y0d := Lib.hid ha; clear ha; obtain ⟨ay0n, cy0n, rfl, -, -, -, -, -⟩ := Hy0n.out.form; obtain ⟨ay0d, cy0d, rfl, -, -, -, -, -⟩ := Hy0d.out.form; replace BC := BC.trans (hb3.mono BC.size); clear hb3) | (go_at_call_of 19 (Value.agg #[Value.bool s1, Value.slice p1 x1n.length q1, Value.slice pd1 x1d.length qd1]); refine (toRat_c _ _ _ s1 x1n x1d (R1.out.below (BWC.trans (Below.mono (by first | exact BC | exact BC.alloc BC.size _ | exact below_drew ((below_undrew BC).alloc BC.size _)) BWC.size))) hx1n hx1d).mono ?_; rintro e w4 ⟨vy1n, vy1d, rfl, ho1, ho2, ha, hb4⟩; (first | (replace f0 := keep_frozen hb4 k0 f0; replace k0 := keep_cell hb4 k0; replace f1 := keep_frozen hb4 k1 f1; replace k1 := keep_cell hb4 k1; replace f2 := keep_frozen hb4 k2 f2; replace k2 := keep_cell hb4 k2) | (with_reducible have hk := new_box3 hb4; obtain ⟨k0, k1, k2, f0, f1, f2⟩ := hk; have hgz := BC.size) | (with_reducible have hk := new_box3d hb4; obtain ⟨k0, k1, k2, f0, f1, f2⟩ := hk; have hgz := BC.size) | skip); (first | (with_reducible replace ho1 := Own.unalloc ho1) | (with_reducible replace ho1 := Own.unallocd ho1) | skip); (first | (with_reducible replace ho2 := Own.unalloc ho2) | (with_reducible replace ho2 := Own.unallocd ho2) | skip); (first | (with_reducible replace hb4 := alloc_below hb4) | (with_reducible replace hb4 := alloc_belowd hb4) | skip); (try (replace Hy0n := Lib.hid (Hy0n.out.below hb4 (Nat.le_refl _)))); (try (replace Hy0d := Lib.hid (Hy0d.out.below hb4 (Nat.le_refl _)))); (try (replace Hy1n := Lib.hid (Hy1n.out.below hb4 (Nat.le_refl _)))); (try (replace Hy1d := Lib.hid (Hy1d.out.below hb4 (Nat.le_refl _)))); have Hy1n := Lib.hid (ho1.mono (Nat.le_trans hc0 BC.size)); clear ho1; have Hy1d := Lib.hid (ho2.mono (Nat.le_trans hc0 BC.size)); clear ho2; have HA_y1n_y1d := Lib.hid ha; clear ha; obtain ⟨ay1n, cy1n, rfl, -, -, -, -, -⟩ := Hy1n.out.form; obtain ⟨ay1d, cy1d, rfl, -, -, -, -, -⟩ := Hy1d.out.form; replace BC := BC.trans (hb4.mono BC.size); clear hb4) | (go_at_call 42; refine (K1.out _ w0.heap.size _ w0.heap.size _ w0.heap.size _ w0.heap.size _ (by first | exact Hy0n.out | exact Hy0n.out.alloc _) (by first | exact Hy0d.out | exact Hy0d.out.alloc _) (by first | exact Hy1n.out | exact Hy1n.out.alloc _) (by first | exact Hy1d.out | exact Hy1d.out.alloc _)).mono ?_; rintro e w5 ⟨vw0n, vw0d, rfl, ho1, ho2, ha, hb5⟩; (first | (have hneho1 := own_ne_old k0 ho1) | (with_reducible have hneho1 := own_ne_alloc ho1) | (with_reducible have hneho1 := own_ne_allocd ho1) | skip); (first | (have hneho2 := own_ne_old k0 ho2) | (with_reducible have hneho2 := own_ne_alloc ho2) | (with_reducible have hneho2 := own_ne_allocd ho2) | skip); (first | (replace f0 := keep_frozen hb5 k0 f0; replace k0 := keep_cell hb5 k0; replace f1 := keep_frozen hb5 k1 f1; replace k1 := keep_cell hb5 k1; replace f2 := keep_frozen hb5 k2 f2; replace k2 := keep_cell hb5 k2) | (with_reducible have hk := new_box3 hb5; obtain ⟨k0, k1, k2, f0, f1, f2⟩ := hk; have hgz := BC.size) | (with_reducible have hk := new_box3d hb5; obtain ⟨k0, k1, k2, f0, f1, f2⟩ := hk; have hgz := BC.size) | skip); (first | (with_reducible replace ho1 := Own.unalloc ho1) | (with_reducible replace ho1 := Own.unallocd ho1) | skip); (first | (with_reducible replace ho2 := Own.unalloc ho2) | (with_reducible replace ho2 := Own.unallocd ho2) | skip); (first | (with_reducible replace hb5 := alloc_below hb5) | (with_reducible replace hb5 := alloc_belowd hb5) | skip); (try (replace Hy0n := Lib.hid (Hy0n.out.below hb5 (Nat.le_refl _)))); (try (replace Hy0d := Lib.hid (Hy0d.out.below hb5 (Nat.le_refl _)))); (try (replace Hy1n := Lib.hid (Hy1n.out.below hb5 (Nat.le_refl _)))); (try (replace Hy1d := Lib.hid (Hy1d.out.below hb5 (Nat.le_refl _)))); have Hw0n := Lib.hid (ho1.mono (Nat.le_trans hc0 BC.size)); clear ho1; have Hw0d := Lib.hid (ho2.mono (Nat.le_trans hc0 BC.size)); clear ho2; have HA_w0n_w0d := Lib.hid ha; clear ha; obtain ⟨aw0n, cw0n, rfl, -, -, -, -, -⟩ := Hw0n.out.form; obtain ⟨aw0d, cw0d, rfl, -, -, -, -, -⟩ := Hw0d.out.form; replace BC := BC.trans (hb5.mono BC.size); clear hb5))
            all_goals
              go_wp2_with fail
              go_meet
              first | exact ⟨_, _, _, rfl, (by simp [go_sem]), (by simp [go_sem]), (by simp [go_sem]), Hw0n.out.alloc _, Hw0d.out.alloc _, HA_w0n_w0d.out, BC.alloc BC.size _⟩ | exact ⟨_, _, _, rfl, (set_box3 k0 k1 k2).1, (set_box3 k0 k1 k2).2.1, (set_box3 k0 k1 k2).2.2, (((Hw0n.out.setOther hneho1 _).setOther hneho1 _).setOther hneho1 _), (((Hw0d.out.setOther hneho2 _).setOther hneho2 _).setOther hneho2 _), HA_w0n_w0d.out, (((BC.setCell hgz _).setCell hgz _).setCell hgz _)⟩
          case rest =>
            obtain ⟨gbw0, vw0n, vw0d, rfl, bw0_0, bw0_1, bw0_2, Hw0n, Hw0d, HA_w0n_w0d, hb⟩ := hcut
            generalize wc = w6 at *
            replace c0_0 := keep_cell hb c0_0
            replace c0_1 := keep_cell hb c0_1
            replace c0_2 := keep_cell hb c0_2
            replace c1_0 := keep_cell hb c1_0
            replace c1_1 := keep_cell hb c1_1
            replace c1_2 := keep_cell hb c1_2
            obtain ⟨aw0n, cw0n, rfl, -, -, -, -, -⟩ := Hw0n.out.form
            obtain ⟨aw0d, cw0d, rfl, -, -, -, -, -⟩ := Hw0d.out.form
            replace B0 := B0.trans (hb.mono B0.size)
            clear hb
            go_wp2_with fail
            refine (toRat_c _ _ _ s0 x0n x0d (R0.out.below (BW.trans (B0.mono BW.size))) hx0n hx0d).mono ?_
            rintro e w7 ⟨vz0n, vz0d, rfl, ho1, ho2, ha, hb⟩
            have HN_z0n_c0 := Lib.hid (own_ne_old c0_0 ho1)
            have HN_z0n_c1 := Lib.hid (own_ne_old c1_0 ho1)
            have HN_z0n_bw0 := Lib.hid (own_ne_old bw0_0 ho1)
            have HA_w0n_z0n := Lib.hid (apart_new Hw0n.out (.inr rfl) ho1)
            have HA_w0d_z0n := Lib.hid (apart_new Hw0d.out (.inr rfl) ho1)
            have HN_z0d_c0 := Lib.hid (own_ne_old c0_0 ho2)
            have HN_z0d_c1 := Lib.hid (own_ne_old c1_0 ho2)
            have HN_z0d_bw0 := Lib.hid (own_ne_old bw0_0 ho2)
            have HA_w0n_z0d := Lib.hid (apart_new Hw0n.out (.inr rfl) ho2)
            have HA_w0d_z0d := Lib.hid (apart_new Hw0d.out (.inr rfl) ho2)
            replace c0_0 := keep_cell hb c0_0
            replace c0_1 := keep_cell hb c0_1
            replace c0_2 := keep_cell hb c0_2
            replace c1_0 := keep_cell hb c1_0
            replace c1_1 := keep_cell hb c1_1
            replace c1_2 := keep_cell hb c1_2
            replace bw0_0 := keep_cell hb bw0_0
            replace bw0_1 := keep_cell hb bw0_1
            replace bw0_2 := keep_cell hb bw0_2
            replace Hw0n := Lib.hid (Hw0n.out.below hb (Nat.le_refl _))
            replace Hw0d := Lib.hid (Hw0d.out.below hb (Nat.le_refl _))
            have Hz0n := Lib.hid (ho1.mono B0.size)
            clear ho1
            have Hz0d := Lib.hid (ho2.mono B0.size)
            clear ho2
            have HA_z0n_z0d := Lib.hid ha
            clear ha
            obtain ⟨az0n, cz0n, rfl, -, -, -, -, -⟩ := Hz0n.out.form
            obtain ⟨az0d, cz0d, rfl, -, -, -, -, -⟩ := Hz0d.out.form
            replace B0 := B0.trans (hb.mono B0.size)
            clear hb
            have HN_z0n_bx0 := Lib.hid (own_ne_new Hz0n.out)
            have HN_z0d_bx0 := Lib.hid (own_ne_new Hz0d.out)
            have hb := alloc_bel w7 (.cells #[.bool s0, .slice az0n x0n.length cz0n, .slice az0d x0d.length cz0d] 31)
            replace c0_0 := keep_cell hb c0_0
            replace c0_1 := keep_cell hb c0_1
            replace c0_2 := keep_cell hb c0_2
            replace c1_0 := keep_cell hb c1_0
            replace c1_1 := keep_cell hb c1_1
            replace c1_2 := keep_cell hb c1_2
            replace bw0_0 := keep_cell hb bw0_0
            replace bw0_1 := keep_cell hb bw0_1
            replace bw0_2 := keep_cell hb bw0_2
            replace Hw0n := Lib.hid (Hw0n.out.below hb (Nat.le_refl _))
            replace Hw0d := Lib.hid (Hw0d.out.below hb (Nat.le_refl _))
            replace Hz0n := Lib.hid (Hz0n.out.below hb (Nat.le_refl _))
            replace Hz0d := Lib.hid (Hz0d.out.below hb (Nat.le_refl _))
            obtain ⟨bx0_0, bx0_1, bx0_2⟩ : World.cell? (w7.alloc (.cells #[.bool s0, .slice az0n x0n.length cz0n, .slice az0d x0d.length cz0d] 31)) ⟨w7.heap.size, 0, none⟩ = some (.bool s0) ∧ World.cell? (w7.alloc (.cells #[.bool s0, .slice az0n x0n.length cz0n, .slice az0d x0d.length cz0d] 31)) ⟨w7.heap.size, 1, none⟩ = some (.slice az0n x0n.length cz0n) ∧ World.cell? (w7.alloc (.cells #[.bool s0, .slice az0n x0n.length cz0n, .slice az0d x0d.length cz0d] 31)) ⟨w7.heap.size, 2, none⟩ = some (.slice az0d x0d.length cz0d) := by simp [go_sem]
            replace B0 := B0.trans (hb.mono B0.size)
            clear hb
            go_wp2_with fail
            generalize w7.alloc (.cells #[.bool s0, .slice az0n x0n.length cz0n, .slice az0d x0d.length cz0d] 31) = w8 at *
            refine (toRat_c _ _ _ s1 x1n x1d (R1.out.below (BW.trans (B0.mono BW.size))) hx1n hx1d).mono ?_
            rintro e w9 ⟨vz1n, vz1d, rfl, ho1, ho2, ha, hb⟩
            have HN_z1n_c0 := Lib.hid (own_ne_old c0_0 ho1)
            have HN_z1n_c1 := Lib.hid (own_ne_old c1_0 ho1)
            have HN_z1n_bw0 := Lib.hid (own_ne_old bw0_0 ho1)
            have HN_z1n_bx0 := Lib.hid (own_ne_old bx0_0 ho1)
            have HA_w0n_z1n := Lib.hid (apart_new Hw0n.out (.inr rfl) ho1)
            have HA_w0d_z1n := Lib.hid (apart_new Hw0d.out (.inr rfl) ho1)
            have HA_z0n_z1n := Lib.hid (apart_new Hz0n.out (.inr rfl) ho1)
            have HA_z0d_z1n := Lib.hid (apart_new Hz0d.out (.inr rfl) ho1)
            have HN_z1d_c0 := Lib.hid (own_ne_old c0_0 ho2)
            have HN_z1d_c1 := Lib.hid (own_ne_old c1_0 ho2)
            have HN_z1d_bw0 := Lib.hid (own_ne_old bw0_0 ho2)
            have HN_z1d_bx0 := Lib.hid (own_ne_old bx0_0 ho2)
            have HA_w0n_z1d := Lib.hid (apart_new Hw0n.out (.inr rfl) ho2)
            have HA_w0d_z1d := Lib.hid (apart_new Hw0d.out (.inr rfl) ho2)
            have HA_z0n_z1d := Lib.hid (apart_new Hz0n.out (.inr rfl) ho2)
            have HA_z0d_z1d := Lib.hid (apart_new Hz0d.out (.inr rfl) ho2)
            replace c0_0 := keep_cell hb c0_0
            replace c0_1 := keep_cell hb c0_1
            replace c0_2 := keep_cell hb c0_2
            replace c1_0 := keep_cell hb c1_0
            replace c1_1 := keep_cell hb c1_1
            replace c1_2 := keep_cell hb c1_2
            replace bw0_0 := keep_cell hb bw0_0
            replace bw0_1 := keep_cell hb bw0_1
            replace bw0_2 := keep_cell hb bw0_2
            replace bx0_0 := keep_cell hb bx0_0
            replace bx0_1 := keep_cell hb bx0_1
            replace bx0_2 := keep_cell hb bx0_2
            replace Hw0n := Lib.hid (Hw0n.out.below hb (Nat.le_refl _))
            replace Hw0d := Lib.hid (Hw0d.out.below hb (Nat.le_refl _))
            replace Hz0n := Lib.hid (Hz0n.out.below hb (Nat.le_refl _))
            replace Hz0d := Lib.hid (Hz0d.out.below hb (Nat.le_refl _))
            have Hz1n := Lib.hid (ho1.mono B0.size)
            clear ho1
            have Hz1d := Lib.hid (ho2.mono B0.size)
            clear ho2
            have HA_z1n_z1d := Lib.hid ha
            clear ha
            obtain ⟨az1n, cz1n, rfl, -, -, -, -, -⟩ := Hz1n.out.form
            obtain ⟨az1d, cz1d, rfl, -, -, -, -, -⟩ := Hz1d.out.form
            replace B0 := B0.trans (hb.mono B0.size)
            clear hb
            have HN_z0n_bx1 := Lib.hid (own_ne_new Hz0n.out)
            have HN_z0d_bx1 := Lib.hid (own_ne_new Hz0d.out)
            have HN_z1d_bx1 := Lib.hid (own_ne_new Hz1d.out)
            have HN_z1n_bx1 := Lib.hid (own_ne_new Hz1n.out)
            have hb := alloc_bel w9 (.cells #[.bool s1, .slice az1n x1n.length cz1n, .slice az1d x1d.length cz1d] 31)
            replace c0_0 := keep_cell hb c0_0
            replace c0_1 := keep_cell hb c0_1
            replace c0_2 := keep_cell hb c0_2
            replace c1_0 := keep_cell hb c1_0
            replace c1_1 := keep_cell hb c1_1
            replace c1_2 := keep_cell hb c1_2
            replace bw0_0 := keep_cell hb bw0_0
            replace bw0_1 := keep_cell hb bw0_1
            replace bw0_2 := keep_cell hb bw0_2
            replace bx0_0 := keep_cell hb bx0_0
            replace bx0_1 := keep_cell hb bx0_1
            replace bx0_2 := keep_cell hb bx0_2
            replace Hw0n := Lib.hid (Hw0n.out.below hb (Nat.le_refl _))
            replace Hw0d := Lib.hid (Hw0d.out.below hb (Nat.le_refl _))
            replace Hz0n := Lib.hid (Hz0n.out.below hb (Nat.le_refl _))
            replace Hz0d := Lib.hid (Hz0d.out.below hb (Nat.le_refl _))
            replace Hz1n := Lib.hid (Hz1n.out.below hb (Nat.le_refl _))
            replace Hz1d := Lib.hid (Hz1d.out.below hb (Nat.le_refl _))
            obtain ⟨bx1_0, bx1_1, bx1_2⟩ : World.cell? (w9.alloc (.cells #[.bool s1, .slice az1n x1n.length cz1n, .slice az1d x1d.length cz1d] 31)) ⟨w9.heap.size, 0, none⟩ = some (.bool s1) ∧ World.cell? (w9.alloc (.cells #[.bool s1, .slice az1n x1n.length cz1n, .slice az1d x1d.length cz1d] 31)) ⟨w9.heap.size, 1, none⟩ = some (.slice az1n x1n.length cz1n) ∧ World.cell? (w9.alloc (.cells #[.bool s1, .slice az1n x1n.length cz1n, .slice az1d x1d.length cz1d] 31)) ⟨w9.heap.size, 2, none⟩ = some (.slice az1d x1d.length cz1d) := by simp [go_sem]
            replace B0 := B0.trans (hb.mono B0.size)
            clear hb
            go_wp2_with fail
            generalize w9.alloc (.cells #[.bool s1, .slice az1n x1n.length cz1n, .slice az1d x1d.length cz1d] 31) = w10 at *
            refine (K2.out _ _ _ _ _ _ _ _ _ Hz0n.out Hz0d.out Hz1n.out Hz1d.out).mono ?_
            rintro e w11 ⟨vg0n, vg0d, rfl, ho1, ho2, ha, hb⟩
            have HN_g0n_c0 := Lib.hid (own_ne_old c0_0 ho1)
            have HN_g0n_c1 := Lib.hid (own_ne_old c1_0 ho1)
            have HN_g0n_bw0 := Lib.hid (own_ne_old bw0_0 ho1)
            have HN_g0n_bx0 := Lib.hid (own_ne_old bx0_0 ho1)
            have HN_g0n_bx1 := Lib.hid (own_ne_old bx1_0 ho1)
            have HA_w0n_g0n := Lib.hid (apart_new Hw0n.out (.inr rfl) ho1)
            have HA_w0d_g0n := Lib.hid (apart_new Hw0d.out (.inr rfl) ho1)
            have HA_z0n_g0n := Lib.hid (apart_new Hz0n.out (.inr rfl) ho1)
            have HA_z0d_g0n := Lib.hid (apart_new Hz0d.out (.inr rfl) ho1)
            have HA_z1n_g0n := Lib.hid (apart_new Hz1n.out (.inr rfl) ho1)
            have HA_z1d_g0n := Lib.hid (apart_new Hz1d.out (.inr rfl) ho1)
            have HN_g0d_c0 := Lib.hid (own_ne_old c0_0 ho2)
            have HN_g0d_c1 := Lib.hid (own_ne_old c1_0 ho2)
            have HN_g0d_bw0 := Lib.hid (own_ne_old bw0_0 ho2)
            have HN_g0d_bx0 := Lib.hid (own_ne_old bx0_0 ho2)
            have HN_g0d_bx1 := Lib.hid (own_ne_old bx1_0 ho2)
            have HA_w0n_g0d := Lib.hid (apart_new Hw0n.out (.inr rfl) ho2)
            have HA_w0d_g0d := Lib.hid (apart_new Hw0d.out (.inr rfl) ho2)
            have HA_z0n_g0d := Lib.hid (apart_new Hz0n.out (.inr rfl) ho2)
            have HA_z0d_g0d := Lib.hid (apart_new Hz0d.out (.inr rfl) ho2)
            have HA_z1n_g0d := Lib.hid (apart_new Hz1n.out (.inr rfl) ho2)
            have HA_z1d_g0d := Lib.hid (apart_new Hz1d.out (.inr rfl) ho2)
            replace c0_0 := keep_cell hb c0_0
            replace c0_1 := keep_cell hb c0_1
            replace c0_2 := keep_cell hb c0_2
            replace c1_0 := keep_cell hb c1_0
            replace c1_1 := keep_cell hb c1_1
            replace c1_2 := keep_cell hb c1_2
            replace bw0_0 := keep_cell hb bw0_0
            replace bw0_1 := keep_cell hb bw0_1
            replace bw0_2 := keep_cell hb bw0_2
            replace bx0_0 := keep_cell hb bx0_0
            replace bx0_1 := keep_cell hb bx0_1
            replace bx0_2 := keep_cell hb bx0_2
            replace bx1_0 := keep_cell hb bx1_0
            replace bx1_1 := keep_cell hb bx1_1
            replace bx1_2 := keep_cell hb bx1_2
            replace Hw0n := Lib.hid (Hw0n.out.below hb (Nat.le_refl _))
            replace Hw0d := Lib.hid (Hw0d.out.below hb (Nat.le_refl _))
            replace Hz0n := Lib.hid (Hz0n.out.below hb (Nat.le_refl _))
            replace Hz0d := Lib.hid (Hz0d.out.below hb (Nat.le_refl _))
            replace Hz1n := Lib.hid (Hz1n.out.below hb (Nat.le_refl _))
            replace Hz1d := Lib.hid (Hz1d.out.below hb (Nat.le_refl _))
            have Hg0n := Lib.hid (ho1.mono B0.size)
            clear ho1
            have Hg0d := Lib.hid (ho2.mono B0.size)
            clear ho2
            have HA_g0n_g0d := Lib.hid ha
            clear ha
            obtain ⟨ag0n, cg0n, rfl, -, -, -, -, -⟩ := Hg0n.out.form
            obtain ⟨ag0d, cg0d, rfl, -, -, -, -, -⟩ := Hg0d.out.form
            replace B0 := B0.trans (hb.mono B0.size)
            clear hb
            have HN_z0n_bg0 := Lib.hid (own_ne_new Hz0n.out)
            have HN_z0d_bg0 := Lib.hid (own_ne_new Hz0d.out)
            have HN_g0n_bg0 := Lib.hid (own_ne_new Hg0n.out)
            have HN_g0d_bg0 := Lib.hid (own_ne_new Hg0d.out)
            have HN_z1d_bg0 := Lib.hid (own_ne_new Hz1d.out)
            have HN_z1n_bg0 := Lib.hid (own_ne_new Hz1n.out)
            have hb := alloc_bel w11 (.cells #[.bool t0, .slice ag0n r0n.length cg0n, .slice ag0d r0d.length cg0d] 31)
            replace c0_0 := keep_cell hb c0_0
            replace c0_1 := keep_cell hb c0_1
            replace c0_2 := keep_cell hb c0_2
            replace c1_0 := keep_cell hb c1_0
            replace c1_1 := keep_cell hb c1_1
            replace c1_2 := keep_cell hb c1_2
            replace bw0_0 := keep_cell hb bw0_0
            replace bw0_1 := keep_cell hb bw0_1
            replace bw0_2 := keep_cell hb bw0_2
            replace bx0_0 := keep_cell hb bx0_0
            replace bx0_1 := keep_cell hb bx0_1
            replace bx0_2 := keep_cell hb bx0_2
            replace bx1_0 := keep_cell hb bx1_0
            replace bx1_1 := keep_cell hb bx1_1
            replace bx1_2 := keep_cell hb bx1_2
            replace Hw0n := Lib.hid (Hw0n.out.below hb (Nat.le_refl _))
            replace Hw0d := Lib.hid (Hw0d.out.below hb (Nat.le_refl _))
            replace Hz0n := Lib.hid (Hz0n.out.below hb (Nat.le_refl _))
            replace Hz0d := Lib.hid (Hz0d.out.below hb (Nat.le_refl _))
            replace Hz1n := Lib.hid (Hz1n.out.below hb (Nat.le_refl _))
            replace Hz1d := Lib.hid (Hz1d.out.below hb (Nat.le_refl _))
            replace Hg0n := Lib.hid (Hg0n.out.below hb (Nat.le_refl _))
            replace Hg0d := Lib.hid (Hg0d.out.below hb (Nat.le_refl _))
            obtain ⟨bg0_0, bg0_1, bg0_2⟩ : World.cell? (w11.alloc (.cells #[.bool t0, .slice ag0n r0n.length cg0n, .slice ag0d r0d.length cg0d] 31)) ⟨w11.heap.size, 0, none⟩ = some (.bool t0) ∧ World.cell? (w11.alloc (.cells #[.bool t0, .slice ag0n r0n.length cg0n, .slice ag0d r0d.length cg0d] 31)) ⟨w11.heap.size, 1, none⟩ = some (.slice ag0n r0n.length cg0n) ∧ World.cell? (w11.alloc (.cells #[.bool t0, .slice ag0n r0n.length cg0n, .slice ag0d r0d.length cg0d] 31)) ⟨w11.heap.size, 2, none⟩ = some (.slice ag0d r0d.length cg0d) := by simp [go_sem]
            replace B0 := B0.trans (hb.mono B0.size)
            clear hb
            go_wp2_with fail
            generalize w11.alloc (.cells #[.bool t0, .slice ag0n r0n.length cg0n, .slice ag0d r0d.length cg0d] 31) = w12 at *
            refine (eqRat_c _ t0 r0n r0d Hg0n.out Hg0d.out Hw0n.out Hw0d.out).mono ?_
            rintro e w13 ⟨rfl, hb⟩
            replace c0_0 := keep_cell hb c0_0
            replace c0_1 := keep_cell hb c0_1
            replace c0_2 := keep_cell hb c0_2
            replace c1_0 := keep_cell hb c1_0
            replace c1_1 := keep_cell hb c1_1
            replace c1_2 := keep_cell hb c1_2
            replace bw0_0 := keep_cell hb bw0_0
            replace bw0_1 := keep_cell hb bw0_1
            replace bw0_2 := keep_cell hb bw0_2
            replace bx0_0 := keep_cell hb bx0_0
            replace bx0_1 := keep_cell hb bx0_1
            replace bx0_2 := keep_cell hb bx0_2
            replace bx1_0 := keep_cell hb bx1_0
            replace bx1_1 := keep_cell hb bx1_1
            replace bx1_2 := keep_cell hb bx1_2
            replace bg0_0 := keep_cell hb bg0_0
            replace bg0_1 := keep_cell hb bg0_1
            replace bg0_2 := keep_cell hb bg0_2
            replace Hw0n := Lib.hid (Hw0n.out.below hb (Nat.le_refl _))
            replace Hw0d := Lib.hid (Hw0d.out.below hb (Nat.le_refl _))
            replace Hz0n := Lib.hid (Hz0n.out.below hb (Nat.le_refl _))
            replace Hz0d := Lib.hid (Hz0d.out.below hb (Nat.le_refl _))
            replace Hz1n := Lib.hid (Hz1n.out.below hb (Nat.le_refl _))
            replace Hz1d := Lib.hid (Hz1d.out.below hb (Nat.le_refl _))
            replace Hg0n := Lib.hid (Hg0n.out.below hb (Nat.le_refl _))
            replace Hg0d := Lib.hid (Hg0d.out.below hb (Nat.le_refl _))
            replace B0 := B0.trans (hb.mono B0.size)
            clear hb
            go_wp2_with fail
            replace Hw0n := Lib.hid Hw0n.out.drew
            replace Hw0d := Lib.hid Hw0d.out.drew
            replace Hz0n := Lib.hid Hz0n.out.drew
            replace Hz0d := Lib.hid Hz0d.out.drew
            replace Hz1n := Lib.hid Hz1n.out.drew
            replace Hz1d := Lib.hid Hz1d.out.drew
            replace Hg0n := Lib.hid Hg0n.out.drew
            replace Hg0d := Lib.hid Hg0d.out.drew
            replace B0 := below_drew B0
            replace c0_0 := cell_drew c0_0
            replace c0_1 := cell_drew c0_1
            replace c0_2 := cell_drew c0_2
            replace c1_0 := cell_drew c1_0
            replace c1_1 := cell_drew c1_1
            replace c1_2 := cell_drew c1_2
            replace bw0_0 := cell_drew bw0_0
            replace bw0_1 := cell_drew bw0_1
            replace bw0_2 := cell_drew bw0_2
            replace bx0_0 := cell_drew bx0_0
            replace bx0_1 := cell_drew bx0_1
            replace bx0_2 := cell_drew bx0_2
            replace bx1_0 := cell_drew bx1_0
            replace bx1_1 := cell_drew bx1_1
            replace bx1_2 := cell_drew bx1_2
            replace bg0_0 := cell_drew bg0_0
            replace bg0_1 := cell_drew bg0_1
            replace bg0_2 := cell_drew bg0_2
            go_region_held3 (fun w' => w'.cell? ⟨w.heap.size, 0, none⟩ = some (.bool s0) ∧ w'.cell? ⟨w.heap.size, 1, none⟩ = some (.slice p0 x0n.length q0) ∧ w'.cell? ⟨w.heap.size, 2, none⟩ = some (.slice pd0 x0d.length qd0) ∧ w'.cell? ⟨w7.heap.size, 0, none⟩ = some (.bool s0) ∧ w'.cell? ⟨w7.heap.size, 1, none⟩ = some (.slice az0n x0n.length cz0n) ∧ w'.cell? ⟨w7.heap.size, 2, none⟩ = some (.slice az0d x0d.length cz0d)) (first | exact ⟨c0_0, c0_1, c0_2, bx0_0, bx0_1, bx0_2⟩ | exact ⟨keep_cell (alloc_bel _ _) c0_0, keep_cell (alloc_bel _ _) c0_1, keep_cell (alloc_bel _ _) c0_2, keep_cell (alloc_bel _ _) bx0_0, keep_cell (alloc_bel _ _) bx0_1, keep_cell (alloc_bel _ _) bx0_2⟩ | (go_split_ands; exact ⟨(set_far (set_far ‹_› (by dsimp only; omega)) (by dsimp only; omega)), (set_far (set_far ‹_› (by dsimp only; omega)) (by dsimp only; omega)), (set_far (set_far ‹_› (by dsimp only; omega)) (by dsimp only; omega)), (set_far (set_far ‹_› (by dsimp only; omega)) (by dsimp only; omega)), (set_far (set_far ‹_› (by dsimp only; omega)) (by dsimp only; omega)), (set_far (set_far ‹_› (by dsimp only; omega)) (by dsimp only; omega))⟩) | (go_split_ands; exact ⟨(set_far (set_far (set_far ‹_› (by dsimp only; omega)) (by dsimp only; omega)) (by dsimp only; omega)), (set_far (set_far (set_far ‹_› (by dsimp only; omega)) (by dsimp only; omega)) (by dsimp only; omega)), (set_far (set_far (set_far ‹_› (by dsimp only; omega)) (by dsimp only; omega)) (by dsimp only; omega)), (set_far (set_far (set_far ‹_› (by dsimp only; omega)) (by dsimp only; omega)) (by dsimp only; omega)), (set_far (set_far (set_far ‹_› (by dsimp only; omega)) (by dsimp only; omega)) (by dsimp only; omega)), (set_far (set_far (set_far ‹_› (by dsimp only; omega)) (by dsimp only; omega)) (by dsimp only; omega))⟩) | (go_split_ands; exact ⟨(set_far ‹_› (by dsimp only; omega)), (set_far ‹_› (by dsimp only; omega)), (set_far ‹_› (by dsimp only; omega)), (set_far ‹_› (by dsimp only; omega)), (set_far ‹_› (by dsimp only; omega)), (set_far ‹_› (by dsimp only; omega))⟩) | go_keep)
              (first | (go_at_call 19; refine (toRat_c _ _ _ s0 x0n x0d (R0.out.below (BW.trans (B0.mono BW.size))) hx0n hx0d).mono ?_; rintro e w14 ⟨vq0n, vq0d, rfl, ho1, ho2, ha, hb14⟩; replace c0_0 := keep_cell (w1 := w14) hb14 c0_0; replace c0_1 := keep_cell (w1 := w14) hb14 c0_1; replace c0_2 := keep_cell (w1 := w14) hb14 c0_2; replace c1_0 := keep_cell (w1 := w14) hb14 c1_0; replace c1_1 := keep_cell (w1 := w14) hb14 c1_1; replace c1_2 := keep_cell (w1 := w14) hb14 c1_2; replace bw0_0 := keep_cell (w1 := w14) hb14 bw0_0; replace bw0_1 := keep_cell (w1 := w14) hb14 bw0_1; replace bw0_2 := keep_cell (w1 := w14) hb14 bw0_2; replace bx0_0 := keep_cell (w1 := w14) hb14 bx0_0; replace bx0_1 := keep_cell (w1 := w14) hb14 bx0_1; replace bx0_2 := keep_cell (w1 := w14) hb14 bx0_2; replace bx1_0 := keep_cell (w1 := w14) hb14 bx1_0; replace bx1_1 := keep_cell (w1 := w14) hb14 bx1_1; replace bx1_2 := keep_cell (w1 := w14) hb14 bx1_2; replace bg0_0 := keep_cell (w1 := w14) hb14 bg0_0; replace bg0_1 := keep_cell (w1 := w14) hb14 bg0_1; replace bg0_2 := keep_cell (w1 := w14) hb14 bg0_2; replace Hw0n := Lib.hid (Hw0n.out.below hb14 (Nat.le_refl _)); replace Hw0d := Lib.hid (Hw0d.out.below hb14 (Nat.le_refl _)); replace Hz0n := Lib.hid (Hz0n.out.below hb14 (Nat.le_refl _)); replace Hz0d := Lib.hid (Hz0d.out.below hb14 (Nat.le_refl _)); replace Hz1n := Lib.hid (Hz1n.out.below hb14 (Nat.le_refl _)); replace Hz1d := Lib.hid (Hz1d.out.below hb14 (Nat.le_refl _)); replace Hg0n := Lib.hid (Hg0n.out.below hb14 (Nat.le_refl _)); replace Hg0d := Lib.hid (Hg0d.out.below hb14 (Nat.le_refl _)); have Hq0n := Lib.hid (ho1.mono B0.size); clear ho1; have Hq0d := Lib.hid (ho2.mono B0.size); clear ho2; have HA_q0n_q0d := Lib.hid ha; clear ha; obtain ⟨aq0n, cq0n, rfl, -, -, -, -, -⟩ := Hq0n.out.form; obtain ⟨aq0d, cq0d, rfl, -, -, -, -, -⟩ := Hq0d.out.form; replace B0 := B0.trans (hb14.mono B0.size); clear hb14) | (go_at_call 21; refine (eqRat_c _ s0 x0n x0d Hz0n.out Hz0d.out Hq0n.out Hq0d.out).mono ?_; rintro e w15 ⟨rfl, hb15⟩; replace c0_0 := keep_cell (w1 := w15) hb15 c0_0; replace c0_1 := keep_cell (w1 := w15) hb15 c0_1; replace c0_2 := keep_cell (w1 := w15) hb15 c0_2; replace c1_0 := keep_cell (w1 := w15) hb15 c1_0; replace c1_1 := keep_cell (w1 := w15) hb15 c1_1; replace c1_2 := keep_cell (w1 := w15) hb15 c1_2; replace bw0_0 := keep_cell (w1 := w15) hb15 bw0_0; replace bw0_1 := keep_cell (w1 := w15) hb15 bw0_1; replace bw0_2 := keep_cell (w1 := w15) hb15 bw0_2; replace bx0_0 := keep_cell (w1 := w15) hb15 bx0_0; replace bx0_1 := keep_cell (w1 := w15) hb15 bx0_1; replace bx0_2 := keep_cell (w1 := w15) hb15 bx0_2; replace bx1_0 := keep_cell (w1 := w15) hb15 bx1_0; replace bx1_1 := keep_cell (w1 := w15) hb15 bx1_1; replace bx1_2 := keep_cell (w1 := w15) hb15 bx1_2; replace bg0_0 := keep_cell (w1 := w15) hb15 bg0_0; replace bg0_1 := keep_cell (w1 := w15) hb15 bg0_1; replace bg0_2 := keep_cell (w1 := w15) hb15 bg0_2; replace Hw0n := Lib.hid (Hw0n.out.below hb15 (Nat.le_refl _)); replace Hw0d := Lib.hid (Hw0d.out.below hb15 (Nat.le_refl _)); replace Hz0n := Lib.hid (Hz0n.out.below hb15 (Nat.le_refl _)); replace Hz0d := Lib.hid (Hz0d.out.below hb15 (Nat.le_refl _)); replace Hz1n := Lib.hid (Hz1n.out.below hb15 (Nat.le_refl _)); replace Hz1d := Lib.hid (Hz1d.out.below hb15 (Nat.le_refl _)); replace Hg0n := Lib.hid (Hg0n.out.below hb15 (Nat.le_refl _)); replace Hg0d := Lib.hid (Hg0d.out.below hb15 (Nat.le_refl _)); (try (replace Hq0n := Lib.hid (Hq0n.out.below hb15 (Nat.le_refl _)))); (try (replace Hq0d := Lib.hid (Hq0d.out.below hb15 (Nat.le_refl _)))); replace B0 := B0.trans (hb15.mono B0.size); clear hb15))
            clear Hq0n
            clear Hq0d
            go_wp2_with fail
            replace Hw0n := Lib.hid Hw0n.out.drew
            replace Hw0d := Lib.hid Hw0d.out.drew
            replace Hz0n := Lib.hid Hz0n.out.drew
            replace Hz0d := Lib.hid Hz0d.out.drew
            replace Hz1n := Lib.hid Hz1n.out.drew
            replace Hz1d := Lib.hid Hz1d.out.drew
            replace Hg0n := Lib.hid Hg0n.out.drew
            replace Hg0d := Lib.hid Hg0d.out.drew
            replace B0 := below_drew B0
            replace c0_0 := cell_drew c0_0
            replace c0_1 := cell_drew c0_1
            replace c0_2 := cell_drew c0_2
            replace c1_0 := cell_drew c1_0
            replace c1_1 := cell_drew c1_1
            replace c1_2 := cell_drew c1_2
            replace bw0_0 := cell_drew bw0_0
            replace bw0_1 := cell_drew bw0_1
            replace bw0_2 := cell_drew bw0_2
            replace bx0_0 := cell_drew bx0_0
            replace bx0_1 := cell_drew bx0_1
            replace bx0_2 := cell_drew bx0_2
            replace bx1_0 := cell_drew bx1_0
            replace bx1_1 := cell_drew bx1_1
            replace bx1_2 := cell_drew bx1_2
            replace bg0_0 := cell_drew bg0_0
            replace bg0_1 := cell_drew bg0_1
            replace bg0_2 := cell_drew bg0_2
            go_region_held3 (fun w' => w'.cell? ⟨w.heap.size + 1, 0, none⟩ = some (.bool s1) ∧ w'.cell? ⟨w.heap.size + 1, 1, none⟩ = some (.slice p1 x1n.length q1) ∧ w'.cell? ⟨w.heap.size + 1, 2, none⟩ = some (.slice pd1 x1d.length qd1) ∧ w'.cell? ⟨w9.heap.size, 0, none⟩ = some (.bool s1) ∧ w'.cell? ⟨w9.heap.size, 1, none⟩ = some (.slice az1n x1n.length cz1n) ∧ w'.cell? ⟨w9.heap.size, 2, none⟩ = some (.slice az1d x1d.length cz1d)) (first | exact ⟨c1_0, c1_1, c1_2, bx1_0, bx1_1, bx1_2⟩ | exact ⟨keep_cell (alloc_bel _ _) c1_0, keep_cell (alloc_bel _ _) c1_1, keep_cell (alloc_bel _ _) c1_2, keep_cell (alloc_bel _ _) bx1_0, keep_cell (alloc_bel _ _) bx1_1, keep_cell (alloc_bel _ _) bx1_2⟩ | (go_split_ands; exact ⟨(set_far (set_far ‹_› (by dsimp only; omega)) (by dsimp only; omega)), (set_far (set_far ‹_› (by dsimp only; omega)) (by dsimp only; omega)), (set_far (set_far ‹_› (by dsimp only; omega)) (by dsimp only; omega)), (set_far (set_far ‹_› (by dsimp only; omega)) (by dsimp only; omega)), (set_far (set_far ‹_› (by dsimp only; omega)) (by dsimp only; omega)), (set_far (set_far ‹_› (by dsimp only; omega)) (by dsimp only; omega))⟩) | (go_split_ands; exact ⟨(set_far (set_far (set_far ‹_› (by dsimp only; omega)) (by dsimp only; omega)) (by dsimp only; omega)), (set_far (set_far (set_far ‹_› (by dsimp only; omega)) (by dsimp only; omega)) (by dsimp only; omega)), (set_far (set_far (set_far ‹_› (by dsimp only; omega)) (by dsimp only; omega)) (by dsimp only; omega)), (set_far (set_far (set_far ‹_› (by dsimp only; omega)) (by dsimp only; omega)) (by dsimp only; omega)), (set_far (set_far (set_far ‹_› (by dsimp only; omega)) (by dsimp only; omega)) (by dsimp only; omega)), (set_far (set_far (set_far ‹_› (by dsimp only; omega)) (by dsimp only; omega)) (by dsimp only; omega))⟩) | (go_split_ands; exact ⟨(set_far ‹_› (by dsimp only; omega)), (set_far ‹_› (by dsimp only; omega)), (set_far ‹_› (by dsimp only; omega)), (set_far ‹_› (by dsimp only; omega)), (set_far ‹_› (by dsimp only; omega)), (set_far ‹_› (by dsimp only; omega))⟩) | go_keep)
              (first | (go_at_call 19; refine (toRat_c _ _ _ s1 x1n x1d (R1.out.below (BW.trans (B0.mono BW.size))) hx1n hx1d).mono ?_; rintro e w16 ⟨vq1n, vq1d, rfl, ho1, ho2, ha, hb16⟩; replace c0_0 := keep_cell (w1 := w16) hb16 c0_0; replace c0_1 := keep_cell (w1 := w16) hb16 c0_1; replace c0_2 := keep_cell (w1 := w16) hb16 c0_2; replace c1_0 := keep_cell (w1 := w16) hb16 c1_0; replace c1_1 := keep_cell (w1 := w16) hb16 c1_1; replace c1_2 := keep_cell (w1 := w16) hb16 c1_2; replace bw0_0 := keep_cell (w1 := w16) hb16 bw0_0; replace bw0_1 := keep_cell (w1 := w16) hb16 bw0_1; replace bw0_2 := keep_cell (w1 := w16) hb16 bw0_2; replace bx0_0 := keep_cell (w1 := w16) hb16 bx0_0; replace bx0_1 := keep_cell (w1 := w16) hb16 bx0_1; replace bx0_2 := keep_cell (w1 := w16) hb16 bx0_2; replace bx1_0 := keep_cell (w1 := w16) hb16 bx1_0; replace bx1_1 := keep_cell (w1 := w16) hb16 bx1_1; replace bx1_2 := keep_cell (w1 := w16) hb16 bx1_2; replace bg0_0 := keep_cell (w1 := w16) hb16 bg0_0; replace bg0_1 := keep_cell (w1 := w16) hb16 bg0_1; replace bg0_2 := keep_cell (w1 := w16) hb16 bg0_2; replace Hw0n := Lib.hid (Hw0n.out.below hb16 (Nat.le_refl _)); replace Hw0d := Lib.hid (Hw0d.out.below hb16 (Nat.le_refl _)); replace Hz0n := Lib.hid (Hz0n.out.below hb16 (Nat.le_refl _)); replace Hz0d := Lib.hid (Hz0d.out.below hb16 (Nat.le_refl _)); replace Hz1n := Lib.hid (Hz1n.out.below hb16 (Nat.le_refl _)); replace Hz1d := Lib.hid (Hz1d.out.below hb16 (Nat.le_refl _)); replace Hg0n := Lib.hid (Hg0n.out.below hb16 (Nat.le_refl _)); replace Hg0d := Lib.hid (Hg0d.out.below hb16 (Nat.le_refl _)); have Hq1n := Lib.hid (ho1.mono B0.size); clear ho1; have Hq1d := Lib.hid (ho2.mono B0.size); clear ho2; have HA_q1n_q1d := Lib.hid ha; clear ha; obtain ⟨aq1n, cq1n, rfl, -, -, -, -, -⟩ := Hq1n.out.form; obtain ⟨aq1d, cq1d, rfl, -, -, -, -, -⟩ := Hq1d.out.form; replace B0 := B0.trans (hb16.mono B0.size); clear hb16) | (go_at_call 21; refine (eqRat_c _ s1 x1n x1d Hz1n.out Hz1d.out Hq1n.out Hq1d.out).mono ?_; rintro e w17 ⟨rfl, hb17⟩; replace c0_0 := keep_cell (w1 := w17) hb17 c0_0; replace c0_1 := keep_cell (w1 := w17) hb17 c0_1; replace c0_2 := keep_cell (w1 := w17) hb17 c0_2; replace c1_0 := keep_cell (w1 := w17) hb17 c1_0; replace c1_1 := keep_cell (w1 := w17) hb17 c1_1; replace c1_2 := keep_cell (w1 := w17) hb17 c1_2; replace bw0_0 := keep_cell (w1 := w17) hb17 bw0_0; replace bw0_1 := keep_cell (w1 := w17) hb17 bw0_1; replace bw0_2 := keep_cell (w1 := w17) hb17 bw0_2; replace bx0_0 := keep_cell (w1 := w17) hb17 bx0_0; replace bx0_1 := keep_cell (w1 := w17) hb17 bx0_1; replace bx0_2 := keep_cell (w1 := w17) hb17 bx0_2; replace bx1_0 := keep_cell (w1 := w17) hb17 bx1_0; replace bx1_1 := keep_cell (w1 := w17) hb17 bx1_1; replace bx1_2 := keep_cell (w1 := w17) hb17 bx1_2; replace bg0_0 := keep_cell (w1 := w17) hb17 bg0_0; replace bg0_1 := keep_cell (w1 := w17) hb17 bg0_1; replace bg0_2 := keep_cell (w1 := w17) hb17 bg0_2; replace Hw0n := Lib.hid (Hw0n.out.below hb17 (Nat.le_refl _)); replace Hw0d := Lib.hid (Hw0d.out.below hb17 (Nat.le_refl _)); replace Hz0n := Lib.hid (Hz0n.out.below hb17 (Nat.le_refl _)); replace Hz0d := Lib.hid (Hz0d.out.below hb17 (Nat.le_refl _)); replace Hz1n := Lib.hid (Hz1n.out.below hb17 (Nat.le_refl _)); replace Hz1d := Lib.hid (Hz1d.out.below hb17 (Nat.le_refl _)); replace Hg0n := Lib.hid (Hg0n.out.below hb17 (Nat.le_refl _)); replace Hg0d := Lib.hid (Hg0d.out.below hb17 (Nat.le_refl _)); (try (replace Hq1n := Lib.hid (Hq1n.out.below hb17 (Nat.le_refl _)))); (try (replace Hq1d := Lib.hid (Hq1d.out.below hb17 (Nat.le_refl _)))); replace B0 := B0.trans (hb17.mono B0.size); clear hb17))
            clear Hq1n
            clear Hq1d
            go_wp2_with fail
            refine (markR_c _ s0 x0n x0d 1 Hz0n.out Hz0d.out HA_z0n_z0d.out (by omega) (by omega) (by omega) (by omega)).mono ?_
            rintro e w18 ⟨k0, hm, rfl, ho1, ho2, wm, hg, hg2⟩
            have HMk0 := Lib.hid hm
            have k00 : 0 ≤ k0 := by omega
            have k01 : k0 ≤ 10000000 := by omega
            clear hm
            replace c0_0 := keep_grown hg2 (keep_grown hg c0_0 HN_z0n_c0.out) HN_z0d_c0.out
            replace c0_1 := keep_grown hg2 (keep_grown hg c0_1 HN_z0n_c0.out) HN_z0d_c0.out
            replace c0_2 := keep_grown hg2 (keep_grown hg c0_2 HN_z0n_c0.out) HN_z0d_c0.out
            replace c1_0 := keep_grown hg2 (keep_grown hg c1_0 HN_z0n_c1.out) HN_z0d_c1.out
            replace c1_1 := keep_grown hg2 (keep_grown hg c1_1 HN_z0n_c1.out) HN_z0d_c1.out
            replace c1_2 := keep_grown hg2 (keep_grown hg c1_2 HN_z0n_c1.out) HN_z0d_c1.out
            replace bw0_0 := keep_grown hg2 (keep_grown hg bw0_0 HN_z0n_bw0.out) HN_z0d_bw0.out
            replace bw0_1 := keep_grown hg2 (keep_grown hg bw0_1 HN_z0n_bw0.out) HN_z0d_bw0.out
            replace bw0_2 := keep_grown hg2 (keep_grown hg bw0_2 HN_z0n_bw0.out) HN_z0d_bw0.out
            replace bx0_0 := keep_grown hg2 (keep_grown hg bx0_0 HN_z0n_bx0.out) HN_z0d_bx0.out
            replace bx0_1 := keep_grown hg2 (keep_grown hg bx0_1 HN_z0n_bx0.out) HN_z0d_bx0.out
            replace bx0_2 := keep_grown hg2 (keep_grown hg bx0_2 HN_z0n_bx0.out) HN_z0d_bx0.out
            replace bx1_0 := keep_grown hg2 (keep_grown hg bx1_0 HN_z0n_bx1.out) HN_z0d_bx1.out
            replace bx1_1 := keep_grown hg2 (keep_grown hg bx1_1 HN_z0n_bx1.out) HN_z0d_bx1.out
            replace bx1_2 := keep_grown hg2 (keep_grown hg bx1_2 HN_z0n_bx1.out) HN_z0d_bx1.out
            replace bg0_0 := keep_grown hg2 (keep_grown hg bg0_0 HN_z0n_bg0.out) HN_z0d_bg0.out
            replace bg0_1 := keep_grown hg2 (keep_grown hg bg0_1 HN_z0n_bg0.out) HN_z0d_bg0.out
            replace bg0_2 := keep_grown hg2 (keep_grown hg bg0_2 HN_z0n_bg0.out) HN_z0d_bg0.out
            replace Hw0n := Lib.hid ((Hw0n.out.marked hg HA_w0n_z0n.out).marked hg2 HA_w0n_z0d.out)
            replace Hw0d := Lib.hid ((Hw0d.out.marked hg HA_w0d_z0n.out).marked hg2 HA_w0d_z0d.out)
            replace Hz1n := Lib.hid ((Hz1n.out.marked hg HA_z0n_z1n.out.symm).marked hg2 HA_z0d_z1n.out.symm)
            replace Hz1d := Lib.hid ((Hz1d.out.marked hg HA_z0n_z1d.out.symm).marked hg2 HA_z0d_z1d.out.symm)
            replace Hg0n := Lib.hid ((Hg0n.out.marked hg HA_z0n_g0n.out.symm).marked hg2 HA_z0d_g0n.out.symm)
            replace Hg0d := Lib.hid ((Hg0d.out.marked hg HA_z0n_g0d.out.symm).marked hg2 HA_z0d_g0d.out.symm)
            replace B0 := mark2Below Hz0n.out Hz0d.out B0 hg hg2 (Nat.le_refl _) (Nat.le_refl _)
            clear hg hg2
            replace Hz0n := Lib.hid ho1
            clear ho1
            replace Hz0d := Lib.hid ho2
            clear ho2
            clear bx0_0
            clear bx0_1
            clear bx0_2
            clear Hz0n
            clear Hz0d
            go_wp2_with fail
            refine (markR_c _ s1 x1n x1d k0 Hz1n.out Hz1d.out HA_z1n_z1d.out (by omega) (by omega) (by omega) (by omega)).mono ?_
            rintro e w19 ⟨k1, hm, rfl, ho1, ho2, wm, hg, hg2⟩
            have HMk1 := Lib.hid hm
            have k10 : 0 ≤ k1 := by omega
            have k11 : k1 ≤ 20000000 := by omega
            clear hm
            replace c0_0 := keep_grown hg2 (keep_grown hg c0_0 HN_z1n_c0.out) HN_z1d_c0.out
            replace c0_1 := keep_grown hg2 (keep_grown hg c0_1 HN_z1n_c0.out) HN_z1d_c0.out
            replace c0_2 := keep_grown hg2 (keep_grown hg c0_2 HN_z1n_c0.out) HN_z1d_c0.out
            replace c1_0 := keep_grown hg2 (keep_grown hg c1_0 HN_z1n_c1.out) HN_z1d_c1.out
            replace c1_1 := keep_grown hg2 (keep_grown hg c1_1 HN_z1n_c1.out) HN_z1d_c1.out
            replace c1_2 := keep_grown hg2 (keep_grown hg c1_2 HN_z1n_c1.out) HN_z1d_c1.out
            replace bw0_0 := keep_grown hg2 (keep_grown hg bw0_0 HN_z1n_bw0.out) HN_z1d_bw0.out
            replace bw0_1 := keep_grown hg2 (keep_grown hg bw0_1 HN_z1n_bw0.out) HN_z1d_bw0.out
            replace bw0_2 := keep_grown hg2 (keep_grown hg bw0_2 HN_z1n_bw0.out) HN_z1d_bw0.out
            replace bx1_0 := keep_grown hg2 (keep_grown hg bx1_0 HN_z1n_bx1.out) HN_z1d_bx1.out
            replace bx1_1 := keep_grown hg2 (keep_grown hg bx1_1 HN_z1n_bx1.out) HN_z1d_bx1.out
            replace bx1_2 := keep_grown hg2 (keep_grown hg bx1_2 HN_z1n_bx1.out) HN_z1d_bx1.out
            replace bg0_0 := keep_grown hg2 (keep_grown hg bg0_0 HN_z1n_bg0.out) HN_z1d_bg0.out
            replace bg0_1 := keep_grown hg2 (keep_grown hg bg0_1 HN_z1n_bg0.out) HN_z1d_bg0.out
            replace bg0_2 := keep_grown hg2 (keep_grown hg bg0_2 HN_z1n_bg0.out) HN_z1d_bg0.out
            replace Hw0n := Lib.hid ((Hw0n.out.marked hg HA_w0n_z1n.out).marked hg2 HA_w0n_z1d.out)
            replace Hw0d := Lib.hid ((Hw0d.out.marked hg HA_w0d_z1n.out).marked hg2 HA_w0d_z1d.out)
            replace Hg0n := Lib.hid ((Hg0n.out.marked hg HA_z1n_g0n.out.symm).marked hg2 HA_z1d_g0n.out.symm)
            replace Hg0d := Lib.hid ((Hg0d.out.marked hg HA_z1n_g0d.out.symm).marked hg2 HA_z1d_g0d.out.symm)
            replace B0 := mark2Below Hz1n.out Hz1d.out B0 hg hg2 (Nat.le_refl _) (Nat.le_refl _)
            clear hg hg2
            replace Hz1n := Lib.hid ho1
            clear ho1
            replace Hz1d := Lib.hid ho2
            clear ho2
            clear bx1_0
            clear bx1_1
            clear bx1_2
            clear Hz1n
            clear Hz1d
            have dk : decide (k1 < 0) = false := decide_eq_false (by omega)
            go_wp2_with fail
            refine (eqRat_c _ t0 r0n r0d Hg0n.out Hg0d.out Hw0n.out Hw0d.out).mono ?_
            rintro e w20 ⟨rfl, hb⟩
            replace c0_0 := keep_cell hb c0_0
            replace c0_1 := keep_cell hb c0_1
            replace c0_2 := keep_cell hb c0_2
            replace c1_0 := keep_cell hb c1_0
            replace c1_1 := keep_cell hb c1_1
            replace c1_2 := keep_cell hb c1_2
            replace bw0_0 := keep_cell hb bw0_0
            replace bw0_1 := keep_cell hb bw0_1
            replace bw0_2 := keep_cell hb bw0_2
            replace bg0_0 := keep_cell hb bg0_0
            replace bg0_1 := keep_cell hb bg0_1
            replace bg0_2 := keep_cell hb bg0_2
            replace Hw0n := Lib.hid (Hw0n.out.below hb (Nat.le_refl _))
            replace Hw0d := Lib.hid (Hw0d.out.below hb (Nat.le_refl _))
            replace Hg0n := Lib.hid (Hg0n.out.below hb (Nat.le_refl _))
            replace Hg0d := Lib.hid (Hg0d.out.below hb (Nat.le_refl _))
            replace B0 := B0.trans (hb.mono B0.size)
            clear hb
            go_wp2_with fail
            refine (markR_c _ t0 r0n r0d 1 Hg0n.out Hg0d.out HA_g0n_g0d.out (by omega) (by omega) (by omega) (by omega)).mono ?_
            rintro e w21 ⟨m0, hm, rfl, ho1, ho2, wm, hg, hg2⟩
            have HMm0 := Lib.hid hm
            have m00 : 0 ≤ m0 := by omega
            have m01 : m0 ≤ 30000000 := by omega
            clear hm
            replace c0_0 := keep_grown hg2 (keep_grown hg c0_0 HN_g0n_c0.out) HN_g0d_c0.out
            replace c0_1 := keep_grown hg2 (keep_grown hg c0_1 HN_g0n_c0.out) HN_g0d_c0.out
            replace c0_2 := keep_grown hg2 (keep_grown hg c0_2 HN_g0n_c0.out) HN_g0d_c0.out
            replace c1_0 := keep_grown hg2 (keep_grown hg c1_0 HN_g0n_c1.out) HN_g0d_c1.out
            replace c1_1 := keep_grown hg2 (keep_grown hg c1_1 HN_g0n_c1.out) HN_g0d_c1.out
            replace c1_2 := keep_grown hg2 (keep_grown hg c1_2 HN_g0n_c1.out) HN_g0d_c1.out
            replace bw0_0 := keep_grown hg2 (keep_grown hg bw0_0 HN_g0n_bw0.out) HN_g0d_bw0.out
            replace bw0_1 := keep_grown hg2 (keep_grown hg bw0_1 HN_g0n_bw0.out) HN_g0d_bw0.out
            replace bw0_2 := keep_grown hg2 (keep_grown hg bw0_2 HN_g0n_bw0.out) HN_g0d_bw0.out
            replace bg0_0 := keep_grown hg2 (keep_grown hg bg0_0 HN_g0n_bg0.out) HN_g0d_bg0.out
            replace bg0_1 := keep_grown hg2 (keep_grown hg bg0_1 HN_g0n_bg0.out) HN_g0d_bg0.out
            replace bg0_2 := keep_grown hg2 (keep_grown hg bg0_2 HN_g0n_bg0.out) HN_g0d_bg0.out
            replace Hw0n := Lib.hid ((Hw0n.out.marked hg HA_w0n_g0n.out).marked hg2 HA_w0n_g0d.out)
            replace Hw0d := Lib.hid ((Hw0d.out.marked hg HA_w0d_g0n.out).marked hg2 HA_w0d_g0d.out)
            replace B0 := mark2Below Hg0n.out Hg0d.out B0 hg hg2 (Nat.le_refl _) (Nat.le_refl _)
            clear hg hg2
            replace Hg0n := Lib.hid ho1
            clear ho1
            replace Hg0d := Lib.hid ho2
            clear ho2
            have dm0 : decide (m0 < 0) = false := decide_eq_false (by omega)
            go_wp2_with fail
            refine (heldR_c _ t0 r0n.length r0d.length 1 m0 Hg0n.out Hg0d.out (by omega) (by omega) (by omega) (by omega) HMm0.out).mono ?_
            rintro e w22 ⟨rfl, hb⟩
            replace c0_0 := keep_cell hb c0_0
            replace c0_1 := keep_cell hb c0_1
            replace c0_2 := keep_cell hb c0_2
            replace c1_0 := keep_cell hb c1_0
            replace c1_1 := keep_cell hb c1_1
            replace c1_2 := keep_cell hb c1_2
            replace bw0_0 := keep_cell hb bw0_0
            replace bw0_1 := keep_cell hb bw0_1
            replace bw0_2 := keep_cell hb bw0_2
            replace bg0_0 := keep_cell hb bg0_0
            replace bg0_1 := keep_cell hb bg0_1
            replace bg0_2 := keep_cell hb bg0_2
            replace Hw0n := Lib.hid (Hw0n.out.below hb (Nat.le_refl _))
            replace Hw0d := Lib.hid (Hw0d.out.below hb (Nat.le_refl _))
            replace Hg0n := Lib.hid (Hg0n.out.below hb (Nat.le_refl _))
            replace Hg0d := Lib.hid (Hg0d.out.below hb (Nat.le_refl _))
            replace B0 := B0.trans (hb.mono B0.size)
            clear hb
            go_upto_region 31 with fail
            go_cut [13] (fun o13 wx => ∃ (gbf0 : Nat) (vf0n : Value) (vf0d : Value), o13 = .pointer (some ⟨gbf0, 0, none⟩) ∧ wx.cell? ⟨gbf0, 0, none⟩ = some (.bool t0) ∧ wx.cell? ⟨gbf0, 1, none⟩ = some vf0n ∧ wx.cell? ⟨gbf0, 2, none⟩ = some vf0d ∧ Hid (Own wx w0.heap.size vf0n r0n) ∧ Hid (Own wx w0.heap.size vf0d r0d) ∧ Hid (Apart vf0n vf0d) ∧ Below w22.heap.size w22 wx)
            case first =>
              have BC := below_drew (Below.refl w22.heap.size w22)
              have BWC := BW.trans (B0.mono BW.size)
              have hc0 := B0.size
              have hl_c0_0 := World.block_lt_of_cell? w22 _ c0_0
              have hl_c1_0 := World.block_lt_of_cell? w22 _ c1_0
              go_region_held3 (fun w' => w'.cell? ⟨w.heap.size, 0, none⟩ = some (.bool s0) ∧ w'.cell? ⟨w.heap.size, 1, none⟩ = some (.slice p0 x0n.length q0) ∧ w'.cell? ⟨w.heap.size, 2, none⟩ = some (.slice pd0 x0d.length qd0) ∧ w'.cell? ⟨w.heap.size + 1, 0, none⟩ = some (.bool s1) ∧ w'.cell? ⟨w.heap.size + 1, 1, none⟩ = some (.slice p1 x1n.length q1) ∧ w'.cell? ⟨w.heap.size + 1, 2, none⟩ = some (.slice pd1 x1d.length qd1) ∧ Below w22.heap.size w22 w') (first | exact ⟨keep_cell (BC) c0_0, keep_cell (BC) c0_1, keep_cell (BC) c0_2, keep_cell (BC) c1_0, keep_cell (BC) c1_1, keep_cell (BC) c1_2, BC⟩ | exact ⟨keep_cell (BC.alloc BC.size _) c0_0, keep_cell (BC.alloc BC.size _) c0_1, keep_cell (BC.alloc BC.size _) c0_2, keep_cell (BC.alloc BC.size _) c1_0, keep_cell (BC.alloc BC.size _) c1_1, keep_cell (BC.alloc BC.size _) c1_2, BC.alloc BC.size _⟩ | exact ⟨keep_cell (below_drew ((below_undrew BC).alloc BC.size _)) c0_0, keep_cell (below_drew ((below_undrew BC).alloc BC.size _)) c0_1, keep_cell (below_drew ((below_undrew BC).alloc BC.size _)) c0_2, keep_cell (below_drew ((below_undrew BC).alloc BC.size _)) c1_0, keep_cell (below_drew ((below_undrew BC).alloc BC.size _)) c1_1, keep_cell (below_drew ((below_undrew BC).alloc BC.size _)) c1_2, below_drew ((below_undrew BC).alloc BC.size _)⟩ | exact ⟨keep_cell (((BC.setCell hgz _).setCell hgz _).setCell hgz _) c0_0, keep_cell (((BC.setCell hgz _).setCell hgz _).setCell hgz _) c0_1, keep_cell (((BC.setCell hgz _).setCell hgz _).setCell hgz _) c0_2, keep_cell (((BC.setCell hgz _).setCell hgz _).setCell hgz _) c1_0, keep_cell (((BC.setCell hgz _).setCell hgz _).setCell hgz _) c1_1, keep_cell (((BC.setCell hgz _).setCell hgz _).setCell hgz _) c1_2, (((BC.setCell hgz _).setCell hgz _).setCell hgz _)⟩ | go_keep)
                              (first | (go_at_call_of 19 (Value.agg #[Value.bool s0, Value.slice p0 x0n.length q0, Value.slice pd0 x0d.length qd0]); refine (toRat_c _ _ _ s0 x0n x0d (R0.out.below (BWC.trans (Below.mono (by first | exact BC | exact BC.alloc BC.size _ | exact below_drew ((below_undrew BC).alloc BC.size _)) BWC.size))) hx0n hx0d).mono ?_; rintro e w23 ⟨vy0n, vy0d, rfl, ho1, ho2, ha, hb23⟩; (first | (replace f0 := keep_frozen hb23 k0 f0; replace k0 := keep_cell hb23 k0; replace f1 := keep_frozen hb23 k1 f1; replace k1 := keep_cell hb23 k1; replace f2 := keep_frozen hb23 k2 f2; replace k2 := keep_cell hb23 k2) | (with_reducible have hk := new_box3 hb23; obtain ⟨k0, k1, k2, f0, f1, f2⟩ := hk; have hgz := BC.size) | (with_reducible have hk := new_box3d hb23; obtain ⟨k0, k1, k2, f0, f1, f2⟩ := hk; have hgz := BC.size) | skip); (first | (with_reducible replace ho1 := Own.unalloc ho1) | (with_reducible replace ho1 := Own.unallocd ho1) | skip); (first | (with_reducible replace ho2 := Own.unalloc ho2) | (with_reducible replace ho2 := Own.unallocd ho2) | skip); (first | (with_reducible replace hb23 := alloc_below hb23) | (with_reducible replace hb23 := alloc_belowd hb23) | skip); (try (replace Hy0n := Lib.hid (Hy0n.out.below hb23 (Nat.le_refl _)))); (try (replace Hy0d := Lib.hid (Hy0d.out.below hb23 (Nat.le_refl _)))); (try (replace Hy1n := Lib.hid (Hy1n.out.below hb23 (Nat.le_refl _)))); (try (replace Hy1d := Lib.hid (Hy1d.out.below hb23 (Nat.le_refl _)))); have Hy0n := Lib.hid (ho1.mono (Nat.le_trans hc0 BC.size)); clear ho1; have Hy0d := Lib.hid (ho2.mono (Nat.le_trans hc0 BC.size)); clear ho2; have HA_y0n_y0d := Lib.hid ha; clear ha; obtain ⟨ay0n, cy0n, rfl, -, -, -, -, -⟩ := Hy0n.out.form; obtain ⟨ay0d, cy0d, rfl, -, -, -, -, -⟩ := Hy0d.out.form; replace BC := BC.trans (hb23.mono BC.size); clear hb23) | (go_at_call_of 19 (Value.agg #[Value.bool s1, Value.slice p1 x1n.length q1, Value.slice pd1 x1d.length qd1]); refine (toRat_c _ _ _ s1 x1n x1d (R1.out.below (BWC.trans (Below.mono (by first | exact BC | exact BC.alloc BC.size _ | exact below_drew ((below_undrew BC).alloc BC.size _)) BWC.size))) hx1n hx1d).mono ?_; rintro e w24 ⟨vy1n, vy1d, rfl, ho1, ho2, ha, hb24⟩; (first | (replace f0 := keep_frozen hb24 k0 f0; replace k0 := keep_cell hb24 k0; replace f1 := keep_frozen hb24 k1 f1; replace k1 := keep_cell hb24 k1; replace f2 := keep_frozen hb24 k2 f2; replace k2 := keep_cell hb24 k2) | (with_reducible have hk := new_box3 hb24; obtain ⟨k0, k1, k2, f0, f1, f2⟩ := hk; have hgz := BC.size) | (with_reducible have hk := new_box3d hb24; obtain ⟨k0, k1, k2, f0, f1, f2⟩ := hk; have hgz := BC.size) | skip); (first | (with_reducible replace ho1 := Own.unalloc ho1) | (with_reducible replace ho1 := Own.unallocd ho1) | skip); (first | (with_reducible replace ho2 := Own.unalloc ho2) | (with_reducible replace ho2 := Own.unallocd ho2) | skip); (first | (with_reducible replace hb24 := alloc_below hb24) | (with_reducible replace hb24 := alloc_belowd hb24) | skip); (try (replace Hy0n := Lib.hid (Hy0n.out.below hb24 (Nat.le_refl _)))); (try (replace Hy0d := Lib.hid (Hy0d.out.below hb24 (Nat.le_refl _)))); (try (replace Hy1n := Lib.hid (Hy1n.out.below hb24 (Nat.le_refl _)))); (try (replace Hy1d := Lib.hid (Hy1d.out.below hb24 (Nat.le_refl _)))); have Hy1n := Lib.hid (ho1.mono (Nat.le_trans hc0 BC.size)); clear ho1; have Hy1d := Lib.hid (ho2.mono (Nat.le_trans hc0 BC.size)); clear ho2; have HA_y1n_y1d := Lib.hid ha; clear ha; obtain ⟨ay1n, cy1n, rfl, -, -, -, -, -⟩ := Hy1n.out.form; obtain ⟨ay1d, cy1d, rfl, -, -, -, -, -⟩ := Hy1d.out.form; replace BC := BC.trans (hb24.mono BC.size); clear hb24) | (go_at_call 43; refine (K2.out _ w0.heap.size _ w0.heap.size _ w0.heap.size _ w0.heap.size _ (by first | exact Hy0n.out | exact Hy0n.out.alloc _) (by first | exact Hy0d.out | exact Hy0d.out.alloc _) (by first | exact Hy1n.out | exact Hy1n.out.alloc _) (by first | exact Hy1d.out | exact Hy1d.out.alloc _)).mono ?_; rintro e w25 ⟨vf0n, vf0d, rfl, ho1, ho2, ha, hb25⟩; (first | (have hneho1 := own_ne_old k0 ho1) | (with_reducible have hneho1 := own_ne_alloc ho1) | (with_reducible have hneho1 := own_ne_allocd ho1) | skip); (first | (have hneho2 := own_ne_old k0 ho2) | (with_reducible have hneho2 := own_ne_alloc ho2) | (with_reducible have hneho2 := own_ne_allocd ho2) | skip); (first | (replace f0 := keep_frozen hb25 k0 f0; replace k0 := keep_cell hb25 k0; replace f1 := keep_frozen hb25 k1 f1; replace k1 := keep_cell hb25 k1; replace f2 := keep_frozen hb25 k2 f2; replace k2 := keep_cell hb25 k2) | (with_reducible have hk := new_box3 hb25; obtain ⟨k0, k1, k2, f0, f1, f2⟩ := hk; have hgz := BC.size) | (with_reducible have hk := new_box3d hb25; obtain ⟨k0, k1, k2, f0, f1, f2⟩ := hk; have hgz := BC.size) | skip); (first | (with_reducible replace ho1 := Own.unalloc ho1) | (with_reducible replace ho1 := Own.unallocd ho1) | skip); (first | (with_reducible replace ho2 := Own.unalloc ho2) | (with_reducible replace ho2 := Own.unallocd ho2) | skip); (first | (with_reducible replace hb25 := alloc_below hb25) | (with_reducible replace hb25 := alloc_belowd hb25) | skip); (try (replace Hy0n := Lib.hid (Hy0n.out.below hb25 (Nat.le_refl _)))); (try (replace Hy0d := Lib.hid (Hy0d.out.below hb25 (Nat.le_refl _)))); (try (replace Hy1n := Lib.hid (Hy1n.out.below hb25 (Nat.le_refl _)))); (try (replace Hy1d := Lib.hid (Hy1d.out.below hb25 (Nat.le_refl _)))); have Hf0n := Lib.hid (ho1.mono (Nat.le_trans hc0 BC.size)); clear ho1; have Hf0d := Lib.hid (ho2.mono (Nat.le_trans hc0 BC.size)); clear ho2; have HA_f0n_f0d := Lib.hid ha; clear ha; obtain ⟨af0n, cf0n, rfl, -, -, -, -, -⟩ := Hf0n.out.form; obtain ⟨af0d, cf0d, rfl, -, -, -, -, -⟩ := Hf0d.out.form; replace BC := BC.trans (hb25.mono BC.size); clear hb25))
              all_goals
                go_wp2_with fail
                go_meet
                first | exact ⟨_, _, _, rfl, (by simp [go_sem]), (by simp [go_sem]), (by simp [go_sem]), Hf0n.out.alloc _, Hf0d.out.alloc _, HA_f0n_f0d.out, BC.alloc BC.size _⟩ | exact ⟨_, _, _, rfl, (set_box3 k0 k1 k2).1, (set_box3 k0 k1 k2).2.1, (set_box3 k0 k1 k2).2.2, (((Hf0n.out.setOther hneho1 _).setOther hneho1 _).setOther hneho1 _), (((Hf0d.out.setOther hneho2 _).setOther hneho2 _).setOther hneho2 _), HA_f0n_f0d.out, (((BC.setCell hgz _).setCell hgz _).setCell hgz _)⟩
            case rest =>
              obtain ⟨gbf0, vf0n, vf0d, rfl, bf0_0, bf0_1, bf0_2, Hf0n, Hf0d, HA_f0n_f0d, hb⟩ := hcut
              generalize wc = w26 at *
              replace c0_0 := keep_cell hb c0_0
              replace c0_1 := keep_cell hb c0_1
              replace c0_2 := keep_cell hb c0_2
              replace c1_0 := keep_cell hb c1_0
              replace c1_1 := keep_cell hb c1_1
              replace c1_2 := keep_cell hb c1_2
              replace bw0_0 := keep_cell hb bw0_0
              replace bw0_1 := keep_cell hb bw0_1
              replace bw0_2 := keep_cell hb bw0_2
              replace bg0_0 := keep_cell hb bg0_0
              replace bg0_1 := keep_cell hb bg0_1
              replace bg0_2 := keep_cell hb bg0_2
              replace Hw0n := Lib.hid (Hw0n.out.below hb (Nat.le_refl _))
              replace Hw0d := Lib.hid (Hw0d.out.below hb (Nat.le_refl _))
              replace Hg0n := Lib.hid (Hg0n.out.below hb (Nat.le_refl _))
              replace Hg0d := Lib.hid (Hg0d.out.below hb (Nat.le_refl _))
              obtain ⟨af0n, cf0n, rfl, -, -, -, -, -⟩ := Hf0n.out.form
              obtain ⟨af0d, cf0d, rfl, -, -, -, -, -⟩ := Hf0d.out.form
              replace B0 := B0.trans (hb.mono B0.size)
              clear hb
              go_wp2_with fail
              refine (eqRat_c _ t0 r0n r0d Hf0n.out Hf0d.out Hw0n.out Hw0d.out).mono ?_
              rintro e w27 ⟨rfl, hb⟩
              replace c0_0 := keep_cell hb c0_0
              replace c0_1 := keep_cell hb c0_1
              replace c0_2 := keep_cell hb c0_2
              replace c1_0 := keep_cell hb c1_0
              replace c1_1 := keep_cell hb c1_1
              replace c1_2 := keep_cell hb c1_2
              replace bw0_0 := keep_cell hb bw0_0
              replace bw0_1 := keep_cell hb bw0_1
              replace bw0_2 := keep_cell hb bw0_2
              replace bg0_0 := keep_cell hb bg0_0
              replace bg0_1 := keep_cell hb bg0_1
              replace bg0_2 := keep_cell hb bg0_2
              replace bf0_0 := keep_cell hb bf0_0
              replace bf0_1 := keep_cell hb bf0_1
              replace bf0_2 := keep_cell hb bf0_2
              replace Hw0n := Lib.hid (Hw0n.out.below hb (Nat.le_refl _))
              replace Hw0d := Lib.hid (Hw0d.out.below hb (Nat.le_refl _))
              replace Hg0n := Lib.hid (Hg0n.out.below hb (Nat.le_refl _))
              replace Hg0d := Lib.hid (Hg0d.out.below hb (Nat.le_refl _))
              replace Hf0n := Lib.hid (Hf0n.out.below hb (Nat.le_refl _))
              replace Hf0d := Lib.hid (Hf0d.out.below hb (Nat.le_refl _))
              replace B0 := B0.trans (hb.mono B0.size)
              clear hb
              go_wp2_with fail
              refine (heldR_c _ t0 r0n.length r0d.length 1 m0 Hg0n.out Hg0d.out (by omega) (by omega) (by omega) (by omega) HMm0.out).mono ?_
              rintro e w28 ⟨rfl, hb⟩
              replace c0_0 := keep_cell hb c0_0
              replace c0_1 := keep_cell hb c0_1
              replace c0_2 := keep_cell hb c0_2
              replace c1_0 := keep_cell hb c1_0
              replace c1_1 := keep_cell hb c1_1
              replace c1_2 := keep_cell hb c1_2
              replace bw0_0 := keep_cell hb bw0_0
              replace bw0_1 := keep_cell hb bw0_1
              replace bw0_2 := keep_cell hb bw0_2
              replace bg0_0 := keep_cell hb bg0_0
              replace bg0_1 := keep_cell hb bg0_1
              replace bg0_2 := keep_cell hb bg0_2
              replace bf0_0 := keep_cell hb bf0_0
              replace bf0_1 := keep_cell hb bf0_1
              replace bf0_2 := keep_cell hb bf0_2
              replace Hw0n := Lib.hid (Hw0n.out.below hb (Nat.le_refl _))
              replace Hw0d := Lib.hid (Hw0d.out.below hb (Nat.le_refl _))
              replace Hg0n := Lib.hid (Hg0n.out.below hb (Nat.le_refl _))
              replace Hg0d := Lib.hid (Hg0d.out.below hb (Nat.le_refl _))
              replace Hf0n := Lib.hid (Hf0n.out.below hb (Nat.le_refl _))
              replace Hf0d := Lib.hid (Hf0d.out.below hb (Nat.le_refl _))
              replace B0 := B0.trans (hb.mono B0.size)
              clear hb
              go_wp2
              go_ret
              exact retB rfl (BW.trans (B0.mono BW.size))

set_option maxRecDepth 100000 in
theorem lifted (os : Os) (started : os.Started) (H : Type) (enc : TypeId × Value → H) :
    ReturnsInHanded {} Try.checked os 11 .any (Rows.fnExactRatMaxSpec.pre6 enc Try.prog Try.f11 Rows.fnExactRatMaxRow.domain false) (Rows.fnExactRatMaxSpec.post enc Try.prog Try.f11 false true false false) := by
  refine returnsInHanded_of_change (C := Try.checked) Try.own started (by kernel_rfl) Try.func11
    (ChangeSpec.witness6 (enc := enc) (C := Try.checked) false ⟨#[], #[.agg #[.bool false, .slice none 0 0, .slice none 0 0], .agg #[.bool false, .slice none 0 0, .slice none 0 0]], []⟩ 8 (by kernel_rfl) (by kernel_rfl) (by kernel_rfl) (by kernel_rfl)) ?_
  intro W base args ds gs before hval0 hW hcnd _
  have hval : ∀ (j : Nat) t v, Try.f11.params[j]? = some t → args[j]? = some v → Value.okWide Try.prog W .any base t v := hval0
  have hW' := hW
  obtain ⟨p, q, hA0, hV, rfl, hfz, hnd⟩ := hW
  have hA : DataW.TrodAll enc Try.prog W 0 (fun _ => true) true Try.f11.params.toList args.toList ds p := hA0
  rw [Try.params11] at hA hval
  obtain ⟨v0, vs0, d0, ds0, p0, q0, hargs, rfl, rfl, h0, r0⟩ := trodAll_cons hA
  obtain ⟨v1, vs1, d1, ds1, p1, q1, rfl, rfl, rfl, h1, r1⟩ := trodAll_cons r0
  obtain ⟨rfl, rfl, rfl⟩ := trodAll_nil r1
  obtain rfl : args = #[v0, v1] := by cases args; simp_all
  obtain ⟨rfl, rfl⟩ := trodVars_none hV
  have lt0 : ∀ x ∈ p0, x.block < W.heap.size := by obtain ⟨m, hm⟩ := h0; exact DataW.trod_lt m _ _ _ hm
  have lt1 : ∀ x ∈ p1, x.block < W.heap.size := by obtain ⟨m, hm⟩ := h1; exact DataW.trod_lt m _ _ _ hm
  obtain ⟨s0, u0, e0, x0n, x0d, rfl, w0, hm0⟩ := rat_of_trod (hval 0 26 v0 rfl rfl) h0
  obtain ⟨s1, u1, e1, x1n, x1d, rfl, w1, hm1⟩ := rat_of_trod (hval 1 26 v1 rfl rfl) h1
  clear hA0 hval0
  refine (walk W s0 u0 e0 x0n x0d w0 hm0 s1 u1 e1 x1n x1d w1 hm1 (ng (q2 qmax s0 x0n x0d s1 x1n x1d).1) (limbs (Int.natAbs (q2 qmax s0 x0n x0d s1 x1n x1d).1)) (limbs (q2 qmax s0 x0n x0d s1 x1n x1d).2) (q2_len qmax_len s0 x0n x0d s1 x1n x1d)
    (fun w b0 u0 e0 f0 b1 u1 e1 f1 k0 k1 k2 k3 => sRatMax_c w b0 e0 s0 u0 f0 x0n x0d k0 k1 b1 e1 s1 u1 f1 x1n x1d k2 k3)
    (fun w b0 u0 e0 f0 b1 u1 e1 f1 k0 k1 k2 k3 => RatMax_c w b0 e0 s0 u0 f0 x0n x0d k0 k1 b1 e1 s1 u1 f1 x1n x1d k2 k3)).mono fun e W' ⟨he, bel⟩ => ?_
  subst he
  exact ⟨_, rfl, _, _, _, [], _, [], hW', trodAll_mk1 (shut_bool Try.underlying4 _), (trodAll_cons_mk (Below.trod Try.laidOut (by kernel_rfl) (of_decide_eq_true (by kernel_rfl)) h0 bel lt0) (trodAll_cons_mk (Below.trod Try.laidOut (by kernel_rfl) (of_decide_eq_true (by kernel_rfl)) h1 bel lt1) trodAll_mk0)), rfl, bel.frame _, fun h => by cases h⟩

theorem facts : joinedFacts Try.pinned.checked.prog 11 Try.f11 Rows.fnExactRatMaxSpec Rows.fnExactRatMaxRow = true := by
  unfold joinedFacts
  refine and_mk (and_mk (and_mk (and_mk (and_mk (and_mk (and_mk ?_ Try.mayEnter) ?_) ?_) ?_) ?_) ?_) ?_
  · kernel_rfl
  · rw [Try.liftsNone]; rfl
  · rw [Try.makeCut]; rfl
  · kernel_rfl
  · kernel_rfl
  · kernel_rfl
  · kernel_rfl

theorem proved : Rows.FnExactRatMaxSaid :=
  OpenClaim.holds_of_wide 11 Try.f11 rfl rfl rfl rfl rfl rfl rfl ⟨rfl, rfl, rfl, rfl, rfl⟩ rfl rfl rfl rfl rfl (by as_aux_lemma => kernel_rfl) Try.func11 facts
    (of_decide_eq_true (by as_aux_lemma => kernel_rfl)) (by unfold Func.isWrapper; rw [if_neg (of_decide_eq_false (by as_aux_lemma => kernel_rfl))]; exact ⟨rfl, rfl⟩)
    (fun os started H enc _ => lifted os started H enc)

end Go.Proofs.Ytlideggpdailkaa.lawRatMax
