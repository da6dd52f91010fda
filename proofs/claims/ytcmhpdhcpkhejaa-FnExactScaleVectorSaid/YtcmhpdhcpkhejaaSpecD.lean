/- The reference's functions on natural numbers: l02Add. -/
import Derived.Test.YtcmhpdhcpkhejaaSpecC
namespace Go.Proofs.Ytcmhpdhcpkhejaa
open Go.RowKit Lm

/-- A new slice of limbs in range, perhaps with zero limbs at its end, that stands for n. -/
def RetO (w : World) (n m : Nat) (e : Ending) (w' : World) : Prop := ∃ v o, e = .returned v ∧ Own w' w.heap.size v o ∧ InR o ∧ nv o = n ∧ o.length ≤ m ∧ Below w.heap.size w w'
theorem retO {w w' : World} {v : Value} {o : List Int} {n m : Nat} (h : Own w' w.heap.size v o) (hi : InR o) (hn : nv o = n) (hl : o.length ≤ m) (hb : Below w.heap.size w w') : RetO w n m (.returned v) w' := ⟨v, o, rfl, h, hi, hn, hl, hb⟩

set_option maxHeartbeats 1000000 in
theorem l02Add_c (w : World) (b1 b2 : Nat) (v1 v2 : Value) (a b : Nat) (h1 : Own w b1 v1 (limbs a)) (h2 : Own w b2 v2 (limbs b)) (hs1 : (limbs a).length ≤ 1000) (hs2 : (limbs b).length ≤ 1000) :
    Calls Try.prog 105 #[v1, v2] w (RetO w (a + b) 1001) := by
  obtain ⟨a1, c1, rfl, -, f2, f3, -, -⟩ := h1.form
  obtain ⟨a2, c2, rfl, -, g2, g3, -, -⟩ := h2.form
  unfold maxLen at f3 g3
  have i1 := limbs_inR a
  have i2 := limbs_inR b
  generalize hX : limbs a = xs at *
  generalize hY : limbs b = ys at *
  have HX := Lib.hid hX; have HY := Lib.hid hY; have H1 := Lib.hid h1; have H2 := Lib.hid h2; have I1 := Lib.hid i1; have I2 := Lib.hid i2
  have HO := Lib.hid (Own.lit0 w)
  clear hX hY h1 h2 i1 i2
  obtain ⟨M, hM1, hM2, hM3⟩ : ∃ M, xs.length ≤ M ∧ ys.length ≤ M ∧ M ≤ 1000 := by
    by_cases h : xs.length ≤ ys.length
    · exact ⟨ys.length, h, Nat.le_refl _, hs2⟩
    · exact ⟨xs.length, Nat.le_refl _, by omega, hs1⟩
  go_enter Try.func105, Try.ntmps105
  go_wp2_with fail
  go_loopw [5, 6, 7] (fun v c k wr => ∃ (i : Nat) (o : List Int) (cr : Int), i ≤ M + 1 ∧ (i = M + 1 → cr = 0) ∧ k = .int .i64 i ∧ c = .int .i64 cr ∧ 0 ≤ cr ∧ cr ≤ 1 ∧ Hid (Own wr w.heap.size v o) ∧ Hid (AddI xs ys i o cr) ∧ Below w.heap.size w wr) (fun _ _ k _ => M + 1 - (intOf k).toNat)
  case atStart => exact ⟨0, [], 0, by omega, by omega, rfl, rfl, by omega, by omega, HO.out, AddI.start _ _, (Below.refl _ _).alloc (Nat.le_refl _) _⟩
  case round =>
    obtain ⟨i, o, cr, hi, hiM, rfl, rfl, hc0, hc1, HO', HA, hb⟩ := hrel
    have HIM := Lib.hid hiM
    have hsz := hb.size
    have hol := HA.out.len
    have HOL : o.length ≤ i := by omega
    obtain ⟨r11, r12⟩ := I1.out.lat i
    obtain ⟨r21, r22⟩ := I2.out.lat i
    clear hol hiM
    by_cases hla : i < xs.length
    · obtain ⟨g, rfl, -, -⟩ := H1.out.addr hla
      have k1 := (H1.out.below hb (Nat.le_refl _)).cell i hla
      have t1 : (i : Int) < xs.length := by omega
      have d1 : decide (i < xs.length) = true := decide_eq_true hla
      by_cases hlb : i < ys.length
      · obtain ⟨g', rfl, -, -⟩ := H2.out.addr hlb
        have k2 := (H2.out.below hb (Nat.le_refl _)).cell i hlb
        have t2 : (i : Int) < ys.length := by omega
        go_wp2_with (at_builtin; refine app_own rfl _ _ rfl _ _ w.heap.size wr.heap.size o [_] rfl rfl (HO'.out.alloc _) (Own.lit1 _ _) (by simp; omega) (by simp; omega) ?_)
        intro v' w' ho hg _
        have hb' := (HO'.out.alloc _).grownBelow (hb.alloc hsz _) hg (Nat.le_refl _) (by simp; omega)
        have HO2 := Lib.hid ho
        clear hg ho
        go_wp2
        go_roundw
        case rel => exact ⟨i + 1, _, (cr + lat xs i + lat ys i) / 1000000000, by omega, by omega, by go_num, rfl, by omega, by omega, HO2.out, HA.out.step (by omega) (by omega) (by omega) (by omega), hb'⟩
        case measure => (simp [intOf]) <;> omega
      · have HZ2 : Hid (lat ys i = 0) := lat_ge (by omega)
        have t2 : (ys.length : Int) ≤ (i : Int) := by omega
        go_wp2_with (at_builtin; refine app_own rfl _ _ rfl _ _ w.heap.size wr.heap.size o [_] rfl rfl (HO'.out.alloc _) (Own.lit1 _ _) (by simp; omega) (by simp; omega) ?_)
        intro v' w' ho hg _
        have hb' := (HO'.out.alloc _).grownBelow (hb.alloc hsz _) hg (Nat.le_refl _) (by simp; omega)
        have HO2 := Lib.hid ho
        clear hg ho
        go_wp2
        go_roundw
        case rel => exact ⟨i + 1, _, (cr + lat xs i) / 1000000000, by omega, by omega, by go_num, rfl, by omega, by omega, HO2.out, HA.out.step (by omega) (by omega) (by omega) (by have := HZ2.out; omega), hb'⟩
        case measure => (simp [intOf]) <;> omega
    · have HZ1 : Hid (lat xs i = 0) := lat_ge (by omega)
      have t1 : (xs.length : Int) ≤ (i : Int) := by omega
      have d1 : decide (i < xs.length) = false := decide_eq_false hla
      by_cases hlb : i < ys.length
      · obtain ⟨g', rfl, -, -⟩ := H2.out.addr hlb
        have k2 := (H2.out.below hb (Nat.le_refl _)).cell i hlb
        have t2 : (i : Int) < ys.length := by omega
        have d2 : decide (i < ys.length) = true := decide_eq_true hlb
        go_wp2_with (at_builtin; refine app_own rfl _ _ rfl _ _ w.heap.size wr.heap.size o [_] rfl rfl (HO'.out.alloc _) (Own.lit1 _ _) (by simp; omega) (by simp; omega) ?_)
        intro v' w' ho hg _
        have hb' := (HO'.out.alloc _).grownBelow (hb.alloc hsz _) hg (Nat.le_refl _) (by simp; omega)
        have HO2 := Lib.hid ho
        clear hg ho
        go_wp2
        go_roundw
        case rel => exact ⟨i + 1, _, (cr + lat ys i) / 1000000000, by omega, by omega, by go_num, rfl, by omega, by omega, HO2.out, HA.out.step (by omega) (by omega) (by omega) (by have := HZ1.out; omega), hb'⟩
        case measure => (simp [intOf]) <;> omega
      · have HZ2 : Hid (lat ys i = 0) := lat_ge (by omega)
        have t2 : (ys.length : Int) ≤ (i : Int) := by omega
        have d2 : decide (i < ys.length) = false := decide_eq_false hlb
        by_cases hcr : cr = 0
        · subst hcr
          have HV : Hid (nv o = (a + b : Nat)) := by
            have h := HA.out
            rw [← HX.out, ← HY.out] at h
            have h2 := h.done (by rw [HX.out]; omega) (by rw [HY.out]; omega)
            simp only [Int.mul_zero, Int.add_zero] at h2
            exact h2
          have HR : Hid (InR o) := HA.out.inr
          go_wp2
          go_ret
          exact retO HO'.out HR.out HV.out (by omega) hb
        · have hcr1 : cr = 1 := by omega
          have hiM2 : i ≤ M := by
            by_cases h : i = M + 1
            · have := HIM.out h; omega
            · omega
          have t3 : (0 : Int) < cr := by omega
          have d3 : decide ((0 : Int) < cr) = true := decide_eq_true t3
          have HC1 := Lib.hid hcr1
          clear hcr hcr1
          go_wp2_with (at_builtin; refine app_own rfl _ _ rfl _ _ w.heap.size wr.heap.size o [_] rfl rfl (HO'.out.alloc _) (Own.lit1 _ _) (by simp; omega) (by simp; omega) ?_)
          intro v' w' ho hg _
          have hb' := (HO'.out.alloc _).grownBelow (hb.alloc hsz _) hg (Nat.le_refl _) (by simp; omega)
          have HO2 := Lib.hid ho
          clear hg ho
          go_wp2
          go_roundw
          case rel => exact ⟨i + 1, _, (cr) / 1000000000, by omega, by omega, by go_num, rfl, by omega, by omega, HO2.out, HA.out.step (by omega) (by omega) (by omega) (by have := HZ1.out; have := HZ2.out; omega), hb'⟩
          case measure => (simp [intOf]) <;> omega

end Go.Proofs.Ytcmhpdhcpkhejaa
