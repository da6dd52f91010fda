/- The reference's functions on natural numbers: l02Mul, l02Small, l02Sub, l02Add. -/
import Derived.Test.YtcmhpdhcpkhejaaSpecA
import Derived.Test.YtcmhpdhcpkhejaaNatC
namespace Go.Proofs.Ytcmhpdhcpkhejaa
open Go.RowKit Lm

set_option maxHeartbeats 1000000 in
theorem l02Mul_pos (w : World) (b1 b2 : Nat) (v1 v2 : Value) (a b : Nat) (h1 : Own w b1 v1 (limbs a)) (h2 : Own w b2 v2 (limbs b)) (hs1 : (limbs a).length ≤ 1000) (hs2 : (limbs b).length ≤ 1000) (ha : 0 < a) (hb0 : 0 < b) :
    Calls Try.prog 82 #[v1, v2] w (RetS w (limbs (a * b))) := by
  obtain ⟨a1, c1, rfl, -, f2, f3, -, -⟩ := h1.form
  obtain ⟨a2, c2, rfl, -, g2, g3, -, -⟩ := h2.form
  unfold maxLen at f3 g3
  have hp1 := limbs_len_pos.2 ha
  have hp2 := limbs_len_pos.2 hb0
  have q1 : ((limbs a).length == 0) = false := beq_eq_false_iff_ne.2 (by omega)
  have q2 : (((limbs a).length : Int) == 0) = false := beq_eq_false_iff_ne.2 (by omega)
  have q3 : ((limbs b).length == 0) = false := beq_eq_false_iff_ne.2 (by omega)
  have q4 : (((limbs b).length : Int) == 0) = false := beq_eq_false_iff_ne.2 (by omega)
  have i1 := limbs_inR a
  have i2 := limbs_inR b
  have ev := nv_limbs a
  have ev2 := nv_limbs b
  generalize limbs a = xs at *
  generalize limbs b = ys at *
  have EV := Lib.hid ev; have EV2 := Lib.hid ev2; have H1 := Lib.hid h1; have H2 := Lib.hid h2; have I1 := Lib.hid i1; have I2 := Lib.hid i2
  clear ev ev2 h1 h2 i1 i2
  go_enter Try.func82, Try.ntmps82
  go_wp2_with (at_make; refine make_ints rfl _ _ rfl _ _ _ _ (xs.length + ys.length) rfl rfl (by omega) (by omega) (by omega) ?_)
  intro w0 ho hbz hs0
  have HO := Lib.hid ho
  clear ho
  go_wp2_with fail
  go_loopw [28] (fun k wr => ∃ (i : Nat) (out : List Int), i ≤ xs.length ∧ k = .int .i64 i ∧ Hid (Own wr w.heap.size (.slice (some ⟨w.heap.size, 0, none⟩) (xs.length + ys.length) (xs.length + ys.length)) out) ∧ Hid (MulI xs ys i out) ∧ Below w.heap.size w wr) (fun k _ => xs.length - (intOf k).toNat)
  case atStart => exact ⟨0, _, by omega, rfl, HO.out, MulI.start _ _, hbz⟩
  case round =>
    obtain ⟨i, out, hi, rfl, HO', HA, hb⟩ := hrel
    by_cases hlt : i < xs.length
    · obtain ⟨g, rfl, -, -⟩ := H1.out.addr hlt
      have k1 := (H1.out.below hb (Nat.le_refl _)).cell i hlt
      have t1 : (i : Int) < xs.length := by omega
      obtain ⟨r11, r12⟩ := I1.out.lat i
      go_wp2_with fail
      clear k1
      obtain ⟨wo, hwo⟩ : ∃ wo : World, wo = wr := ⟨_, rfl⟩
      subst hwo
      go_loopw [8, 35] (fun c k wr => ∃ (j : Nat) (out' : List Int) (cr : Int), j ≤ ys.length ∧ k = .int .i64 j ∧ c = .int .i64 cr ∧ 0 ≤ cr ∧ cr < 1000000000 ∧ Hid (Own wr w.heap.size (.slice (some ⟨w.heap.size, 0, none⟩) (xs.length + ys.length) (xs.length + ys.length)) out') ∧ Hid (MulK out ys (lat xs i) i j out' cr) ∧ Below w.heap.size w wr) (fun _ k _ => ys.length - (intOf k).toNat)
      case atStart => exact ⟨0, out, 0, by omega, rfl, rfl, by omega, by omega, HO'.out, HA.out.inner, hb⟩
      case round =>
        obtain ⟨j, out', cr, hj, rfl, rfl, hc0, hc1, HO2, HK, hb2⟩ := hrel
        by_cases hlj : j < ys.length
        · obtain ⟨g', rfl, -, -⟩ := H2.out.addr hlj
          have k2 := (H2.out.below hb2 (Nat.le_refl _)).cell j hlj
          have hlo : i + j < out'.length := by rw [HK.out.len, HA.out.len]; omega
          have k3 := HO2.out.cell (i + j) hlo
          have z3 := HO2.out.frozen (i + j)
          have HST := Lib.hid (HO2.out.store (i + j) ((lat out' (i + j) + lat xs i * lat ys j + cr) % 1000000000))
          have HD := Lib.hid (HK.out.step ⟨r11, r12⟩ I2.out hlj (by rw [HA.out.len]; omega))
          obtain ⟨hst1, hst2⟩ := HD.out.car
          obtain ⟨r21, r22⟩ := I2.out.lat j
          obtain ⟨r31, r32⟩ := HK.out.inr.lat (i + j)
          obtain ⟨m1, m2⟩ := mul_bound r11 r12 r21 r22
          have t2 : (j : Int) < ys.length := by omega
          have t3 : (i : Int) + j < xs.length + ys.length := by omega
          go_wp2
          go_roundw
          case rel => exact ⟨j + 1, _, _, by omega, by go_num, rfl, hst1, hst2, HST.out.1, HD.out, hb2.setCell (Nat.le_refl _) _⟩
          case measure => (simp [intOf]) <;> omega
        · obtain rfl : j = ys.length := by omega
          have hlo : i + ys.length < out'.length := by rw [HK.out.len, HA.out.len]; omega
          have k3 := HO2.out.cell (i + ys.length) hlo
          have z3 := HO2.out.frozen (i + ys.length)
          obtain ⟨hz, hm⟩ := HA.out.step hlt HK.out
          rw [hz] at k3
          have HM := Lib.hid hm
          have HST := Lib.hid (HO2.out.store (i + ys.length) cr)
          clear hz hm
          have t3 : (i : Int) + ys.length < xs.length + ys.length := by omega
          go_wp2
          go_roundw
          case rel => exact ⟨i + 1, _, by omega, by go_num, HST.out.1, HM.out, hb2.setCell (Nat.le_refl _) _⟩
          case measure => (simp [intOf]) <;> omega
    · obtain rfl : i = xs.length := by omega
      have HV : Hid (nv out = (a * b : Nat)) := by
        have h := HA.out.done
        rw [EV.out, EV2.out] at h
        rw [Int.natCast_mul]
        exact h
      have HR : Hid (InR out) := HA.out.inr
      go_wp2_with fail
      refine (l02Trim_c wr w.heap.size _ out (a * b) HO'.out HR.out HV.out).mono ?_
      rintro e w2 ⟨v, rfl, ho, _, hb2⟩
      have HO3 := Lib.hid ho
      clear ho
      go_wp2
      go_ret
      exact retS HO3.out rfl (hb.trans (hb2.mono hb.size))

set_option maxHeartbeats 400000 in
theorem l02Mul_zero (w : World) (b1 b2 : Nat) (v1 v2 : Value) (a b : Nat) (h1 : Own w b1 v1 (limbs a)) (h2 : Own w b2 v2 (limbs b)) (h0 : a = 0 ∨ b = 0) :
    Calls Try.prog 82 #[v1, v2] w (RetS w []) := by
  obtain ⟨a1, c1, rfl, -, f2, f3, -, -⟩ := h1.form
  obtain ⟨a2, c2, rfl, -, g2, g3, -, -⟩ := h2.form
  by_cases ha : a = 0
  · have q1 : ((limbs a).length == 0) = true := beq_iff_eq.2 (by rw [ha]; rfl)
    have q2 : (((limbs a).length : Int) == 0) = true := beq_iff_eq.2 (by rw [ha]; rfl)
    clear h1 h2 h0 ha
    go_enter Try.func82, Try.ntmps82
    go_wp2
    go_ret
    exact retS (Own.nil _ _) rfl (Below.refl _ _)
  · have hb : b = 0 := h0.resolve_left ha
    have hp1 := limbs_len_pos.2 (Nat.pos_of_ne_zero ha)
    have q1 : ((limbs a).length == 0) = false := beq_eq_false_iff_ne.2 (by omega)
    have q2 : (((limbs a).length : Int) == 0) = false := beq_eq_false_iff_ne.2 (by omega)
    have q3 : ((limbs b).length == 0) = true := beq_iff_eq.2 (by rw [hb]; rfl)
    have q4 : (((limbs b).length : Int) == 0) = true := beq_iff_eq.2 (by rw [hb]; rfl)
    clear h1 h2 h0 ha hb
    go_enter Try.func82, Try.ntmps82
    go_wp2
    go_ret
    exact retS (Own.nil _ _) rfl (Below.refl _ _)

theorem l02Mul_c (w : World) (b1 b2 : Nat) (v1 v2 : Value) (a b : Nat) (h1 : Own w b1 v1 (limbs a)) (h2 : Own w b2 v2 (limbs b)) (hs1 : (limbs a).length ≤ 1000) (hs2 : (limbs b).length ≤ 1000) :
    Calls Try.prog 82 #[v1, v2] w (RetS w (limbs (a * b))) := by
  by_cases h : a = 0 ∨ b = 0
  · have e : limbs (a * b) = [] := by rcases h with rfl | rfl <;> simp [limbs_zero]
    rw [e]
    exact l02Mul_zero w b1 b2 v1 v2 a b h1 h2 h
  · exact l02Mul_pos w b1 b2 v1 v2 a b h1 h2 hs1 hs2 (by omega) (by omega)

/-- A new slice and a number. -/
def RetSI (w : World) (xs : List Int) (n : Int) (e : Ending) (w' : World) : Prop := ∃ v, e = .returned (.tuple #[v, .int .i64 n]) ∧ Own w' w.heap.size v xs ∧ Below w.heap.size w w'
theorem retSI {w w' : World} {v : Value} {xs ys : List Int} {n m : Int} (h : Own w' w.heap.size v ys) (e : ys = xs) (e2 : m = n) (hb : Below w.heap.size w w') : RetSI w xs n (.returned (.tuple #[v, .int .i64 m])) w' := ⟨v, by rw [e2], e ▸ h, hb⟩

set_option maxHeartbeats 1000000 in
theorem l02Small_c (w : World) (b1 : Nat) (v1 : Value) (a d : Nat) (h1 : Own w b1 v1 (limbs a)) (hs1 : (limbs a).length ≤ 1000) (hd0 : 0 < d) (hd1 : d < 1000000000) :
    Calls Try.prog 117 #[v1, .int .i64 d] w (RetSI w (limbs (a / d)) ((a % d : Nat) : Int)) := by
  obtain ⟨a1, c1, rfl, -, f2, f3, -, -⟩ := h1.form
  unfold maxLen at f3
  have i1 := limbs_inR a
  generalize hX : limbs a = xs at *
  have HX := Lib.hid hX; have H1 := Lib.hid h1; have I1 := Lib.hid i1
  clear hX h1 i1
  go_enter Try.func117, Try.ntmps117
  go_wp2_with (at_make; refine make_ints rfl _ _ rfl _ _ _ _ xs.length rfl rfl (by omega) (by omega) (by omega) ?_)
  intro w0 ho hb0 hs0
  have HO := Lib.hid ho
  clear ho
  go_wp2_with fail
  go_loopw [7, 8] (fun r k wr => ∃ (K : Nat) (out : List Int) (rr : Int), K ≤ xs.length ∧ k = .int .i64 ((K : Int) - 1) ∧ r = .int .i64 rr ∧ 0 ≤ rr ∧ rr < d ∧ Hid (Own wr w.heap.size (.slice (some ⟨w.heap.size, 0, none⟩) xs.length xs.length) out) ∧ Hid (DivI xs d K out rr) ∧ Below w.heap.size w wr) (fun _ k _ => (intOf k + 1).toNat)
  case atStart => exact ⟨xs.length, _, 0, by omega, rfl, rfl, by omega, by omega, HO.out, DivI.start _ (by omega), hb0⟩
  case round =>
    obtain ⟨K, out, rr, hK, rfl, rfl, hr0, hr1, HO', HA, hb⟩ := hrel
    by_cases h0 : 0 < K
    · obtain ⟨i, rfl⟩ : ∃ i, K = i + 1 := ⟨K - 1, by omega⟩
      have hlt : i < xs.length := by omega
      obtain ⟨g, rfl, -, -⟩ := H1.out.addr hlt
      have k1 := (H1.out.below hb (Nat.le_refl _)).cell i hlt
      have hlo : i < out.length := by rw [HA.out.len]; exact hlt
      have k2 := HO'.out.cell i hlo
      have z2 := HO'.out.frozen i
      have HST := Lib.hid (HO'.out.store i ((rr * 1000000000 + lat xs i) / d))
      have HD := Lib.hid (HA.out.step I1.out hlt)
      have hst := HD.out.rem
      obtain ⟨hst1, hst2⟩ := hst
      obtain ⟨r11, r12⟩ := I1.out.lat i
      have hm1 : rr * 1000000000 < (d : Int) * 1000000000 := by omega
      rw [show ((i + 1 : Nat) : Int) - 1 = (i : Int) by omega]
      have t1 : (i : Int) < xs.length := by omega
      have tz : ((d : Int) == 0) = false := by simp; omega
      go_wp2
      go_roundw
      case rel => exact ⟨i, _, _, by omega, by go_num, rfl, hst1, hst2, HST.out.1, HD.out, hb.setCell (Nat.le_refl _) _⟩
      case measure => (simp [intOf]) <;> omega
    · obtain rfl : K = 0 := by omega
      have HV : Hid (nv out = (a / d : Nat) ∧ rr = (a % d : Nat)) := by
        have h := HA.out
        rw [← HX.out] at h
        exact h.quot
      have HR : Hid (InR out) := HA.out.inr
      go_wp2_with fail
      refine (l02Trim_c wr w.heap.size _ out (a / d) HO'.out HR.out HV.out.1).mono ?_
      rintro e w2 ⟨v, rfl, ho, hob, hb2⟩
      have HO3 := Lib.hid ho
      clear ho
      clear hob
      go_wp2
      go_ret2
      exact retSI HO3.out rfl HV.out.2 (hb.trans (hb2.mono hb.size))

end Go.Proofs.Ytcmhpdhcpkhejaa
