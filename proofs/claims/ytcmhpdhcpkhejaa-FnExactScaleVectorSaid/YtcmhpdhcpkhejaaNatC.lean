/- The program's functions on natural numbers: natMul. -/
import Derived.Test.YtcmhpdhcpkhejaaNatB
namespace Go.Proofs.Ytcmhpdhcpkhejaa
open Go.RowKit Lm

set_option maxHeartbeats 1000000 in
theorem natMul_c (w : World) (b1 b2 : Nat) (v1 v2 : Value) (a b : Nat) (h1 : Own w b1 v1 (limbs a)) (h2 : Own w b2 v2 (limbs b)) (hs1 : (limbs a).length ≤ 1000) (hs2 : (limbs b).length ≤ 1000) :
    Calls Try.prog 94 #[v1, v2] w (RetS w (limbs (a * b))) := by
  obtain ⟨a1, c1, rfl, -, f2, f3, -, -⟩ := h1.form
  obtain ⟨a2, c2, rfl, -, g2, g3, -, -⟩ := h2.form
  unfold maxLen at f3 g3
  have i1 := limbs_inR a
  have i2 := limbs_inR b
  have ev := nv_limbs a
  have ev2 := nv_limbs b
  generalize limbs a = xs at *
  generalize limbs b = ys at *
  have EV := Lib.hid ev; have EV2 := Lib.hid ev2; have H1 := Lib.hid h1; have H2 := Lib.hid h2; have I1 := Lib.hid i1; have I2 := Lib.hid i2
  clear ev ev2 h1 h2 i1 i2
  go_enter Try.func94, Try.ntmps94
  go_wp2_with (at_make; refine make_ints rfl _ _ rfl _ _ _ _ (xs.length + ys.length) rfl rfl (by omega) (by omega) (by omega) ?_)
  intro w0 ho hb0 hs0
  have HO := Lib.hid ho
  clear ho
  go_wp2_with fail
  go_loopw [20] (fun k wr => ∃ (i : Nat) (out : List Int), i ≤ xs.length ∧ k = .int .i64 i ∧ Hid (Own wr w.heap.size (.slice (some ⟨w.heap.size, 0, none⟩) (xs.length + ys.length) (xs.length + ys.length)) out) ∧ Hid (MulI xs ys i out) ∧ Below w.heap.size w wr) (fun k _ => xs.length - (intOf k).toNat)
  case atStart => exact ⟨0, _, by omega, rfl, HO.out, MulI.start _ _, hb0⟩
  case round =>
    obtain ⟨i, out, hi, rfl, HO', HA, hb⟩ := hrel
    by_cases hlt : i < xs.length
    · obtain ⟨g, rfl, -, -⟩ := H1.out.addr hlt
      have k1 := (H1.out.below hb (Nat.le_refl _)).cell i hlt
      have t1 : (i : Int) < xs.length := by omega
      obtain ⟨r11, r12⟩ := I1.out.lat i
      go_wp2_with fail
      clear k1
      obtain ⟨wo, hwo⟩ : ∃ wo : World, wo = wr := ⟨_, rfl⟩
      subst hwo
      go_loopw [8, 27] (fun c k wr => ∃ (j : Nat) (out' : List Int) (cr : Int), j ≤ ys.length ∧ k = .int .i64 j ∧ c = .int .i64 cr ∧ 0 ≤ cr ∧ cr < 1000000000 ∧ Hid (Own wr w.heap.size (.slice (some ⟨w.heap.size, 0, none⟩) (xs.length + ys.length) (xs.length + ys.length)) out') ∧ Hid (MulK out ys (lat xs i) i j out' cr) ∧ Below w.heap.size w wr) (fun _ k _ => ys.length - (intOf k).toNat)
      case atStart => exact ⟨0, out, 0, by omega, rfl, rfl, by omega, by omega, HO'.out, HA.out.inner, hb⟩
      case round =>
        obtain ⟨j, out', cr, hj, rfl, rfl, hc0, hc1, HO2, HK, hb2⟩ := hrel
        by_cases hlj : j < ys.length
        · obtain ⟨g', rfl, -, -⟩ := H2.out.addr hlj
          have k2 := (H2.out.below hb2 (Nat.le_refl _)).cell j hlj
          have hlo : i + j < out'.length := by rw [HK.out.len, HA.out.len]; omega
          have k3 := HO2.out.cell (i + j) hlo
          have z3 := HO2.out.frozen (i + j)
          have HST := Lib.hid (HO2.out.store (i + j) ((lat out' (i + j) + lat xs i * lat ys j + cr) % 1000000000))
          have HD := Lib.hid (HK.out.step ⟨r11, r12⟩ I2.out hlj (by rw [HA.out.len]; omega))
          obtain ⟨hst1, hst2⟩ := HD.out.car
          obtain ⟨r21, r22⟩ := I2.out.lat j
          obtain ⟨r31, r32⟩ := HK.out.inr.lat (i + j)
          obtain ⟨m1, m2⟩ := mul_bound r11 r12 r21 r22
          have t2 : (j : Int) < ys.length := by omega
          have t3 : (i : Int) + j < xs.length + ys.length := by omega
          go_wp2
          go_roundw
          case rel => exact ⟨j + 1, _, _, by omega, by go_num, rfl, hst1, hst2, HST.out.1, HD.out, hb2.setCell (Nat.le_refl _) _⟩
          case measure => (simp [intOf]) <;> omega
        · obtain rfl : j = ys.length := by omega
          have hlo : i + ys.length < out'.length := by rw [HK.out.len, HA.out.len]; omega
          have k3 := HO2.out.cell (i + ys.length) hlo
          have z3 := HO2.out.frozen (i + ys.length)
          obtain ⟨hz, hm⟩ := HA.out.step hlt HK.out
          rw [hz] at k3
          have HM := Lib.hid hm
          have HST := Lib.hid (HO2.out.store (i + ys.length) cr)
          clear hz hm
          have t3 : (i : Int) + ys.length < xs.length + ys.length := by omega
          go_wp2
          go_roundw
          case rel => exact ⟨i + 1, _, by omega, by go_num, HST.out.1, HM.out, hb2.setCell (Nat.le_refl _) _⟩
          case measure => (simp [intOf]) <;> omega
    · obtain rfl : i = xs.length := by omega
      have HV : Hid (nv out = (a * b : Nat)) := by
        have h := HA.out.done
        rw [EV.out, EV2.out] at h
        rw [Int.natCast_mul]
        exact h
      have HR : Hid (InR out) := HA.out.inr
      go_wp2_with fail
      refine (trim_c wr w.heap.size _ out (a * b) HO'.out HR.out HV.out).mono ?_
      rintro e w2 ⟨v, rfl, ho, _, hb2⟩
      have HO3 := Lib.hid ho
      clear ho
      go_wp2
      go_ret
      exact retS HO3.out rfl (hb.trans (hb2.mono hb.size))

end Go.Proofs.Ytcmhpdhcpkhejaa
