/- The program's functions on natural numbers: natAdd, natSub, natMul, divSmall. -/
import Derived.Test.YtcmhpdhcpkhejaaNatA
namespace Go.Proofs.Ytcmhpdhcpkhejaa
open Go.RowKit Lm

set_option maxHeartbeats 1000000 in
theorem natAdd_ge (w : World) (b1 b2 : Nat) (v1 v2 : Value) (a b : Nat) (h1 : Own w b1 v1 (limbs a)) (h2 : Own w b2 v2 (limbs b)) (hs1 : (limbs a).length ≤ 1000) (_hs2 : (limbs b).length ≤ 1000) (hc : (limbs b).length ≤ (limbs a).length) :
    Calls Try.prog 110 #[v1, v2] w (RetS w (limbs (a + b))) := by
  obtain ⟨a1, c1, rfl, -, f2, f3, -, -⟩ := h1.form
  obtain ⟨a2, c2, rfl, -, g2, g3, -, -⟩ := h2.form
  unfold maxLen at f3 g3
  have i1 := limbs_inR a
  have i2 := limbs_inR b
  generalize hX : limbs a = xs at *
  generalize hY : limbs b = ys at *
  have HX := Lib.hid hX; have HY := Lib.hid hY; have H1 := Lib.hid h1; have H2 := Lib.hid h2; have I1 := Lib.hid i1; have I2 := Lib.hid i2
  clear hX hY h1 h2 i1 i2
  go_enter Try.func110, Try.ntmps110
  go_wp2_with (at_make; refine make_cap rfl _ _ rfl _ _ _ (xs.length + 1) rfl rfl (by omega) (by omega) ?_)
  intro w0 ho hb0 hs0
  have HO := Lib.hid ho
  clear ho
  go_wp2_with fail
  go_loopw [5, 6, 22] (fun v c k wr => ∃ (i : Nat) (o : List Int) (cr : Int), i ≤ xs.length ∧ k = .int .i64 i ∧ c = .int .i64 cr ∧ 0 ≤ cr ∧ cr ≤ 1 ∧ Hid (Own wr w.heap.size v o) ∧ Hid (AddI xs ys i o cr) ∧ Below w.heap.size w wr) (fun _ _ k _ => xs.length - (intOf k).toNat)
  case atStart => exact ⟨0, [], 0, by omega, rfl, rfl, by omega, by omega, HO.out, AddI.start _ _, hb0⟩
  case round =>
    obtain ⟨i, o, cr, hi, rfl, rfl, hc0, hc1, HO', HA, hb⟩ := hrel
    have hsz := hb.size
    by_cases hlt : i < xs.length
    · obtain ⟨g, rfl, -, -⟩ := H1.out.addr hlt
      have k1 := (H1.out.below hb (Nat.le_refl _)).cell i hlt
      have t1 : (i : Int) < xs.length := by omega
      have r1 := (I1.out.lat i)
      have r2 := (I2.out.lat i)
      obtain ⟨r11, r12⟩ := r1
      obtain ⟨r21, r22⟩ := r2
      have hol := HA.out.len
      have HOL : o.length ≤ i := by omega
      clear hol
      by_cases hlb : i < ys.length
      · obtain ⟨g', rfl, -, -⟩ := H2.out.addr hlb
        have k2 := (H2.out.below hb (Nat.le_refl _)).cell i hlb
        have t2 : (i : Int) < ys.length := by omega
        by_cases hbig : 1000000000 ≤ lat xs i + cr + lat ys i
        · go_wp2_with (at_builtin; refine app_own rfl _ _ rfl _ _ w.heap.size wr.heap.size o [_] rfl rfl (HO'.out.alloc _) (Own.lit1 _ _) (by simp; omega) (by simp; omega) ?_)
          intro v' w' ho hg _
          have hb' := (HO'.out.alloc _).grownBelow (hb.alloc hsz _) hg (Nat.le_refl _) (by simp; omega)
          have HO2 := Lib.hid ho
          clear hg ho
          go_wp2
          go_roundw
          case rel => exact ⟨i + 1, _, 1, by omega, by go_num, rfl, by omega, by omega, HO2.out, HA.out.step (by omega) (by omega) (by omega) (by omega), hb'⟩
          case measure => (simp [intOf]) <;> omega
        · go_wp2_with (at_builtin; refine app_own rfl _ _ rfl _ _ w.heap.size wr.heap.size o [_] rfl rfl (HO'.out.alloc _) (Own.lit1 _ _) (by simp; omega) (by simp; omega) ?_)
          intro v' w' ho hg _
          have hb' := (HO'.out.alloc _).grownBelow (hb.alloc hsz _) hg (Nat.le_refl _) (by simp; omega)
          have HO2 := Lib.hid ho
          clear hg ho
          go_wp2
          go_roundw
          case rel => exact ⟨i + 1, _, 0, by omega, by go_num, rfl, by omega, by omega, HO2.out, HA.out.step (by omega) (by omega) (by omega) (by omega), hb'⟩
          case measure => (simp [intOf]) <;> omega
      · have hz : lat ys i = 0 := lat_ge (by omega)
        have HZ := Lib.hid hz
        have t2 : (ys.length : Int) ≤ (i : Int) := by omega
        clear hz
        by_cases hbig : 1000000000 ≤ lat xs i + cr
        · go_wp2_with (at_builtin; refine app_own rfl _ _ rfl _ _ w.heap.size wr.heap.size o [_] rfl rfl (HO'.out.alloc _) (Own.lit1 _ _) (by simp; omega) (by simp; omega) ?_)
          intro v' w' ho hg _
          have hb' := (HO'.out.alloc _).grownBelow (hb.alloc hsz _) hg (Nat.le_refl _) (by simp; omega)
          have HO2 := Lib.hid ho
          clear hg ho
          go_wp2
          go_roundw
          case rel => exact ⟨i + 1, _, 1, by omega, by go_num, rfl, by omega, by omega, HO2.out, HA.out.step (by have := HZ.out; omega) (by have := HZ.out; omega) (by omega) (by have := HZ.out; omega), hb'⟩
          case measure => (simp [intOf]) <;> omega
        · go_wp2_with (at_builtin; refine app_own rfl _ _ rfl _ _ w.heap.size wr.heap.size o [_] rfl rfl (HO'.out.alloc _) (Own.lit1 _ _) (by simp; omega) (by simp; omega) ?_)
          intro v' w' ho hg _
          have hb' := (HO'.out.alloc _).grownBelow (hb.alloc hsz _) hg (Nat.le_refl _) (by simp; omega)
          have HO2 := Lib.hid ho
          clear hg ho
          go_wp2
          go_roundw
          case rel => exact ⟨i + 1, _, 0, by omega, by go_num, rfl, by omega, by omega, HO2.out, HA.out.step (by have := HZ.out; omega) (by have := HZ.out; omega) (by omega) (by have := HZ.out; omega), hb'⟩
          case measure => (simp [intOf]) <;> omega
    · obtain rfl : i = xs.length := by omega
      by_cases hcr : cr = 0
      · subst hcr
        go_wp2
        go_ret
        exact retS HO'.out (by have h := HA.out; rw [← HX.out, ← HY.out] at h; have h2 := h.done0 (by rw [HY.out, HX.out]; omega); exact h2) hb
      · obtain rfl : cr = 1 := by omega
        clear hcr
        have hol := HA.out.len
        have HOL : o.length ≤ xs.length := by omega
        clear hol
        go_wp2_with (at_builtin; refine app_own rfl _ _ rfl _ _ w.heap.size wr.heap.size o [_] rfl rfl (HO'.out.alloc _) (Own.lit1 _ _) (by simp; omega) (by simp; omega) ?_)
        intro v' w' ho hg _
        have hb' := (HO'.out.alloc _).grownBelow (hb.alloc hsz _) hg (Nat.le_refl _) (by simp; omega)
        have HO2 := Lib.hid ho
        clear hg ho
        go_wp2
        go_ret
        exact retS HO2.out (by have h := HA.out; rw [← HX.out, ← HY.out] at h; have h2 := h.done1 (by rw [HY.out, HX.out]; omega); exact h2) hb'

set_option maxHeartbeats 1000000 in
theorem natAdd_lt (w : World) (b1 b2 : Nat) (v1 v2 : Value) (a b : Nat) (h1 : Own w b1 v1 (limbs a)) (h2 : Own w b2 v2 (limbs b)) (hs1 : (limbs a).length ≤ 1000) (hs2 : (limbs b).length ≤ 1000) (hc : (limbs a).length < (limbs b).length) :
    Calls Try.prog 110 #[v1, v2] w (RetS w (limbs (a + b))) := by
  obtain ⟨a1, c1, rfl, -, f2, f3, -, -⟩ := h1.form
  obtain ⟨a2, c2, rfl, -, g2, g3, -, -⟩ := h2.form
  unfold maxLen at f3 g3
  have i1 := limbs_inR a
  have i2 := limbs_inR b
  generalize hX : limbs a = xs at *
  generalize hY : limbs b = ys at *
  have HX := Lib.hid hX; have HY := Lib.hid hY; have H1 := Lib.hid h1; have H2 := Lib.hid h2; have I1 := Lib.hid i1; have I2 := Lib.hid i2
  clear hX hY h1 h2 i1 i2
  go_enter Try.func110, Try.ntmps110
  go_wp2_with (at_make; refine make_cap rfl _ _ rfl _ _ _ (ys.length + 1) rfl rfl (by omega) (by omega) ?_)
  intro w0 ho hb0 hs0
  have HO := Lib.hid ho
  clear ho
  go_wp2_with fail
  go_loopw [5, 6, 22] (fun v c k wr => ∃ (i : Nat) (o : List Int) (cr : Int), i ≤ ys.length ∧ k = .int .i64 i ∧ c = .int .i64 cr ∧ 0 ≤ cr ∧ cr ≤ 1 ∧ Hid (Own wr w.heap.size v o) ∧ Hid (AddI ys xs i o cr) ∧ Below w.heap.size w wr) (fun _ _ k _ => ys.length - (intOf k).toNat)
  case atStart => exact ⟨0, [], 0, by omega, rfl, rfl, by omega, by omega, HO.out, AddI.start _ _, hb0⟩
  case round =>
    obtain ⟨i, o, cr, hi, rfl, rfl, hc0, hc1, HO', HA, hb⟩ := hrel
    have hsz := hb.size
    by_cases hlt : i < ys.length
    · obtain ⟨g, rfl, -, -⟩ := H2.out.addr hlt
      have k1 := (H2.out.below hb (Nat.le_refl _)).cell i hlt
      have t1 : (i : Int) < ys.length := by omega
      have r1 := (I2.out.lat i)
      have r2 := (I1.out.lat i)
      obtain ⟨r11, r12⟩ := r1
      obtain ⟨r21, r22⟩ := r2
      have hol := HA.out.len
      have HOL : o.length ≤ i := by omega
      clear hol
      by_cases hlb : i < xs.length
      · obtain ⟨g', rfl, -, -⟩ := H1.out.addr hlb
        have k2 := (H1.out.below hb (Nat.le_refl _)).cell i hlb
        have t2 : (i : Int) < xs.length := by omega
        by_cases hbig : 1000000000 ≤ lat ys i + cr + lat xs i
        · go_wp2_with (at_builtin; refine app_own rfl _ _ rfl _ _ w.heap.size wr.heap.size o [_] rfl rfl (HO'.out.alloc _) (Own.lit1 _ _) (by simp; omega) (by simp; omega) ?_)
          intro v' w' ho hg _
          have hb' := (HO'.out.alloc _).grownBelow (hb.alloc hsz _) hg (Nat.le_refl _) (by simp; omega)
          have HO2 := Lib.hid ho
          clear hg ho
          go_wp2
          go_roundw
          case rel => exact ⟨i + 1, _, 1, by omega, by go_num, rfl, by omega, by omega, HO2.out, HA.out.step (by omega) (by omega) (by omega) (by omega), hb'⟩
          case measure => (simp [intOf]) <;> omega
        · go_wp2_with (at_builtin; refine app_own rfl _ _ rfl _ _ w.heap.size wr.heap.size o [_] rfl rfl (HO'.out.alloc _) (Own.lit1 _ _) (by simp; omega) (by simp; omega) ?_)
          intro v' w' ho hg _
          have hb' := (HO'.out.alloc _).grownBelow (hb.alloc hsz _) hg (Nat.le_refl _) (by simp; omega)
          have HO2 := Lib.hid ho
          clear hg ho
          go_wp2
          go_roundw
          case rel => exact ⟨i + 1, _, 0, by omega, by go_num, rfl, by omega, by omega, HO2.out, HA.out.step (by omega) (by omega) (by omega) (by omega), hb'⟩
          case measure => (simp [intOf]) <;> omega
      · have hz : lat xs i = 0 := lat_ge (by omega)
        have HZ := Lib.hid hz
        have t2 : (xs.length : Int) ≤ (i : Int) := by omega
        clear hz
        by_cases hbig : 1000000000 ≤ lat ys i + cr
        · go_wp2_with (at_builtin; refine app_own rfl _ _ rfl _ _ w.heap.size wr.heap.size o [_] rfl rfl (HO'.out.alloc _) (Own.lit1 _ _) (by simp; omega) (by simp; omega) ?_)
          intro v' w' ho hg _
          have hb' := (HO'.out.alloc _).grownBelow (hb.alloc hsz _) hg (Nat.le_refl _) (by simp; omega)
          have HO2 := Lib.hid ho
          clear hg ho
          go_wp2
          go_roundw
          case rel => exact ⟨i + 1, _, 1, by omega, by go_num, rfl, by omega, by omega, HO2.out, HA.out.step (by have := HZ.out; omega) (by have := HZ.out; omega) (by omega) (by have := HZ.out; omega), hb'⟩
          case measure => (simp [intOf]) <;> omega
        · go_wp2_with (at_builtin; refine app_own rfl _ _ rfl _ _ w.heap.size wr.heap.size o [_] rfl rfl (HO'.out.alloc _) (Own.lit1 _ _) (by simp; omega) (by simp; omega) ?_)
          intro v' w' ho hg _
          have hb' := (HO'.out.alloc _).grownBelow (hb.alloc hsz _) hg (Nat.le_refl _) (by simp; omega)
          have HO2 := Lib.hid ho
          clear hg ho
          go_wp2
          go_roundw
          case rel => exact ⟨i + 1, _, 0, by omega, by go_num, rfl, by omega, by omega, HO2.out, HA.out.step (by have := HZ.out; omega) (by have := HZ.out; omega) (by omega) (by have := HZ.out; omega), hb'⟩
          case measure => (simp [intOf]) <;> omega
    · obtain rfl : i = ys.length := by omega
      by_cases hcr : cr = 0
      · subst hcr
        go_wp2
        go_ret
        exact retS HO'.out (by have h := HA.out; rw [← HY.out, ← HX.out] at h; have h2 := h.done0 (by rw [HX.out, HY.out]; omega); rw [Nat.add_comm] at h2; exact h2) hb
      · obtain rfl : cr = 1 := by omega
        clear hcr
        have hol := HA.out.len
        have HOL : o.length ≤ ys.length := by omega
        clear hol
        go_wp2_with (at_builtin; refine app_own rfl _ _ rfl _ _ w.heap.size wr.heap.size o [_] rfl rfl (HO'.out.alloc _) (Own.lit1 _ _) (by simp; omega) (by simp; omega) ?_)
        intro v' w' ho hg _
        have hb' := (HO'.out.alloc _).grownBelow (hb.alloc hsz _) hg (Nat.le_refl _) (by simp; omega)
        have HO2 := Lib.hid ho
        clear hg ho
        go_wp2
        go_ret
        exact retS HO2.out (by have h := HA.out; rw [← HY.out, ← HX.out] at h; have h2 := h.done1 (by rw [HX.out, HY.out]; omega); rw [Nat.add_comm] at h2; exact h2) hb'

theorem natAdd_c (w : World) (b1 b2 : Nat) (v1 v2 : Value) (a b : Nat) (h1 : Own w b1 v1 (limbs a)) (h2 : Own w b2 v2 (limbs b)) (hs1 : (limbs a).length ≤ 1000) (hs2 : (limbs b).length ≤ 1000) :
    Calls Try.prog 110 #[v1, v2] w (RetS w (limbs (a + b))) := by
  by_cases h : (limbs a).length < (limbs b).length
  · exact natAdd_lt w b1 b2 v1 v2 a b h1 h2 hs1 hs2 h
  · exact natAdd_ge w b1 b2 v1 v2 a b h1 h2 hs1 hs2 (by omega)

set_option maxHeartbeats 1000000 in
theorem natSub_c (w : World) (b1 b2 : Nat) (v1 v2 : Value) (a b : Nat) (h1 : Own w b1 v1 (limbs a)) (h2 : Own w b2 v2 (limbs b)) (hs1 : (limbs a).length ≤ 1000) (hab : b ≤ a) :
    Calls Try.prog 112 #[v1, v2] w (RetS w (limbs (a - b))) := by
  obtain ⟨a1, c1, rfl, -, f2, f3, -, -⟩ := h1.form
  obtain ⟨a2, c2, rfl, -, g2, g3, -, -⟩ := h2.form
  unfold maxLen at f3 g3
  have i1 := limbs_inR a
  have i2 := limbs_inR b
  generalize hX : limbs a = xs at *
  generalize hY : limbs b = ys at *
  have HX := Lib.hid hX; have HY := Lib.hid hY; have H1 := Lib.hid h1; have H2 := Lib.hid h2; have I1 := Lib.hid i1; have I2 := Lib.hid i2
  clear hX hY h1 h2 i1 i2
  go_enter Try.func112, Try.ntmps112
  go_wp2_with fail
  refine (copyInts_c w b1 _ xs H1.out (by omega)).mono ?_
  rintro e w1 ⟨v, rfl, ho, hb1⟩
  obtain ⟨ao, cap, rfl, -, l2, l3, -, -⟩ := ho.form
  unfold maxLen at l3
  have HO := Lib.hid ho
  clear ho
  go_wp2_with fail
  go_loopw [6, 13] (fun c k wr => ∃ (i : Nat) (o : List Int) (br : Int), i ≤ xs.length ∧ k = .int .i64 i ∧ c = .int .i64 br ∧ 0 ≤ br ∧ br ≤ 1 ∧ Hid (Own wr w.heap.size (.slice ao xs.length cap) (o ++ xs.drop i)) ∧ Hid (SubI xs ys i o br) ∧ Below w.heap.size w wr) (fun _ k _ => xs.length - (intOf k).toNat)
  case atStart => exact ⟨0, [], 0, by omega, rfl, rfl, by omega, by omega, HO.out, SubI.start _ _, hb1⟩
  case round =>
    obtain ⟨i, o, br, hi, rfl, rfl, hc0, hc1, HO', HA, hb⟩ := hrel
    by_cases hlt : i < xs.length
    · have hli : i < (o ++ xs.drop i).length := by rw [len_mid HA.out.len hi]; exact hlt
      obtain ⟨g, rfl, hgB, -⟩ := HO'.out.addr hli
      have k1 := HO'.out.cell i hli
      have z1 := HO'.out.frozen i
      rw [lat_mid HA.out.len] at k1
      have t1 : (i : Int) < xs.length := by omega
      obtain ⟨r11, r12⟩ := I1.out.lat i
      obtain ⟨r21, r22⟩ := I2.out.lat i
      by_cases hlb : i < ys.length
      · obtain ⟨g', rfl, -, -⟩ := H2.out.addr hlb
        have k2 := (H2.out.below hb (Nat.le_refl _)).cell i hlb
        have t2 : (i : Int) < ys.length := by omega
        by_cases hneg : lat xs i - br - lat ys i < 0
        · go_wp2
          have hst := HO'.out.store i (lat xs i - br - lat ys i + 1000000000)
          rw [set_mid HA.out.len hlt] at hst
          go_roundw
          case rel => exact ⟨i + 1, _, 1, by omega, by go_num, rfl, by omega, by omega, hst.1, HA.out.step (by omega) (by omega) (by omega) (by omega), hb.setCell hgB _⟩
          case measure => (simp [intOf]) <;> omega
        · go_wp2
          have hst := HO'.out.store i (lat xs i - br - lat ys i)
          rw [set_mid HA.out.len hlt] at hst
          go_roundw
          case rel => exact ⟨i + 1, _, 0, by omega, by go_num, rfl, by omega, by omega, hst.1, HA.out.step (by omega) (by omega) (by omega) (by omega), hb.setCell hgB _⟩
          case measure => (simp [intOf]) <;> omega
      · have HZ : Hid (lat ys i = 0) := lat_ge (by omega)
        have t2 : (ys.length : Int) ≤ (i : Int) := by omega
        by_cases hneg : lat xs i - br < 0
        · go_wp2
          have hst := HO'.out.store i (lat xs i - br + 1000000000)
          rw [set_mid HA.out.len hlt] at hst
          go_roundw
          case rel => exact ⟨i + 1, _, 1, by omega, by go_num, rfl, by omega, by omega, hst.1, HA.out.step (by have := HZ.out; omega) (by have := HZ.out; omega) (by omega) (by have := HZ.out; omega), hb.setCell hgB _⟩
          case measure => (simp [intOf]) <;> omega
        · go_wp2
          have hst := HO'.out.store i (lat xs i - br)
          rw [set_mid HA.out.len hlt] at hst
          go_roundw
          case rel => exact ⟨i + 1, _, 0, by omega, by go_num, rfl, by omega, by omega, hst.1, HA.out.step (by have := HZ.out; omega) (by have := HZ.out; omega) (by omega) (by have := HZ.out; omega), hb.setCell hgB _⟩
          case measure => (simp [intOf]) <;> omega
    · obtain rfl : i = xs.length := by omega
      have HV : Hid (nv o = (a - b : Nat)) := by
        have h := HA.out
        rw [← HX.out, ← HY.out] at h
        exact h.done hab
      have HR : Hid (InR o) := HA.out.inr
      have ho := HO'.out
      rw [List.drop_length, List.append_nil] at ho
      have HO2 := Lib.hid ho
      clear ho
      go_wp2_with fail
      refine (trim_c wr w.heap.size _ o (a - b) HO2.out HR.out HV.out).mono ?_
      rintro e w2 ⟨v, rfl, ho, _, hb2⟩
      have HO3 := Lib.hid ho
      clear ho
      go_wp2
      go_ret
      exact retS HO3.out rfl (hb.trans (hb2.mono hb.size))

set_option maxHeartbeats 1000000 in
theorem divSmall_c (w : World) (b1 : Nat) (v1 : Value) (a d : Nat) (h1 : Own w b1 v1 (limbs a)) (hs1 : (limbs a).length ≤ 1000) (hd0 : 0 < d) (hd1 : d < 1000000000) :
    Calls Try.prog 119 #[v1, .int .i64 d] w (RetSS w (limbs (a / d)) (limbs (a % d))) := by
  obtain ⟨a1, c1, rfl, -, f2, f3, -, -⟩ := h1.form
  unfold maxLen at f3
  have i1 := limbs_inR a
  generalize hX : limbs a = xs at *
  have HX := Lib.hid hX; have H1 := Lib.hid h1; have I1 := Lib.hid i1
  clear hX h1 i1
  go_enter Try.func119, Try.ntmps119
  go_wp2_with (at_make; refine make_ints rfl _ _ rfl _ _ _ _ xs.length rfl rfl (by omega) (by omega) (by omega) ?_)
  intro w0 ho hb0 hs0
  have HO := Lib.hid ho
  clear ho
  go_wp2_with fail
  go_loopw [7, 8] (fun r k wr => ∃ (K : Nat) (out : List Int) (rr : Int), K ≤ xs.length ∧ k = .int .i64 ((K : Int) - 1) ∧ r = .int .i64 rr ∧ 0 ≤ rr ∧ rr < d ∧ Hid (Own wr w.heap.size (.slice (some ⟨w.heap.size, 0, none⟩) xs.length xs.length) out) ∧ Hid (DivI xs d K out rr) ∧ Below w.heap.size w wr) (fun _ k _ => (intOf k + 1).toNat)
  case atStart => exact ⟨xs.length, _, 0, by omega, rfl, rfl, by omega, by omega, HO.out, DivI.start _ (by omega), hb0⟩
  case round =>
    obtain ⟨K, out, rr, hK, rfl, rfl, hr0, hr1, HO', HA, hb⟩ := hrel
    by_cases h0 : 0 < K
    · obtain ⟨i, rfl⟩ : ∃ i, K = i + 1 := ⟨K - 1, by omega⟩
      have hlt : i < xs.length := by omega
      obtain ⟨g, rfl, -, -⟩ := H1.out.addr hlt
      have k1 := (H1.out.below hb (Nat.le_refl _)).cell i hlt
      have hlo : i < out.length := by rw [HA.out.len]; exact hlt
      have k2 := HO'.out.cell i hlo
      have z2 := HO'.out.frozen i
      have HST := Lib.hid (HO'.out.store i ((rr * 1000000000 + lat xs i) / d))
      have HD := Lib.hid (HA.out.step I1.out hlt)
      have hst := HD.out.rem
      obtain ⟨hst1, hst2⟩ := hst
      obtain ⟨r11, r12⟩ := I1.out.lat i
      have hm1 : rr * 1000000000 < (d : Int) * 1000000000 := by omega
      rw [show ((i + 1 : Nat) : Int) - 1 = (i : Int) by omega]
      have t1 : (i : Int) < xs.length := by omega
      have tz : ((d : Int) == 0) = false := by simp; omega
      go_wp2
      go_roundw
      case rel => exact ⟨i, _, _, by omega, by go_num, rfl, hst1, hst2, HST.out.1, HD.out, hb.setCell (Nat.le_refl _) _⟩
      case measure => (simp [intOf]) <;> omega
    · obtain rfl : K = 0 := by omega
      have HV : Hid (nv out = (a / d : Nat) ∧ rr = (a % d : Nat)) := by
        have h := HA.out
        rw [← HX.out] at h
        exact h.quot
      have HR : Hid (InR out) := HA.out.inr
      go_wp2_with fail
      refine (trim_c wr w.heap.size _ out (a / d) HO'.out HR.out HV.out.1).mono ?_
      rintro e w2 ⟨v, rfl, ho, hob, hb2⟩
      have HO3 := Lib.hid ho
      have HOB := Lib.hid hob
      clear ho hob
      go_wp2_with fail
      refine (natOf_c w2 rr (by omega)).mono ?_
      rintro e w3 ⟨u, rfl, ho, hb3⟩
      have HO4 := Lib.hid ho
      clear ho
      go_wp2
      go_ret2
      have hw2 : w.heap.size ≤ w2.heap.size := Nat.le_trans hb.size hb2.size
      exact retSS (HO3.out.below hb3 (Nat.le_refl _)) (HO4.out.mono hw2) rfl (by rw [HV.out.2]; rfl) (apart_new (HO'.out.below hb2 (Nat.le_refl _)) HOB.out HO4.out) ((hb.trans (hb2.mono hb.size)).trans (hb3.mono hw2))

end Go.Proofs.Ytcmhpdhcpkhejaa
