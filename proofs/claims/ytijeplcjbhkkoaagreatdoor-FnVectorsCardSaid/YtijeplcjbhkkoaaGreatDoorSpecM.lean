/- Merged texts. -/
import Derived.Test.YtijeplcjbhkkoaaGreatDoorNatG
import Derived.Deep.LoopGhost

/- The reference's functions on natural numbers: l02Cmp, l02Trim, l02Cap, NatOf, l02Sub, l02Small. -/
namespace Go.Proofs.YtijeplcjbhkkoaaGreatDoor
open Go.RowKit Lm

set_option maxHeartbeats 400000 in
theorem l02Cmp_c (w : World) (b1 b2 : Nat) (v1 v2 : Value) (xs ys : List Int) (h1 : Own w b1 v1 xs) (h2 : Own w b2 v2 ys) (hx : Norm xs) (hy : Norm ys) :
    Calls Tryz.prog 141 #[v1, v2] w (RetI w (cmp3 (nv xs) (nv ys))) := by
  obtain ⟨a1, c1, rfl, f1, f2, f3, f4, f5⟩ := h1.form
  obtain ⟨a2, c2, rfl, g1, g2, g3, g4, g5⟩ := h2.form
  unfold maxLen at f1 f3 g1 g3
  clear f4 f5 g4 g5
  by_cases hl : xs.length = ys.length
  · have hne : ((xs.length : Int) != (ys.length : Int)) = false := by simp [hl]
    have H1 := Lib.hid h1; have H2 := Lib.hid h2; have Hl := Lib.hid hl
    have HX := Lib.hid hx; have HY := Lib.hid hy
    clear h1 h2 hl hx hy
    go_enter Tryz.func141, Tryz.ntmps141
    go_wp2
    go_loopw [5] (fun i wr => ∃ K : Nat, K ≤ xs.length ∧ i = .int .i64 ((K : Int) - 1) ∧ Hid (nv (xs.drop K) = nv (ys.drop K)) ∧ Below w.heap.size w wr) (fun i _ => (intOf i + 1).toNat)
    case atStart => exact ⟨xs.length, Nat.le_refl _, rfl, by unfold Hid; rw [nv_drop_all (Nat.le_refl _), nv_drop_all (by have := Hl.out; omega)], Below.refl _ _⟩
    case round =>
      obtain ⟨K, hK, rfl, HE, hb⟩ := hrel
      by_cases h0 : 0 < K
      · obtain ⟨i, rfl⟩ : ∃ i, K = i + 1 := ⟨K - 1, by omega⟩
        have hi : i < xs.length := by omega
        have hi2 : i < ys.length := by have := Hl.out; omega
        obtain ⟨g, rfl, -, -⟩ := H1.out.addr hi
        obtain ⟨g', rfl, -, -⟩ := H2.out.addr hi2
        have k1 := (H1.out.below hb (Nat.le_refl _)).cell i hi
        have k2 := (H2.out.below hb (Nat.le_refl _)).cell i hi2
        rw [show ((i + 1 : Nat) : Int) - 1 = (i : Int) by omega]
        have t1 : (i : Int) < xs.length := by omega
        have t2 : (i : Int) < ys.length := by omega
        go_wp2_with fail
        go_quiet (fail)
        go_wp2_with fail
        · go_ret
          have := cmp_at HX.out.1 HY.out.1 i hi hi2 HE.out (by assumption)
          exact retI (by rw [cmp3, if_pos this]) ⟨hb.os, hb.tape, hb.output, hb.size, hb.block⟩
        · go_quiet (fail)
          go_wp2_with fail
          · go_ret
            have := cmp_at HY.out.1 HX.out.1 i hi2 hi HE.out.symm (by assumption)
            exact retI (by rw [cmp3, if_neg (by omega), if_pos this]) ⟨hb.os, hb.tape, hb.output, hb.size, hb.block⟩
          · go_roundw
            case rel => exact ⟨i, by omega, by go_num, by have := HE.out; unfold Hid; rw [nv_drop xs i hi, nv_drop ys i hi2, this]; omega, ⟨hb.os, hb.tape, hb.output, hb.size, hb.block⟩⟩
            case measure => (simp [intOf]) <;> omega
      · obtain rfl : K = 0 := by omega
        go_wp2
        go_ret
        have := HE.out
        simp only [List.drop_zero] at this
        exact retI (by rw [cmp3, if_neg (by omega), if_neg (by omega)]) hb
  · have hne : ((xs.length : Int) != (ys.length : Int)) = true := by simp; omega
    have hlt : xs.length < ys.length → nv xs < nv ys := cmp_len hx hy
    have hgt : ys.length < xs.length → nv ys < nv xs := cmp_len hy hx
    clear h1 h2 hx hy
    by_cases hc : xs.length < ys.length
    · have hd : decide (xs.length < ys.length) = true := by simp; omega
      have := hlt hc
      have HH := Lib.hid this
      clear hlt hgt hl hc this
      go_enter Tryz.func141, Tryz.ntmps141
      go_wp2
      go_ret
      exact retI (by rw [cmp3, if_pos HH.out]) (Below.refl _ _)
    · have hd : decide (xs.length < ys.length) = false := by simp; omega
      have := hgt (by omega)
      have HH := Lib.hid this
      clear hlt hgt hl hc this
      go_enter Tryz.func141, Tryz.ntmps141
      go_wp2
      go_ret
      exact retI (by have := HH.out; rw [cmp3, if_neg (by omega), if_pos HH.out]) (Below.refl _ _)

set_option maxHeartbeats 400000 in
theorem l02Trim_c (w : World) (b1 : Nat) (v1 : Value) (xs : List Int) (n : Nat) (h1 : Own w b1 v1 xs) (hx : InR xs) (hn : nv xs = n) :
    Calls Tryz.prog 121 #[v1] w (RetV w b1 v1 (limbs n)) := by
  obtain ⟨a1, c1, rfl, f1, f2, f3, f4, f5⟩ := h1.form
  unfold maxLen at f1 f3
  have H1 := Lib.hid h1; have HX := Lib.hid hx; have HN := Lib.hid hn
  clear h1 hx hn f4 f5
  go_enter Tryz.func121, Tryz.ntmps121
  go_wp2
  go_loopw [3] (fun i wr => ∃ K : Nat, K ≤ xs.length ∧ i = .int .i64 K ∧ Hid (∀ j, K ≤ j → lat xs j = 0) ∧ wr = w) (fun i _ => (intOf i).toNat)
  case atStart => exact ⟨xs.length, Nat.le_refl _, rfl, fun j hj => lat_ge hj, rfl⟩
  case round =>
    obtain ⟨K, hK, rfl, HE, rfl⟩ := hrel
    by_cases h0 : 0 < K
    · obtain ⟨i, rfl⟩ : ∃ i, K = i + 1 := ⟨K - 1, by omega⟩
      have hi : i < xs.length := by omega
      obtain ⟨g, rfl, -, -⟩ := H1.out.addr hi
      have k1 := H1.out.cell i hi
      have t1 : (i : Int) < xs.length := by omega
      go_wp2
      · have hz : lat xs i = 0 := by simpa using (by assumption : (lat xs i == 0) = true)
        go_round
        case rel => exact ⟨i, by omega, by go_num, (fun j hj => by
          by_cases hji : j = i
          · rw [hji]; exact hz
          · exact HE.out j (by omega) : ∀ j, i ≤ j → lat xs j = 0), (by first | rfl | trivial)⟩
        case measure => (simp [intOf]) <;> omega
      · have hz : lat xs i ≠ 0 := by simpa using (by assumption : (lat xs i == 0) = false)
        go_ret
        exact retV (H1.out.cut (k := i + 1) (by omega)) (Norm.limbs ⟨HX.out.take _, .inr (by rw [List.length_take, Nat.min_eq_left (by omega), Nat.add_sub_cancel, lat_take (by omega)]; exact hz)⟩ (by rw [nv_take_zeros _ _ (by omega) HE.out]; exact HN.out)) (Or.inr rfl) (Below.refl _ _)
    · obtain rfl : K = 0 := by omega
      go_wp2
      go_ret
      exact retV (H1.out.cut (k := 0) (by omega)) (Norm.limbs (by simp [Norm.nil]) (by rw [nv_take_zeros _ _ (by omega) HE.out]; exact HN.out)) (Or.inr (by cases a1 <;> rfl)) (Below.refl _ _)

theorem l02Cmp_n (w : World) (b1 b2 : Nat) (v1 v2 : Value) (a b : Nat) (h1 : Own w b1 v1 (limbs a)) (h2 : Own w b2 v2 (limbs b)) :
    Calls Tryz.prog 141 #[v1, v2] w (RetI w (cmp3 a b)) := by
  have h := l02Cmp_c w b1 b2 v1 v2 _ _ h1 h2 (limbs_norm a) (limbs_norm b)
  rw [nv_limbs, nv_limbs] at h
  exact h

set_option maxHeartbeats 400000 in
theorem l02Cap_c (w : World) (b1 : Nat) (v1 : Value) (xs : List Int) (n : Nat) (h1 : Own w b1 v1 xs) (hx : InR xs) (hn : nv xs = n) :
    Calls Tryz.prog 125 #[v1] w (RetV w b1 v1 (if (limbs n).length ≤ 60 then limbs n else [])) := by
  have HT := Lib.hid (l02Trim_c w b1 v1 xs n h1 hx hn)
  clear h1 hx hn
  by_cases hl : (limbs n).length ≤ 60
  · rw [if_pos hl]
    have t1 : decide ((60 : Int) < (limbs n).length) = false := decide_eq_false (by omega)
    go_enter Tryz.func125, Tryz.ntmps125
    go_wp2_with fail
    refine HT.out.mono ?_
    rintro e w1 ⟨v, rfl, ho, hob, hb⟩
    obtain ⟨ao, cap, rfl, -, -, -, -, -⟩ := ho.form
    have HO := Lib.hid ho; have HB := Lib.hid hob
    clear ho hob
    go_wp2
    go_ret
    exact retV HO.out rfl HB.out hb
  · rw [if_neg hl]
    have t1 : decide ((60 : Int) < (limbs n).length) = true := decide_eq_true (by omega)
    go_enter Tryz.func125, Tryz.ntmps125
    go_wp2_with fail
    refine HT.out.mono ?_
    rintro e w1 ⟨v, rfl, ho, hob, hb⟩
    obtain ⟨ao, cap, rfl, -, -, -, -, -⟩ := ho.form
    clear ho hob
    go_wp2
    go_ret
    exact retV (Own.nil _ _) rfl (Or.inl rfl) hb

set_option maxHeartbeats 400000 in
theorem specNatOf_pos (w : World) (n : Nat) (hn : n ≤ 9223372036854775807) :
    Calls Tryz.prog 102 #[.int .i64 n] w (RetS w (limbs n)) := by
  have HB := Lib.hid (Own.lit0 w)
  go_enter Tryz.func102, Tryz.ntmps102
  go_wp2
  go_loopw [0, 3] (fun n' v wr => ∃ (m : Nat) (o : List Int), n' = .int .i64 m ∧ m ≤ n ∧ Own wr w.heap.size v o ∧ Hid (o ++ limbs m = limbs n) ∧ Below w.heap.size w wr) (fun n' _ _ => (intOf n').toNat)
  case atStart => exact ⟨n, [], rfl, Nat.le_refl _, HB.out, rfl, (Below.refl _ _).alloc (Nat.le_refl _) _⟩
  case round =>
    obtain ⟨m, o, rfl, hm, ho, HE, hb⟩ := hrel
    have HO := Lib.hid ho
    clear ho
    have hs := hb.size
    by_cases h0 : 0 < m
    · have hlen : o.length + 1 ≤ 17592186044415 := by
        have h1 := natOf_len HE.out
        have h2 : (limbs n).length ≤ 3 := limbs_len_le.2 (by simp only [pw]; omega)
        omega
      go_wp2_with (at_builtin; refine app_own rfl _ _ rfl _ _ w.heap.size wr.heap.size o [(m : Int) % 1000000000] rfl rfl (HO.out.alloc _) (Own.lit1 _ _) (by simpa using hlen) (by simp; omega) ?_)
      intro v' w' ho hg _
      have hb' := (HO.out.alloc _).grownBelow (hb.alloc hs _) hg (Nat.le_refl _) (by simp; omega)
      have HO' := Lib.hid ho
      clear hg ho
      go_wp2
      go_roundw
      case rel => exact ⟨m / 1000000000, _, by go_num, by omega, HO'.out, natOf_step HE.out h0, hb'⟩
      case measure => (simp [intOf]) <;> omega
    · obtain rfl : m = 0 := by omega
      go_wp2
      go_ret
      exact retS HO.out (by have := HE.out; simpa [limbs_zero] using this) hb

set_option maxHeartbeats 400000 in
theorem specNatOf_neg (w : World) (n : Int) (hn : n < 0) :
    Calls Tryz.prog 102 #[.int .i64 n] w (RetS w []) := by
  have HB := Lib.hid (Own.lit0 w)
  have h0 : decide (0 < n) = false := by simp; omega
  go_enter Tryz.func102, Tryz.ntmps102
  go_wp2
  go_loopw [0, 3] (fun n' v wr => n' = .int .i64 n ∧ v = .slice (some ⟨w.heap.size, 0, none⟩) 0 0 ∧ wr = w.alloc (.cells #[] 3)) (fun _ _ _ => 0)
  case atStart => exact ⟨rfl, rfl, rfl⟩
  case round =>
    obtain ⟨rfl, rfl, rfl⟩ := hrel
    go_wp2
    go_ret
    exact retS HB.out rfl ((Below.refl _ _).alloc (Nat.le_refl _) _)

theorem specNatOf_c (w : World) (n : Int) (hn : n ≤ 9223372036854775807) :
    Calls Tryz.prog 102 #[.int .i64 n] w (RetS w (limbs n.toNat)) := by
  by_cases h : 0 ≤ n
  · obtain ⟨m, rfl⟩ := Int.eq_ofNat_of_zero_le h
    exact specNatOf_pos w m (by omega)
  · rw [show n.toNat = 0 by omega]; exact specNatOf_neg w n (by omega)

end Go.Proofs.YtijeplcjbhkkoaaGreatDoor

/- The reference's functions on natural numbers: l02Mul, l02Small, l02Sub, l02Add. -/
namespace Go.Proofs.YtijeplcjbhkkoaaGreatDoor
open Go.RowKit Lm

set_option maxHeartbeats 1000000 in
theorem l02Mul_pos (w : World) (b1 b2 : Nat) (v1 v2 : Value) (a b : Nat) (h1 : Own w b1 v1 (limbs a)) (h2 : Own w b2 v2 (limbs b)) (hs1 : (limbs a).length ≤ 1000) (hs2 : (limbs b).length ≤ 1000) (ha : 0 < a) (hb0 : 0 < b) :
    Calls Tryz.prog 144 #[v1, v2] w (RetS w (limbs (a * b))) := by
  obtain ⟨a1, c1, rfl, -, f2, f3, -, -⟩ := h1.form
  obtain ⟨a2, c2, rfl, -, g2, g3, -, -⟩ := h2.form
  unfold maxLen at f3 g3
  have hp1 := limbs_len_pos.2 ha
  have hp2 := limbs_len_pos.2 hb0
  have q1 : ((limbs a).length == 0) = false := beq_eq_false_iff_ne.2 (by omega)
  have q2 : (((limbs a).length : Int) == 0) = false := beq_eq_false_iff_ne.2 (by omega)
  have q3 : ((limbs b).length == 0) = false := beq_eq_false_iff_ne.2 (by omega)
  have q4 : (((limbs b).length : Int) == 0) = false := beq_eq_false_iff_ne.2 (by omega)
  have i1 := limbs_inR a
  have i2 := limbs_inR b
  have ev := nv_limbs a
  have ev2 := nv_limbs b
  generalize limbs a = xs at *
  generalize limbs b = ys at *
  have EV := Lib.hid ev; have EV2 := Lib.hid ev2; have H1 := Lib.hid h1; have H2 := Lib.hid h2; have I1 := Lib.hid i1; have I2 := Lib.hid i2
  clear ev ev2 h1 h2 i1 i2
  go_enter Tryz.func144, Tryz.ntmps144
  go_wp2_with (at_make; refine make_ints rfl _ _ rfl _ _ _ _ (xs.length + ys.length) rfl rfl (by omega) (by omega) (by omega) ?_)
  intro w0 ho hbz hs0
  have HO := Lib.hid ho
  clear ho
  go_wp2_with fail
  go_loopw [28] (fun k wr => ∃ (i : Nat) (out : List Int), i ≤ xs.length ∧ k = .int .i64 i ∧ Hid (Own wr w.heap.size (.slice (some ⟨w.heap.size, 0, none⟩) (xs.length + ys.length) (xs.length + ys.length)) out) ∧ Hid (MulI xs ys i out) ∧ Below w.heap.size w wr) (fun k _ => xs.length - (intOf k).toNat)
  case atStart => exact ⟨0, _, by omega, rfl, HO.out, MulI.start _ _, hbz⟩
  case round =>
    obtain ⟨i, out, hi, rfl, HO', HA, hb⟩ := hrel
    by_cases hlt : i < xs.length
    · obtain ⟨g, rfl, -, -⟩ := H1.out.addr hlt
      have k1 := (H1.out.below hb (Nat.le_refl _)).cell i hlt
      have t1 : (i : Int) < xs.length := by omega
      obtain ⟨r11, r12⟩ := I1.out.lat i
      go_wp2_with fail
      clear k1
      obtain ⟨wo, hwo⟩ : ∃ wo : World, wo = wr := ⟨_, rfl⟩
      subst hwo
      go_loopw [8, 35] (fun c k wr => ∃ (j : Nat) (out' : List Int) (cr : Int), j ≤ ys.length ∧ k = .int .i64 j ∧ c = .int .i64 cr ∧ 0 ≤ cr ∧ cr < 1000000000 ∧ Hid (Own wr w.heap.size (.slice (some ⟨w.heap.size, 0, none⟩) (xs.length + ys.length) (xs.length + ys.length)) out') ∧ Hid (MulK out ys (lat xs i) i j out' cr) ∧ Below w.heap.size w wr) (fun _ k _ => ys.length - (intOf k).toNat)
      case atStart => exact ⟨0, out, 0, by omega, rfl, rfl, by omega, by omega, HO'.out, HA.out.inner, hb⟩
      case round =>
        obtain ⟨j, out', cr, hj, rfl, rfl, hc0, hc1, HO2, HK, hb2⟩ := hrel
        by_cases hlj : j < ys.length
        · obtain ⟨g', rfl, -, -⟩ := H2.out.addr hlj
          have k2 := (H2.out.below hb2 (Nat.le_refl _)).cell j hlj
          have hlo : i + j < out'.length := by rw [HK.out.len, HA.out.len]; omega
          have k3 := HO2.out.cell (i + j) hlo
          have z3 := HO2.out.frozen (i + j)
          have HST := Lib.hid (HO2.out.store (i + j) ((lat out' (i + j) + lat xs i * lat ys j + cr) % 1000000000))
          have HD := Lib.hid (HK.out.step ⟨r11, r12⟩ I2.out hlj (by rw [HA.out.len]; omega))
          obtain ⟨hst1, hst2⟩ := HD.out.car
          obtain ⟨r21, r22⟩ := I2.out.lat j
          obtain ⟨r31, r32⟩ := HK.out.inr.lat (i + j)
          obtain ⟨m1, m2⟩ := mul_bound r11 r12 r21 r22
          have t2 : (j : Int) < ys.length := by omega
          have t3 : (i : Int) + j < xs.length + ys.length := by omega
          go_wp2
          go_roundw
          case rel => exact ⟨j + 1, _, _, by omega, by go_num, rfl, hst1, hst2, HST.out.1, HD.out, hb2.setCell (Nat.le_refl _) _⟩
          case measure => (simp [intOf]) <;> omega
        · obtain rfl : j = ys.length := by omega
          have hlo : i + ys.length < out'.length := by rw [HK.out.len, HA.out.len]; omega
          have k3 := HO2.out.cell (i + ys.length) hlo
          have z3 := HO2.out.frozen (i + ys.length)
          obtain ⟨hz, hm⟩ := HA.out.step hlt HK.out
          rw [hz] at k3
          have HM := Lib.hid hm
          have HST := Lib.hid (HO2.out.store (i + ys.length) cr)
          clear hz hm
          have t3 : (i : Int) + ys.length < xs.length + ys.length := by omega
          go_wp2
          go_roundw
          case rel => exact ⟨i + 1, _, by omega, by go_num, HST.out.1, HM.out, hb2.setCell (Nat.le_refl _) _⟩
          case measure => (simp [intOf]) <;> omega
    · obtain rfl : i = xs.length := by omega
      have HV : Hid (nv out = (a * b : Nat)) := by
        have h := HA.out.done
        rw [EV.out, EV2.out] at h
        rw [Int.natCast_mul]
        exact h
      have HR : Hid (InR out) := HA.out.inr
      go_wp2_with fail
      refine (l02Trim_c wr w.heap.size _ out (a * b) HO'.out HR.out HV.out).mono ?_
      rintro e w2 ⟨v, rfl, ho, _, hb2⟩
      have HO3 := Lib.hid ho
      clear ho
      go_wp2
      go_ret
      exact retS HO3.out rfl (hb.trans (hb2.mono hb.size))

set_option maxHeartbeats 400000 in
theorem l02Mul_zero (w : World) (b1 b2 : Nat) (v1 v2 : Value) (a b : Nat) (h1 : Own w b1 v1 (limbs a)) (h2 : Own w b2 v2 (limbs b)) (h0 : a = 0 ∨ b = 0) :
    Calls Tryz.prog 144 #[v1, v2] w (RetS w []) := by
  obtain ⟨a1, c1, rfl, -, f2, f3, -, -⟩ := h1.form
  obtain ⟨a2, c2, rfl, -, g2, g3, -, -⟩ := h2.form
  by_cases ha : a = 0
  · have q1 : ((limbs a).length == 0) = true := beq_iff_eq.2 (by rw [ha]; rfl)
    have q2 : (((limbs a).length : Int) == 0) = true := beq_iff_eq.2 (by rw [ha]; rfl)
    clear h1 h2 h0 ha
    go_enter Tryz.func144, Tryz.ntmps144
    go_wp2
    go_ret
    exact retS (Own.nil _ _) rfl (Below.refl _ _)
  · have hb : b = 0 := h0.resolve_left ha
    have hp1 := limbs_len_pos.2 (Nat.pos_of_ne_zero ha)
    have q1 : ((limbs a).length == 0) = false := beq_eq_false_iff_ne.2 (by omega)
    have q2 : (((limbs a).length : Int) == 0) = false := beq_eq_false_iff_ne.2 (by omega)
    have q3 : ((limbs b).length == 0) = true := beq_iff_eq.2 (by rw [hb]; rfl)
    have q4 : (((limbs b).length : Int) == 0) = true := beq_iff_eq.2 (by rw [hb]; rfl)
    clear h1 h2 h0 ha hb
    go_enter Tryz.func144, Tryz.ntmps144
    go_wp2
    go_ret
    exact retS (Own.nil _ _) rfl (Below.refl _ _)

theorem l02Mul_c (w : World) (b1 b2 : Nat) (v1 v2 : Value) (a b : Nat) (h1 : Own w b1 v1 (limbs a)) (h2 : Own w b2 v2 (limbs b)) (hs1 : (limbs a).length ≤ 1000) (hs2 : (limbs b).length ≤ 1000) :
    Calls Tryz.prog 144 #[v1, v2] w (RetS w (limbs (a * b))) := by
  by_cases h : a = 0 ∨ b = 0
  · have e : limbs (a * b) = [] := by rcases h with rfl | rfl <;> simp [limbs_zero]
    rw [e]
    exact l02Mul_zero w b1 b2 v1 v2 a b h1 h2 h
  · exact l02Mul_pos w b1 b2 v1 v2 a b h1 h2 hs1 hs2 (by omega) (by omega)

/-- A new slice and a number. -/
def RetSI (w : World) (xs : List Int) (n : Int) (e : Ending) (w' : World) : Prop := ∃ v, e = .returned (.tuple #[v, .int .i64 n]) ∧ Own w' w.heap.size v xs ∧ Below w.heap.size w w'
theorem retSI {w w' : World} {v : Value} {xs ys : List Int} {n m : Int} (h : Own w' w.heap.size v ys) (e : ys = xs) (e2 : m = n) (hb : Below w.heap.size w w') : RetSI w xs n (.returned (.tuple #[v, .int .i64 m])) w' := ⟨v, by rw [e2], e ▸ h, hb⟩

set_option maxHeartbeats 1000000 in
theorem l02Small_c (w : World) (b1 : Nat) (v1 : Value) (a d : Nat) (h1 : Own w b1 v1 (limbs a)) (hs1 : (limbs a).length ≤ 1000) (hd0 : 0 < d) (hd1 : d < 1000000000) :
    Calls Tryz.prog 140 #[v1, .int .i64 d] w (RetSI w (limbs (a / d)) ((a % d : Nat) : Int)) := by
  obtain ⟨a1, c1, rfl, -, f2, f3, -, -⟩ := h1.form
  unfold maxLen at f3
  have i1 := limbs_inR a
  generalize hX : limbs a = xs at *
  have HX := Lib.hid hX; have H1 := Lib.hid h1; have I1 := Lib.hid i1
  clear hX h1 i1
  go_enter Tryz.func140, Tryz.ntmps140
  go_wp2_with (at_make; refine make_ints rfl _ _ rfl _ _ _ _ xs.length rfl rfl (by omega) (by omega) (by omega) ?_)
  intro w0 ho hb0 hs0
  have HO := Lib.hid ho
  clear ho
  go_wp2_with fail
  go_loopw [7, 8] (fun r k wr => ∃ (K : Nat) (out : List Int) (rr : Int), K ≤ xs.length ∧ k = .int .i64 ((K : Int) - 1) ∧ r = .int .i64 rr ∧ 0 ≤ rr ∧ rr < d ∧ Hid (Own wr w.heap.size (.slice (some ⟨w.heap.size, 0, none⟩) xs.length xs.length) out) ∧ Hid (DivI xs d K out rr) ∧ Below w.heap.size w wr) (fun _ k _ => (intOf k + 1).toNat)
  case atStart => exact ⟨xs.length, _, 0, by omega, rfl, rfl, by omega, by omega, HO.out, DivI.start _ (by omega), hb0⟩
  case round =>
    obtain ⟨K, out, rr, hK, rfl, rfl, hr0, hr1, HO', HA, hb⟩ := hrel
    by_cases h0 : 0 < K
    · obtain ⟨i, rfl⟩ : ∃ i, K = i + 1 := ⟨K - 1, by omega⟩
      have hlt : i < xs.length := by omega
      obtain ⟨g, rfl, -, -⟩ := H1.out.addr hlt
      have k1 := (H1.out.below hb (Nat.le_refl _)).cell i hlt
      have hlo : i < out.length := by rw [HA.out.len]; exact hlt
      have k2 := HO'.out.cell i hlo
      have z2 := HO'.out.frozen i
      have HST := Lib.hid (HO'.out.store i ((rr * 1000000000 + lat xs i) / d))
      have HD := Lib.hid (HA.out.step I1.out hlt)
      have hst := HD.out.rem
      obtain ⟨hst1, hst2⟩ := hst
      obtain ⟨r11, r12⟩ := I1.out.lat i
      have hm1 : rr * 1000000000 < (d : Int) * 1000000000 := by omega
      rw [show ((i + 1 : Nat) : Int) - 1 = (i : Int) by omega]
      have t1 : (i : Int) < xs.length := by omega
      have tz : ((d : Int) == 0) = false := by simp; omega
      go_wp2
      go_roundw
      case rel => exact ⟨i, _, _, by omega, by go_num, rfl, hst1, hst2, HST.out.1, HD.out, hb.setCell (Nat.le_refl _) _⟩
      case measure => (simp [intOf]) <;> omega
    · obtain rfl : K = 0 := by omega
      have HV : Hid (nv out = (a / d : Nat) ∧ rr = (a % d : Nat)) := by
        have h := HA.out
        rw [← HX.out] at h
        exact h.quot
      have HR : Hid (InR out) := HA.out.inr
      go_wp2_with fail
      refine (l02Trim_c wr w.heap.size _ out (a / d) HO'.out HR.out HV.out.1).mono ?_
      rintro e w2 ⟨v, rfl, ho, hob, hb2⟩
      have HO3 := Lib.hid ho
      clear ho
      clear hob
      go_wp2
      go_ret2
      exact retSI HO3.out rfl HV.out.2 (hb.trans (hb2.mono hb.size))

end Go.Proofs.YtijeplcjbhkkoaaGreatDoor

/- The reference's functions on natural numbers: l02Sub, l02Add, l02Plain. -/
namespace Go.Proofs.YtijeplcjbhkkoaaGreatDoor
open Go.RowKit Lm

set_option maxHeartbeats 1000000 in
theorem l02Sub_c (w : World) (b1 b2 : Nat) (v1 v2 : Value) (a b : Nat) (h1 : Own w b1 v1 (limbs a)) (h2 : Own w b2 v2 (limbs b)) (hs1 : (limbs a).length ≤ 1000) (hab : b ≤ a) :
    Calls Tryz.prog 143 #[v1, v2] w (RetS w (limbs (a - b))) := by
  obtain ⟨a1, c1, rfl, -, f2, f3, -, -⟩ := h1.form
  obtain ⟨a2, c2, rfl, -, g2, g3, -, -⟩ := h2.form
  unfold maxLen at f3 g3
  have i1 := limbs_inR a
  have i2 := limbs_inR b
  generalize hX : limbs a = xs at *
  generalize hY : limbs b = ys at *
  have HX := Lib.hid hX; have HY := Lib.hid hY; have H1 := Lib.hid h1; have H2 := Lib.hid h2; have I1 := Lib.hid i1; have I2 := Lib.hid i2
  have HO := Lib.hid (Own.lit0 w)
  clear hX hY h1 h2 i1 i2
  go_enter Tryz.func143, Tryz.ntmps143
  go_wp2_with fail
  go_loopw [5, 6, 12] (fun v c k wr => ∃ (i : Nat) (o : List Int) (br : Int), i ≤ xs.length ∧ k = .int .i64 i ∧ c = .int .i64 br ∧ 0 ≤ br ∧ br ≤ 1 ∧ Hid (Own wr w.heap.size v o) ∧ Hid (SubI xs ys i o br) ∧ Below w.heap.size w wr) (fun _ _ k _ => xs.length - (intOf k).toNat)
  case atStart => exact ⟨0, [], 0, by omega, rfl, rfl, by omega, by omega, HO.out, SubI.start _ _, (Below.refl _ _).alloc (Nat.le_refl _) _⟩
  case round =>
    obtain ⟨i, o, br, hi, rfl, rfl, hc0, hc1, HO', HA, hb⟩ := hrel
    have hsz := hb.size
    have hol := HA.out.len
    have HOL : o.length ≤ i := by omega
    clear hol
    by_cases hlt : i < xs.length
    · obtain ⟨g, rfl, -, -⟩ := H1.out.addr hlt
      have k1 := (H1.out.below hb (Nat.le_refl _)).cell i hlt
      have t1 : (i : Int) < xs.length := by omega
      obtain ⟨r11, r12⟩ := I1.out.lat i
      obtain ⟨r21, r22⟩ := I2.out.lat i
      by_cases hlb : i < ys.length
      · obtain ⟨g', rfl, -, -⟩ := H2.out.addr hlb
        have k2 := (H2.out.below hb (Nat.le_refl _)).cell i hlb
        have t2 : (i : Int) < ys.length := by omega
        by_cases hneg : lat xs i - br - lat ys i < 0
        · go_wp2_with (at_builtin; refine app_own rfl _ _ rfl _ _ w.heap.size wr.heap.size o [_] rfl rfl (HO'.out.alloc _) (Own.lit1 _ _) (by simp; omega) (by simp; omega) ?_)
          intro v' w' ho hg _
          have hb' := (HO'.out.alloc _).grownBelow (hb.alloc hsz _) hg (Nat.le_refl _) (by simp; omega)
          have HO2 := Lib.hid ho
          clear hg ho
          go_wp2
          go_roundw
          case rel => exact ⟨i + 1, _, 1, by omega, by go_num, rfl, by omega, by omega, HO2.out, HA.out.step (by omega) (by omega) (by omega) (by omega), hb'⟩
          case measure => (simp [intOf]) <;> omega
        · go_wp2_with (at_builtin; refine app_own rfl _ _ rfl _ _ w.heap.size wr.heap.size o [_] rfl rfl (HO'.out.alloc _) (Own.lit1 _ _) (by simp; omega) (by simp; omega) ?_)
          intro v' w' ho hg _
          have hb' := (HO'.out.alloc _).grownBelow (hb.alloc hsz _) hg (Nat.le_refl _) (by simp; omega)
          have HO2 := Lib.hid ho
          clear hg ho
          go_wp2
          go_roundw
          case rel => exact ⟨i + 1, _, 0, by omega, by go_num, rfl, by omega, by omega, HO2.out, HA.out.step (by omega) (by omega) (by omega) (by omega), hb'⟩
          case measure => (simp [intOf]) <;> omega
      · have HZ : Hid (lat ys i = 0) := lat_ge (by omega)
        have t2 : (ys.length : Int) ≤ (i : Int) := by omega
        by_cases hneg : lat xs i - br < 0
        · go_wp2_with (at_builtin; refine app_own rfl _ _ rfl _ _ w.heap.size wr.heap.size o [_] rfl rfl (HO'.out.alloc _) (Own.lit1 _ _) (by simp; omega) (by simp; omega) ?_)
          intro v' w' ho hg _
          have hb' := (HO'.out.alloc _).grownBelow (hb.alloc hsz _) hg (Nat.le_refl _) (by simp; omega)
          have HO2 := Lib.hid ho
          clear hg ho
          go_wp2
          go_roundw
          case rel => exact ⟨i + 1, _, 1, by omega, by go_num, rfl, by omega, by omega, HO2.out, HA.out.step (by have := HZ.out; omega) (by have := HZ.out; omega) (by omega) (by have := HZ.out; omega), hb'⟩
          case measure => (simp [intOf]) <;> omega
        · go_wp2_with (at_builtin; refine app_own rfl _ _ rfl _ _ w.heap.size wr.heap.size o [_] rfl rfl (HO'.out.alloc _) (Own.lit1 _ _) (by simp; omega) (by simp; omega) ?_)
          intro v' w' ho hg _
          have hb' := (HO'.out.alloc _).grownBelow (hb.alloc hsz _) hg (Nat.le_refl _) (by simp; omega)
          have HO2 := Lib.hid ho
          clear hg ho
          go_wp2
          go_roundw
          case rel => exact ⟨i + 1, _, 0, by omega, by go_num, rfl, by omega, by omega, HO2.out, HA.out.step (by have := HZ.out; omega) (by have := HZ.out; omega) (by omega) (by have := HZ.out; omega), hb'⟩
          case measure => (simp [intOf]) <;> omega
    · obtain rfl : i = xs.length := by omega
      have HV : Hid (nv o = (a - b : Nat)) := by
        have h := HA.out
        rw [← HX.out, ← HY.out] at h
        exact h.done hab
      have HR : Hid (InR o) := HA.out.inr
      go_wp2_with fail
      refine (l02Trim_c wr w.heap.size _ o (a - b) HO'.out HR.out HV.out).mono ?_
      rintro e w2 ⟨v, rfl, ho, _, hb2⟩
      have HO3 := Lib.hid ho
      clear ho
      go_wp2
      go_ret
      exact retS HO3.out rfl (hb.trans (hb2.mono hb.size))

set_option maxHeartbeats 400000 in
theorem l02Plain_c (w : World) (x y : Nat) (_hx : 0 < x ∨ 0 < y) (hx1 : x ≤ 9223372036854775807) (hy1 : y ≤ 9223372036854775807) :
    Calls Tryz.prog 139 #[.int .i64 x, .int .i64 y] w (RetS w (limbs (Nat.gcd x y))) := by
  clear _hx
  go_enter Tryz.func139, Tryz.ntmps139
  go_wp2
  go_loopw [0, 1] (fun s t wr => ∃ (p q : Nat), s = .int .i64 p ∧ t = .int .i64 q ∧ p ≤ 9223372036854775807 ∧ q ≤ 9223372036854775807 ∧ Hid (Nat.gcd p q = Nat.gcd x y) ∧ wr = w) (fun _ t _ => (intOf t).toNat)
  case atStart => exact ⟨x, y, rfl, rfl, hx1, hy1, rfl, rfl⟩
  case round =>
    obtain ⟨p, q, rfl, rfl, hp2, hq2, HG2, rfl⟩ := hrel
    by_cases hq : q = 0
    · subst hq
      have HE : Hid (p = Nat.gcd x y) := by have := HG2.out; rw [Nat.gcd_zero_right] at this; exact this
      go_wp2_with fail
      refine (specNatOf_c wr p (by omega)).mono ?_
      rintro e w2 ⟨v, rfl, ho, hb2⟩
      have HO3 := Lib.hid ho
      clear ho
      go_wp2
      go_ret
      exact retS HO3.out (by rw [← HE.out]; rfl) hb2
    · have hq0 : 0 < q := by omega
      have hz : ((q : Int) == 0) = false := beq_eq_false_iff_ne.2 (by omega)
      have t1 : (1 : Int) ≤ q := by omega
      clear hq
      go_wp2
      go_roundw
      case rel => exact ⟨q, p % q, rfl, by congr 1, hq2, by have := Nat.mod_lt p hq0; omega, by have := HG2.out; unfold Hid; rw [← this, Nat.gcd_comm p q, Nat.gcd_comm q (p % q)]; exact (Nat.gcd_rec q p).symm, (by first | rfl | trivial)⟩
      case measure => have := Nat.mod_lt p hq0; simp [intOf]; omega

end Go.Proofs.YtijeplcjbhkkoaaGreatDoor

/- The reference's functions on natural numbers: l02Add. -/
namespace Go.Proofs.YtijeplcjbhkkoaaGreatDoor
open Go.RowKit Lm

/-- A new slice of limbs in range, perhaps with zero limbs at its end, that stands for n. -/
def RetO (w : World) (n m : Nat) (e : Ending) (w' : World) : Prop := ∃ v o, e = .returned v ∧ Own w' w.heap.size v o ∧ InR o ∧ nv o = n ∧ o.length ≤ m ∧ Below w.heap.size w w'
theorem retO {w w' : World} {v : Value} {o : List Int} {n m : Nat} (h : Own w' w.heap.size v o) (hi : InR o) (hn : nv o = n) (hl : o.length ≤ m) (hb : Below w.heap.size w w') : RetO w n m (.returned v) w' := ⟨v, o, rfl, h, hi, hn, hl, hb⟩

end Go.Proofs.YtijeplcjbhkkoaaGreatDoor

/- The reference's functions on natural numbers: l02Digit. -/
namespace Go.Proofs.YtijeplcjbhkkoaaGreatDoor
open Go.RowKit Lm

set_option maxHeartbeats 1000000 in
theorem l02Digit_c (w : World) (b1 b2 : Nat) (v1 v2 : Value) (r b : Nat) (h1 : Own w b1 v1 (limbs r)) (h2 : Own w b2 v2 (limbs b)) (hs2 : (limbs b).length ≤ 1000) (hr : r < b * 1000000000) :
    Calls Tryz.prog 142 #[v1, v2] w (RetI w ((r / b : Nat) : Int)) := by
  have hr' : (r : Int) < b * 1000000000 := by
    have : (r : Int) < ((b * 1000000000 : Nat) : Int) := by omega
    rwa [Int.natCast_mul] at this
  have HS := Lib.hid (DigI.start hr')
  have H1 := Lib.hid h1; have H2 := Lib.hid h2
  clear h1 h2 hr hr'
  go_enter Tryz.func142, Tryz.ntmps142
  go_wp2
  go_loopw [5, 6] (fun s t wr => ∃ (lo hi : Int), s = .int .i64 lo ∧ t = .int .i64 hi ∧ 0 ≤ lo ∧ lo ≤ hi ∧ hi ≤ 999999999 ∧ Hid (DigI b r lo hi) ∧ Below w.heap.size w wr) (fun s t _ => (intOf t - intOf s).toNat)
  case atStart => exact ⟨0, 999999999, rfl, rfl, by omega, by omega, by omega, HS.out, Below.refl _ _⟩
  case round =>
    obtain ⟨lo, hi, rfl, rfl, l0, l1, l2, HD, hb⟩ := hrel
    by_cases hlt : lo < hi
    · obtain ⟨m1, m2, m3⟩ := HD.out.mid hlt
      obtain ⟨q, hq⟩ := Int.eq_ofNat_of_zero_le m3
      have hq2 : q ≤ 999999999 := by omega
      have HQ := Lib.hid hq
      rw [hq] at m1 m2
      clear hq m3
      go_wp2_with fail
      rw [HQ.out]
      refine (specNatOf_c wr q (by omega)).mono ?_
      rintro e w2 ⟨v, rfl, ho, hb2⟩
      rw [Int.toNat_natCast] at ho
      have B2 := hb.trans (hb2.mono hb.size)
      have HO := Lib.hid ho
      clear ho
      go_wp2_with fail
      refine (l02Mul_c w2 b2 _ v2 v b q (H2.out.below B2 (Nat.le_refl _)) HO.out hs2 (by have := (limbs_len_le (n := q) (k := 2)).2 (by simp only [pw]; omega); omega)).mono ?_
      rintro e w3 ⟨v3, rfl, ho, hb3⟩
      have B3 := B2.trans (hb3.mono B2.size)
      have HO3 := Lib.hid ho
      clear ho
      go_wp2_with fail
      refine (l02Cmp_n w3 _ b1 v3 v1 (b * q) r HO3.out (H1.out.below B3 (Nat.le_refl _))).mono ?_
      rintro e w4 ⟨rfl, hb4⟩
      have B4 := B3.trans (hb4.mono B3.size)
      have hcc := cmp3_cases ((b * q : Nat) : Int) r
      generalize cmp3 ((b * q : Nat) : Int) r = c at *
      by_cases hc : c ≤ 0
      · have HL : Hid ((b : Int) * q ≤ r) := by
          have h1 : ((b * q : Nat) : Int) ≤ r := by rcases hcc with ⟨h, e⟩ | ⟨h, e⟩ | ⟨h, e⟩ <;> omega
          rwa [Int.natCast_mul] at h1
        clear hcc
        go_wp2_with fail
        go_roundw
        case rel => exact ⟨q, hi, rfl, rfl, by omega, by omega, by omega, HD.out.up (by omega) (by omega) HL.out, B4⟩
        case measure => (simp [intOf]) <;> omega
      · have HL : Hid ((r : Int) < b * q) := by
          have h1 : (r : Int) < ((b * q : Nat) : Int) := by rcases hcc with ⟨h, e⟩ | ⟨h, e⟩ | ⟨h, e⟩ <;> omega
          rwa [Int.natCast_mul] at h1
        clear hcc
        go_wp2_with fail
        go_roundw
        case rel => exact ⟨lo, (q : Int) - 1, rfl, rfl, by omega, by omega, by omega, HD.out.down (by omega) (by omega) HL.out, B4⟩
        case measure => (simp [intOf]) <;> omega
    · have HE := Lib.hid (HD.out.done hlt)
      go_wp2
      go_ret
      exact retI HE.out hb

end Go.Proofs.YtijeplcjbhkkoaaGreatDoor

/- The reference's functions on natural numbers: l02Div. -/
namespace Go.Proofs.YtijeplcjbhkkoaaGreatDoor
open Go.RowKit Lm

theorem Own.setBelow {w : World} {base : Nat} {v : Value} {xs : List Int} (h : Own w base v xs) {a : Addr} (ha : a.block < base) (u : Value) : Own (w.setCell a u) base v xs := ownsRow_setCell_below h ha u

set_option maxHeartbeats 1000000 in
theorem l02Div_one (w : World) (b1 b2 : Nat) (v1 v2 : Value) (a b : Nat) (h1 : Own w b1 v1 (limbs a)) (h2 : Own w b2 v2 (limbs b)) (hs1 : (limbs a).length ≤ 1000) (hl : (limbs b).length = 1) :
    Calls Tryz.prog 124 #[v1, v2] w (RetSS w (limbs (a / b)) (limbs (a % b))) := by
  have hb0 : 0 < b := limbs_len_pos.1 (by omega)
  have hb1 : b < 1000000000 := by
    have := (limbs_len_le (n := b) (k := 1)).1 (by omega)
    simp only [pw] at this
    omega
  have el : limbs b = [(b : Int)] := limbs_small hb0 hb1
  rw [el] at h2
  obtain ⟨a2, c2, rfl, -, -, -, -, -⟩ := h2.form
  obtain ⟨g, rfl, -, -⟩ := h2.addr (i := 0) (by simp)
  have k1 := h2.cell 0 (by simp)
  rw [show lat [(b : Int)] 0 = b from rfl] at k1
  have H1 := Lib.hid h1
  clear h1 h2 el hl
  go_enter Tryz.func124, Tryz.ntmps124
  go_wp2_with fail
  refine (l02Small_c w b1 v1 a b H1.out (by omega) hb0 (by omega)).mono ?_
  rintro e w2 ⟨q, rfl, hq, hb2⟩
  have HQ := Lib.hid hq
  clear hq
  go_wp2_with fail
  have hm := Nat.mod_lt a hb0
  refine (specNatOf_c w2 ((a % b : Nat) : Int) (by omega)).mono ?_
  rintro e w3 ⟨u, rfl, ho, hb3⟩
  have HR := Lib.hid ho
  clear ho
  go_wp2
  go_ret2
  exact retSS (HQ.out.below hb3 (Nat.le_refl _)) (HR.out.mono hb2.size) rfl rfl (apart_new HQ.out (.inr rfl) HR.out) (hb2.trans (hb3.mono hb2.size))

set_option maxHeartbeats 4000000 in
theorem l02Div_long (w : World) (b1 b2 : Nat) (v1 v2 : Value) (a b : Nat) (h1 : Own w b1 v1 (limbs a)) (h2 : Own w b2 v2 (limbs b)) (hs1 : (limbs a).length ≤ 1000) (hs2 : (limbs b).length ≤ 900) (hb0 : 0 < b) (hl : (limbs b).length ≠ 1) :
    Calls Tryz.prog 124 #[v1, v2] w (RetSS w (limbs (a / b)) (limbs (a % b))) := by
  obtain ⟨a1, c1, rfl, -, f2, f3, -, -⟩ := h1.form
  obtain ⟨a2, c2, rfl, -, -, -, -, -⟩ := h2.form
  unfold maxLen at f3
  have d1 : ((limbs b).length == 1) = false := beq_eq_false_iff_ne.2 hl
  have d2 : (((limbs b).length : Int) == 1) = false := beq_eq_false_iff_ne.2 (by omega)
  have i1 := limbs_inR a
  generalize hX : limbs a = xs at *
  have HX := Lib.hid hX
  have H1 := Lib.hid h1; have H2 := Lib.hid h2; have I1 := Lib.hid i1
  clear h1 h2 i1 hX hl
  go_enter Tryz.func124, Tryz.ntmps124
  go_wp2_with (at_make; refine make_ints rfl _ _ rfl _ _ _ _ xs.length rfl rfl (by omega) (by omega) (by omega) ?_)
  intro w0 ho hbw hs0
  have HO := Lib.hid (ho.alloc (.cells #[] 3))
  have HR := Lib.hid ((Own.lit0 w0).mono (base' := w.heap.size + 1) hs0)
  have hb00 := hbw.alloc hbw.size (.cells #[] 3)
  clear ho
  go_wp2_with fail
  go_loopw [9, 10] (fun v k wr => ∃ (K : Nat) (out : List Int) (r : Nat), K ≤ xs.length ∧ k = .int .i64 ((K : Int) - 1) ∧ Hid (Own wr w.heap.size (.slice (some ⟨w.heap.size, 0, none⟩) xs.length xs.length) out) ∧ Hid (Own wr (w.heap.size + 1) v (limbs r)) ∧ Hid (DivZ xs b K out r) ∧ w.heap.size + 1 ≤ wr.heap.size ∧ Below w.heap.size w wr) (fun _ k _ => (intOf k + 1).toNat)
  case atStart => exact ⟨xs.length, _, 0, by omega, rfl, HO.out, HR.out, DivZ.start _ hb0, by simp; omega, hb00⟩
  case round =>
    obtain ⟨K, out, r, hK, rfl, HO', HR', HA, hsz, hb⟩ := hrel
    by_cases h0 : 0 < K
    · obtain ⟨i, rfl⟩ : ∃ i, K = i + 1 := ⟨K - 1, by omega⟩
      have hlt : i < xs.length := by omega
      obtain ⟨g, rfl, -, -⟩ := H1.out.addr hlt
      have k1 := (H1.out.below hb (Nat.le_refl _)).cell i hlt
      have hlo : i < out.length := by rw [HA.out.div.len]; exact hlt
      obtain ⟨r11, r12⟩ := I1.out.lat i
      have hrb := HA.out.div.rem.2
      obtain ⟨s, hs⟩ : ∃ s : Nat, (s : Int) = r * 1000000000 + lat xs i := ⟨_, Int.toNat_of_nonneg (by omega)⟩
      obtain ⟨hsb, hstep⟩ := HA.out.step I1.out hlt hs
      have HST := Lib.hid hstep
      have hsk := fun h => HA.out.skip I1.out hlt hs h
      have HSK := Lib.hid hsk
      have hrl : (limbs r).length ≤ 900 := Nat.le_trans (limbs_len_mono (by omega)) hs2
      have hslen1 : (limbs s).length ≤ 1000 := by
        have h0 : (limbs s).length ≤ 900 + 1 := by
          rw [limbs_len_le, pw_succ]
          have h1 : (b : Int) < pw 900 := limbs_len_le.1 hs2
          omega
        omega
      have HIN : Hid (InR ([lat xs i] ++ limbs r)) := (InR.cons r11 r12 InR.nil).append (limbs_inR r)
      have HNV : Hid (nv ([lat xs i] ++ limbs r) = s) := by
        unfold Hid
        rw [List.singleton_append, nv_cons, nv_limbs]; omega
      rw [show ((i + 1 : Nat) : Int) - 1 = (i : Int) by omega]
      have t1 : (i : Int) < xs.length := by omega
      clear hstep hsk hs hrb
      have HO1 := Lib.hid (HO'.out.alloc (.cells #[.int .i64 (lat xs i)] 3))
      have HL1 := Lib.hid ((Own.lit1 wr (lat xs i)).mono (base' := w.heap.size + 1) hsz)
      go_wp2_with (at_builtin; refine app_own rfl _ _ rfl _ _ (w.heap.size + 1) (w.heap.size + 1) [lat xs i] (limbs r) rfl rfl HL1.out (HR'.out.alloc _) (by simp; omega) (by simp; omega) ?_)
      intro v' w1 ho hg _
      have hb1 := HL1.out.grownBelow (B := w.heap.size) (hb.alloc hb.size _) hg (by omega) (by simp; omega)
      have HO2 := Lib.hid (HO1.out.grown hg (.inr (by simp [Value.ownBlock]; omega)))
      have hsz1 : w.heap.size + 1 ≤ w1.heap.size := by have := hg.size; simp at this; omega
      have HV := Lib.hid ho
      clear ho hg HO1 HL1 HR' k1
      go_wp2_with fail
      refine (l02Trim_c w1 (w.heap.size + 1) v' _ s HV.out HIN.out HNV.out).mono ?_
      rintro e w2 ⟨v2, rfl, ho, -, hb2⟩
      have HV2 := Lib.hid ho
      have B2 := hb1.trans (hb2.mono hb1.size)
      have HO3 := Lib.hid (HO2.out.below hb2 (Nat.le_refl _))
      have hsz2 : w.heap.size + 1 ≤ w2.heap.size := Nat.le_trans hsz1 hb2.size
      clear ho HO2
      go_wp2_with fail
      refine (l02Cmp_n w2 _ b2 v2 _ s b HV2.out (H2.out.below B2 (Nat.le_refl _))).mono ?_
      rintro e w3 ⟨rfl, hb3⟩
      have B3 := B2.trans (hb3.mono B2.size)
      have HV3 := Lib.hid (HV2.out.below hb3 (Nat.le_refl _))
      have HO4 := Lib.hid (HO3.out.below hb3 (Nat.le_refl _))
      have hsz3 : w.heap.size + 1 ≤ w3.heap.size := Nat.le_trans hsz2 hb3.size
      have hcc := cmp3_cases (s : Int) b
      generalize cmp3 (s : Int) b = c at *
      clear HV2 HO3
      by_cases hc : c < 0
      · have hsb2 : s < b := by rcases hcc with ⟨h, e⟩ | ⟨h, e⟩ | ⟨h, e⟩ <;> omega
        have HSK2 := Lib.hid (HSK.out hsb2)
        clear hcc
        go_wp2_with fail
        go_roundw
        case rel => exact ⟨i, out, s, by omega, by go_num, HO4.out, HV3.out, HSK2.out, hsz3, B3⟩
        case measure => (simp [intOf]) <;> omega
      · clear hcc
        go_wp2_with fail
        refine (l02Digit_c w3 _ b2 v2 _ s b HV3.out (H2.out.below B3 (Nat.le_refl _)) (by omega) (by omega)).mono ?_
        rintro e w4 ⟨rfl, hb4⟩
        have B4 := B3.trans (hb4.mono B3.size)
        have HV4 := Lib.hid (HV3.out.below hb4 (Nat.le_refl _))
        have HO5 := Lib.hid (HO4.out.below hb4 (Nat.le_refl _))
        have hsz4 : w.heap.size + 1 ≤ w4.heap.size := Nat.le_trans hsz3 hb4.size
        clear HV3 HO4
        have hq : s / b < 1000000000 := Nat.div_lt_of_lt_mul hsb
        have k2 := HO5.out.cell i hlo
        have z2 := HO5.out.frozen i
        have HO6 := Lib.hid (HO5.out.store i ((s / b : Nat) : Int)).1
        have HV6 := Lib.hid (HV4.out.setBelow (a := ⟨w.heap.size, i, none⟩) (Nat.lt_succ_self _) (.int .i64 ((s / b : Nat) : Int)))
        have B5 := B4.setCell (p := ⟨w.heap.size, i, none⟩) (Nat.le_refl _) (.int .i64 ((s / b : Nat) : Int))
        have hsz5 : w.heap.size + 1 ≤ (w4.setCell ⟨w.heap.size, i, none⟩ (.int .i64 ((s / b : Nat) : Int))).heap.size := by simp [World.setCell]; omega
        have HQS := Lib.hid (show s - b * (s / b) = s % b from by have := Nat.div_add_mod s b; omega)
        have hle : b * (s / b) ≤ s := Nat.mul_div_le s b
        generalize hqq : s / b = q at *
        have HQQ := Lib.hid hqq
        clear hqq HO5 HV4
        go_wp2_with fail
        generalize w4.setCell ⟨w.heap.size, i, none⟩ (.int .i64 (q : Int)) = w5 at *
        refine (specNatOf_c w5 q (by omega)).mono ?_
        rintro e w6 ⟨v6, rfl, ho, hb6⟩
        rw [Int.toNat_natCast] at ho
        have HQ6 := Lib.hid ho
        have B6 := B5.trans (hb6.mono B5.size)
        have HO7 := Lib.hid (HO6.out.below hb6 (Nat.le_refl _))
        have HV7 := Lib.hid (HV6.out.below hb6 (Nat.le_refl _))
        have hsz6 := Nat.le_trans hsz5 hb6.size
        clear ho HO6 HV6 k2 z2
        go_wp2_with fail
        refine (l02Mul_c w6 b2 _ _ v6 b q (H2.out.below B6 (Nat.le_refl _)) HQ6.out (by omega) (by have := (limbs_len_le (n := q) (k := 2)).2 (by simp only [pw]; omega); omega)).mono ?_
        rintro e w7 ⟨v7, rfl, ho, hb7⟩
        have HM7 := Lib.hid ho
        have B7 := B6.trans (hb7.mono B6.size)
        have HO8 := Lib.hid (HO7.out.below hb7 (Nat.le_refl _))
        have HV8 := Lib.hid (HV7.out.below hb7 (Nat.le_refl _))
        have hsz7 := Nat.le_trans hsz6 hb7.size
        clear ho HO7 HV7 HQ6
        go_wp2_with fail
        refine (l02Sub_c w7 _ _ v2 v7 s (b * q) HV8.out HM7.out hslen1 hle).mono ?_
        rintro e w8 ⟨v8, rfl, ho, hb8⟩
        have HR8 := Lib.hid (ho.mono hsz7)
        have B8 := B7.trans (hb8.mono B7.size)
        have HO9 := Lib.hid (HO8.out.below hb8 (Nat.le_refl _))
        have hsz8 := Nat.le_trans hsz7 hb8.size
        clear ho HO8 HV8
        go_wp2_with fail
        go_roundw
        case rel => exact ⟨i, _, s % b, by omega, by go_num, HO9.out, by rw [← HQS.out]; exact HR8.out, HST.out, hsz8, B8⟩
        case measure => (simp [intOf]) <;> omega
    · obtain rfl : K = 0 := by omega
      have HD : Hid (nv out = (a / b : Nat) ∧ r = a % b) := by
        have h := HA.out
        rw [← HX.out] at h
        exact h.done
      have HI : Hid (InR out) := HA.out.div.inr
      go_wp2_with fail
      refine (l02Trim_c wr w.heap.size _ out (a / b) HO'.out HI.out HD.out.1).mono ?_
      rintro e w2 ⟨v2, rfl, ho, hob, hb2⟩
      have HO3 := Lib.hid ho; have HOB := Lib.hid hob
      have HR3 := Lib.hid (HR'.out.below hb2 (Nat.le_refl _))
      clear ho hob
      go_wp2_with fail
      go_ret2
      refine retSS HO3.out (HR3.out.mono (Nat.le_succ _)) rfl (by rw [HD.out.2]) ?_ (hb.trans (hb2.mono hb.size))
      intro j hj0 hj2
      have hj : v2.ownBlock = some j := hj0
      have h2 := (HR3.out.lt j hj2).1
      rcases HOB.out with h | h
      · rw [h] at hj; cases hj
      · rw [h] at hj
        have : w.heap.size = j := Option.some.inj hj
        omega

theorem l02Div_c (w : World) (b1 b2 : Nat) (v1 v2 : Value) (a b : Nat) (h1 : Own w b1 v1 (limbs a)) (h2 : Own w b2 v2 (limbs b)) (hs1 : (limbs a).length ≤ 1000) (hs2 : (limbs b).length ≤ 900) (hb : 0 < b) :
    Calls Tryz.prog 124 #[v1, v2] w (RetSS w (limbs (a / b)) (limbs (a % b))) := by
  by_cases hl : (limbs b).length = 1
  · exact l02Div_one w b1 b2 v1 v2 a b h1 h2 hs1 hl
  · exact l02Div_long w b1 b2 v1 v2 a b h1 h2 hs1 hs2 hb hl

end Go.Proofs.YtijeplcjbhkkoaaGreatDoor
