/- Merged texts. -/
import Derived.Test.YtijeplcjbhkkoaaGreatDoorMem
import Derived.Deep.DeepCutAuto
import Derived.Deep.CutBlock
import Derived.Deep.LoopGhost

/- The program's functions on natural numbers: natCmp, copyInts, trim, fits, NatOf. -/
namespace Go.Proofs.YtijeplcjbhkkoaaGreatDoor
open Go.RowKit Lm

set_option maxHeartbeats 400000 in
theorem natCmp_c (w : World) (b1 b2 : Nat) (v1 v2 : Value) (xs ys : List Int) (h1 : Own w b1 v1 xs) (h2 : Own w b2 v2 ys) (hx : Norm xs) (hy : Norm ys) :
    Calls Tryz.prog 84 #[v1, v2] w (RetI w (cmp3 (nv xs) (nv ys))) := by
  obtain ⟨a1, c1, rfl, f1, f2, f3, f4, f5⟩ := h1.form
  obtain ⟨a2, c2, rfl, g1, g2, g3, g4, g5⟩ := h2.form
  unfold maxLen at f1 f3 g1 g3
  clear f4 f5 g4 g5
  by_cases hl : xs.length = ys.length
  · have hne : ((xs.length : Int) != (ys.length : Int)) = false := by simp [hl]
    have H1 := Lib.hid h1; have H2 := Lib.hid h2; have Hl := Lib.hid hl
    have HX := Lib.hid hx; have HY := Lib.hid hy
    clear h1 h2 hl hx hy
    go_enter Tryz.func84, Tryz.ntmps84
    go_wp2
    go_loopw [5] (fun i wr => ∃ K : Nat, K ≤ xs.length ∧ i = .int .i64 ((K : Int) - 1) ∧ Hid (nv (xs.drop K) = nv (ys.drop K)) ∧ Below w.heap.size w wr) (fun i _ => (intOf i + 1).toNat)
    case atStart => exact ⟨xs.length, Nat.le_refl _, rfl, by unfold Hid; rw [nv_drop_all (Nat.le_refl _), nv_drop_all (by have := Hl.out; omega)], Below.refl _ _⟩
    case round =>
      obtain ⟨K, hK, rfl, HE, hb⟩ := hrel
      by_cases h0 : 0 < K
      · obtain ⟨i, rfl⟩ : ∃ i, K = i + 1 := ⟨K - 1, by omega⟩
        have hi : i < xs.length := by omega
        have hi2 : i < ys.length := by have := Hl.out; omega
        obtain ⟨g, rfl, -, -⟩ := H1.out.addr hi
        obtain ⟨g', rfl, -, -⟩ := H2.out.addr hi2
        have k1 := (H1.out.below hb (Nat.le_refl _)).cell i hi
        have k2 := (H2.out.below hb (Nat.le_refl _)).cell i hi2
        rw [show ((i + 1 : Nat) : Int) - 1 = (i : Int) by omega]
        have t1 : (i : Int) < xs.length := by omega
        have t2 : (i : Int) < ys.length := by omega
        go_wp2_with fail
        go_quiet (fail)
        go_wp2_with fail
        · go_ret
          have := cmp_at HX.out.1 HY.out.1 i hi hi2 HE.out (by assumption)
          exact retI (by rw [cmp3, if_pos this]) ⟨hb.os, hb.tape, hb.output, hb.size, hb.block⟩
        · go_quiet (fail)
          go_wp2_with fail
          · go_ret
            have := cmp_at HY.out.1 HX.out.1 i hi2 hi HE.out.symm (by assumption)
            exact retI (by rw [cmp3, if_neg (by omega), if_pos this]) ⟨hb.os, hb.tape, hb.output, hb.size, hb.block⟩
          · go_roundw
            case rel => exact ⟨i, by omega, by go_num, by have := HE.out; unfold Hid; rw [nv_drop xs i hi, nv_drop ys i hi2, this]; omega, ⟨hb.os, hb.tape, hb.output, hb.size, hb.block⟩⟩
            case measure => (simp [intOf]) <;> omega
      · obtain rfl : K = 0 := by omega
        go_wp2
        go_ret
        have := HE.out
        simp only [List.drop_zero] at this
        exact retI (by rw [cmp3, if_neg (by omega), if_neg (by omega)]) hb
  · have hne : ((xs.length : Int) != (ys.length : Int)) = true := by simp; omega
    have hlt : xs.length < ys.length → nv xs < nv ys := cmp_len hx hy
    have hgt : ys.length < xs.length → nv ys < nv xs := cmp_len hy hx
    clear h1 h2 hx hy
    by_cases hc : xs.length < ys.length
    · have hd : decide (xs.length < ys.length) = true := by simp; omega
      have := hlt hc
      have HH := Lib.hid this
      clear hlt hgt hl hc this
      go_enter Tryz.func84, Tryz.ntmps84
      go_wp2
      go_ret
      exact retI (by rw [cmp3, if_pos HH.out]) (Below.refl _ _)
    · have hd : decide (xs.length < ys.length) = false := by simp; omega
      have := hgt (by omega)
      have HH := Lib.hid this
      clear hlt hgt hl hc this
      go_enter Tryz.func84, Tryz.ntmps84
      go_wp2
      go_ret
      exact retI (by have := HH.out; rw [cmp3, if_neg (by omega), if_pos HH.out]) (Below.refl _ _)

set_option maxHeartbeats 400000 in
theorem copyInts_c (w : World) (b1 : Nat) (v1 : Value) (xs : List Int) (h1 : Own w b1 v1 xs) (hl : xs.length ≤ 17592186044415) :
    Calls Tryz.prog 64 #[v1] w (RetS w xs) := by
  have H1 := Lib.hid h1
  have HN := Lib.hid (Own.nil w w.heap.size)
  clear h1
  go_enter Tryz.func64, Tryz.ntmps64
  go_wp2_with (at_builtin; refine app_own rfl _ _ rfl _ _ w.heap.size b1 [] xs rfl rfl HN.out H1.out (by simp; omega) (Nat.le_refl _) ?_)
  intro v' w' ho hg _
  have hb := HN.out.grownBelow (Below.refl _ _) hg (Nat.le_refl _) (Nat.le_refl _)
  clear hg
  go_wp2
  go_ret
  exact retS ho (by simp) hb

set_option maxHeartbeats 400000 in
theorem trim_c (w : World) (b1 : Nat) (v1 : Value) (xs : List Int) (n : Nat) (h1 : Own w b1 v1 xs) (hx : InR xs) (hn : nv xs = n) :
    Calls Tryz.prog 70 #[v1] w (RetV w b1 v1 (limbs n)) := by
  obtain ⟨a1, c1, rfl, f1, f2, f3, f4, f5⟩ := h1.form
  unfold maxLen at f1 f3
  have H1 := Lib.hid h1; have HX := Lib.hid hx; have HN := Lib.hid hn
  clear h1 hx hn f4 f5
  go_enter Tryz.func70, Tryz.ntmps70
  go_wp2
  go_loopw [3] (fun i wr => ∃ K : Nat, K ≤ xs.length ∧ i = .int .i64 K ∧ Hid (∀ j, K ≤ j → lat xs j = 0) ∧ wr = w) (fun i _ => (intOf i).toNat)
  case atStart => exact ⟨xs.length, Nat.le_refl _, rfl, fun j hj => lat_ge hj, rfl⟩
  case round =>
    obtain ⟨K, hK, rfl, HE, rfl⟩ := hrel
    by_cases h0 : 0 < K
    · obtain ⟨i, rfl⟩ : ∃ i, K = i + 1 := ⟨K - 1, by omega⟩
      have hi : i < xs.length := by omega
      obtain ⟨g, rfl, -, -⟩ := H1.out.addr hi
      have k1 := H1.out.cell i hi
      have t1 : (i : Int) < xs.length := by omega
      go_wp2
      · have hz : lat xs i = 0 := by simpa using (by assumption : (lat xs i == 0) = true)
        go_round
        case rel => exact ⟨i, by omega, by go_num, (fun j hj => by
          by_cases hji : j = i
          · rw [hji]; exact hz
          · exact HE.out j (by omega) : ∀ j, i ≤ j → lat xs j = 0), (by first | rfl | trivial)⟩
        case measure => (simp [intOf]) <;> omega
      · have hz : lat xs i ≠ 0 := by simpa using (by assumption : (lat xs i == 0) = false)
        go_ret
        exact retV (H1.out.cut (k := i + 1) (by omega)) (Norm.limbs ⟨HX.out.take _, .inr (by rw [List.length_take, Nat.min_eq_left (by omega), Nat.add_sub_cancel, lat_take (by omega)]; exact hz)⟩ (by rw [nv_take_zeros _ _ (by omega) HE.out]; exact HN.out)) (Or.inr rfl) (Below.refl _ _)
    · obtain rfl : K = 0 := by omega
      go_wp2
      go_ret
      exact retV (H1.out.cut (k := 0) (by omega)) (Norm.limbs (by simp [Norm.nil]) (by rw [nv_take_zeros _ _ (by omega) HE.out]; exact HN.out)) (Or.inr (by cases a1 <;> rfl)) (Below.refl _ _)

set_option maxHeartbeats 400000 in
theorem natOf_pos (w : World) (n : Nat) (hn : n ≤ 9223372036854775807) :
    Calls Tryz.prog 114 #[.int .i64 n] w (RetS w (limbs n)) := by
  have HB := Lib.hid (Own.nil w w.heap.size)
  go_enter Tryz.func114, Tryz.ntmps114
  go_wp2
  go_loopw [0, 3] (fun n' v wr => ∃ (m : Nat) (o : List Int), n' = .int .i64 m ∧ m ≤ n ∧ Own wr w.heap.size v o ∧ Hid (o ++ limbs m = limbs n) ∧ Below w.heap.size w wr) (fun n' _ _ => (intOf n').toNat)
  case atStart => exact ⟨n, [], rfl, Nat.le_refl _, HB.out, rfl, Below.refl _ _⟩
  case round =>
    obtain ⟨m, o, rfl, hm, ho, HE, hb⟩ := hrel
    have HO := Lib.hid ho
    clear ho
    have hs := hb.size
    by_cases h0 : 0 < m
    · have hlen : o.length + 1 ≤ 17592186044415 := by
        have h1 := natOf_len HE.out
        have h2 : (limbs n).length ≤ 3 := limbs_len_le.2 (by simp only [pw]; omega)
        omega
      go_wp2_with (at_builtin; refine app_own rfl _ _ rfl _ _ w.heap.size wr.heap.size o [(m : Int) % 1000000000] rfl rfl (HO.out.alloc _) (Own.lit1 _ _) (by simpa using hlen) (by simp; omega) ?_)
      intro v' w' ho hg _
      have hb' := (HO.out.alloc _).grownBelow (hb.alloc hs _) hg (Nat.le_refl _) (by simp; omega)
      have HO' := Lib.hid ho
      clear hg ho
      go_wp2
      go_roundw
      case rel => exact ⟨m / 1000000000, _, by go_num, by omega, HO'.out, natOf_step HE.out h0, hb'⟩
      case measure => (simp [intOf]) <;> omega
    · obtain rfl : m = 0 := by omega
      go_wp2
      go_ret
      exact retS HO.out (by have := HE.out; simpa [limbs_zero] using this) hb

set_option maxHeartbeats 400000 in
theorem natOf_neg (w : World) (n : Int) (hn : n < 0) :
    Calls Tryz.prog 114 #[.int .i64 n] w (RetS w []) := by
  have HB := Lib.hid (Own.nil w w.heap.size)
  have h0 : decide (0 < n) = false := by simp; omega
  go_enter Tryz.func114, Tryz.ntmps114
  go_wp2
  go_loopw [0, 3] (fun n' v wr => n' = .int .i64 n ∧ v = .slice none 0 0 ∧ wr = w) (fun _ _ _ => 0)
  case atStart => exact ⟨rfl, rfl, rfl⟩
  case round =>
    obtain ⟨rfl, rfl, rfl⟩ := hrel
    go_wp2
    go_ret
    exact retS HB.out rfl (Below.refl _ _)
theorem natOf_c (w : World) (n : Int) (hn : n ≤ 9223372036854775807) :
    Calls Tryz.prog 114 #[.int .i64 n] w (RetS w (limbs n.toNat)) := by
  by_cases h : 0 ≤ n
  · obtain ⟨m, rfl⟩ := Int.eq_ofNat_of_zero_le h
    exact natOf_pos w m (by omega)
  · rw [show n.toNat = 0 by omega]; exact natOf_neg w n (by omega)

theorem natCmp_n (w : World) (b1 b2 : Nat) (v1 v2 : Value) (a b : Nat) (h1 : Own w b1 v1 (limbs a)) (h2 : Own w b2 v2 (limbs b)) :
    Calls Tryz.prog 84 #[v1, v2] w (RetI w (cmp3 a b)) := by
  have h := natCmp_c w b1 b2 v1 v2 _ _ h1 h2 (limbs_norm a) (limbs_norm b)
  rw [nv_limbs, nv_limbs] at h
  exact h

end Go.Proofs.YtijeplcjbhkkoaaGreatDoor

/- The program's functions on natural numbers: natAdd, natSub, natMul, divSmall. -/
namespace Go.Proofs.YtijeplcjbhkkoaaGreatDoor
open Go.RowKit Lm

set_option maxHeartbeats 1000000 in
theorem natAdd_ge (w : World) (b1 b2 : Nat) (v1 v2 : Value) (a b : Nat) (h1 : Own w b1 v1 (limbs a)) (h2 : Own w b2 v2 (limbs b)) (hs1 : (limbs a).length ≤ 1000) (_hs2 : (limbs b).length ≤ 1000) (hc : (limbs b).length ≤ (limbs a).length) :
    Calls Tryz.prog 83 #[v1, v2] w (RetS w (limbs (a + b))) := by
  obtain ⟨a1, c1, rfl, -, f2, f3, -, -⟩ := h1.form
  obtain ⟨a2, c2, rfl, -, g2, g3, -, -⟩ := h2.form
  unfold maxLen at f3 g3
  have i1 := limbs_inR a
  have i2 := limbs_inR b
  generalize hX : limbs a = xs at *
  generalize hY : limbs b = ys at *
  have HX := Lib.hid hX; have HY := Lib.hid hY; have H1 := Lib.hid h1; have H2 := Lib.hid h2; have I1 := Lib.hid i1; have I2 := Lib.hid i2
  clear hX hY h1 h2 i1 i2
  go_enter Tryz.func83, Tryz.ntmps83
  go_wp2_with (at_make; refine make_cap rfl _ _ rfl _ _ _ (xs.length + 1) rfl rfl (by omega) (by omega) ?_)
  intro w0 ho hb0 hs0
  have HO := Lib.hid ho
  clear ho
  go_wp2_with fail
  go_loopw [5, 6, 22] (fun v c k wr => ∃ (i : Nat) (o : List Int) (cr : Int), i ≤ xs.length ∧ k = .int .i64 i ∧ c = .int .i64 cr ∧ 0 ≤ cr ∧ cr ≤ 1 ∧ Hid (Own wr w.heap.size v o) ∧ Hid (AddI xs ys i o cr) ∧ Below w.heap.size w wr) (fun _ _ k _ => xs.length - (intOf k).toNat)
  case atStart => exact ⟨0, [], 0, by omega, rfl, rfl, by omega, by omega, HO.out, AddI.start _ _, hb0⟩
  case round =>
    obtain ⟨i, o, cr, hi, rfl, rfl, hc0, hc1, HO', HA, hb⟩ := hrel
    have hsz := hb.size
    by_cases hlt : i < xs.length
    · obtain ⟨g, rfl, -, -⟩ := H1.out.addr hlt
      have k1 := (H1.out.below hb (Nat.le_refl _)).cell i hlt
      have t1 : (i : Int) < xs.length := by omega
      have r1 := (I1.out.lat i)
      have r2 := (I2.out.lat i)
      obtain ⟨r11, r12⟩ := r1
      obtain ⟨r21, r22⟩ := r2
      have hol := HA.out.len
      have HOL : o.length ≤ i := by omega
      clear hol
      by_cases hlb : i < ys.length
      · obtain ⟨g', rfl, -, -⟩ := H2.out.addr hlb
        have k2 := (H2.out.below hb (Nat.le_refl _)).cell i hlb
        have t2 : (i : Int) < ys.length := by omega
        by_cases hbig : 1000000000 ≤ lat xs i + cr + lat ys i
        · go_wp2_with (at_builtin; refine app_own rfl _ _ rfl _ _ w.heap.size wr.heap.size o [_] rfl rfl (HO'.out.alloc _) (Own.lit1 _ _) (by simp; omega) (by simp; omega) ?_)
          intro v' w' ho hg _
          have hb' := (HO'.out.alloc _).grownBelow (hb.alloc hsz _) hg (Nat.le_refl _) (by simp; omega)
          have HO2 := Lib.hid ho
          clear hg ho
          go_wp2
          go_roundw
          case rel => exact ⟨i + 1, _, 1, by omega, by go_num, rfl, by omega, by omega, HO2.out, HA.out.step (by omega) (by omega) (by omega) (by omega), hb'⟩
          case measure => (simp [intOf]) <;> omega
        · go_wp2_with (at_builtin; refine app_own rfl _ _ rfl _ _ w.heap.size wr.heap.size o [_] rfl rfl (HO'.out.alloc _) (Own.lit1 _ _) (by simp; omega) (by simp; omega) ?_)
          intro v' w' ho hg _
          have hb' := (HO'.out.alloc _).grownBelow (hb.alloc hsz _) hg (Nat.le_refl _) (by simp; omega)
          have HO2 := Lib.hid ho
          clear hg ho
          go_wp2
          go_roundw
          case rel => exact ⟨i + 1, _, 0, by omega, by go_num, rfl, by omega, by omega, HO2.out, HA.out.step (by omega) (by omega) (by omega) (by omega), hb'⟩
          case measure => (simp [intOf]) <;> omega
      · have hz : lat ys i = 0 := lat_ge (by omega)
        have HZ := Lib.hid hz
        have t2 : (ys.length : Int) ≤ (i : Int) := by omega
        clear hz
        by_cases hbig : 1000000000 ≤ lat xs i + cr
        · go_wp2_with (at_builtin; refine app_own rfl _ _ rfl _ _ w.heap.size wr.heap.size o [_] rfl rfl (HO'.out.alloc _) (Own.lit1 _ _) (by simp; omega) (by simp; omega) ?_)
          intro v' w' ho hg _
          have hb' := (HO'.out.alloc _).grownBelow (hb.alloc hsz _) hg (Nat.le_refl _) (by simp; omega)
          have HO2 := Lib.hid ho
          clear hg ho
          go_wp2
          go_roundw
          case rel => exact ⟨i + 1, _, 1, by omega, by go_num, rfl, by omega, by omega, HO2.out, HA.out.step (by have := HZ.out; omega) (by have := HZ.out; omega) (by omega) (by have := HZ.out; omega), hb'⟩
          case measure => (simp [intOf]) <;> omega
        · go_wp2_with (at_builtin; refine app_own rfl _ _ rfl _ _ w.heap.size wr.heap.size o [_] rfl rfl (HO'.out.alloc _) (Own.lit1 _ _) (by simp; omega) (by simp; omega) ?_)
          intro v' w' ho hg _
          have hb' := (HO'.out.alloc _).grownBelow (hb.alloc hsz _) hg (Nat.le_refl _) (by simp; omega)
          have HO2 := Lib.hid ho
          clear hg ho
          go_wp2
          go_roundw
          case rel => exact ⟨i + 1, _, 0, by omega, by go_num, rfl, by omega, by omega, HO2.out, HA.out.step (by have := HZ.out; omega) (by have := HZ.out; omega) (by omega) (by have := HZ.out; omega), hb'⟩
          case measure => (simp [intOf]) <;> omega
    · obtain rfl : i = xs.length := by omega
      by_cases hcr : cr = 0
      · subst hcr
        go_wp2
        go_ret
        exact retS HO'.out (by have h := HA.out; rw [← HX.out, ← HY.out] at h; have h2 := h.done0 (by rw [HY.out, HX.out]; omega); exact h2) hb
      · obtain rfl : cr = 1 := by omega
        clear hcr
        have hol := HA.out.len
        have HOL : o.length ≤ xs.length := by omega
        clear hol
        go_wp2_with (at_builtin; refine app_own rfl _ _ rfl _ _ w.heap.size wr.heap.size o [_] rfl rfl (HO'.out.alloc _) (Own.lit1 _ _) (by simp; omega) (by simp; omega) ?_)
        intro v' w' ho hg _
        have hb' := (HO'.out.alloc _).grownBelow (hb.alloc hsz _) hg (Nat.le_refl _) (by simp; omega)
        have HO2 := Lib.hid ho
        clear hg ho
        go_wp2
        go_ret
        exact retS HO2.out (by have h := HA.out; rw [← HX.out, ← HY.out] at h; have h2 := h.done1 (by rw [HY.out, HX.out]; omega); exact h2) hb'

set_option maxHeartbeats 1000000 in
theorem natAdd_lt (w : World) (b1 b2 : Nat) (v1 v2 : Value) (a b : Nat) (h1 : Own w b1 v1 (limbs a)) (h2 : Own w b2 v2 (limbs b)) (hs1 : (limbs a).length ≤ 1000) (hs2 : (limbs b).length ≤ 1000) (hc : (limbs a).length < (limbs b).length) :
    Calls Tryz.prog 83 #[v1, v2] w (RetS w (limbs (a + b))) := by
  obtain ⟨a1, c1, rfl, -, f2, f3, -, -⟩ := h1.form
  obtain ⟨a2, c2, rfl, -, g2, g3, -, -⟩ := h2.form
  unfold maxLen at f3 g3
  have i1 := limbs_inR a
  have i2 := limbs_inR b
  generalize hX : limbs a = xs at *
  generalize hY : limbs b = ys at *
  have HX := Lib.hid hX; have HY := Lib.hid hY; have H1 := Lib.hid h1; have H2 := Lib.hid h2; have I1 := Lib.hid i1; have I2 := Lib.hid i2
  clear hX hY h1 h2 i1 i2
  go_enter Tryz.func83, Tryz.ntmps83
  go_wp2_with (at_make; refine make_cap rfl _ _ rfl _ _ _ (ys.length + 1) rfl rfl (by omega) (by omega) ?_)
  intro w0 ho hb0 hs0
  have HO := Lib.hid ho
  clear ho
  go_wp2_with fail
  go_loopw [5, 6, 22] (fun v c k wr => ∃ (i : Nat) (o : List Int) (cr : Int), i ≤ ys.length ∧ k = .int .i64 i ∧ c = .int .i64 cr ∧ 0 ≤ cr ∧ cr ≤ 1 ∧ Hid (Own wr w.heap.size v o) ∧ Hid (AddI ys xs i o cr) ∧ Below w.heap.size w wr) (fun _ _ k _ => ys.length - (intOf k).toNat)
  case atStart => exact ⟨0, [], 0, by omega, rfl, rfl, by omega, by omega, HO.out, AddI.start _ _, hb0⟩
  case round =>
    obtain ⟨i, o, cr, hi, rfl, rfl, hc0, hc1, HO', HA, hb⟩ := hrel
    have hsz := hb.size
    by_cases hlt : i < ys.length
    · obtain ⟨g, rfl, -, -⟩ := H2.out.addr hlt
      have k1 := (H2.out.below hb (Nat.le_refl _)).cell i hlt
      have t1 : (i : Int) < ys.length := by omega
      have r1 := (I2.out.lat i)
      have r2 := (I1.out.lat i)
      obtain ⟨r11, r12⟩ := r1
      obtain ⟨r21, r22⟩ := r2
      have hol := HA.out.len
      have HOL : o.length ≤ i := by omega
      clear hol
      by_cases hlb : i < xs.length
      · obtain ⟨g', rfl, -, -⟩ := H1.out.addr hlb
        have k2 := (H1.out.below hb (Nat.le_refl _)).cell i hlb
        have t2 : (i : Int) < xs.length := by omega
        by_cases hbig : 1000000000 ≤ lat ys i + cr + lat xs i
        · go_wp2_with (at_builtin; refine app_own rfl _ _ rfl _ _ w.heap.size wr.heap.size o [_] rfl rfl (HO'.out.alloc _) (Own.lit1 _ _) (by simp; omega) (by simp; omega) ?_)
          intro v' w' ho hg _
          have hb' := (HO'.out.alloc _).grownBelow (hb.alloc hsz _) hg (Nat.le_refl _) (by simp; omega)
          have HO2 := Lib.hid ho
          clear hg ho
          go_wp2
          go_roundw
          case rel => exact ⟨i + 1, _, 1, by omega, by go_num, rfl, by omega, by omega, HO2.out, HA.out.step (by omega) (by omega) (by omega) (by omega), hb'⟩
          case measure => (simp [intOf]) <;> omega
        · go_wp2_with (at_builtin; refine app_own rfl _ _ rfl _ _ w.heap.size wr.heap.size o [_] rfl rfl (HO'.out.alloc _) (Own.lit1 _ _) (by simp; omega) (by simp; omega) ?_)
          intro v' w' ho hg _
          have hb' := (HO'.out.alloc _).grownBelow (hb.alloc hsz _) hg (Nat.le_refl _) (by simp; omega)
          have HO2 := Lib.hid ho
          clear hg ho
          go_wp2
          go_roundw
          case rel => exact ⟨i + 1, _, 0, by omega, by go_num, rfl, by omega, by omega, HO2.out, HA.out.step (by omega) (by omega) (by omega) (by omega), hb'⟩
          case measure => (simp [intOf]) <;> omega
      · have hz : lat xs i = 0 := lat_ge (by omega)
        have HZ := Lib.hid hz
        have t2 : (xs.length : Int) ≤ (i : Int) := by omega
        clear hz
        by_cases hbig : 1000000000 ≤ lat ys i + cr
        · go_wp2_with (at_builtin; refine app_own rfl _ _ rfl _ _ w.heap.size wr.heap.size o [_] rfl rfl (HO'.out.alloc _) (Own.lit1 _ _) (by simp; omega) (by simp; omega) ?_)
          intro v' w' ho hg _
          have hb' := (HO'.out.alloc _).grownBelow (hb.alloc hsz _) hg (Nat.le_refl _) (by simp; omega)
          have HO2 := Lib.hid ho
          clear hg ho
          go_wp2
          go_roundw
          case rel => exact ⟨i + 1, _, 1, by omega, by go_num, rfl, by omega, by omega, HO2.out, HA.out.step (by have := HZ.out; omega) (by have := HZ.out; omega) (by omega) (by have := HZ.out; omega), hb'⟩
          case measure => (simp [intOf]) <;> omega
        · go_wp2_with (at_builtin; refine app_own rfl _ _ rfl _ _ w.heap.size wr.heap.size o [_] rfl rfl (HO'.out.alloc _) (Own.lit1 _ _) (by simp; omega) (by simp; omega) ?_)
          intro v' w' ho hg _
          have hb' := (HO'.out.alloc _).grownBelow (hb.alloc hsz _) hg (Nat.le_refl _) (by simp; omega)
          have HO2 := Lib.hid ho
          clear hg ho
          go_wp2
          go_roundw
          case rel => exact ⟨i + 1, _, 0, by omega, by go_num, rfl, by omega, by omega, HO2.out, HA.out.step (by have := HZ.out; omega) (by have := HZ.out; omega) (by omega) (by have := HZ.out; omega), hb'⟩
          case measure => (simp [intOf]) <;> omega
    · obtain rfl : i = ys.length := by omega
      by_cases hcr : cr = 0
      · subst hcr
        go_wp2
        go_ret
        exact retS HO'.out (by have h := HA.out; rw [← HY.out, ← HX.out] at h; have h2 := h.done0 (by rw [HX.out, HY.out]; omega); rw [Nat.add_comm] at h2; exact h2) hb
      · obtain rfl : cr = 1 := by omega
        clear hcr
        have hol := HA.out.len
        have HOL : o.length ≤ ys.length := by omega
        clear hol
        go_wp2_with (at_builtin; refine app_own rfl _ _ rfl _ _ w.heap.size wr.heap.size o [_] rfl rfl (HO'.out.alloc _) (Own.lit1 _ _) (by simp; omega) (by simp; omega) ?_)
        intro v' w' ho hg _
        have hb' := (HO'.out.alloc _).grownBelow (hb.alloc hsz _) hg (Nat.le_refl _) (by simp; omega)
        have HO2 := Lib.hid ho
        clear hg ho
        go_wp2
        go_ret
        exact retS HO2.out (by have h := HA.out; rw [← HY.out, ← HX.out] at h; have h2 := h.done1 (by rw [HX.out, HY.out]; omega); rw [Nat.add_comm] at h2; exact h2) hb'

theorem natAdd_c (w : World) (b1 b2 : Nat) (v1 v2 : Value) (a b : Nat) (h1 : Own w b1 v1 (limbs a)) (h2 : Own w b2 v2 (limbs b)) (hs1 : (limbs a).length ≤ 1000) (hs2 : (limbs b).length ≤ 1000) :
    Calls Tryz.prog 83 #[v1, v2] w (RetS w (limbs (a + b))) := by
  by_cases h : (limbs a).length < (limbs b).length
  · exact natAdd_lt w b1 b2 v1 v2 a b h1 h2 hs1 hs2 h
  · exact natAdd_ge w b1 b2 v1 v2 a b h1 h2 hs1 hs2 (by omega)

set_option maxHeartbeats 1000000 in
theorem natSub_c (w : World) (b1 b2 : Nat) (v1 v2 : Value) (a b : Nat) (h1 : Own w b1 v1 (limbs a)) (h2 : Own w b2 v2 (limbs b)) (hs1 : (limbs a).length ≤ 1000) (hab : b ≤ a) :
    Calls Tryz.prog 85 #[v1, v2] w (RetS w (limbs (a - b))) := by
  obtain ⟨a1, c1, rfl, -, f2, f3, -, -⟩ := h1.form
  obtain ⟨a2, c2, rfl, -, g2, g3, -, -⟩ := h2.form
  unfold maxLen at f3 g3
  have i1 := limbs_inR a
  have i2 := limbs_inR b
  generalize hX : limbs a = xs at *
  generalize hY : limbs b = ys at *
  have HX := Lib.hid hX; have HY := Lib.hid hY; have H1 := Lib.hid h1; have H2 := Lib.hid h2; have I1 := Lib.hid i1; have I2 := Lib.hid i2
  clear hX hY h1 h2 i1 i2
  go_enter Tryz.func85, Tryz.ntmps85
  go_wp2_with fail
  refine (copyInts_c w b1 _ xs H1.out (by omega)).mono ?_
  rintro e w1 ⟨v, rfl, ho, hb1⟩
  obtain ⟨ao, cap, rfl, -, l2, l3, -, -⟩ := ho.form
  unfold maxLen at l3
  have HO := Lib.hid ho
  clear ho
  go_wp2_with fail
  go_loopw [6, 13] (fun c k wr => ∃ (i : Nat) (o : List Int) (br : Int), i ≤ xs.length ∧ k = .int .i64 i ∧ c = .int .i64 br ∧ 0 ≤ br ∧ br ≤ 1 ∧ Hid (Own wr w.heap.size (.slice ao xs.length cap) (o ++ xs.drop i)) ∧ Hid (SubI xs ys i o br) ∧ Below w.heap.size w wr) (fun _ k _ => xs.length - (intOf k).toNat)
  case atStart => exact ⟨0, [], 0, by omega, rfl, rfl, by omega, by omega, HO.out, SubI.start _ _, hb1⟩
  case round =>
    obtain ⟨i, o, br, hi, rfl, rfl, hc0, hc1, HO', HA, hb⟩ := hrel
    by_cases hlt : i < xs.length
    · have hli : i < (o ++ xs.drop i).length := by rw [len_mid HA.out.len hi]; exact hlt
      obtain ⟨g, rfl, hgB, -⟩ := HO'.out.addr hli
      have k1 := HO'.out.cell i hli
      have z1 := HO'.out.frozen i
      rw [lat_mid HA.out.len] at k1
      have t1 : (i : Int) < xs.length := by omega
      obtain ⟨r11, r12⟩ := I1.out.lat i
      obtain ⟨r21, r22⟩ := I2.out.lat i
      by_cases hlb : i < ys.length
      · obtain ⟨g', rfl, -, -⟩ := H2.out.addr hlb
        have k2 := (H2.out.below hb (Nat.le_refl _)).cell i hlb
        have t2 : (i : Int) < ys.length := by omega
        by_cases hneg : lat xs i - br - lat ys i < 0
        · go_wp2
          have hst := HO'.out.store i (lat xs i - br - lat ys i + 1000000000)
          rw [set_mid HA.out.len hlt] at hst
          go_roundw
          case rel => exact ⟨i + 1, _, 1, by omega, by go_num, rfl, by omega, by omega, hst.1, HA.out.step (by omega) (by omega) (by omega) (by omega), hb.setCell hgB _⟩
          case measure => (simp [intOf]) <;> omega
        · go_wp2
          have hst := HO'.out.store i (lat xs i - br - lat ys i)
          rw [set_mid HA.out.len hlt] at hst
          go_roundw
          case rel => exact ⟨i + 1, _, 0, by omega, by go_num, rfl, by omega, by omega, hst.1, HA.out.step (by omega) (by omega) (by omega) (by omega), hb.setCell hgB _⟩
          case measure => (simp [intOf]) <;> omega
      · have HZ : Hid (lat ys i = 0) := lat_ge (by omega)
        have t2 : (ys.length : Int) ≤ (i : Int) := by omega
        by_cases hneg : lat xs i - br < 0
        · go_wp2
          have hst := HO'.out.store i (lat xs i - br + 1000000000)
          rw [set_mid HA.out.len hlt] at hst
          go_roundw
          case rel => exact ⟨i + 1, _, 1, by omega, by go_num, rfl, by omega, by omega, hst.1, HA.out.step (by have := HZ.out; omega) (by have := HZ.out; omega) (by omega) (by have := HZ.out; omega), hb.setCell hgB _⟩
          case measure => (simp [intOf]) <;> omega
        · go_wp2
          have hst := HO'.out.store i (lat xs i - br)
          rw [set_mid HA.out.len hlt] at hst
          go_roundw
          case rel => exact ⟨i + 1, _, 0, by omega, by go_num, rfl, by omega, by omega, hst.1, HA.out.step (by have := HZ.out; omega) (by have := HZ.out; omega) (by omega) (by have := HZ.out; omega), hb.setCell hgB _⟩
          case measure => (simp [intOf]) <;> omega
    · obtain rfl : i = xs.length := by omega
      have HV : Hid (nv o = (a - b : Nat)) := by
        have h := HA.out
        rw [← HX.out, ← HY.out] at h
        exact h.done hab
      have HR : Hid (InR o) := HA.out.inr
      have ho := HO'.out
      rw [List.drop_length, List.append_nil] at ho
      have HO2 := Lib.hid ho
      clear ho
      go_wp2_with fail
      refine (trim_c wr w.heap.size _ o (a - b) HO2.out HR.out HV.out).mono ?_
      rintro e w2 ⟨v, rfl, ho, _, hb2⟩
      have HO3 := Lib.hid ho
      clear ho
      go_wp2
      go_ret
      exact retS HO3.out rfl (hb.trans (hb2.mono hb.size))

set_option maxHeartbeats 1000000 in
theorem divSmall_c (w : World) (b1 : Nat) (v1 : Value) (a d : Nat) (h1 : Own w b1 v1 (limbs a)) (hs1 : (limbs a).length ≤ 1000) (hd0 : 0 < d) (hd1 : d < 1000000000) :
    Calls Tryz.prog 92 #[v1, .int .i64 d] w (RetSS w (limbs (a / d)) (limbs (a % d))) := by
  obtain ⟨a1, c1, rfl, -, f2, f3, -, -⟩ := h1.form
  unfold maxLen at f3
  have i1 := limbs_inR a
  generalize hX : limbs a = xs at *
  have HX := Lib.hid hX; have H1 := Lib.hid h1; have I1 := Lib.hid i1
  clear hX h1 i1
  go_enter Tryz.func92, Tryz.ntmps92
  go_wp2_with (at_make; refine make_ints rfl _ _ rfl _ _ _ _ xs.length rfl rfl (by omega) (by omega) (by omega) ?_)
  intro w0 ho hb0 hs0
  have HO := Lib.hid ho
  clear ho
  go_wp2_with fail
  go_loopw [7, 8] (fun r k wr => ∃ (K : Nat) (out : List Int) (rr : Int), K ≤ xs.length ∧ k = .int .i64 ((K : Int) - 1) ∧ r = .int .i64 rr ∧ 0 ≤ rr ∧ rr < d ∧ Hid (Own wr w.heap.size (.slice (some ⟨w.heap.size, 0, none⟩) xs.length xs.length) out) ∧ Hid (DivI xs d K out rr) ∧ Below w.heap.size w wr) (fun _ k _ => (intOf k + 1).toNat)
  case atStart => exact ⟨xs.length, _, 0, by omega, rfl, rfl, by omega, by omega, HO.out, DivI.start _ (by omega), hb0⟩
  case round =>
    obtain ⟨K, out, rr, hK, rfl, rfl, hr0, hr1, HO', HA, hb⟩ := hrel
    by_cases h0 : 0 < K
    · obtain ⟨i, rfl⟩ : ∃ i, K = i + 1 := ⟨K - 1, by omega⟩
      have hlt : i < xs.length := by omega
      obtain ⟨g, rfl, -, -⟩ := H1.out.addr hlt
      have k1 := (H1.out.below hb (Nat.le_refl _)).cell i hlt
      have hlo : i < out.length := by rw [HA.out.len]; exact hlt
      have k2 := HO'.out.cell i hlo
      have z2 := HO'.out.frozen i
      have HST := Lib.hid (HO'.out.store i ((rr * 1000000000 + lat xs i) / d))
      have HD := Lib.hid (HA.out.step I1.out hlt)
      have hst := HD.out.rem
      obtain ⟨hst1, hst2⟩ := hst
      obtain ⟨r11, r12⟩ := I1.out.lat i
      have hm1 : rr * 1000000000 < (d : Int) * 1000000000 := by omega
      rw [show ((i + 1 : Nat) : Int) - 1 = (i : Int) by omega]
      have t1 : (i : Int) < xs.length := by omega
      have tz : ((d : Int) == 0) = false := by simp; omega
      go_wp2
      go_roundw
      case rel => exact ⟨i, _, _, by omega, by go_num, rfl, hst1, hst2, HST.out.1, HD.out, hb.setCell (Nat.le_refl _) _⟩
      case measure => (simp [intOf]) <;> omega
    · obtain rfl : K = 0 := by omega
      have HV : Hid (nv out = (a / d : Nat) ∧ rr = (a % d : Nat)) := by
        have h := HA.out
        rw [← HX.out] at h
        exact h.quot
      have HR : Hid (InR out) := HA.out.inr
      go_wp2_with fail
      refine (trim_c wr w.heap.size _ out (a / d) HO'.out HR.out HV.out.1).mono ?_
      rintro e w2 ⟨v, rfl, ho, hob, hb2⟩
      have HO3 := Lib.hid ho
      have HOB := Lib.hid hob
      clear ho hob
      go_wp2_with fail
      refine (natOf_c w2 rr (by omega)).mono ?_
      rintro e w3 ⟨u, rfl, ho, hb3⟩
      have HO4 := Lib.hid ho
      clear ho
      go_wp2
      go_ret2
      have hw2 : w.heap.size ≤ w2.heap.size := Nat.le_trans hb.size hb2.size
      exact retSS (HO3.out.below hb3 (Nat.le_refl _)) (HO4.out.mono hw2) rfl (by rw [HV.out.2]; rfl) (apart_new (HO'.out.below hb2 (Nat.le_refl _)) HOB.out HO4.out) ((hb.trans (hb2.mono hb.size)).trans (hb3.mono hw2))

end Go.Proofs.YtijeplcjbhkkoaaGreatDoor

/- The program's functions on natural numbers: natMul. -/
namespace Go.Proofs.YtijeplcjbhkkoaaGreatDoor
open Go.RowKit Lm

set_option maxHeartbeats 1000000 in
theorem natMul_c (w : World) (b1 b2 : Nat) (v1 v2 : Value) (a b : Nat) (h1 : Own w b1 v1 (limbs a)) (h2 : Own w b2 v2 (limbs b)) (hs1 : (limbs a).length ≤ 1000) (hs2 : (limbs b).length ≤ 1000) :
    Calls Tryz.prog 62 #[v1, v2] w (RetS w (limbs (a * b))) := by
  obtain ⟨a1, c1, rfl, -, f2, f3, -, -⟩ := h1.form
  obtain ⟨a2, c2, rfl, -, g2, g3, -, -⟩ := h2.form
  unfold maxLen at f3 g3
  have i1 := limbs_inR a
  have i2 := limbs_inR b
  have ev := nv_limbs a
  have ev2 := nv_limbs b
  generalize limbs a = xs at *
  generalize limbs b = ys at *
  have EV := Lib.hid ev; have EV2 := Lib.hid ev2; have H1 := Lib.hid h1; have H2 := Lib.hid h2; have I1 := Lib.hid i1; have I2 := Lib.hid i2
  clear ev ev2 h1 h2 i1 i2
  go_enter Tryz.func62, Tryz.ntmps62
  go_wp2_with (at_make; refine make_ints rfl _ _ rfl _ _ _ _ (xs.length + ys.length) rfl rfl (by omega) (by omega) (by omega) ?_)
  intro w0 ho hb0 hs0
  have HO := Lib.hid ho
  clear ho
  go_wp2_with fail
  go_loopw [20] (fun k wr => ∃ (i : Nat) (out : List Int), i ≤ xs.length ∧ k = .int .i64 i ∧ Hid (Own wr w.heap.size (.slice (some ⟨w.heap.size, 0, none⟩) (xs.length + ys.length) (xs.length + ys.length)) out) ∧ Hid (MulI xs ys i out) ∧ Below w.heap.size w wr) (fun k _ => xs.length - (intOf k).toNat)
  case atStart => exact ⟨0, _, by omega, rfl, HO.out, MulI.start _ _, hb0⟩
  case round =>
    obtain ⟨i, out, hi, rfl, HO', HA, hb⟩ := hrel
    by_cases hlt : i < xs.length
    · obtain ⟨g, rfl, -, -⟩ := H1.out.addr hlt
      have k1 := (H1.out.below hb (Nat.le_refl _)).cell i hlt
      have t1 : (i : Int) < xs.length := by omega
      obtain ⟨r11, r12⟩ := I1.out.lat i
      go_wp2_with fail
      clear k1
      obtain ⟨wo, hwo⟩ : ∃ wo : World, wo = wr := ⟨_, rfl⟩
      subst hwo
      go_loopw [8, 27] (fun c k wr => ∃ (j : Nat) (out' : List Int) (cr : Int), j ≤ ys.length ∧ k = .int .i64 j ∧ c = .int .i64 cr ∧ 0 ≤ cr ∧ cr < 1000000000 ∧ Hid (Own wr w.heap.size (.slice (some ⟨w.heap.size, 0, none⟩) (xs.length + ys.length) (xs.length + ys.length)) out') ∧ Hid (MulK out ys (lat xs i) i j out' cr) ∧ Below w.heap.size w wr) (fun _ k _ => ys.length - (intOf k).toNat)
      case atStart => exact ⟨0, out, 0, by omega, rfl, rfl, by omega, by omega, HO'.out, HA.out.inner, hb⟩
      case round =>
        obtain ⟨j, out', cr, hj, rfl, rfl, hc0, hc1, HO2, HK, hb2⟩ := hrel
        by_cases hlj : j < ys.length
        · obtain ⟨g', rfl, -, -⟩ := H2.out.addr hlj
          have k2 := (H2.out.below hb2 (Nat.le_refl _)).cell j hlj
          have hlo : i + j < out'.length := by rw [HK.out.len, HA.out.len]; omega
          have k3 := HO2.out.cell (i + j) hlo
          have z3 := HO2.out.frozen (i + j)
          have HST := Lib.hid (HO2.out.store (i + j) ((lat out' (i + j) + lat xs i * lat ys j + cr) % 1000000000))
          have HD := Lib.hid (HK.out.step ⟨r11, r12⟩ I2.out hlj (by rw [HA.out.len]; omega))
          obtain ⟨hst1, hst2⟩ := HD.out.car
          obtain ⟨r21, r22⟩ := I2.out.lat j
          obtain ⟨r31, r32⟩ := HK.out.inr.lat (i + j)
          obtain ⟨m1, m2⟩ := mul_bound r11 r12 r21 r22
          have t2 : (j : Int) < ys.length := by omega
          have t3 : (i : Int) + j < xs.length + ys.length := by omega
          go_wp2
          go_roundw
          case rel => exact ⟨j + 1, _, _, by omega, by go_num, rfl, hst1, hst2, HST.out.1, HD.out, hb2.setCell (Nat.le_refl _) _⟩
          case measure => (simp [intOf]) <;> omega
        · obtain rfl : j = ys.length := by omega
          have hlo : i + ys.length < out'.length := by rw [HK.out.len, HA.out.len]; omega
          have k3 := HO2.out.cell (i + ys.length) hlo
          have z3 := HO2.out.frozen (i + ys.length)
          obtain ⟨hz, hm⟩ := HA.out.step hlt HK.out
          rw [hz] at k3
          have HM := Lib.hid hm
          have HST := Lib.hid (HO2.out.store (i + ys.length) cr)
          clear hz hm
          have t3 : (i : Int) + ys.length < xs.length + ys.length := by omega
          go_wp2
          go_roundw
          case rel => exact ⟨i + 1, _, by omega, by go_num, HST.out.1, HM.out, hb2.setCell (Nat.le_refl _) _⟩
          case measure => (simp [intOf]) <;> omega
    · obtain rfl : i = xs.length := by omega
      have HV : Hid (nv out = (a * b : Nat)) := by
        have h := HA.out.done
        rw [EV.out, EV2.out] at h
        rw [Int.natCast_mul]
        exact h
      have HR : Hid (InR out) := HA.out.inr
      go_wp2_with fail
      refine (trim_c wr w.heap.size _ out (a * b) HO'.out HR.out HV.out).mono ?_
      rintro e w2 ⟨v, rfl, ho, _, hb2⟩
      have HO3 := Lib.hid ho
      clear ho
      go_wp2
      go_ret
      exact retS HO3.out rfl (hb.trans (hb2.mono hb.size))

end Go.Proofs.YtijeplcjbhkkoaaGreatDoor

/- The program's long division: natDiv. -/
namespace Go.Proofs.YtijeplcjbhkkoaaGreatDoor
open Go.RowKit Lm

set_option maxRecDepth 100000 in
set_option maxHeartbeats 1000000 in
theorem natDiv_small (w : World) (b1 b2 : Nat) (v1 v2 : Value) (a b : Nat) (h1 : Own w b1 v1 (limbs a)) (h2 : Own w b2 v2 (limbs b)) (hs1 : (limbs a).length ≤ 1000) (hab : a < b) :
    Calls Tryz.prog 73 #[v1, v2] w (RetSS w (limbs (a / b)) (limbs (a % b))) := by
  rw [Nat.div_eq_of_lt hab, Nat.mod_eq_of_lt hab]
  have e : cmp3 a b = -1 := by rw [cmp3, if_pos (by omega)]
  have HC := Lib.hid (natCmp_n w b1 b2 v1 v2 a b h1 h2)
  rw [e] at HC
  have H1 := Lib.hid h1
  clear e h1 h2
  go_enter Tryz.func73, Tryz.ntmps73
  go_wp2_with fail
  refine HC.out.mono ?_
  rintro e w1 ⟨rfl, hb1⟩
  go_wp2_with fail
  refine (copyInts_c w1 b1 v1 (limbs a) (H1.out.below hb1 (Nat.le_refl _)) (by omega)).mono ?_
  rintro e w2 ⟨v, rfl, ho, hb2⟩
  have HO := Lib.hid ho
  clear ho
  go_wp2
  go_ret2
  exact retSS (Own.nil _ _) (HO.out.mono hb1.size) rfl rfl (fun k hk => by cases hk) (hb1.trans (hb2.mono hb1.size))

set_option maxRecDepth 100000 in
set_option maxHeartbeats 1000000 in
theorem natDiv_one (w : World) (b1 b2 : Nat) (v1 v2 : Value) (a b : Nat) (h1 : Own w b1 v1 (limbs a)) (h2 : Own w b2 v2 (limbs b)) (hs1 : (limbs a).length ≤ 1000) (hab : b ≤ a) (hl : (limbs b).length = 1) :
    Calls Tryz.prog 73 #[v1, v2] w (RetSS w (limbs (a / b)) (limbs (a % b))) := by
  have hb0 : 0 < b := limbs_len_pos.1 (by omega)
  have hb1 : b < 1000000000 := by
    have := (limbs_len_le (n := b) (k := 1)).1 (by omega)
    simp only [pw] at this
    omega
  have el : limbs b = [(b : Int)] := limbs_small hb0 hb1
  rw [el] at h2
  have HC := Lib.hid (natCmp_n w b1 b2 v1 v2 a b h1 (by rw [el]; exact h2))
  have hc : 0 ≤ cmp3 a b := by
    rcases cmp3_cases a b with ⟨h, e⟩ | ⟨h, e⟩ | ⟨h, e⟩ <;> omega
  generalize cmp3 a b = c at *
  obtain ⟨a2, c2, rfl, -, -, -, -, -⟩ := h2.form
  obtain ⟨g, rfl, -, -⟩ := h2.addr (i := 0) (by simp)
  have H1 := Lib.hid h1
  have H2 := Lib.hid h2
  clear h1 h2 el hl
  go_enter Tryz.func73, Tryz.ntmps73
  go_wp2_with fail
  refine HC.out.mono ?_
  rintro e w1 ⟨rfl, hb1⟩
  have k1 := (H2.out.below hb1 (Nat.le_refl _)).cell 0 (by simp)
  rw [show lat [(b : Int)] 0 = b from rfl] at k1
  go_wp2_with fail
  refine (divSmall_c w1 b1 v1 a b (H1.out.below hb1 (Nat.le_refl _)) (by omega) hb0 (by omega)).mono ?_
  rintro e w2 ⟨q, r, rfl, hq, hr, hap, hb2⟩
  have HQ := Lib.hid hq; have HR := Lib.hid hr; have HA := Lib.hid hap
  clear hq hr hap
  go_wp2
  go_ret2
  exact retSS (HQ.out.mono hb1.size) (HR.out.mono hb1.size) rfl rfl HA.out (hb1.trans (hb2.mono hb1.size))

set_option maxRecDepth 100000 in
set_option maxHeartbeats 4000000 in
theorem natDiv_long (w : World) (b1 b2 : Nat) (v1 v2 : Value) (a b : Nat) (h1 : Own w b1 v1 (limbs a)) (h2 : Own w b2 v2 (limbs b)) (hs1 : (limbs a).length ≤ 1000) (hab : b ≤ a) (hl : 2 ≤ (limbs b).length) :
    Calls Tryz.prog 73 #[v1, v2] w (RetSS w (limbs (a / b)) (limbs (a % b))) := by
  have hlb := limbs_len_mono hab
  have HC := Lib.hid (natCmp_n w b1 b2 v1 v2 a b h1 h2)
  have hc : 0 ≤ cmp3 a b := by
    rcases cmp3_cases a b with ⟨h, e⟩ | ⟨h, e⟩ | ⟨h, e⟩ <;> omega
  generalize cmp3 a b = c at *
  obtain ⟨a1, c1, rfl, -, -, -, -, -⟩ := h1.form
  obtain ⟨a2, c2, rfl, -, -, -, -, -⟩ := h2.form
  obtain ⟨g, rfl, -, -⟩ := h2.addr (i := 0) (by omega)
  obtain ⟨ff1, ff2, ff3⟩ := factor_ok hl
  obtain ⟨ft1, ft2⟩ := (limbs_inR b).lat ((limbs b).length - 1)
  have hft : lat (limbs b) ((limbs b).length - 1) ≠ 0 := (limbs_norm b).2.resolve_left (by intro e; rw [e] at hl; simp at hl)
  have hft1 : 1 ≤ lat (limbs b) ((limbs b).length - 1) := by omega
  clear hft
  obtain ⟨f, hf⟩ : ∃ f : Nat, (f : Int) = 1000000000 / (lat (limbs b) ((limbs b).length - 1) + 1) := ⟨_, Int.toNat_of_nonneg (by omega)⟩
  obtain ⟨hyl, hf0⟩ := ff3 f hf
  have hf1 : f < 1000000000 := by omega
  have HF := Lib.hid hf; have HYL := Lib.hid hyl
  have H1 := Lib.hid h1
  have H2 := Lib.hid h2
  clear h1 h2 hf hyl ff1 ff2 ff3
  have hle1 : ((limbs b).length == 1) = false := by simp; omega
  go_enter Tryz.func73, Tryz.ntmps73
  go_wp2_with fail
  refine HC.out.mono ?_
  rintro e w1 ⟨rfl, hb1⟩
  have k1 := (H2.out.below hb1 (Nat.le_refl _)).cell ((limbs b).length - 1) (by omega)
  go_wp2_with fail
  rw [← HF.out]
  have hs2 : w.heap.size ≤ w1.heap.size := hb1.size
  refine (natMul_c _ b1 w1.heap.size _ _ a f ((H1.out.below hb1 (Nat.le_refl _)).alloc _) (by rw [limbs_small hf0 hf1]; exact Own.lit1 _ _) hs1 (by rw [limbs_small hf0 hf1]; simp)).mono ?_
  rintro e w2 ⟨vx, rfl, hox, hb2⟩
  have hb12 : Below w.heap.size w w2 := (hb1.alloc hs2 _).trans (hb2.mono (by simp; omega))
  have hs3 : w.heap.size ≤ w2.heap.size := hb12.size
  have HOX := Lib.hid (hox.mono (by simp; omega : w.heap.size ≤ _))
  clear hox hb2
  go_wp2_with fail
  refine (natMul_c _ b2 w2.heap.size _ _ b f ((H2.out.below hb12 (Nat.le_refl _)).alloc _) (by rw [limbs_small hf0 hf1]; exact Own.lit1 _ _) (by omega) (by rw [limbs_small hf0 hf1]; simp)).mono ?_
  rintro e w3 ⟨vy, rfl, hoy, hb3⟩
  have hb13 : Below w.heap.size w w3 := (hb12.alloc hs3 _).trans (hb3.mono (by simp; omega))
  have hs4 : w.heap.size ≤ w3.heap.size := hb13.size
  have HAP : Hid (Apart vx vy) := apart_new (HOX.out.alloc _) (.inr rfl) hoy
  have HOX3 := Lib.hid ((HOX.out.alloc (.cells #[.int .i64 f] 3)).below hb3 (Nat.le_refl _))
  have HOY := Lib.hid (hoy.mono (by simp; omega : w.heap.size ≤ _))
  clear hoy hb3 HOX hb12 hs3
  obtain ⟨ay, cy, rfl, -, -, -, -, -⟩ := HOY.out.form
  obtain ⟨gy, rfl, hgy, hgy2⟩ := HOY.out.addr (i := 0) (by rw [HYL.out]; omega)
  have hyl2 : 2 ≤ (limbs (b * f)).length := by rw [HYL.out]; exact hl
  have hxl : (limbs (a * f)).length ≤ (limbs a).length + 1 := by
    rw [limbs_len_le, pw_succ, Int.natCast_mul]
    have h1 := (limbs_inR a).lt
    rw [nv_limbs] at h1
    have h2 : (a : Int) * f ≤ a * 1000000000 := Int.mul_le_mul_of_nonneg_left (by omega) (by omega)
    omega
  have hyx : (limbs (b * f)).length = (limbs b).length := HYL.out
  have HYX := Lib.hid hyx
  clear hyx HYL
  have hyl3 : (limbs (b * f)).length ≤ (limbs a).length := by rw [HYX.out]; exact hlb
  have HEX : Hid (nv (limbs (a * f)) = (a * f : Nat)) := nv_limbs _
  have HIX : Hid (InR (limbs (a * f))) := limbs_inR _
  go_wp2_with fail
  go_loopw [7] (fun v wr => ∃ (ao : Option Addr) (cap : Nat) (xs : List Int), v = .slice ao xs.length cap ∧ xs.length ≤ (limbs a).length + 1 ∧ Hid (InR xs) ∧ Hid (nv xs = (a * f : Nat)) ∧ Hid (Own wr w.heap.size (.slice ao xs.length cap) xs) ∧ Hid (Apart (.slice ao xs.length cap) (.slice (some ⟨gy, 0, none⟩) (limbs (b * f)).length cy)) ∧ Hid (Own wr w.heap.size (.slice (some ⟨gy, 0, none⟩) (limbs (b * f)).length cy) (limbs (b * f))) ∧ Below w.heap.size w wr) (fun v _ => (limbs a).length + 1 - lenOf v)
  case atStart =>
    obtain ⟨ax, cx, rfl, -, -, -, -, -⟩ := HOX3.out.form
    exact ⟨ax, cx, _, rfl, hxl, HIX.out, HEX.out, HOX3.out, HAP.out, HOY.out, hb13⟩
  case round =>
    obtain ⟨ax, cx, xs, rfl, hxs, HI, HV, HOX4, HAP4, HOY4, hb⟩ := hrel
    have hsz := hb.size
    by_cases hlt : xs.length ≤ (limbs a).length
    · go_wp2_with (at_builtin; refine app_own rfl _ _ rfl _ _ w.heap.size wr.heap.size xs [0] rfl rfl (HOX4.out.alloc _) (Own.lit1 _ _) (by simp; omega) (by simp; omega) ?_)
      intro v' w' ho hg hat
      have hb' := (HOX4.out.alloc _).grownBelow (hb.alloc hsz _) hg (Nat.le_refl _) (by simp; omega)
      have hyk := HOY4.out.lt gy rfl
      have hap' : Apart v' (.slice (some ⟨gy, 0, none⟩) (limbs (b * f)).length cy) := by
        intro k hk hk2
        rcases hat with h | h
        · exact HAP4.out k (h ▸ hk) hk2
        · rw [h] at hk
          cases hk
          cases hk2
          simp at hyk
          omega
      have hoy' := (HOY4.out.alloc (.cells #[.int .i64 0] 3)).grown hg (.inr (fun h => HAP4.out gy h.symm rfl))
      obtain ⟨ao', cap', rfl, -, -, -, -, -⟩ := ho.form
      have HO' := Lib.hid ho; have HA' := Lib.hid hap'; have HY' := Lib.hid hoy'
      clear hg hat ho hap' hoy' hyk
      go_wp2
      go_roundw
      case rel => exact ⟨_, _, _, rfl, by simp; omega, HI.out.snoc (by omega) (by omega), pad_zero HV.out, HO'.out, HA'.out, HY'.out, hb'⟩
      case measure => simp [lenOf]; omega
    · have hxe : xs.length = (limbs a).length + 1 := by omega
      have HXE := Lib.hid hxe
      obtain ⟨gx, rfl, hgx, hgx2⟩ := HOX4.out.addr (i := 0) (by omega)
      have hne : gx ≠ gy := fun h => HAP4.out gx rfl (by rw [h]; rfl)
      clear hxe HOX3 HOY HAP
      go_wp2_with (at_make; refine make_ints rfl _ _ rfl _ _ _ _ (xs.length - (limbs (b * f)).length) rfl rfl (by omega) (by omega) (by omega) ?_)
      intro w4 hoo hb4 hs5
      have hb14 : Below w.heap.size w w4 := hb.trans (hb4.mono hsz)
      have HOO := Lib.hid (hoo.mono hsz)
      have HOX5 := Lib.hid (HOX4.out.below hb4 (Nat.le_refl _))
      have HOY5 := Lib.hid (HOY4.out.below hb4 (Nat.le_refl _))
      have hgx3 := hgx2
      have hgo1 : gx ≠ wr.heap.size := by omega
      have hgo2 : gy ≠ wr.heap.size := by have := (HOY4.out.lt gy rfl).2; omega
      have hgoB : w.heap.size ≤ wr.heap.size := hsz
      generalize wr.heap.size = go at *
      have hKI := KI.start (a := a) (b := b) (f := f) (x := xs) hab hf0 (limbs_len_pos.1 (by omega)) HYX.out HI.out HXE.out HV.out
      rw [show (limbs a).length + 1 - (limbs b).length = xs.length - (limbs (b * f)).length by rw [HXE.out, HYX.out]] at hKI
      have HKI := Lib.hid hKI
      clear hKI hoo hb4 HOX4 HOY4 hgx2 hgx3 HAP4 hb hs5 hgy2
      have HTN := Lib.hid (show (limbs (b * f)).length ≤ xs.length by have := HXE.out; omega)
      have HIY : Hid (InR (limbs (b * f))) := limbs_inR _
      have HNY : Hid (Norm (limbs (b * f))) := limbs_norm _
      have HY1 : Hid (nv (limbs (b * f)) = (b * f : Nat)) := nv_limbs _
      generalize hyy : limbs (b * f) = ys at *
      have HYY := Lib.hid hyy
      clear hyy
      have k2 := HOY5.out.cell (ys.length - 1) (by omega)
      have hxa : (limbs a).length < xs.length := by omega
      have hxb : xs.length ≤ 1001 := by omega
      obtain ⟨tp1, tp2⟩ := HIY.out.lat (ys.length - 1)
      have tp0 : lat ys (ys.length - 1) ≠ 0 := HNY.out.2.resolve_left (by intro e; rw [e] at hyl2; simp at hyl2)
      have tp3 : 1 ≤ lat ys (ys.length - 1) := by omega
      clear tp0 hlt hxs hyl3 hxl
      have tN := HTN.out
      obtain ⟨top, htp⟩ : ∃ t, lat ys (ys.length - 1) = t := ⟨_, rfl⟩
      have HTOP := Lib.hid htp
      rw [htp] at k2 tp1 tp2 tp3
      clear htp
      go_wp2_with fail
      go_loopw [12] (fun k wr => ∃ (K : Nat) (X O : List Int), K ≤ xs.length - ys.length ∧ k = .int .i64 ((K : Int) - 1) ∧ X.length = xs.length ∧ O.length = xs.length - ys.length ∧ Hid (Own wr w.heap.size (.slice (some ⟨gx, 0, none⟩) xs.length cx) X) ∧ Hid (Own wr w.heap.size (.slice (some ⟨gy, 0, none⟩) ys.length cy) ys) ∧ Hid (Own wr w.heap.size (.slice (some ⟨go, 0, none⟩) (xs.length - ys.length) (xs.length - ys.length)) O) ∧ Hid (KI ys (a * f : Nat) K X O) ∧ Below w.heap.size w wr) (fun k _ => (intOf k + 1).toNat)
      case atStart => exact ⟨xs.length - ys.length, xs, _, Nat.le_refl _, by congr 1; omega, rfl, by simp, HOX5.out, HOY5.out, HOO.out, HKI.out, hb14⟩
      case round =>
        obtain ⟨K, X, O, hK, rfl, hXl, hOl, HX, HY, HO, HK, hb⟩ := hrel
        clear HOX5 HOY5 HOO HKI hb14 k2
        by_cases h0 : 0 < K
        · obtain ⟨k, rfl⟩ : ∃ k, K = k + 1 := ⟨K - 1, by omega⟩
          have hkO : k < O.length := by omega
          have hkn : k + ys.length < xs.length := by omega
          have c0 := HX.out.cell (k + ys.length) (by omega)
          have c1' := HX.out.cell (k + ys.length - 1) (by omega)
          have c2' := HX.out.cell (k + ys.length - 2) (by omega)
          have d2 := HY.out.cell (ys.length - 2) (by omega)
          obtain ⟨x01, x02⟩ := HK.out.ix.lat (k + ys.length)
          obtain ⟨x11, x12⟩ := HK.out.ix.lat (k + ys.length - 1)
          obtain ⟨x21, x22⟩ := HK.out.ix.lat (k + ys.length - 2)
          obtain ⟨y21, y22⟩ := HIY.out.lat (ys.length - 2)
          have htop := HK.out.topLe HIY.out hyl2 hkO
          have HQ0 := Lib.hid (QI.start HK.out HIY.out hyl2 hkO (by rw [HTOP.out]; omega))
          rw [HTOP.out] at HQ0 htop
          have hkn' : (k : Int) + ys.length < xs.length := by omega
          have hyl2' : (2 : Int) ≤ ys.length := by omega
          have hz1 : (top == 0) = false := beq_eq_false_iff_ne.2 (by omega)
          have e1 : IntKind.i64.wrap ((k : Int) + ys.length) = (k : Int) + ys.length := IntWalk.i64_in _ (by omega)
          have e2 : IntKind.i64.wrap ((k : Int) + ys.length - 1) = (k : Int) + ys.length - 1 := IntWalk.i64_in _ (by omega)
          have e3 : IntKind.i64.wrap ((k : Int) + ys.length - 2) = (k : Int) + ys.length - 2 := IntWalk.i64_in _ (by omega)
          rw [show ((k + 1 : Nat) : Int) - 1 = (k : Int) by omega]
          go_wp2_with fail
          go_quiet (fail)
          go_wp2_with fail
          have htwo0 : 0 ≤ lat X (k + ys.length) * 1000000000 + lat X (k + ys.length - 1) := by omega
          have htwo1 : lat X (k + ys.length) * 1000000000 + lat X (k + ys.length - 1) < (top + 1) * 1000000000 := by omega
          have QH := fun q r (h : QI _ _ _ _ q r) => QI.high (q := q) (r := r) HK.out HIY.out hyl2 hkO h
          have QL := fun q r (h : QI _ _ _ _ q r) => QI.low (q := q) (r := r) HK.out HIY.out hyl2 hkO (by rw [HTOP.out]; omega) h
          rw [HTOP.out] at QH QL
          clear htop x01 x02 x11 x12 c0 c1'
          generalize lat X (k + ys.length) * 1000000000 + lat X (k + ys.length - 1) = two at *
          generalize lat ys (ys.length - 2) = ysec at *
          generalize lat X (k + ys.length - 2) = xsec at *
          have QHH := Lib.hid QH; have QLH := Lib.hid QL
          clear QH QL
          go_quiet (fail)
          go_upto_block 4 with (fail)
          go_cut [14, 15] (fun q r wc => ∃ (qi ri : Int) (m : Nat), q = .int .i64 qi ∧ r = .int .i64 ri ∧ 0 ≤ qi ∧ qi < 1000000000 ∧ Hid (nv (X.drop k) < (qi + 1) * nv ys) ∧ Hid ((qi - 1) * nv ys ≤ nv (X.drop k)) ∧ wc = wr.drewN m)
          case first =>
            go_wp2_with fail
            go_loopw [14, 15] (fun q r wc => ∃ (qi ri : Int) (m : Nat), q = .int .i64 qi ∧ r = .int .i64 ri ∧ 0 ≤ qi ∧ qi < 2000000000 ∧ 0 ≤ ri ∧ ri < 1000000000 ∧ Hid (QI (nv (X.drop k)) (nv ys) two top qi ri) ∧ wc = wr.drewN m) (fun q _ _ => (intOf q).toNat)
            case atStart => exact ⟨_, _, _, rfl, rfl, HQ0.out.q0, HQ0.out.bound (by omega) htwo1, HQ0.out.r0, by have := Int.emod_lt_of_pos two (show 0 < top by omega); omega, HQ0.out, World.drewN_drewN _ _ _⟩
            case round =>
              obtain ⟨qi, ri, m, rfl, rfl, q0, q1, r0, r1, HQ, rfl⟩ := hrel
              clear HQ0
              by_cases hqb : 1000000000 ≤ qi
              · have hd1 : decide ((1000000000 : Int) ≤ qi) = true := by simpa using hqb
                obtain ⟨hq1, hDlt⟩ := (QHH.out qi ri HQ.out (.inl hqb) : 1 ≤ qi ∧ _)
                have HDN := Lib.hid (HQ.out.down (by omega) hq1 hDlt)
                clear hDlt
                by_cases hbr : 1000000000 ≤ ri + top
                · have hql := HDN.out.broke htwo1 (by omega) hbr
                  go_wp2_with fail
                  go_quiet (fail)
                  go_wp2_with fail
                  go_meet
                  exact ⟨qi - 1, ri + top, _, rfl, rfl, by omega, by omega, HDN.out.hi, QLH.out _ _ HDN.out (by omega) (.inl hbr), rfl⟩
                · go_wp2_with fail
                  go_quiet (fail)
                  go_wp2_with fail
                  go_roundw
                  case rel => exact ⟨qi - 1, ri + top, _, rfl, rfl, by omega, by omega, by omega, by omega, HDN.out, rfl⟩
                  case measure => (simp [intOf]) <;> omega
              · have hd1 : decide ((1000000000 : Int) ≤ qi) = false := by simpa using hqb
                obtain ⟨m1, m2⟩ := mul_bound q0 (by omega) y21 y22
                by_cases hcm : ri * 1000000000 + xsec < qi * ysec
                · have hd2 : decide (ri * 1000000000 + xsec < qi * ysec) = true := by simpa using hcm
                  obtain ⟨hq1, hDlt⟩ := (QHH.out qi ri HQ.out (.inr hcm) : 1 ≤ qi ∧ _)
                  have HDN := Lib.hid (HQ.out.down (by omega) hq1 hDlt)
                  clear hDlt
                  by_cases hbr : 1000000000 ≤ ri + top
                  · have hql := HDN.out.broke htwo1 (by omega) hbr
                    go_wp2_with fail
                    go_quiet (fail)
                    go_wp2_with fail
                    go_meet
                    exact ⟨qi - 1, ri + top, _, rfl, rfl, by omega, by omega, HDN.out.hi, QLH.out _ _ HDN.out (by omega) (.inl hbr), rfl⟩
                  · go_wp2_with fail
                    go_quiet (fail)
                    go_wp2_with fail
                    go_roundw
                    case rel => exact ⟨qi - 1, ri + top, _, rfl, rfl, by omega, by omega, by omega, by omega, HDN.out, rfl⟩
                    case measure => (simp [intOf]) <;> omega
                · have hd2 : decide (ri * 1000000000 + xsec < qi * ysec) = false := by simpa using hcm
                  go_wp2_with fail
                  go_quiet (fail)
                  go_wp2_with fail
                  go_meet
                  exact ⟨qi, ri, _, rfl, rfl, by omega, by omega, HQ.out.hi, QLH.out _ _ HQ.out (by omega) (.inr (by omega)), World.drewN_drewN _ _ _⟩
          case rest =>
            obtain ⟨qi, ri, m, rfl, rfl, q0, q1, HHI, HLO, hwc⟩ := hcut
            have hbc : Below w.heap.size w wc := by rw [hwc]; exact ⟨hb.os, hb.tape, hb.output, hb.size, hb.block⟩
            have HXc : Hid (Own wc w.heap.size (.slice (some ⟨gx, 0, none⟩) xs.length cx) X) := by rw [hwc]; exact HX.out
            have HYc : Hid (Own wc w.heap.size (.slice (some ⟨gy, 0, none⟩) ys.length cy) ys) := by rw [hwc]; exact HY.out
            have HOc : Hid (Own wc w.heap.size (.slice (some ⟨go, 0, none⟩) (xs.length - ys.length) (xs.length - ys.length)) O) := by rw [hwc]; exact HO.out
            clear hwc HX HY HO hb c2' d2 HQ0 QHH QLH htwo0 htwo1 y21 y22 x21 x22
            go_wp2_with fail
            obtain ⟨wo, hwo⟩ : ∃ wo : World, wo = wc := ⟨_, rfl⟩
            subst hwo
            go_loopw [16, 136] (fun c i wr => ∃ (j : Nat) (X' : List Int) (br : Int), j ≤ ys.length ∧ i = .int .i64 j ∧ c = .int .i64 br ∧ 0 ≤ br ∧ br < 1000000000 ∧ Hid (Own wr w.heap.size (.slice (some ⟨gx, 0, none⟩) xs.length cx) X') ∧ Hid (Own wr w.heap.size (.slice (some ⟨gy, 0, none⟩) ys.length cy) ys) ∧ Hid (Own wr w.heap.size (.slice (some ⟨go, 0, none⟩) (xs.length - ys.length) (xs.length - ys.length)) O) ∧ Hid (SubMul X ys qi k j X' br) ∧ Below w.heap.size w wr) (fun _ i _ => ys.length - (intOf i).toNat)
            case atStart => exact ⟨0, X, 0, by omega, rfl, rfl, by omega, by omega, HXc.out, HYc.out, HOc.out, SubMul.start _ _ _ HK.out.ix, hbc⟩
            case round =>
              obtain ⟨j, X', br, hj, rfl, rfl, hb0, hb1, HX, HY, HO, HS, hb⟩ := hrel
              have hxl' := HS.out.len
              rw [hXl] at hxl'
              by_cases hjl : j < ys.length
              · have c1' := HX.out.cell (k + j) (by omega)
                have c2' := HY.out.cell j hjl
                have z1 := HX.out.frozen (k + j)
                obtain ⟨x11, x12⟩ := HS.out.inr.lat (k + j)
                obtain ⟨y11, y12⟩ := HIY.out.lat j
                obtain ⟨m1, m2⟩ := mul_bound q0 q1 y11 y12
                have HBS := Lib.hid (borrow_step (s := lat X' (k + j) - qi * lat ys j - br) rfl ⟨x11, x12⟩ ⟨q0, q1⟩ ⟨y11, y12⟩ ⟨hb0, hb1⟩)
                have hkj : (k : Int) + j < xs.length := by omega
                have hjl' : (j : Int) < ys.length := by omega
                have e1 : IntKind.i64.wrap ((k : Int) + j) = (k : Int) + j := IntWalk.i64_in _ (by omega)
                by_cases hneg : lat X' (k + j) - qi * lat ys j - br < 0
                · obtain ⟨s1, s2, s3⟩ := HBS.out
                  obtain ⟨t1, t2, t3, t4⟩ := s3 hneg
                  clear s3 HBS
                  go_wp2_with fail
                  go_quiet (fail)
                  go_wp2_with fail
                  go_roundw
                  case rel => exact ⟨j + 1, _, _, by omega, by go_num, rfl, t1, t2, ((HX.out.drawn nq).store (k + j) _).1, (HY.out.drawn nq).other hne.symm _ _, (HO.out.drawn nq).other hgo1.symm _ _, HS.out.step (by omega) t3 t4 t1 t2 (by omega), (below_dr hb nq).setCell (by exact hgx) _⟩
                  case measure => (simp [intOf]) <;> omega
                · obtain ⟨s1, s2, s3⟩ := HBS.out
                  clear s3 HBS
                  go_wp2_with fail
                  go_quiet (fail)
                  go_wp2_with fail
                  go_roundw
                  case rel => exact ⟨j + 1, _, 0, by omega, by go_num, rfl, by omega, by omega, ((HX.out.drawn nq).store (k + j) _).1, (HY.out.drawn nq).other hne.symm _ _, (HO.out.drawn nq).other hgo1.symm _ _, HS.out.step (by omega) (by omega) (by omega) (by omega) (by omega) (by omega), (below_dr hb nq).setCell (by exact hgx) _⟩
                  case measure => (simp [intOf]) <;> omega
              · obtain rfl : j = ys.length := by omega
                have c1' := HX.out.cell (k + ys.length) (by omega)
                have z1 := HX.out.frozen (k + ys.length)
                obtain ⟨x11, x12⟩ := HS.out.inr.lat (k + ys.length)
                by_cases hneg : lat X' (k + ys.length) - br < 0
                · have HXS := Lib.hid ((HX.out.store (k + ys.length) (lat X' (k + ys.length) - br)).1)
                  have HYS := Lib.hid (HY.out.other hne.symm (k + ys.length) (.int .i64 (lat X' (k + ys.length) - br)))
                  have HOS := Lib.hid (HO.out.other hgo1.symm (k + ys.length) (.int .i64 (lat X' (k + ys.length) - br)))
                  have HBS := Lib.hid (hb.setCell (p := ⟨gx, k + ys.length, none⟩) hgx (.int .i64 (lat X' (k + ys.length) - br)))
                  have HIB : Hid (InB (X'.set (k + ys.length) (lat X' (k + ys.length) - br)) (k + ys.length)) := by
                    intro i hi
                    rw [lat_set_other (by omega)]
                    exact HS.out.inr.lat i
                  go_wp2_with fail
                  clear c1' z1
                  obtain ⟨wo, hwo⟩ : ∃ wo : World, wo = wr := ⟨_, rfl⟩
                  subst hwo
                  go_loopw [19, 189] (fun c i wr => ∃ (j : Nat) (X3 : List Int) (cr : Int), j ≤ ys.length ∧ i = .int .i64 j ∧ c = .int .i64 cr ∧ 0 ≤ cr ∧ cr ≤ 1 ∧ Hid (Own wr w.heap.size (.slice (some ⟨gx, 0, none⟩) xs.length cx) X3) ∧ Hid (Own wr w.heap.size (.slice (some ⟨gy, 0, none⟩) ys.length cy) ys) ∧ Hid (Own wr w.heap.size (.slice (some ⟨go, 0, none⟩) (xs.length - ys.length) (xs.length - ys.length)) O) ∧ Hid (AddB (X'.set (k + ys.length) (lat X' (k + ys.length) - br)) ys k j X3 cr) ∧ Below w.heap.size w wr) (fun _ i _ => ys.length - (intOf i).toNat)
                  case atStart => exact ⟨0, _, 0, by omega, rfl, rfl, by omega, by omega, HXS.out, HYS.out, HOS.out, AddB.start HIB.out, HBS.out⟩
                  case round =>
                    obtain ⟨j, X3, cr, hj, rfl, rfl, hc0, hc1, HX, HY, HO, HR, hb⟩ := hrel
                    have hxl3 := HR.out.len
                    rw [List.length_set, hxl'] at hxl3
                    by_cases hjl : j < ys.length
                    · have c1' := HX.out.cell (k + j) (by omega)
                      have c2' := HY.out.cell j hjl
                      have z1 := HX.out.frozen (k + j)
                      obtain ⟨x31, x32⟩ := HR.out.inb (k + j) (by omega)
                      obtain ⟨y11, y12⟩ := HIY.out.lat j
                      have hkj : (k : Int) + j < xs.length := by omega
                      have hjl' : (j : Int) < ys.length := by omega
                      have e1 : IntKind.i64.wrap ((k : Int) + j) = (k : Int) + j := IntWalk.i64_in _ (by omega)
                      by_cases hbig : 1000000000 ≤ lat X3 (k + j) + lat ys j + cr
                      · go_wp2_with fail
                        go_quiet (fail)
                        go_wp2_with fail
                        go_roundw
                        case rel => exact ⟨j + 1, _, 1, by omega, by go_num, rfl, by omega, by omega, ((HX.out.drawn nq).store (k + j) _).1, (HY.out.drawn nq).other hne.symm _ _, (HO.out.drawn nq).other hgo1.symm _ _, HR.out.step hjl (by rw [List.length_set]; omega) (by omega) (by omega) (by omega) (by omega), (below_dr hb nq).setCell (by exact hgx) _⟩
                        case measure => (simp [intOf]) <;> omega
                      · go_wp2_with fail
                        go_quiet (fail)
                        go_wp2_with fail
                        go_roundw
                        case rel => exact ⟨j + 1, _, 0, by omega, by go_num, rfl, by omega, by omega, ((HX.out.drawn nq).store (k + j) _).1, (HY.out.drawn nq).other hne.symm _ _, (HO.out.drawn nq).other hgo1.symm _ _, HR.out.step hjl (by rw [List.length_set]; omega) (by omega) (by omega) (by omega) (by omega), (below_dr hb nq).setCell (by exact hgx) _⟩
                        case measure => (simp [intOf]) <;> omega
                    · obtain rfl : j = ys.length := by omega
                      obtain ⟨hq1, hX3, hKI⟩ := digit_back HK.out HIY.out hkO q0 q1 HLO.out HS.out hneg rfl HR.out
                      have HKS := Lib.hid hKI
                      have HX3 := Lib.hid hX3
                      have c1' := HX.out.cell (k + ys.length) (by omega)
                      have z1 := HX.out.frozen (k + ys.length)
                      have x31 : -1000000001 ≤ lat X3 (k + ys.length) := by omega
                      have x32 : lat X3 (k + ys.length) < 1000000000 := by omega
                      have c3 := HO.out.cell k hkO
                      have z3 := HO.out.frozen k
                      have hgo3 := hgo1.symm
                      clear hX3 hKI
                      go_wp2_with fail
                      go_roundw
                      case rel => exact ⟨k, _, _, by omega, by go_num, by simp; omega, by simp; omega, (HX.out.store (k + ys.length) _).1.other hgo1 _ _, (HY.out.other hne.symm _ _).other hgo2 _ _, ((HO.out.other hgo1.symm _ _).store k _).1, HKS.out, (hb.setCell (by exact hgx) _).setCell (by exact hgoB) _⟩
                      case measure => (simp [intOf]) <;> omega
                · have HKS := Lib.hid (digit_done HK.out HIY.out hkO q0 q1 HHI.out HS.out (by omega))
                  have c3 := HO.out.cell k hkO
                  have z3 := HO.out.frozen k
                  have hgo3 := hgo1.symm
                  go_wp2_with fail
                  go_roundw
                  case rel => exact ⟨k, _, _, by omega, by go_num, by simp; omega, by simp; omega, (HX.out.store (k + ys.length) _).1.other hgo1 _ _, (HY.out.other hne.symm _ _).other hgo2 _ _, ((HO.out.other hgo1.symm _ _).store k _).1, HKS.out, (hb.setCell (by exact hgx) _).setCell (by exact hgoB) _⟩
                  case measure => (simp [intOf]) <;> omega
        · obtain rfl : K = 0 := by omega
          have hke := HK.out
          rw [← HYY.out] at hke
          have HRS := Lib.hid (KI.result hf0 (limbs_len_pos.1 (by omega)) hke)
          clear hke
          have HIX' : Hid (InR X) := HK.out.ix
          have HIO' : Hid (InR O) := HK.out.io
          go_wp2_with fail
          refine (trim_c wr w.heap.size _ X (a % b * f) HX.out HIX'.out HRS.out.2).mono ?_
          rintro e w5 ⟨v, rfl, ho, hob, hb2⟩
          have HO3 := Lib.hid ho
          clear ho hob
          go_wp2_with fail
          have hb15 := hb.trans (hb2.mono hb.size)
          have HO5 := Lib.hid (HO.out.below hb2 (Nat.le_refl _))
          have hgo5 := (HO5.out.lt go rfl).2
          refine (divSmall_c w5 w.heap.size v (a % b * f) f HO3.out ?_ hf0 hf1).mono ?_
          · have h1 : (limbs (a % b * f)).length ≤ (limbs (b * f)).length := limbs_len_mono (Nat.mul_le_mul_right _ (Nat.le_of_lt (Nat.mod_lt _ (limbs_len_pos.1 (by omega)))))
            rw [HYY.out] at h1
            have h2 := HYX.out
            omega
          rintro e w6 ⟨q, r, rfl, hq, hr, hap, hb3⟩
          have HQ := Lib.hid hq
          have hb16 := hb15.trans (hb3.mono hb15.size)
          have HO6 := Lib.hid (HO5.out.below hb3 (Nat.le_refl _))
          clear hq hr hap
          go_wp2_with fail
          refine (trim_c w6 w.heap.size _ O (a / b) HO6.out HIO'.out HRS.out.1).mono ?_
          rintro e w7 ⟨v', rfl, ho, hob, hb4⟩
          have HO7 := Lib.hid ho
          have HOB := Lib.hid hob
          clear ho hob
          go_wp2_with fail
          go_ret2
          have e1 : a % b * f / f = a % b := Nat.mul_div_cancel _ hf0
          have hqq := HQ.out
          rw [e1] at hqq
          have ha : Apart v' q := by
            intro j hj hq'
            have h2 := (hqq.lt j hq').1
            rcases HOB.out with h | h
            · rw [h] at hj; cases hj
            · rw [h] at hj
              have : go = j := Option.some.inj hj
              omega
          exact retSS HO7.out ((hqq.below hb4 (Nat.le_refl _)).mono hb15.size) rfl rfl ha (hb16.trans (hb4.mono hb16.size))

theorem natDiv_c (w : World) (b1 b2 : Nat) (v1 v2 : Value) (a b : Nat) (h1 : Own w b1 v1 (limbs a)) (h2 : Own w b2 v2 (limbs b)) (hs1 : (limbs a).length ≤ 1000) (hb : 0 < b) :
    Calls Tryz.prog 73 #[v1, v2] w (RetSS w (limbs (a / b)) (limbs (a % b))) := by
  by_cases hab : a < b
  · exact natDiv_small w b1 b2 v1 v2 a b h1 h2 hs1 hab
  · by_cases hl : (limbs b).length = 1
    · exact natDiv_one w b1 b2 v1 v2 a b h1 h2 hs1 (by omega) hl
    · have := limbs_len_pos.2 hb
      exact natDiv_long w b1 b2 v1 v2 a b h1 h2 hs1 (by omega) (by omega)

end Go.Proofs.YtijeplcjbhkkoaaGreatDoor

/- The program's greatest common divisor: natGcd. -/
namespace Go.Proofs.YtijeplcjbhkkoaaGreatDoor
open Go.RowKit Lm

set_option maxHeartbeats 1000000 in
theorem natGcd_c (w : World) (b1 b2 : Nat) (v1 v2 : Value) (a b : Nat) (h1 : Own w b1 v1 (limbs a)) (h2 : Own w b2 v2 (limbs b)) (hs1 : (limbs a).length ≤ 1000) (hs2 : (limbs b).length ≤ 1000) (ha : 0 < a) :
    Calls Tryz.prog 40 #[v1, v2] w (RetS w (limbs (Nat.gcd a b))) := by
  obtain ⟨a1, c1, rfl, -, -, -, -, -⟩ := h1.form
  obtain ⟨a2, c2, rfl, -, -, -, -, -⟩ := h2.form
  have H1 := Lib.hid (h1.mono (Nat.zero_le _)); have H2 := Lib.hid (h2.mono (Nat.zero_le _))
  clear h1 h2
  go_enter Tryz.func40, Tryz.ntmps40
  go_wp2
  go_loopg [0, 1] b (fun y v0 v1 wr => ∃ (x : Nat) (a1 a2 : Option Addr) (c1 c2 : Nat), v0 = .slice a1 (limbs x).length c1 ∧ v1 = .slice a2 (limbs y).length c2 ∧ 0 < x ∧ (limbs x).length ≤ 1000 ∧ (limbs y).length ≤ 1000 ∧ Hid (Own wr 0 (.slice a1 (limbs x).length c1) (limbs x)) ∧ Hid (Own wr 0 (.slice a2 (limbs y).length c2) (limbs y)) ∧ Hid (Nat.gcd x y = Nat.gcd a b) ∧ Below w.heap.size w wr)
  case atStart => exact ⟨a, a1, a2, c1, c2, rfl, rfl, ha, hs1, hs2, H1.out, H2.out, rfl, Below.refl _ _⟩
  case round =>
    clear H1 H2
    obtain ⟨x, a1, a2, c1, c2, rfl, rfl, hx, hl1, hl2, H1, H2, HG, hb⟩ := hrel
    have hsz := hb.size
    by_cases hgo : 1 < (limbs gk).length ∨ 1 < (limbs x).length ∧ 0 < (limbs gk).length
    · have hy : 0 < gk := by
        rw [← limbs_len_pos]; omega
      have HD := Lib.hid (natDiv_c wr 0 0 _ _ x gk H1.out H2.out hl1 hy)
      have hl3 : (limbs (x % gk)).length ≤ 1000 := Nat.le_trans (limbs_len_mono (Nat.le_of_lt (Nat.mod_lt _ hy))) hl2
      by_cases hb1 : 1 < (limbs gk).length
      · have d1 : decide ((1 : Int) < (limbs gk).length) = true := decide_eq_true (by omega)
        have d1' : decide (1 < (limbs gk).length) = true := decide_eq_true (by omega)
        clear hgo
        go_wp2_with fail
        refine HD.out.mono ?_
        rintro e w2 ⟨q, r, rfl, hq, hr, -, hb2⟩
        obtain ⟨ar, cr, rfl, -, -, -, -, -⟩ := hr.form
        have HR := Lib.hid (hr.mono (Nat.zero_le _))
        clear hq hr
        go_wp2_with fail
        go_roundg (x % gk)
        case rel => exact ⟨gk, a2, ar, c2, cr, rfl, rfl, hy, hl2, hl3, H2.out.below hb2 (Nat.le_refl _), HR.out, by have := HG.out; unfold Hid; rw [← this, Nat.gcd_comm x gk, Nat.gcd_comm gk (x % gk)]; exact (Nat.gcd_rec gk x).symm, hb.trans (hb2.mono hsz)⟩
        case measure => exact Nat.mod_lt _ hy
      · have d1 : decide ((1 : Int) < (limbs gk).length) = false := decide_eq_false (by omega)
        have d1' : decide (1 < (limbs gk).length) = false := decide_eq_false (by omega)
        have d2 : decide ((1 : Int) < (limbs x).length) = true := decide_eq_true (by omega)
        have d2' : decide (1 < (limbs x).length) = true := decide_eq_true (by omega)
        have d3 : decide ((0 : Int) < (limbs gk).length) = true := decide_eq_true (by omega)
        have d3' : decide (0 < (limbs gk).length) = true := decide_eq_true (by omega)
        clear hgo
        go_wp2_with fail
        refine HD.out.mono ?_
        rintro e w2 ⟨q, r, rfl, hq, hr, -, hb2⟩
        obtain ⟨ar, cr, rfl, -, -, -, -, -⟩ := hr.form
        have HR := Lib.hid (hr.mono (Nat.zero_le _))
        clear hq hr
        go_wp2_with fail
        go_roundg (x % gk)
        case rel => exact ⟨gk, a2, ar, c2, cr, rfl, rfl, hy, hl2, hl3, H2.out.below hb2 (Nat.le_refl _), HR.out, by have := HG.out; unfold Hid; rw [← this, Nat.gcd_comm x gk, Nat.gcd_comm gk (x % gk)]; exact (Nat.gcd_rec gk x).symm, hb.trans (hb2.mono hsz)⟩
        case measure => exact Nat.mod_lt _ hy
    · have d1 : decide ((1 : Int) < (limbs gk).length) = false := decide_eq_false (by omega)
      have d1' : decide (1 < (limbs gk).length) = false := decide_eq_false (by omega)
      by_cases hb0 : (limbs gk).length = 0
      · have hg0 : gk = 0 := limbs_nil.1 (List.length_eq_zero_iff.1 hb0)
        subst hg0
        have HE : Hid (x = Nat.gcd a b) := by have := HG.out; rw [Nat.gcd_zero_right] at this; exact this
        have HC := Lib.hid (copyInts_c wr 0 _ (limbs x) H1.out (by omega))
        have d3 : ((limbs 0).length == 0) = true := rfl
        by_cases hx1 : 1 < (limbs x).length
        · have d2 : decide ((1 : Int) < (limbs x).length) = true := decide_eq_true (by omega)
          have d2' : decide (1 < (limbs x).length) = true := decide_eq_true (by omega)
          clear hgo hb0
          go_wp2_with fail
          refine HC.out.mono ?_
          rintro e w2 ⟨v, rfl, ho, hb2⟩
          have HO := Lib.hid ho
          clear ho
          go_wp2
          go_ret
          exact retS (HO.out.mono hsz) (by rw [← HE.out]) (hb.trans (hb2.mono hsz))
        · have d2 : decide ((1 : Int) < (limbs x).length) = false := decide_eq_false (by omega)
          have d2' : decide (1 < (limbs x).length) = false := decide_eq_false (by omega)
          clear hgo hb0
          go_wp2_with fail
          refine HC.out.mono ?_
          rintro e w2 ⟨v, rfl, ho, hb2⟩
          have HO := Lib.hid ho
          clear ho
          go_wp2
          go_ret
          exact retS (HO.out.mono hsz) (by rw [← HE.out]) (hb.trans (hb2.mono hsz))
      · have d2 : decide ((1 : Int) < (limbs x).length) = false := decide_eq_false (by omega)
        have d2' : decide (1 < (limbs x).length) = false := decide_eq_false (by omega)
        have d3 : ((limbs gk).length == 0) = false := beq_eq_false_iff_ne.2 hb0
        have d3' : (((limbs gk).length : Int) == 0) = false := beq_eq_false_iff_ne.2 (by omega)
        have hx2 : x < 1000000000 := by
          have := (limbs_len_le (n := x) (k := 1)).1 (by omega)
          simp only [pw] at this; omega
        have hy2 : gk < 1000000000 := by
          have := (limbs_len_le (n := gk) (k := 1)).1 (by omega)
          simp only [pw] at this; omega
        have hy1 : 0 < gk := limbs_len_pos.1 (by omega)
        obtain ⟨g1, rfl, -, -⟩ := H1.out.addr (i := 0) (limbs_len_pos.2 hx)
        obtain ⟨g2, rfl, -, -⟩ := H2.out.addr (i := 0) (limbs_len_pos.2 hy1)
        have k1 := H1.out.cell 0 (limbs_len_pos.2 hx)
        have k2 := H2.out.cell 0 (limbs_len_pos.2 hy1)
        rw [show lat (limbs x) 0 = (x : Int) by rw [limbs_small hx hx2]; rfl] at k1
        rw [show lat (limbs gk) 0 = (gk : Int) by rw [limbs_small hy1 hy2]; rfl] at k2
        have t1 : (0 : Int) < (limbs x).length := by have := limbs_len_pos.2 hx; omega
        have t2 : (0 : Int) < (limbs gk).length := by have := limbs_len_pos.2 hy1; omega
        have t1' : 0 < (limbs x).length := by omega
        have t2' : 0 < (limbs gk).length := by omega
        clear hgo hb0
        go_wp2_with fail
        go_quiet (fail)
        go_wp2_with fail
        clear k1 k2
        have hdw : Below w.heap.size w (wr.drewN nq) := below_dr hb nq
        generalize wr.drewN nq = wo at *
        go_loopw [7, 8] (fun s t wr => ∃ (p q : Nat), s = .int .i64 p ∧ t = .int .i64 q ∧ 0 < p ∧ p < 1000000000 ∧ q < 1000000000 ∧ Hid (Nat.gcd p q = Nat.gcd a b) ∧ Below w.heap.size w wr) (fun _ t _ => (intOf t).toNat)
        case atStart => exact ⟨x, gk, rfl, rfl, hx, hx2, hy2, HG.out, hdw⟩
        case round =>
          obtain ⟨p, q, rfl, rfl, hp, hp2, hq2, HG2, hb2⟩ := hrel
          by_cases hq : q = 0
          · subst hq
            have HE : Hid (p = Nat.gcd a b) := by have := HG2.out; rw [Nat.gcd_zero_right] at this; exact this
            have HL := Lib.hid (Own.lit1 wr p)
            have hs2 := hb2.size
            go_wp2
            go_ret
            exact retS (HL.out.mono hs2) (by rw [← HE.out, limbs_small hp hp2]) (hb2.alloc hs2 _)
          · have hz : ((q : Int) == 0) = false := beq_eq_false_iff_ne.2 (by omega)
            have hz' : ((q : Int) != 0) = true := by rw [bne_iff_ne]; omega
            have hq0 : 0 < q := by omega
            have t1 : (1 : Int) ≤ q := by omega
            clear hq
            go_wp2_with fail
            go_quiet (fail)
            go_wp2_with fail
            go_roundw
            case rel => exact ⟨q, p % q, rfl, by congr 1, hq0, hq2, by have := Nat.mod_lt p hq0; omega, by have := HG2.out; unfold Hid; rw [← this, Nat.gcd_comm p q, Nat.gcd_comm q (p % q)]; exact (Nat.gcd_rec q p).symm, below_dr hb2 _⟩
            case measure => have := Nat.mod_lt p hq0; simp [intOf]; omega

end Go.Proofs.YtijeplcjbhkkoaaGreatDoor
