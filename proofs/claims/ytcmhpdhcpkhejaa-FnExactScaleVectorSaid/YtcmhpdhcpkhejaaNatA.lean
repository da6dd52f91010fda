/- The program's functions on natural numbers: natCmp, copyInts, trim, fits, NatOf. -/
import Derived.Test.YtcmhpdhcpkhejaaMem
namespace Go.Proofs.Ytcmhpdhcpkhejaa
open Go.RowKit Lm

set_option maxHeartbeats 400000 in
theorem natCmp_c (w : World) (b1 b2 : Nat) (v1 v2 : Value) (xs ys : List Int) (h1 : Own w b1 v1 xs) (h2 : Own w b2 v2 ys) (hx : Norm xs) (hy : Norm ys) :
    Calls Try.prog 111 #[v1, v2] w (RetI w (cmp3 (nv xs) (nv ys))) := by
  obtain ⟨a1, c1, rfl, f1, f2, f3, f4, f5⟩ := h1.form
  obtain ⟨a2, c2, rfl, g1, g2, g3, g4, g5⟩ := h2.form
  unfold maxLen at f1 f3 g1 g3
  clear f4 f5 g4 g5
  by_cases hl : xs.length = ys.length
  · have hne : ((xs.length : Int) != (ys.length : Int)) = false := by simp [hl]
    have H1 := Lib.hid h1; have H2 := Lib.hid h2; have Hl := Lib.hid hl
    have HX := Lib.hid hx; have HY := Lib.hid hy
    clear h1 h2 hl hx hy
    go_enter Try.func111, Try.ntmps111
    go_wp2
    go_loopw [5] (fun i wr => ∃ K : Nat, K ≤ xs.length ∧ i = .int .i64 ((K : Int) - 1) ∧ Hid (nv (xs.drop K) = nv (ys.drop K)) ∧ Below w.heap.size w wr) (fun i _ => (intOf i + 1).toNat)
    case atStart => exact ⟨xs.length, Nat.le_refl _, rfl, by unfold Hid; rw [nv_drop_all (Nat.le_refl _), nv_drop_all (by have := Hl.out; omega)], Below.refl _ _⟩
    case round =>
      obtain ⟨K, hK, rfl, HE, hb⟩ := hrel
      by_cases h0 : 0 < K
      · obtain ⟨i, rfl⟩ : ∃ i, K = i + 1 := ⟨K - 1, by omega⟩
        have hi : i < xs.length := by omega
        have hi2 : i < ys.length := by have := Hl.out; omega
        obtain ⟨g, rfl, -, -⟩ := H1.out.addr hi
        obtain ⟨g', rfl, -, -⟩ := H2.out.addr hi2
        have k1 := (H1.out.below hb (Nat.le_refl _)).cell i hi
        have k2 := (H2.out.below hb (Nat.le_refl _)).cell i hi2
        rw [show ((i + 1 : Nat) : Int) - 1 = (i : Int) by omega]
        have t1 : (i : Int) < xs.length := by omega
        have t2 : (i : Int) < ys.length := by omega
        go_wp2_with fail
        go_quiet (fail)
        go_wp2_with fail
        · go_ret
          have := cmp_at HX.out.1 HY.out.1 i hi hi2 HE.out (by assumption)
          exact retI (by rw [cmp3, if_pos this]) ⟨hb.os, hb.tape, hb.output, hb.size, hb.block⟩
        · go_quiet (fail)
          go_wp2_with fail
          · go_ret
            have := cmp_at HY.out.1 HX.out.1 i hi2 hi HE.out.symm (by assumption)
            exact retI (by rw [cmp3, if_neg (by omega), if_pos this]) ⟨hb.os, hb.tape, hb.output, hb.size, hb.block⟩
          · go_roundw
            case rel => exact ⟨i, by omega, by go_num, by have := HE.out; unfold Hid; rw [nv_drop xs i hi, nv_drop ys i hi2, this]; omega, ⟨hb.os, hb.tape, hb.output, hb.size, hb.block⟩⟩
            case measure => (simp [intOf]) <;> omega
      · obtain rfl : K = 0 := by omega
        go_wp2
        go_ret
        have := HE.out
        simp only [List.drop_zero] at this
        exact retI (by rw [cmp3, if_neg (by omega), if_neg (by omega)]) hb
  · have hne : ((xs.length : Int) != (ys.length : Int)) = true := by simp; omega
    have hlt : xs.length < ys.length → nv xs < nv ys := cmp_len hx hy
    have hgt : ys.length < xs.length → nv ys < nv xs := cmp_len hy hx
    clear h1 h2 hx hy
    by_cases hc : xs.length < ys.length
    · have hd : decide (xs.length < ys.length) = true := by simp; omega
      have := hlt hc
      have HH := Lib.hid this
      clear hlt hgt hl hc this
      go_enter Try.func111, Try.ntmps111
      go_wp2
      go_ret
      exact retI (by rw [cmp3, if_pos HH.out]) (Below.refl _ _)
    · have hd : decide (xs.length < ys.length) = false := by simp; omega
      have := hgt (by omega)
      have HH := Lib.hid this
      clear hlt hgt hl hc this
      go_enter Try.func111, Try.ntmps111
      go_wp2
      go_ret
      exact retI (by have := HH.out; rw [cmp3, if_neg (by omega), if_pos HH.out]) (Below.refl _ _)

set_option maxHeartbeats 400000 in
theorem copyInts_c (w : World) (b1 : Nat) (v1 : Value) (xs : List Int) (h1 : Own w b1 v1 xs) (hl : xs.length ≤ 17592186044415) :
    Calls Try.prog 92 #[v1] w (RetS w xs) := by
  have H1 := Lib.hid h1
  have HN := Lib.hid (Own.nil w w.heap.size)
  clear h1
  go_enter Try.func92, Try.ntmps92
  go_wp2_with (at_builtin; refine app_own rfl _ _ rfl _ _ w.heap.size b1 [] xs rfl rfl HN.out H1.out (by simp; omega) (Nat.le_refl _) ?_)
  intro v' w' ho hg _
  have hb := HN.out.grownBelow (Below.refl _ _) hg (Nat.le_refl _) (Nat.le_refl _)
  clear hg
  go_wp2
  go_ret
  exact retS ho (by simp) hb

set_option maxHeartbeats 400000 in
theorem trim_c (w : World) (b1 : Nat) (v1 : Value) (xs : List Int) (n : Nat) (h1 : Own w b1 v1 xs) (hx : InR xs) (hn : nv xs = n) :
    Calls Try.prog 113 #[v1] w (RetV w b1 v1 (limbs n)) := by
  obtain ⟨a1, c1, rfl, f1, f2, f3, f4, f5⟩ := h1.form
  unfold maxLen at f1 f3
  have H1 := Lib.hid h1; have HX := Lib.hid hx; have HN := Lib.hid hn
  clear h1 hx hn f4 f5
  go_enter Try.func113, Try.ntmps113
  go_wp2
  go_loopw [3] (fun i wr => ∃ K : Nat, K ≤ xs.length ∧ i = .int .i64 K ∧ Hid (∀ j, K ≤ j → lat xs j = 0) ∧ wr = w) (fun i _ => (intOf i).toNat)
  case atStart => exact ⟨xs.length, Nat.le_refl _, rfl, fun j hj => lat_ge hj, rfl⟩
  case round =>
    obtain ⟨K, hK, rfl, HE, rfl⟩ := hrel
    by_cases h0 : 0 < K
    · obtain ⟨i, rfl⟩ : ∃ i, K = i + 1 := ⟨K - 1, by omega⟩
      have hi : i < xs.length := by omega
      obtain ⟨g, rfl, -, -⟩ := H1.out.addr hi
      have k1 := H1.out.cell i hi
      have t1 : (i : Int) < xs.length := by omega
      go_wp2
      · have hz : lat xs i = 0 := by simpa using (by assumption : (lat xs i == 0) = true)
        go_round
        case rel => exact ⟨i, by omega, by go_num, (fun j hj => by
          by_cases hji : j = i
          · rw [hji]; exact hz
          · exact HE.out j (by omega) : ∀ j, i ≤ j → lat xs j = 0), (by first | rfl | trivial)⟩
        case measure => (simp [intOf]) <;> omega
      · have hz : lat xs i ≠ 0 := by simpa using (by assumption : (lat xs i == 0) = false)
        go_ret
        exact retV (H1.out.cut (k := i + 1) (by omega)) (Norm.limbs ⟨HX.out.take _, .inr (by rw [List.length_take, Nat.min_eq_left (by omega), Nat.add_sub_cancel, lat_take (by omega)]; exact hz)⟩ (by rw [nv_take_zeros _ _ (by omega) HE.out]; exact HN.out)) (Or.inr rfl) (Below.refl _ _)
    · obtain rfl : K = 0 := by omega
      go_wp2
      go_ret
      exact retV (H1.out.cut (k := 0) (by omega)) (Norm.limbs (by simp [Norm.nil]) (by rw [nv_take_zeros _ _ (by omega) HE.out]; exact HN.out)) (Or.inr (by cases a1 <;> rfl)) (Below.refl _ _)

set_option maxHeartbeats 400000 in
theorem natOf_pos (w : World) (n : Nat) (hn : n ≤ 9223372036854775807) :
    Calls Try.prog 121 #[.int .i64 n] w (RetS w (limbs n)) := by
  have HB := Lib.hid (Own.nil w w.heap.size)
  go_enter Try.func121, Try.ntmps121
  go_wp2
  go_loopw [0, 3] (fun n' v wr => ∃ (m : Nat) (o : List Int), n' = .int .i64 m ∧ m ≤ n ∧ Own wr w.heap.size v o ∧ Hid (o ++ limbs m = limbs n) ∧ Below w.heap.size w wr) (fun n' _ _ => (intOf n').toNat)
  case atStart => exact ⟨n, [], rfl, Nat.le_refl _, HB.out, rfl, Below.refl _ _⟩
  case round =>
    obtain ⟨m, o, rfl, hm, ho, HE, hb⟩ := hrel
    have HO := Lib.hid ho
    clear ho
    have hs := hb.size
    by_cases h0 : 0 < m
    · have hlen : o.length + 1 ≤ 17592186044415 := by
        have h1 := natOf_len HE.out
        have h2 : (limbs n).length ≤ 3 := limbs_len_le.2 (by simp only [pw]; omega)
        omega
      go_wp2_with (at_builtin; refine app_own rfl _ _ rfl _ _ w.heap.size wr.heap.size o [(m : Int) % 1000000000] rfl rfl (HO.out.alloc _) (Own.lit1 _ _) (by simpa using hlen) (by simp; omega) ?_)
      intro v' w' ho hg _
      have hb' := (HO.out.alloc _).grownBelow (hb.alloc hs _) hg (Nat.le_refl _) (by simp; omega)
      have HO' := Lib.hid ho
      clear hg ho
      go_wp2
      go_roundw
      case rel => exact ⟨m / 1000000000, _, by go_num, by omega, HO'.out, natOf_step HE.out h0, hb'⟩
      case measure => (simp [intOf]) <;> omega
    · obtain rfl : m = 0 := by omega
      go_wp2
      go_ret
      exact retS HO.out (by have := HE.out; simpa [limbs_zero] using this) hb

set_option maxHeartbeats 400000 in
theorem natOf_neg (w : World) (n : Int) (hn : n < 0) :
    Calls Try.prog 121 #[.int .i64 n] w (RetS w []) := by
  have HB := Lib.hid (Own.nil w w.heap.size)
  have h0 : decide (0 < n) = false := by simp; omega
  go_enter Try.func121, Try.ntmps121
  go_wp2
  go_loopw [0, 3] (fun n' v wr => n' = .int .i64 n ∧ v = .slice none 0 0 ∧ wr = w) (fun _ _ _ => 0)
  case atStart => exact ⟨rfl, rfl, rfl⟩
  case round =>
    obtain ⟨rfl, rfl, rfl⟩ := hrel
    go_wp2
    go_ret
    exact retS HB.out rfl (Below.refl _ _)
theorem natOf_c (w : World) (n : Int) (hn : n ≤ 9223372036854775807) :
    Calls Try.prog 121 #[.int .i64 n] w (RetS w (limbs n.toNat)) := by
  by_cases h : 0 ≤ n
  · obtain ⟨m, rfl⟩ := Int.eq_ofNat_of_zero_le h
    exact natOf_pos w m (by omega)
  · rw [show n.toNat = 0 by omega]; exact natOf_neg w n (by omega)

theorem natCmp_n (w : World) (b1 b2 : Nat) (v1 v2 : Value) (a b : Nat) (h1 : Own w b1 v1 (limbs a)) (h2 : Own w b2 v2 (limbs b)) :
    Calls Try.prog 111 #[v1, v2] w (RetI w (cmp3 a b)) := by
  have h := natCmp_c w b1 b2 v1 v2 _ _ h1 h2 (limbs_norm a) (limbs_norm b)
  rw [nv_limbs, nv_limbs] at h
  exact h

end Go.Proofs.Ytcmhpdhcpkhejaa
