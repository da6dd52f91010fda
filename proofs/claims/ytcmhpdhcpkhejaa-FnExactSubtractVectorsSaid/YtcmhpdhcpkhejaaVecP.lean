/- ZeroVector and UnitVector, of the program and of the reference. -/
import Derived.Test.YtcmhpdhcpkhejaaVecO
namespace Go.Proofs.Ytcmhpdhcpkhejaa
open Go.RowKit Lm

set_option maxHeartbeats 1000000 in
theorem whole_c (w : World) (n : Int) (n0 : -9223372036854775808 ≤ n) (n1 : n ≤ 9223372036854775807) :
    Calls Try.prog 41 #[.int .i64 n] w (RetQ w n 1) := by
  have BW : Below w.heap.size w (w.alloc (.cells #[.bool false, .slice none 0 0, .slice none 0 0] 45)) := ((Below.refl w.heap.size w).alloc (Nat.le_refl _) _)
  obtain ⟨c0_0, c0_1, c0_2, q0, q1, q2⟩ : World.cell? (w.alloc (.cells #[.bool false, .slice none 0 0, .slice none 0 0] 45)) ⟨w.heap.size, 0, none⟩ = some (.bool false) ∧ World.cell? (w.alloc (.cells #[.bool false, .slice none 0 0, .slice none 0 0] 45)) ⟨w.heap.size, 1, none⟩ = some (.slice none 0 0) ∧ World.cell? (w.alloc (.cells #[.bool false, .slice none 0 0, .slice none 0 0] 45)) ⟨w.heap.size, 2, none⟩ = some (.slice none 0 0) ∧ World.frozen? (w.alloc (.cells #[.bool false, .slice none 0 0, .slice none 0 0] 45)) ⟨w.heap.size, 0, none⟩ = false ∧ World.frozen? (w.alloc (.cells #[.bool false, .slice none 0 0, .slice none 0 0] 45)) ⟨w.heap.size, 1, none⟩ = false ∧ World.frozen? (w.alloc (.cells #[.bool false, .slice none 0 0, .slice none 0 0] 45)) ⟨w.heap.size, 2, none⟩ = false := by simp [go_sem]
  have hg0 : w.heap.size < ((w.alloc (.cells #[.bool false, .slice none 0 0, .slice none 0 0] 45))).heap.size := World.block_lt_of_cell? _ _ c0_0
  go_enter Try.func41, Try.ntmps41
  go_wp2_with fail
  generalize (w.alloc (.cells #[.bool false, .slice none 0 0, .slice none 0 0] 45)) = w0 at *
  have B0 := Below.refl w0.heap.size w0
  refine (RatFromInt_n _ n n0 n1 n 1 rfl rfl).mono ?_
  rintro e w1 ⟨vr, vs, rfl, ho1, ho2, HAP, hb⟩
  replace q0 := keep_frozen (w1 := w1) hb c0_0 q0
  replace c0_0 := keep_cell (w1 := w1) hb c0_0
  replace q1 := keep_frozen (w1 := w1) hb c0_1 q1
  replace c0_1 := keep_cell (w1 := w1) hb c0_1
  replace q2 := keep_frozen (w1 := w1) hb c0_2 q2
  replace c0_2 := keep_cell (w1 := w1) hb c0_2
  have Hr := Lib.hid (ho1.mono B0.size)
  clear ho1
  have Hs := Lib.hid (ho2.mono B0.size)
  clear ho2
  replace B0 := B0.trans (hb.mono B0.size)
  clear hb
  obtain ⟨ar, cr, rfl, -, -, -, -, -⟩ := Hr.out.form
  obtain ⟨aw, cw, rfl, -, -, -, -, -⟩ := Hs.out.form
  go_wp2
  exact bodyPost_ret (v := .agg #[.bool (ng n), .slice ar (limbs n.natAbs).length cr, .slice aw (limbs 1).length cw]) (by simp [results, Try.results41, go_sem, c0_0, c0_1, c0_2]) rfl (retR_end BW (by omega) hg0 B0 Hr.out Hs.out HAP)

theorem sRatFromInt_z (w : World) (n : Int) (hn : n = 0) : Calls Try.prog 44 #[.int .i64 0] w (RetQ w n 1) := by
  subst hn; exact sRatFromInt_n w 0 (by omega) (by omega)

set_option maxHeartbeats 1000000 in
theorem l05Zero_k (w : World) (n : Int) (hn : n = 0) :
    Calls Try.prog 70 #[] w (RetQ w n 1) := by
  have BW : Below w.heap.size w (w.alloc (.cells #[.bool false, .slice none 0 0, .slice none 0 0] 45)) := ((Below.refl w.heap.size w).alloc (Nat.le_refl _) _)
  obtain ⟨c0_0, c0_1, c0_2, q0, q1, q2⟩ : World.cell? (w.alloc (.cells #[.bool false, .slice none 0 0, .slice none 0 0] 45)) ⟨w.heap.size, 0, none⟩ = some (.bool false) ∧ World.cell? (w.alloc (.cells #[.bool false, .slice none 0 0, .slice none 0 0] 45)) ⟨w.heap.size, 1, none⟩ = some (.slice none 0 0) ∧ World.cell? (w.alloc (.cells #[.bool false, .slice none 0 0, .slice none 0 0] 45)) ⟨w.heap.size, 2, none⟩ = some (.slice none 0 0) ∧ World.frozen? (w.alloc (.cells #[.bool false, .slice none 0 0, .slice none 0 0] 45)) ⟨w.heap.size, 0, none⟩ = false ∧ World.frozen? (w.alloc (.cells #[.bool false, .slice none 0 0, .slice none 0 0] 45)) ⟨w.heap.size, 1, none⟩ = false ∧ World.frozen? (w.alloc (.cells #[.bool false, .slice none 0 0, .slice none 0 0] 45)) ⟨w.heap.size, 2, none⟩ = false := by simp [go_sem]
  have hg0 : w.heap.size < ((w.alloc (.cells #[.bool false, .slice none 0 0, .slice none 0 0] 45))).heap.size := World.block_lt_of_cell? _ _ c0_0
  have HN := Lib.hid hn
  clear hn
  go_enter Try.func70, Try.ntmps70
  go_wp2_with fail
  generalize (w.alloc (.cells #[.bool false, .slice none 0 0, .slice none 0 0] 45)) = w0 at *
  have B0 := Below.refl w0.heap.size w0
  refine (sRatFromInt_z _ n HN.out).mono ?_
  rintro e w1 ⟨vr, vs, rfl, ho1, ho2, HAP, hb⟩
  replace q0 := keep_frozen (w1 := w1) hb c0_0 q0
  replace c0_0 := keep_cell (w1 := w1) hb c0_0
  replace q1 := keep_frozen (w1 := w1) hb c0_1 q1
  replace c0_1 := keep_cell (w1 := w1) hb c0_1
  replace q2 := keep_frozen (w1 := w1) hb c0_2 q2
  replace c0_2 := keep_cell (w1 := w1) hb c0_2
  have Hr := Lib.hid (ho1.mono B0.size)
  clear ho1
  have Hs := Lib.hid (ho2.mono B0.size)
  clear ho2
  replace B0 := B0.trans (hb.mono B0.size)
  clear hb
  obtain ⟨ar, cr, rfl, -, -, -, -, -⟩ := Hr.out.form
  obtain ⟨aw, cw, rfl, -, -, -, -, -⟩ := Hs.out.form
  go_wp2
  exact bodyPost_ret (v := .agg #[.bool (ng n), .slice ar (limbs n.natAbs).length cr, .slice aw (limbs 1).length cw]) (by simp [results, Try.results70, go_sem, c0_0, c0_1, c0_2]) rfl (retR_end BW (by omega) hg0 B0 Hr.out Hs.out HAP)

theorem l05Zero_c (w : World) : Calls Try.prog 70 #[] w (RetQ w 0 1) := l05Zero_k w 0 rfl
theorem whole_z (w : World) (z : Int) (e : Nat) (h : z = 0 ∧ e = 1) : Calls Try.prog 41 #[.int .i64 0] w (RetQ w z e) := by
  obtain ⟨rfl, rfl⟩ := h; exact whole_c w 0 (by omega) (by omega)
theorem l05Zero_z (w : World) (z : Int) (e : Nat) (h : z = 0 ∧ e = 1) : Calls Try.prog 70 #[] w (RetQ w z e) := by
  obtain ⟨rfl, rfl⟩ := h; exact l05Zero_c w
theorem whole_o (w : World) (z : Int) (e : Nat) (h : z = 1 ∧ e = 1) : Calls Try.prog 41 #[.int .i64 1] w (RetQ w z e) := by
  obtain ⟨rfl, rfl⟩ := h; exact whole_c w 1 (by omega) (by omega)
theorem sFrom_o (w : World) (z : Int) (e : Nat) (h : z = 1 ∧ e = 1) : Calls Try.prog 44 #[.int .i64 1] w (RetQ w z e) := by
  obtain ⟨rfl, rfl⟩ := h; exact sRatFromInt_n w 1 (by omega) (by omega)
theorem var01 : ∃ (z : Int) (e : Nat), z = 0 ∧ e = 1 := ⟨_, _, rfl, rfl⟩
theorem var11 : ∃ (z : Int) (e : Nat), z = 1 ∧ e = 1 := ⟨_, _, rfl, rfl⟩
theorem qv_eq {z y : Int} {e f : Nat} (h : z = y ∧ e = f) : qv z e = qv y f := by obtain ⟨rfl, rfl⟩ := h; rfl
/-- What ZeroVector and UnitVector give. -/
def zvN (n : Int) : Nat := if 0 ≤ n ∧ n ≤ 24 then n.toNat else 0
def uvN (n k : Int) : Nat := if 0 ≤ n ∧ n ≤ 24 ∧ 0 ≤ k ∧ k < n then n.toNat else 0
def uvR (k : Int) (j : Nat) : Rc := if (j : Int) = k then qv 1 1 else qv 0 1
theorem zvN_yes {n : Int} (h : 0 ≤ n ∧ n ≤ 24) : zvN n = n.toNat := if_pos h
theorem zvN_no {n : Int} (h : ¬ (0 ≤ n ∧ n ≤ 24)) : zvN n = 0 := if_neg h
theorem uvN_yes {n k : Int} (h : 0 ≤ n ∧ n ≤ 24 ∧ 0 ≤ k ∧ k < n) : uvN n k = n.toNat := if_pos h
theorem uvN_no {n k : Int} (h : ¬ (0 ≤ n ∧ n ≤ 24 ∧ 0 ≤ k ∧ k < n)) : uvN n k = 0 := if_neg h

set_option maxHeartbeats 1000000 in
theorem ZeroVector_c (w : World) (n : Int) :
    Calls Try.prog 17 #[.int .i64 n] w (RetVec w (zvN n) (fun _ => qv 0 1)) := by
  by_cases hn : 0 ≤ n ∧ n ≤ 24
  case neg =>
    have HZ := Lib.hid (zvN_no hn)
    by_cases h0 : n < 0
    · go_enter Try.func17, Try.ntmps17
      go_wp2
      go_ret
      exact retVec (Vec.nil _ _ (Nat.le_refl _)) (Nat.le_refl _) HZ.out.symm (fun _ _ => rfl) (Below.refl _ _)
    · have h1 : decide ((24 : Int) < n) = true := decide_eq_true (by omega)
      go_enter Try.func17, Try.ntmps17
      go_wp2
      go_ret
      exact retVec (Vec.nil _ _ (Nat.le_refl _)) (Nat.le_refl _) HZ.out.symm (fun _ _ => rfl) (Below.refl _ _)
  case pos =>
    have HZ := Lib.hid (zvN_yes hn)
    obtain ⟨m, rfl⟩ : ∃ m : Nat, n = m := ⟨n.toNat, by omega⟩
    rw [Int.toNat_natCast] at HZ
    have d1 : decide ((24 : Int) < m) = false := decide_eq_false (by omega)
    have hm : m ≤ 24 := by omega
    clear hn
    obtain ⟨z0, d0, hq⟩ := var01
    have HQ := Lib.hid hq
    clear hq
    go_enter Try.func17, Try.ntmps17
    go_wp2
    go_loopw [3, 11] (fun v k wr => ∃ (i : Nat) (E : Nat → Ent), i ≤ m ∧ k = .int .i64 i ∧ Hid (VecF wr w.heap.size wr.heap.size v i E (fun _ => qv z0 d0)) ∧ Below w.heap.size w wr) (fun _ k _ => m - (intOf k).toNat)
    case atStart => exact ⟨0, fun _ => ⟨false, .slice none 0 0, .slice none 0 0⟩, by omega, rfl, VecF.nil _ _ _ (Nat.le_refl _), Below.refl _ _⟩
    case round =>
      obtain ⟨i, E, hi, rfl, HF, hb⟩ := hrel
      by_cases hlt : i < m
      · have t1 : (i : Int) < m := by omega
        go_wp2_with fail
        refine (whole_z _ z0 d0 HQ.out).mono ?_
        rintro e w1 ⟨u, d, rfl, ho1, ho2, ha, hb1⟩
        obtain ⟨ua, uc, rfl, -, -, -, -, -⟩ := ho1.form
        obtain ⟨da, dc, rfl, -, -, -, -, -⟩ := ho2.form
        have HN := Lib.hid (And.intro (And.intro ho1 ho2) (And.intro ha hb1))
        have hs1 := hb1.size
        clear ho1 ho2 ha hb1
        go_wp2_with (at_builtin; refine app_new (w := wr) rfl _ _ rfl rfl rfl HF.out hb.size HN.out.2.2 rfl HN.out.1.1 HN.out.1.2 HN.out.2.1 (by omega) ?_)
        intro v' w2 hv hbl _
        have HV := Lib.hid hv
        have B2 := hb.trans hbl
        clear hv hbl HF HN
        obtain ⟨F, hF⟩ := HV.out
        have HVF := Lib.hid hF
        clear hF HV
        go_wp2
        go_roundw
        case rel => exact ⟨i + 1, F, by omega, by go_num, HVF.out, B2⟩
        case measure => (simp [intOf]) <;> omega
      · obtain rfl : i = m := by omega
        go_wp2
        go_ret
        exact retVec ⟨_, HF.out⟩ (Nat.le_refl _) HZ.out.symm (fun _ _ => qv_eq HQ.out) hb

set_option maxHeartbeats 1000000 in
theorem l05Zeros_c (w : World) (m : Nat) (hm : m ≤ 24) :
    Calls Try.prog 40 #[.int .i64 m] w (RetVec w m (fun _ => qv 0 1)) := by
  obtain ⟨z0, d0, hq⟩ := var01
  have HQ := Lib.hid hq
  clear hq
  have h0 := VecF.lit0 w (lo := w.heap.size) (fun _ => ⟨false, .slice none 0 0, .slice none 0 0⟩) (fun _ => qv z0 d0) (Nat.le_refl _)
  have H0 := Lib.hid (h0.wider (Nat.le_refl _) (Nat.le_refl _) h0.top)
  clear h0
  go_enter Try.func40, Try.ntmps40
  go_wp2
  go_loopw [3] (fun v wr => ∃ (i : Nat) (E : Nat → Ent) (ao : Option Addr) (cap : Nat), i ≤ m ∧ v = .slice ao i cap ∧ Hid (VecF wr w.heap.size wr.heap.size (.slice ao i cap) i E (fun _ => qv z0 d0)) ∧ Below w.heap.size w wr) (fun v _ => m - lenOf v)
  case atStart => exact ⟨0, _, _, _, by omega, rfl, H0.out.wider (Nat.le_refl _) (by simp) (Nat.le_refl _), alloc_bel _ _⟩
  case round =>
    obtain ⟨i, E, ao, cap, hi, rfl, HF, hb⟩ := hrel
    by_cases hlt : i < m
    · have t1 : (i : Int) < m := by omega
      go_wp2_with fail
      refine (l05Zero_z _ z0 d0 HQ.out).mono ?_
      rintro e w1 ⟨u, d, rfl, ho1, ho2, ha, hb1⟩
      obtain ⟨ua, uc, rfl, -, -, -, -, -⟩ := ho1.form
      obtain ⟨da, dc, rfl, -, -, -, -, -⟩ := ho2.form
      have HN := Lib.hid (And.intro (And.intro ho1 ho2) (And.intro ha hb1))
      have hs1 := hb1.size
      clear ho1 ho2 ha hb1
      go_wp2_with (at_builtin; refine app_new (w := wr) rfl _ _ rfl rfl rfl HF.out hb.size HN.out.2.2 rfl HN.out.1.1 HN.out.1.2 HN.out.2.1 (by omega) ?_)
      intro v' w2 hv hbl _
      have HV := Lib.hid hv
      have B2 := hb.trans hbl
      clear hv hbl HF HN
      obtain ⟨F, hF⟩ := HV.out
      obtain ⟨ao2, cap2, rfl, -, -, -⟩ := hF.form
      have HVF := Lib.hid hF
      clear hF HV
      go_wp2
      go_roundw
      case rel => exact ⟨i + 1, F, ao2, cap2, by omega, rfl, HVF.out, B2⟩
      case measure => (simp [lenOf]) <;> omega
    · obtain rfl : i = m := by omega
      go_wp2
      go_ret
      exact retVec ⟨_, HF.out⟩ (Nat.le_refl _) rfl (fun _ _ => qv_eq HQ.out) hb

theorem l01In_t (w : World) (n lo hi : Int) (h : decide (lo ≤ n ∧ n ≤ hi) = true) : Calls Try.prog 39 #[.int .i64 n, .int .i64 lo, .int .i64 hi] w (RetB w true) := by
  have := l01In_c w n lo hi
  rw [h] at this; exact this
theorem l01In_f (w : World) (n lo hi : Int) (h : decide (lo ≤ n ∧ n ≤ hi) = false) : Calls Try.prog 39 #[.int .i64 n, .int .i64 lo, .int .i64 hi] w (RetB w false) := by
  have := l01In_c w n lo hi
  rw [h] at this; exact this

set_option maxHeartbeats 1000000 in
theorem sZeroVector_c (w : World) (n : Int) :
    Calls Try.prog 16 #[.int .i64 n] w (RetVec w (zvN n) (fun _ => qv 0 1)) := by
  by_cases hn : 0 ≤ n ∧ n ≤ 24
  case neg =>
    have HZ := Lib.hid (zvN_no hn)
    have HD := Lib.hid (decide_eq_false hn)
    clear hn
    go_enter Try.func16, Try.ntmps16
    go_wp2_with fail
    refine (l01In_f _ n 0 24 HD.out).mono ?_
    rintro e w1 ⟨rfl, hb⟩
    go_wp2
    go_ret
    exact retVec (Vec.nil _ _ (Nat.le_refl _)) (Nat.le_refl _) HZ.out.symm (fun _ _ => rfl) hb
  case pos =>
    have HZ := Lib.hid (zvN_yes hn)
    have HD := Lib.hid (decide_eq_true hn)
    obtain ⟨m, rfl⟩ : ∃ m : Nat, n = m := ⟨n.toNat, by omega⟩
    rw [Int.toNat_natCast] at HZ
    have hm : m ≤ 24 := by omega
    clear hn
    go_enter Try.func16, Try.ntmps16
    go_wp2_with fail
    refine (l01In_t _ m 0 24 HD.out).mono ?_
    rintro e w1 ⟨rfl, hb⟩
    go_wp2_with fail
    refine (l05Zeros_c _ m hm).mono ?_
    rintro e w2 ⟨v, rfl, hv, hb2⟩
    have HV := Lib.hid hv
    have hs := hb.size
    have B2 := hb.trans (hb2.mono hb.size)
    clear hv hb hb2
    go_wp2
    go_ret
    exact retVec HV.out hs HZ.out.symm (fun _ _ => rfl) B2

theorem ZeroVector_n (w : World) (n : Int) (m : Nat) (h : zvN n = m) : Calls Try.prog 17 #[.int .i64 n] w (RetVec w m (fun _ => qv 0 1)) := by
  subst h; exact ZeroVector_c w n

set_option maxHeartbeats 1000000 in
theorem UnitVector_c (w : World) (n k : Int) :
    Calls Try.prog 21 #[.int .i64 n, .int .i64 k] w (RetVec w (uvN n k) (uvR k)) := by
  by_cases hn : 0 ≤ n ∧ n ≤ 24 ∧ 0 ≤ k ∧ k < n
  case neg =>
    have HZ := Lib.hid (uvN_no hn)
    by_cases h : n < 0
    · have h0 : decide (n < 0) = true := decide_eq_true h
      clear h hn
      go_enter Try.func21, Try.ntmps21
      go_wp2
      go_ret
      exact retVec (Vec.nil _ _ (Nat.le_refl _)) (Nat.le_refl _) HZ.out.symm (fun _ _ => rfl) (Below.refl _ _)
    have hn0 := h
    clear h
    by_cases h : 24 < n
    · have h0 : decide (n < 0) = false := decide_eq_false (by omega)
      have h1 : decide ((24 : Int) < n) = true := decide_eq_true h
      clear h hn
      go_enter Try.func21, Try.ntmps21
      go_wp2
      go_ret
      exact retVec (Vec.nil _ _ (Nat.le_refl _)) (Nat.le_refl _) HZ.out.symm (fun _ _ => rfl) (Below.refl _ _)
    have h24n := h
    clear h
    by_cases h : k < 0
    · have h0 : decide (n < 0) = false := decide_eq_false (by omega)
      have h1 : decide ((24 : Int) < n) = false := decide_eq_false (by omega)
      have h2 : decide (k < 0) = true := decide_eq_true h
      clear h hn
      go_enter Try.func21, Try.ntmps21
      go_wp2
      go_ret
      exact retVec (Vec.nil _ _ (Nat.le_refl _)) (Nat.le_refl _) HZ.out.symm (fun _ _ => rfl) (Below.refl _ _)
    have hk0 := h
    clear h
    have h0 : decide (n < 0) = false := decide_eq_false (by omega)
    have h1 : decide ((24 : Int) < n) = false := decide_eq_false (by omega)
    have h2 : decide (k < 0) = false := decide_eq_false (by omega)
    have h3 : decide (n ≤ k) = true := decide_eq_true (by omega)
    go_enter Try.func21, Try.ntmps21
    go_wp2
    go_ret
    exact retVec (Vec.nil _ _ (Nat.le_refl _)) (Nat.le_refl _) HZ.out.symm (fun _ _ => rfl) (Below.refl _ _)
  case pos =>
    have HZ := Lib.hid (uvN_yes hn)
    obtain ⟨m, rfl⟩ : ∃ m : Nat, n = m := ⟨n.toNat, by omega⟩
    obtain ⟨j, rfl⟩ : ∃ j : Nat, k = j := ⟨k.toNat, by omega⟩
    rw [Int.toNat_natCast] at HZ
    have hm : m ≤ 24 := by omega
    have hj : j < m := by omega
    have t1 : (j : Int) < m := by omega
    have h1 : decide ((24 : Int) < m) = false := decide_eq_false (by omega)
    have h3 : decide (m ≤ j) = false := decide_eq_false (by omega)
    have HN := Lib.hid (zvN_yes (n := m) (by omega))
    rw [Int.toNat_natCast] at HN
    clear hn
    go_enter Try.func21, Try.ntmps21
    go_wp2_with fail
    refine (ZeroVector_n _ m m HN.out).mono ?_
    rintro e w2 ⟨v, rfl, hv, B2⟩
    obtain ⟨E, hv⟩ := hv
    obtain ⟨ao, cap, rfl, -, -, -⟩ := hv.form
    obtain ⟨g, rfl, -, -, -⟩ := hv.addr hj
    have HV := Lib.hid hv
    clear hv
    go_wp2_with fail
    obtain ⟨z0, d0, hq⟩ := var11
    have HQ := Lib.hid hq
    clear hq
    refine (whole_o _ z0 d0 HQ.out).mono ?_
    rintro e w3 ⟨u, d, rfl, ho1, ho2, ha, hb3⟩
    have HG := Lib.hid (HV.out.bel hb3)
    obtain ⟨k1, k2, k3⟩ := HG.out.cells hj
    have z1 := HG.out.frozen hj (j * 3)
    have z2 := HG.out.frozen hj (j * 3 + 1)
    have z3 := HG.out.frozen hj (j * 3 + 2)
    have hs := B2.size
    have hlg := (HG.out.addr hj)
    obtain ⟨g1, hg1, hlg, -, -⟩ := hlg
    cases hg1
    have B3 := B2.trans (hb3.mono B2.size)
    have hst := HG.out.store3 (e := ⟨ng z0, u, d⟩) (r := qv z0 d0) hj ⟨rfl, ho1.mono hs, ho2.mono hs, fun k hk => (ho1.lt k hk).2, fun k hk => (ho2.lt k hk).2⟩ ha (fun k hk => (ho1.lt k hk).1) (fun k hk => (ho2.lt k hk).1)
    have HST := Lib.hid hst
    clear hst
    obtain ⟨ua, uc, rfl, -, -, -, -, -⟩ := ho1.form
    obtain ⟨da, dc, rfl, -, -, -, -, -⟩ := ho2.form
    have HO1 := Lib.hid (And.intro ho1 ho2)
    clear ho1 ho2 hb3 ha HV HG
    go_wp2
    go_ret
    exact retVec ⟨_, HST.out.1.wider (Nat.le_refl _) (by simp [World.setCell]) (Nat.le_refl _)⟩ (Nat.le_refl _) HZ.out.symm (fun i hi => by
      unfold uvR
      by_cases hij : i = j
      · rw [if_pos hij, if_pos (by omega)]; exact qv_eq HQ.out
      · rw [if_neg hij, if_neg (by omega)]) (((B3.setCell hlg _).setCell hlg _).setCell hlg _)

set_option maxHeartbeats 1000000 in
theorem sUnitVector_c (w : World) (n k : Int) :
    Calls Try.prog 20 #[.int .i64 n, .int .i64 k] w (RetVec w (uvN n k) (uvR k)) := by
  by_cases hn : 0 ≤ n ∧ n ≤ 24 ∧ 0 ≤ k ∧ k < n
  case neg =>
    have HZ := Lib.hid (uvN_no hn)
    by_cases h : 0 ≤ n ∧ n ≤ 24
    · have h2 : ¬ (0 ≤ k ∧ k ≤ n - 1) := by omega
      have HD := Lib.hid (decide_eq_true h)
      have HD2 := Lib.hid (decide_eq_false h2)
      have b1 : 0 ≤ n ∧ n ≤ 24 := h
      obtain ⟨b1, b2⟩ := b1
      clear h h2 hn
      go_enter Try.func20, Try.ntmps20
      go_wp2_with fail
      refine (l01In_t _ n 0 24 HD.out).mono ?_
      rintro e w1 ⟨rfl, hb⟩
      go_wp2_with fail
      refine (l01In_f _ k 0 (n - 1) HD2.out).mono ?_
      rintro e w2 ⟨rfl, hb2⟩
      have B2 := hb.trans (hb2.mono hb.size)
      clear hb hb2
      go_wp2
      go_ret
      exact retVec (Vec.nil _ _ (Nat.le_refl _)) (Nat.le_refl _) HZ.out.symm (fun _ _ => rfl) B2
    · have HD := Lib.hid (decide_eq_false h)
      clear h hn
      go_enter Try.func20, Try.ntmps20
      go_wp2_with fail
      refine (l01In_f _ n 0 24 HD.out).mono ?_
      rintro e w1 ⟨rfl, hb⟩
      go_wp2
      go_ret
      exact retVec (Vec.nil _ _ (Nat.le_refl _)) (Nat.le_refl _) HZ.out.symm (fun _ _ => rfl) hb
  case pos =>
    have HZ := Lib.hid (uvN_yes hn)
    obtain ⟨m, rfl⟩ : ∃ m : Nat, n = m := ⟨n.toNat, by omega⟩
    obtain ⟨j, rfl⟩ : ∃ j : Nat, k = j := ⟨k.toNat, by omega⟩
    rw [Int.toNat_natCast] at HZ
    have hm : m ≤ 24 := by omega
    have hj : j < m := by omega
    have t1 : (j : Int) < m := by omega
    have HD := Lib.hid (decide_eq_true (show (0 : Int) ≤ m ∧ (m : Int) ≤ 24 by omega))
    have HD2 := Lib.hid (decide_eq_true (show (0 : Int) ≤ j ∧ (j : Int) ≤ (m : Int) - 1 by omega))
    clear hn
    go_enter Try.func20, Try.ntmps20
    go_wp2_with fail
    refine (l01In_t _ m 0 24 HD.out).mono ?_
    rintro e w0 ⟨rfl, hb⟩
    go_wp2_with fail
    refine (l01In_t _ j 0 (m - 1) HD2.out).mono ?_
    rintro e w1 ⟨rfl, hb1⟩
    have B1 := hb.trans (hb1.mono hb.size)
    clear hb hb1
    go_wp2_with fail
    refine (l05Zeros_c _ m hm).mono ?_
    rintro e w2 ⟨v, rfl, hv, hb2⟩
    have B2 := B1.trans (hb2.mono B1.size)
    replace hv := hv.wider B1.size (Nat.le_refl _) (Nat.le_refl _)
    clear hb2 B1
    obtain ⟨E, hv⟩ := hv
    obtain ⟨ao, cap, rfl, -, -, -⟩ := hv.form
    obtain ⟨g, rfl, -, -, -⟩ := hv.addr hj
    have HV := Lib.hid hv
    clear hv
    go_wp2_with fail
    obtain ⟨z0, d0, hq⟩ := var11
    have HQ := Lib.hid hq
    clear hq
    refine (sFrom_o _ z0 d0 HQ.out).mono ?_
    rintro e w3 ⟨u, d, rfl, ho1, ho2, ha, hb3⟩
    have HG := Lib.hid (HV.out.bel hb3)
    obtain ⟨k1, k2, k3⟩ := HG.out.cells hj
    have z1 := HG.out.frozen hj (j * 3)
    have z2 := HG.out.frozen hj (j * 3 + 1)
    have z3 := HG.out.frozen hj (j * 3 + 2)
    have hs := B2.size
    have hlg := (HG.out.addr hj)
    obtain ⟨g1, hg1, hlg, -, -⟩ := hlg
    cases hg1
    have B3 := B2.trans (hb3.mono B2.size)
    have hst := HG.out.store3 (e := ⟨ng z0, u, d⟩) (r := qv z0 d0) hj ⟨rfl, ho1.mono hs, ho2.mono hs, fun k hk => (ho1.lt k hk).2, fun k hk => (ho2.lt k hk).2⟩ ha (fun k hk => (ho1.lt k hk).1) (fun k hk => (ho2.lt k hk).1)
    have HST := Lib.hid hst
    clear hst
    obtain ⟨ua, uc, rfl, -, -, -, -, -⟩ := ho1.form
    obtain ⟨da, dc, rfl, -, -, -, -, -⟩ := ho2.form
    have HO1 := Lib.hid (And.intro ho1 ho2)
    clear ho1 ho2 hb3 ha HV HG
    go_wp2
    go_ret
    exact retVec ⟨_, HST.out.1.wider (Nat.le_refl _) (by simp [World.setCell]) (Nat.le_refl _)⟩ (Nat.le_refl _) HZ.out.symm (fun i hi => by
      unfold uvR
      by_cases hij : i = j
      · rw [if_pos hij, if_pos (by omega)]; exact qv_eq HQ.out
      · rw [if_neg hij, if_neg (by omega)]) (((B3.setCell hlg _).setCell hlg _).setCell hlg _)

end Go.Proofs.Ytcmhpdhcpkhejaa
