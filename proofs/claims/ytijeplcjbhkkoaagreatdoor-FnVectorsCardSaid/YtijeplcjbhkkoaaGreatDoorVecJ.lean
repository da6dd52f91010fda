/- Merged texts. -/
import Derived.Test.YtijeplcjbhkkoaaGreatDoorVecH
import Derived.Test.YtijeplcjbhkkoaaGreatDoorRatE
import Derived.Test.YtijeplcjbhkkoaaGreatDoorRatJ

/- Functions that read vectors: complete, l05Fine, EqualVectors, of the program and of the reference. -/
namespace Go.Proofs.YtijeplcjbhkkoaaGreatDoor
open Go.RowKit Lm

set_option maxHeartbeats 1000000 in
theorem complete_c (w : World) {lo hi : Nat} {v1 : Value} (n : Nat) (Z : Nat → Int) (D : Nat → Nat) (h1 : Vec w lo hi v1 n (fun i => qv (Z i) (D i))) :
    Calls Tryz.prog 77 #[v1] w (RetB w (fineB D n)) := by
  obtain ⟨E, h1⟩ := h1
  obtain ⟨ao, cap, rfl, f1, -, -⟩ := h1.form
  have H1 := Lib.hid h1
  clear h1
  go_enter Tryz.func77, Tryz.ntmps77
  go_wp2
  go_loopw [7] (fun k' wr => ∃ (i : Nat), i ≤ n ∧ k' = .int .i64 i ∧ Hid (∀ j, j < i → 0 < D j) ∧ Below w.heap.size w wr) (fun k _ => n - (intOf k).toNat)
  case atStart => exact ⟨0, by omega, rfl, fun j hj => absurd hj (by omega), Below.refl _ _⟩
  case round =>
    obtain ⟨i, hi, rfl, HK, hb⟩ := hrel
    by_cases hlt : i < n
    · obtain ⟨g, rfl, -, -, -⟩ := H1.out.addr hlt
      have HA := Lib.hid (H1.out.bel hb)
      obtain ⟨au, cu, ad, cd, k1, k2, k3, o1, o2⟩ := HA.out.elem hlt
      have t1 : (i : Int) < n := by omega
      have HE := Lib.hid (And.intro o1 o2)
      clear HA o1 o2
      by_cases hok : 0 < D i
      · have HOK := Lib.hid hok
        clear hok
        go_wp2_with fail
        refine (void_f _ lo _ _ _ (D i) (HE.out.2.alloc _) HOK.out).mono ?_
        rintro e w1 ⟨rfl, hb1⟩
        have B1 := below_al_call hb hb1
        clear hb1 hb k1 k2 k3 HE
        go_wp2
        go_roundw
        case rel => exact ⟨i + 1, by omega, by go_num, fun j hj => by
          by_cases hji : j = i
          · subst hji; exact HOK.out
          · exact HK.out j (by omega), B1⟩
        case measure => (simp [intOf]) <;> omega
      · have HOK := Lib.hid (show D i = 0 by omega)
        clear hok
        go_wp2_with fail
        refine (void_t _ lo _ _ _ (D i) (HE.out.2.alloc _) HOK.out).mono ?_
        rintro e w1 ⟨rfl, hb1⟩
        have B1 := below_al_call hb hb1
        clear hb1 hb k1 k2 k3 HE
        go_wp2
        go_ret
        exact retB (fineB_f hlt HOK.out).symm B1
    · obtain rfl : i = n := by omega
      go_wp2
      go_ret
      exact retB (fineB_t HK.out).symm hb

theorem reqR_call {p : Program} {f : Nat} {args : Array Value} {w : World} {r q : Rc} {c : Bool} (hc : c = reqR r q) (h : Calls p f args w (RetB w (reqB r.s r.xs r.ys q.s q.xs q.ys))) : Calls p f args w (RetB w c) := by
  subst hc; exact h

set_option maxHeartbeats 1000000 in
theorem EqualVectors_c (w : World) {lo hi lo2 hi2 : Nat} {v1 v2 : Value} (n : Nat) (A : Nat → Rc) (m : Nat) (B : Nat → Rc) (h1 : Vec w lo hi v1 n A) (h2 : Vec w lo2 hi2 v2 m B) :
    Calls Tryz.prog 24 #[v1, v2] w (RetB w (eqVB n A m B)) := by
  obtain ⟨E, h1⟩ := h1
  obtain ⟨F, h2⟩ := h2
  obtain ⟨ao, cap, rfl, f1, -, -⟩ := h1.form
  obtain ⟨ao2, cap2, rfl, f2, -, -⟩ := h2.form
  have H1 := Lib.hid h1
  have H2 := Lib.hid h2
  clear h1 h2
  by_cases hnm : n = m
  case neg =>
    have d0 : ((n : Int) == m) = false := beq_false_of_ne (by omega)
    go_enter Tryz.func24, Tryz.ntmps24
    go_wp2
    go_ret
    exact retB (eqVB_len hnm).symm (Below.refl _ _)
  case pos =>
    subst hnm
    go_enter Tryz.func24, Tryz.ntmps24
    go_wp2
    go_loopw [13] (fun k' wr => ∃ (i : Nat), i ≤ n ∧ k' = .int .i64 i ∧ Hid (∀ j, j < i → reqR (A j) (B j) = true) ∧ Below w.heap.size w wr) (fun k _ => n - (intOf k).toNat)
    case atStart => exact ⟨0, by omega, rfl, fun j hj => absurd hj (by omega), Below.refl _ _⟩
    case round =>
      obtain ⟨i, hi, rfl, HK, hb⟩ := hrel
      by_cases hlt : i < n
      · obtain ⟨g, rfl, -, -, -⟩ := H1.out.addr hlt
        obtain ⟨g2, rfl, -, -, -⟩ := H2.out.addr hlt
        have t1 : (i : Int) < n := by omega
        have HA0 := Lib.hid (H1.out.bel hb)
        obtain ⟨au, cu, ad, cd, k1, k2, k3, o1, o2⟩ := HA0.out.elem hlt
        have HOA := Lib.hid (And.intro o1 o2)
        clear HA0 o1 o2
        have BD := below_drew hb
        clear hb
        have HB := Lib.hid (H2.out.bel BD)
        obtain ⟨m1, m2, m3⟩ := HB.out.cells hlt
        have HE := Lib.hid (HB.out.ent i hlt)
        have HOB := Lib.hid (And.intro (HOA.out.1.below (below_drawn _ 1) (Nat.le_refl _)) (HOA.out.2.below (below_drawn _ 1) (Nat.le_refl _)))
        replace k1 := cell_drew k1
        replace k2 := cell_drew k2
        replace k3 := cell_drew k3
        clear HB HOA
        obtain ⟨c, hc⟩ : ∃ c, c = reqR (A i) (B i) := ⟨_, rfl⟩
        have HC := Lib.hid hc
        clear hc
        go_wp2_with fail
        go_region_held3 (fun w' => w'.cell? ⟨g, i * 3, none⟩ = some (.bool (A i).s) ∧ w'.cell? ⟨g, i * 3 + 1, none⟩ = some (Value.slice au (A i).xs.length cu) ∧ w'.cell? ⟨g, i * 3 + 2, none⟩ = some (Value.slice ad (A i).ys.length cd) ∧ w'.cell? ⟨g2, i * 3, none⟩ = some (.bool (B i).s) ∧ w'.cell? ⟨g2, i * 3 + 1, none⟩ = some (F i).u ∧ w'.cell? ⟨g2, i * 3 + 2, none⟩ = some (F i).d) (first | exact ⟨k1, k2, k3, m1, m2, m3⟩ | go_keep)
          (first | (go_at_call 10; refine (reqR_call HC.out (RatEqual_c _ lo lo (A i).s _ _ (A i).xs (A i).ys HOB.out.1 HOB.out.2 lo2 lo2 (B i).s (F i).u (F i).d (B i).xs (B i).ys HE.out.num HE.out.den)).mono ?_; rintro e w1 ⟨rfl, hb1⟩; replace k1 := keep_cell hb1 k1; replace k2 := keep_cell hb1 k2; replace k3 := keep_cell hb1 k3; replace m1 := keep_cell hb1 m1; replace m2 := keep_cell hb1 m2; replace m3 := keep_cell hb1 m3; have B1 := BD.trans (hb1.mono BD.size); clear hb1))
        cases c with
        | true =>
          go_wp2
          go_roundw
          case rel => exact ⟨i + 1, by omega, by go_num, fun j hj => by
            by_cases hji : j = i
            · subst hji; exact HC.out.symm
            · exact HK.out j (by omega), B1⟩
          case measure => (simp [intOf]) <;> omega
        | false =>
          go_wp2
          go_ret
          exact retB (eqVB_f hlt HC.out.symm).symm B1
      · obtain rfl : i = n := by omega
        go_wp2
        go_ret
        exact retB (eqVB_t HK.out).symm hb

end Go.Proofs.YtijeplcjbhkkoaaGreatDoor

/- ZeroVector and UnitVector, of the program and of the reference. -/
namespace Go.Proofs.YtijeplcjbhkkoaaGreatDoor
open Go.RowKit Lm

set_option maxHeartbeats 1000000 in
theorem whole_c (w : World) (n : Int) (n0 : -9223372036854775808 ≤ n) (n1 : n ≤ 9223372036854775807) :
    Calls Tryz.prog 52 #[.int .i64 n] w (RetQ w n 1) := by
  have BW : Below w.heap.size w (w.alloc (.cells #[.bool false, .slice none 0 0, .slice none 0 0] 27)) := ((Below.refl w.heap.size w).alloc (Nat.le_refl _) _)
  obtain ⟨c0_0, c0_1, c0_2, q0, q1, q2⟩ : World.cell? (w.alloc (.cells #[.bool false, .slice none 0 0, .slice none 0 0] 27)) ⟨w.heap.size, 0, none⟩ = some (.bool false) ∧ World.cell? (w.alloc (.cells #[.bool false, .slice none 0 0, .slice none 0 0] 27)) ⟨w.heap.size, 1, none⟩ = some (.slice none 0 0) ∧ World.cell? (w.alloc (.cells #[.bool false, .slice none 0 0, .slice none 0 0] 27)) ⟨w.heap.size, 2, none⟩ = some (.slice none 0 0) ∧ World.frozen? (w.alloc (.cells #[.bool false, .slice none 0 0, .slice none 0 0] 27)) ⟨w.heap.size, 0, none⟩ = false ∧ World.frozen? (w.alloc (.cells #[.bool false, .slice none 0 0, .slice none 0 0] 27)) ⟨w.heap.size, 1, none⟩ = false ∧ World.frozen? (w.alloc (.cells #[.bool false, .slice none 0 0, .slice none 0 0] 27)) ⟨w.heap.size, 2, none⟩ = false := by simp [go_sem]
  have hg0 : w.heap.size < ((w.alloc (.cells #[.bool false, .slice none 0 0, .slice none 0 0] 27))).heap.size := World.block_lt_of_cell? _ _ c0_0
  go_enter Tryz.func52, Tryz.ntmps52
  go_wp2_with fail
  generalize (w.alloc (.cells #[.bool false, .slice none 0 0, .slice none 0 0] 27)) = w0 at *
  have B0 := Below.refl w0.heap.size w0
  refine (RatFromInt_n _ n n0 n1 n 1 rfl rfl).mono ?_
  rintro e w1 ⟨vr, vs, rfl, ho1, ho2, HAP, hb⟩
  replace q0 := keep_frozen (w1 := w1) hb c0_0 q0
  replace c0_0 := keep_cell (w1 := w1) hb c0_0
  replace q1 := keep_frozen (w1 := w1) hb c0_1 q1
  replace c0_1 := keep_cell (w1 := w1) hb c0_1
  replace q2 := keep_frozen (w1 := w1) hb c0_2 q2
  replace c0_2 := keep_cell (w1 := w1) hb c0_2
  have Hr := Lib.hid (ho1.mono B0.size)
  clear ho1
  have Hs := Lib.hid (ho2.mono B0.size)
  clear ho2
  replace B0 := B0.trans (hb.mono B0.size)
  clear hb
  obtain ⟨ar, cr, rfl, -, -, -, -, -⟩ := Hr.out.form
  obtain ⟨aw, cw, rfl, -, -, -, -, -⟩ := Hs.out.form
  go_wp2
  exact bodyPost_ret (v := .agg #[.bool (ng n), .slice ar (limbs n.natAbs).length cr, .slice aw (limbs 1).length cw]) (by simp [results, Tryz.results52, go_sem, c0_0, c0_1, c0_2]) rfl (retR_end BW (by omega) hg0 B0 Hr.out Hs.out HAP)

theorem sRatFromInt_z (w : World) (n : Int) (hn : n = 0) : Calls Tryz.prog 56 #[.int .i64 0] w (RetQ w n 1) := by
  subst hn; exact sRatFromInt_n w 0 (by omega) (by omega)

theorem whole_z (w : World) (z : Int) (e : Nat) (h : z = 0 ∧ e = 1) : Calls Tryz.prog 52 #[.int .i64 0] w (RetQ w z e) := by
  obtain ⟨rfl, rfl⟩ := h; exact whole_c w 0 (by omega) (by omega)
theorem whole_o (w : World) (z : Int) (e : Nat) (h : z = 1 ∧ e = 1) : Calls Tryz.prog 52 #[.int .i64 1] w (RetQ w z e) := by
  obtain ⟨rfl, rfl⟩ := h; exact whole_c w 1 (by omega) (by omega)
theorem sFrom_o (w : World) (z : Int) (e : Nat) (h : z = 1 ∧ e = 1) : Calls Tryz.prog 56 #[.int .i64 1] w (RetQ w z e) := by
  obtain ⟨rfl, rfl⟩ := h; exact sRatFromInt_n w 1 (by omega) (by omega)
theorem var01 : ∃ (z : Int) (e : Nat), z = 0 ∧ e = 1 := ⟨_, _, rfl, rfl⟩
theorem var11 : ∃ (z : Int) (e : Nat), z = 1 ∧ e = 1 := ⟨_, _, rfl, rfl⟩
theorem qv_eq {z y : Int} {e f : Nat} (h : z = y ∧ e = f) : qv z e = qv y f := by obtain ⟨rfl, rfl⟩ := h; rfl
/-- What ZeroVector and UnitVector give. -/
def zvN (n : Int) : Nat := if 0 ≤ n ∧ n ≤ 24 then n.toNat else 0
def uvN (n k : Int) : Nat := if 0 ≤ n ∧ n ≤ 24 ∧ 0 ≤ k ∧ k < n then n.toNat else 0
def uvR (k : Int) (j : Nat) : Rc := if (j : Int) = k then qv 1 1 else qv 0 1
theorem zvN_yes {n : Int} (h : 0 ≤ n ∧ n ≤ 24) : zvN n = n.toNat := if_pos h
theorem zvN_no {n : Int} (h : ¬ (0 ≤ n ∧ n ≤ 24)) : zvN n = 0 := if_neg h
theorem uvN_yes {n k : Int} (h : 0 ≤ n ∧ n ≤ 24 ∧ 0 ≤ k ∧ k < n) : uvN n k = n.toNat := if_pos h
theorem uvN_no {n k : Int} (h : ¬ (0 ≤ n ∧ n ≤ 24 ∧ 0 ≤ k ∧ k < n)) : uvN n k = 0 := if_neg h

set_option maxHeartbeats 1000000 in
theorem ZeroVector_c (w : World) (n : Int) :
    Calls Tryz.prog 25 #[.int .i64 n] w (RetVec w (zvN n) (fun _ => qv 0 1)) := by
  by_cases hn : 0 ≤ n ∧ n ≤ 24
  case neg =>
    have HZ := Lib.hid (zvN_no hn)
    by_cases h0 : n < 0
    · go_enter Tryz.func25, Tryz.ntmps25
      go_wp2
      go_ret
      exact retVec (Vec.nil _ _ (Nat.le_refl _)) (Nat.le_refl _) HZ.out.symm (fun _ _ => rfl) (Below.refl _ _)
    · have h1 : decide ((24 : Int) < n) = true := decide_eq_true (by omega)
      go_enter Tryz.func25, Tryz.ntmps25
      go_wp2
      go_ret
      exact retVec (Vec.nil _ _ (Nat.le_refl _)) (Nat.le_refl _) HZ.out.symm (fun _ _ => rfl) (Below.refl _ _)
  case pos =>
    have HZ := Lib.hid (zvN_yes hn)
    obtain ⟨m, rfl⟩ : ∃ m : Nat, n = m := ⟨n.toNat, by omega⟩
    rw [Int.toNat_natCast] at HZ
    have d1 : decide ((24 : Int) < m) = false := decide_eq_false (by omega)
    have hm : m ≤ 24 := by omega
    clear hn
    obtain ⟨z0, d0, hq⟩ := var01
    have HQ := Lib.hid hq
    clear hq
    go_enter Tryz.func25, Tryz.ntmps25
    go_wp2
    go_loopw [3, 11] (fun v k wr => ∃ (i : Nat) (E : Nat → Ent), i ≤ m ∧ k = .int .i64 i ∧ Hid (VecF wr w.heap.size wr.heap.size v i E (fun _ => qv z0 d0)) ∧ Below w.heap.size w wr) (fun _ k _ => m - (intOf k).toNat)
    case atStart => exact ⟨0, fun _ => ⟨false, .slice none 0 0, .slice none 0 0⟩, by omega, rfl, VecF.nil _ _ _ (Nat.le_refl _), Below.refl _ _⟩
    case round =>
      obtain ⟨i, E, hi, rfl, HF, hb⟩ := hrel
      by_cases hlt : i < m
      · have t1 : (i : Int) < m := by omega
        go_wp2_with fail
        refine (whole_z _ z0 d0 HQ.out).mono ?_
        rintro e w1 ⟨u, d, rfl, ho1, ho2, ha, hb1⟩
        obtain ⟨ua, uc, rfl, -, -, -, -, -⟩ := ho1.form
        obtain ⟨da, dc, rfl, -, -, -, -, -⟩ := ho2.form
        have HN := Lib.hid (And.intro (And.intro ho1 ho2) (And.intro ha hb1))
        have hs1 := hb1.size
        clear ho1 ho2 ha hb1
        go_wp2_with (at_builtin; refine app_new (w := wr) rfl _ _ rfl rfl rfl HF.out hb.size HN.out.2.2 rfl HN.out.1.1 HN.out.1.2 HN.out.2.1 (by omega) ?_)
        intro v' w2 hv hbl _
        have HV := Lib.hid hv
        have B2 := hb.trans hbl
        clear hv hbl HF HN
        obtain ⟨F, hF⟩ := HV.out
        have HVF := Lib.hid hF
        clear hF HV
        go_wp2
        go_roundw
        case rel => exact ⟨i + 1, F, by omega, by go_num, HVF.out, B2⟩
        case measure => (simp [intOf]) <;> omega
      · obtain rfl : i = m := by omega
        go_wp2
        go_ret
        exact retVec ⟨_, HF.out⟩ (Nat.le_refl _) HZ.out.symm (fun _ _ => qv_eq HQ.out) hb

theorem l01In_t (w : World) (n lo hi : Int) (h : decide (lo ≤ n ∧ n ≤ hi) = true) : Calls Tryz.prog 137 #[.int .i64 n, .int .i64 lo, .int .i64 hi] w (RetB w true) := by
  have := l01In_c w n lo hi
  rw [h] at this; exact this
theorem l01In_f (w : World) (n lo hi : Int) (h : decide (lo ≤ n ∧ n ≤ hi) = false) : Calls Tryz.prog 137 #[.int .i64 n, .int .i64 lo, .int .i64 hi] w (RetB w false) := by
  have := l01In_c w n lo hi
  rw [h] at this; exact this

theorem ZeroVector_n (w : World) (n : Int) (m : Nat) (h : zvN n = m) : Calls Tryz.prog 25 #[.int .i64 n] w (RetVec w m (fun _ => qv 0 1)) := by
  subst h; exact ZeroVector_c w n

set_option maxHeartbeats 1000000 in
theorem UnitVector_c (w : World) (n k : Int) :
    Calls Tryz.prog 26 #[.int .i64 n, .int .i64 k] w (RetVec w (uvN n k) (uvR k)) := by
  by_cases hn : 0 ≤ n ∧ n ≤ 24 ∧ 0 ≤ k ∧ k < n
  case neg =>
    have HZ := Lib.hid (uvN_no hn)
    by_cases h : n < 0
    · have h0 : decide (n < 0) = true := decide_eq_true h
      clear h hn
      go_enter Tryz.func26, Tryz.ntmps26
      go_wp2
      go_ret
      exact retVec (Vec.nil _ _ (Nat.le_refl _)) (Nat.le_refl _) HZ.out.symm (fun _ _ => rfl) (Below.refl _ _)
    have hn0 := h
    clear h
    by_cases h : 24 < n
    · have h0 : decide (n < 0) = false := decide_eq_false (by omega)
      have h1 : decide ((24 : Int) < n) = true := decide_eq_true h
      clear h hn
      go_enter Tryz.func26, Tryz.ntmps26
      go_wp2
      go_ret
      exact retVec (Vec.nil _ _ (Nat.le_refl _)) (Nat.le_refl _) HZ.out.symm (fun _ _ => rfl) (Below.refl _ _)
    have h24n := h
    clear h
    by_cases h : k < 0
    · have h0 : decide (n < 0) = false := decide_eq_false (by omega)
      have h1 : decide ((24 : Int) < n) = false := decide_eq_false (by omega)
      have h2 : decide (k < 0) = true := decide_eq_true h
      clear h hn
      go_enter Tryz.func26, Tryz.ntmps26
      go_wp2
      go_ret
      exact retVec (Vec.nil _ _ (Nat.le_refl _)) (Nat.le_refl _) HZ.out.symm (fun _ _ => rfl) (Below.refl _ _)
    have hk0 := h
    clear h
    have h0 : decide (n < 0) = false := decide_eq_false (by omega)
    have h1 : decide ((24 : Int) < n) = false := decide_eq_false (by omega)
    have h2 : decide (k < 0) = false := decide_eq_false (by omega)
    have h3 : decide (n ≤ k) = true := decide_eq_true (by omega)
    go_enter Tryz.func26, Tryz.ntmps26
    go_wp2
    go_ret
    exact retVec (Vec.nil _ _ (Nat.le_refl _)) (Nat.le_refl _) HZ.out.symm (fun _ _ => rfl) (Below.refl _ _)
  case pos =>
    have HZ := Lib.hid (uvN_yes hn)
    obtain ⟨m, rfl⟩ : ∃ m : Nat, n = m := ⟨n.toNat, by omega⟩
    obtain ⟨j, rfl⟩ : ∃ j : Nat, k = j := ⟨k.toNat, by omega⟩
    rw [Int.toNat_natCast] at HZ
    have hm : m ≤ 24 := by omega
    have hj : j < m := by omega
    have t1 : (j : Int) < m := by omega
    have h1 : decide ((24 : Int) < m) = false := decide_eq_false (by omega)
    have h3 : decide (m ≤ j) = false := decide_eq_false (by omega)
    have HN := Lib.hid (zvN_yes (n := m) (by omega))
    rw [Int.toNat_natCast] at HN
    clear hn
    go_enter Tryz.func26, Tryz.ntmps26
    go_wp2_with fail
    refine (ZeroVector_n _ m m HN.out).mono ?_
    rintro e w2 ⟨v, rfl, hv, B2⟩
    obtain ⟨E, hv⟩ := hv
    obtain ⟨ao, cap, rfl, -, -, -⟩ := hv.form
    obtain ⟨g, rfl, -, -, -⟩ := hv.addr hj
    have HV := Lib.hid hv
    clear hv
    go_wp2_with fail
    obtain ⟨z0, d0, hq⟩ := var11
    have HQ := Lib.hid hq
    clear hq
    refine (whole_o _ z0 d0 HQ.out).mono ?_
    rintro e w3 ⟨u, d, rfl, ho1, ho2, ha, hb3⟩
    have HG := Lib.hid (HV.out.bel hb3)
    obtain ⟨k1, k2, k3⟩ := HG.out.cells hj
    have z1 := HG.out.frozen hj (j * 3)
    have z2 := HG.out.frozen hj (j * 3 + 1)
    have z3 := HG.out.frozen hj (j * 3 + 2)
    have hs := B2.size
    have hlg := (HG.out.addr hj)
    obtain ⟨g1, hg1, hlg, -, -⟩ := hlg
    cases hg1
    have B3 := B2.trans (hb3.mono B2.size)
    have hst := HG.out.store3 (e := ⟨ng z0, u, d⟩) (r := qv z0 d0) hj ⟨rfl, ho1.mono hs, ho2.mono hs, fun k hk => (ho1.lt k hk).2, fun k hk => (ho2.lt k hk).2⟩ ha (fun k hk => (ho1.lt k hk).1) (fun k hk => (ho2.lt k hk).1)
    have HST := Lib.hid hst
    clear hst
    obtain ⟨ua, uc, rfl, -, -, -, -, -⟩ := ho1.form
    obtain ⟨da, dc, rfl, -, -, -, -, -⟩ := ho2.form
    have HO1 := Lib.hid (And.intro ho1 ho2)
    clear ho1 ho2 hb3 ha HV HG
    go_wp2
    go_ret
    exact retVec ⟨_, HST.out.1.wider (Nat.le_refl _) (by simp [World.setCell]) (Nat.le_refl _)⟩ (Nat.le_refl _) HZ.out.symm (fun i hi => by
      unfold uvR
      by_cases hij : i = j
      · rw [if_pos hij, if_pos (by omega)]; exact qv_eq HQ.out
      · rw [if_neg hij, if_neg (by omega)]) (((B3.setCell hlg _).setCell hlg _).setCell hlg _)

end Go.Proofs.YtijeplcjbhkkoaaGreatDoor

/- AddVectors, SubtractVectors and ScaleVector of the reference. -/
namespace Go.Proofs.YtijeplcjbhkkoaaGreatDoor
open Go.RowKit Lm

/-! What they give. -/
noncomputable def vop (op : Int → Nat → Int → Nat → Int × Nat) (A B : Nat → Rc) (i : Nat) : Int × Nat := op (numR (A i)) (denR (A i)) (numR (B i)) (denR (B i))
open Classical in
noncomputable def v2c (op : Int → Nat → Int → Nat → Int × Nat) (n : Nat) (A : Nat → Rc) (m : Nat) (B : Nat → Rc) : Bool := decide (OkV n A ∧ OkV m B ∧ n = m) && fineB (fun i => (vop op A B i).2) n
noncomputable def v2N (op : Int → Nat → Int → Nat → Int × Nat) (n : Nat) (A : Nat → Rc) (m : Nat) (B : Nat → Rc) : Nat := if v2c op n A m B then n else 0
noncomputable def v2R (op : Int → Nat → Int → Nat → Int × Nat) (A B : Nat → Rc) : Nat → Rc := fun i => qv (vop op A B i).1 (vop op A B i).2
open Classical in
noncomputable def scc (r : Rc) (n : Nat) (A : Nat → Rc) : Bool := decide (OkRc r ∧ OkV n A) && fineB (fun i => (vop qmul A (fun _ => r) i).2) n
noncomputable def scN (r : Rc) (n : Nat) (A : Nat → Rc) : Nat := if scc r n A then n else 0
theorem v2c_no {op : Int → Nat → Int → Nat → Int × Nat} {n m : Nat} {A B : Nat → Rc} (h : ¬ (OkV n A ∧ OkV m B ∧ n = m)) : v2c op n A m B = false := by unfold v2c; simp only [h, decide_false, Bool.false_and]
theorem v2c_yes {op : Int → Nat → Int → Nat → Int × Nat} {n m : Nat} {A B : Nat → Rc} (h : OkV n A ∧ OkV m B ∧ n = m) : v2c op n A m B = fineB (fun i => (vop op A B i).2) n := by
  obtain ⟨h1, h2, rfl⟩ := h
  unfold v2c; simp only [h1, h2, and_self, decide_true, Bool.true_and]
theorem scc_no {r : Rc} {n : Nat} {A : Nat → Rc} (h : ¬ (OkRc r ∧ OkV n A)) : scc r n A = false := by unfold scc; simp only [h, decide_false, Bool.false_and]
theorem scc_yes {r : Rc} {n : Nat} {A : Nat → Rc} (h : OkRc r ∧ OkV n A) : scc r n A = fineB (fun i => (vop qmul A (fun _ => r) i).2) n := by
  obtain ⟨h1, h2⟩ := h
  unfold scc; simp only [h1, h2, and_self, decide_true, Bool.true_and]
theorem qmul_comm (z : Int) (d : Nat) (y : Int) (f : Nat) : qmul z d y f = qmul y f z d := by unfold qmul; rw [Int.mul_comm, Nat.mul_comm]
/-- A valid vector as fractions in plain numbers. -/
theorem okV_q {n : Nat} {A : Nat → Rc} (h : OkV n A) : ∀ i, i < n → A i = qv (numR (A i)) (denR (A i)) ∧ IsQ (numR (A i)) (denR (A i)) := fun i hi => okRc_q (h.2 i hi)
theorem Vec.toQ {w : World} {lo hi : Nat} {v : Value} {n : Nat} {A : Nat → Rc} (h : Vec w lo hi v n A) (hA : OkV n A) : Vec w lo hi v n (fun i => qv (numR (A i)) (denR (A i))) := h.congr fun i hi => (okV_q hA i hi).1
theorem VecF.elemq {w : World} {lo hi g n m cap : Nat} {E : Nat → Ent} {X : Nat → Int} {Y : Nat → Nat} (h : VecF w lo hi (.slice (some ⟨g, 0, none⟩) m cap) n E (fun i => qv (X i) (Y i))) {i : Nat} (hi : i < n) :
    ∃ au cu ad cd, w.cell? ⟨g, i * 3, none⟩ = some (.bool (ng (X i))) ∧ w.cell? ⟨g, i * 3 + 1, none⟩ = some (.slice au (limbs (X i).natAbs).length cu) ∧ w.cell? ⟨g, i * 3 + 2, none⟩ = some (.slice ad (limbs (Y i)).length cd) ∧
      Own w lo (.slice au (limbs (X i).natAbs).length cu) (limbs (X i).natAbs) ∧ Own w lo (.slice ad (limbs (Y i)).length cd) (limbs (Y i)) := h.elem hi


def DonePt (w : World) (v : Value) (e : Ending) (w' : World) : Prop := e = .returned (.tuple #[v, .bool true]) ∧ Below w.heap.size w w'
def DonePf (w : World) (v : Value) (e : Ending) (w' : World) : Prop := e = .returned (.tuple #[v, .bool false]) ∧ Below w.heap.size w w'
end Go.Proofs.YtijeplcjbhkkoaaGreatDoor
