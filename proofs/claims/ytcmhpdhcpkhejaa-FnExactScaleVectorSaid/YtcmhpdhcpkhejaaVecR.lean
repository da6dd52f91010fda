/- pairwise, AddVectors and SubtractVectors of the program. -/
import Derived.Test.YtcmhpdhcpkhejaaVecQ
namespace Go.Proofs.Ytcmhpdhcpkhejaa
open Go.RowKit Lm

theorem IsVector_t (w : World) {lo hi : Nat} {v1 : Value} (n : Nat) (R : Nat → Rc) (h1 : Vec w lo hi v1 n R) (h : OkV n R) : Calls Try.prog 23 #[v1] w (RetB w true) := by
  have := IsVector_c w n R h1
  rw [okVB_t h] at this; exact this
theorem IsVector_f (w : World) {lo hi : Nat} {v1 : Value} (n : Nat) (R : Nat → Rc) (h1 : Vec w lo hi v1 n R) (h : ¬ OkV n R) : Calls Try.prog 23 #[v1] w (RetB w false) := by
  have := IsVector_c w n R h1
  rw [okVB_f h] at this; exact this
theorem complete_t (w : World) {lo hi : Nat} {v1 : Value} (n : Nat) (Z : Nat → Int) (D : Nat → Nat) (h1 : Vec w lo hi v1 n (fun i => qv (Z i) (D i))) (h : fineB D n = true) : Calls Try.prog 88 #[v1] w (RetB w true) := by
  have := complete_c w n Z D h1
  rw [h] at this; exact this
theorem complete_f (w : World) {lo hi : Nat} {v1 : Value} (n : Nat) (Z : Nat → Int) (D : Nat → Nat) (h1 : Vec w lo hi v1 n (fun i => qv (Z i) (D i))) (h : fineB D n = false) : Calls Try.prog 88 #[v1] w (RetB w false) := by
  have := complete_c w n Z D h1
  rw [h] at this; exact this

set_option maxHeartbeats 2000000 in
set_option maxRecDepth 100000 in
theorem pairwise_add (w : World) {lo hi lo2 hi2 : Nat} {v1 v2 : Value} (n : Nat) (X S Z : Nat → Int) (Y T D : Nat → Nat) (h1 : Vec w lo hi v1 n (fun i => qv (X i) (Y i))) (h2 : Vec w lo2 hi2 v2 n (fun i => qv (S i) (T i))) (hx : ∀ i, i < n → IsQ (X i) (Y i)) (hy : ∀ i, i < n → IsQ (S i) (T i)) (hn : n ≤ 24) (hz : ∀ i, i < n → Z i = (qadd (X i) (Y i) (S i) (T i)).1 ∧ D i = (qadd (X i) (Y i) (S i) (T i)).2) (c : Bool) (hc : c = fineB D n) :
    Calls Try.prog 59 #[v1, v2, .func (Fn.func 60) #[] #[]] w (RetVB w (if c then n else 0) (fun i => qv (Z i) (D i)) c) := by
  obtain ⟨A, h1⟩ := h1
  obtain ⟨B, h2⟩ := h2
  obtain ⟨ao, cap, rfl, -, -, -⟩ := h1.form
  obtain ⟨ao2, cap2, rfl, -, -, -⟩ := h2.form
  have H1 := Lib.hid h1
  have H2 := Lib.hid h2
  have HX := Lib.hid hx
  have HY := Lib.hid hy
  have HZ := Lib.hid hz
  have HC := Lib.hid hc
  clear h1 h2 hx hy hz hc
  go_enter Try.func59, Try.ntmps59
  go_wp2
  go_loopw [8, 12] (fun v k wr => ∃ (i : Nat) (E : Nat → Ent), i ≤ n ∧ k = .int .i64 i ∧ Hid (VecF wr w.heap.size wr.heap.size v i E (fun i => qv (Z i) (D i))) ∧ Below w.heap.size w wr) (fun _ k _ => n - (intOf k).toNat)
  case atStart => exact ⟨0, fun _ => ⟨false, .slice none 0 0, .slice none 0 0⟩, by omega, rfl, VecF.nil _ _ _ (Nat.le_refl _), Below.refl _ _⟩
  case round =>
    obtain ⟨i, E, hi, rfl, HF, hb⟩ := hrel
    by_cases hlt : i < n
    · obtain ⟨g, rfl, -, hg1, -⟩ := H1.out.addr hlt
      obtain ⟨g2, rfl, -, hg2, -⟩ := H2.out.addr hlt
      have t1 : (i : Int) < n := by omega
      have BD := below_drew hb
      have HA := Lib.hid (H1.out.bel BD)
      obtain ⟨au, cu, ad, cd, k1, k2, k3, o1, o2⟩ := HA.out.elemq hlt
      have HOA := Lib.hid (And.intro o1 o2)
      clear HA o1 o2
      have HB := Lib.hid (H2.out.bel BD)
      obtain ⟨bu, eu, bd, ed, m1, m2, m3, o1, o2⟩ := HB.out.elemq hlt
      have HOB := Lib.hid (And.intro o1 o2)
      have HF2 := Lib.hid HF.out.drew
      have hlo : w.heap.size ≤ wr.drew.heap.size := BD.size
      clear HB HF o1 o2 hb
      go_wp2_with fail
      go_region_held3 (fun w' => w'.cell? ⟨g, i * 3, none⟩ = some (.bool (ng (X i))) ∧ w'.cell? ⟨g, i * 3 + 1, none⟩ = some (.slice au (limbs (X i).natAbs).length cu) ∧ w'.cell? ⟨g, i * 3 + 2, none⟩ = some (.slice ad (limbs (Y i)).length cd) ∧ w'.cell? ⟨g2, i * 3, none⟩ = some (.bool (ng (S i))) ∧ w'.cell? ⟨g2, i * 3 + 1, none⟩ = some (.slice bu (limbs (S i).natAbs).length eu) ∧ w'.cell? ⟨g2, i * 3 + 2, none⟩ = some (.slice bd (limbs (T i)).length ed)) (first | exact ⟨k1, k2, k3, m1, m2, m3⟩ | exact ⟨keep_cell (alloc_bel _ _) k1, keep_cell (alloc_bel _ _) k2, keep_cell (alloc_bel _ _) k3, keep_cell (alloc_bel _ _) m1, keep_cell (alloc_bel _ _) m2, keep_cell (alloc_bel _ _) m3⟩ | go_keep)
        (first | (go_at_call 60; refine (add_c _ lo lo _ _ (X i) (Y i) HOA.out.1 HOA.out.2 lo2 lo2 _ _ (S i) (T i) HOB.out.1 HOB.out.2 (.inl (HX.out i hlt)) (.inl (HY.out i hlt)) (Z i) (D i) (HZ.out i hlt).1 (HZ.out i hlt).2).mono ?_; rintro e w1 ⟨u, d, rfl, ho1, ho2, ha, hb1⟩; obtain ⟨ua, uc, rfl, -, -, -, -, -⟩ := ho1.form; obtain ⟨da, dc, rfl, -, -, -, -, -⟩ := ho2.form; have HN := Lib.hid (And.intro (And.intro ho1 ho2) (And.intro ha hb1)); clear ho1 ho2 ha; replace k1 := keep_cell hb1 k1; replace k2 := keep_cell hb1 k2; replace k3 := keep_cell hb1 k3; replace m1 := keep_cell hb1 m1; replace m2 := keep_cell hb1 m2; replace m3 := keep_cell hb1 m3; clear hb1)
               | (rw [if_pos (by rfl)]; refine app_new_wp _ _ rfl HF2.out hlo HN.out.2.2 rfl HN.out.1.1 HN.out.1.2 HN.out.2.1 (by omega) rfl rfl ?_; intro v' w2 hv hbl has; replace k1 := has _ _ (keep_cell (alloc_bel _ _) k1) (.inl hg1); replace k2 := has _ _ (keep_cell (alloc_bel _ _) k2) (.inl hg1); replace k3 := has _ _ (keep_cell (alloc_bel _ _) k3) (.inl hg1); replace m1 := has _ _ (keep_cell (alloc_bel _ _) m1) (.inl hg2); replace m2 := has _ _ (keep_cell (alloc_bel _ _) m2) (.inl hg2); replace m3 := has _ _ (keep_cell (alloc_bel _ _) m3) (.inl hg2); have HV := Lib.hid hv; have B2 := BD.trans hbl; clear hv hbl has HN HF2))
      obtain ⟨F, hF⟩ := HV.out
      have HVF := Lib.hid hF
      clear hF HV
      go_wp2
      go_roundw
      case rel => exact ⟨i + 1, F, by omega, by go_num, HVF.out, B2⟩
      case measure => (simp [intOf]) <;> omega
    · obtain rfl : i = n := by omega
      cases c with
      | true =>
        go_wp2_with fail
        refine (complete_t _ _ Z D ⟨_, HF.out⟩ HC.out.symm).mono ?_
        rintro e w1 ⟨rfl, hb1⟩
        have HV := Lib.hid (HF.out.bel hb1)
        have hs1 := hb1.size
        have B1 := hb.trans (hb1.mono hb.size)
        clear hb hb1 HF
        go_wp2
        go_ret2
        exact retVB ⟨_, HV.out.wider (Nat.le_refl _) hs1 (Nat.le_refl _)⟩ (Nat.le_refl _) rfl (fun _ _ => rfl) rfl B1
      | false =>
        go_wp2_with fail
        refine (complete_f _ _ Z D ⟨_, HF.out⟩ HC.out.symm).mono ?_
        rintro e w1 ⟨rfl, hb1⟩
        have B1 := hb.trans (hb1.mono hb.size)
        clear hb hb1 HF
        go_wp2
        go_ret2
        exact retVB (Vec.nil _ _ (Nat.le_refl _)) (Nat.le_refl _) rfl (fun _ _ => rfl) rfl B1

set_option maxHeartbeats 2000000 in
set_option maxRecDepth 100000 in
theorem pairwise_sub (w : World) {lo hi lo2 hi2 : Nat} {v1 v2 : Value} (n : Nat) (X S Z : Nat → Int) (Y T D : Nat → Nat) (h1 : Vec w lo hi v1 n (fun i => qv (X i) (Y i))) (h2 : Vec w lo2 hi2 v2 n (fun i => qv (S i) (T i))) (hx : ∀ i, i < n → IsQ (X i) (Y i)) (hy : ∀ i, i < n → IsQ (S i) (T i)) (hn : n ≤ 24) (hz : ∀ i, i < n → Z i = (qsub (X i) (Y i) (S i) (T i)).1 ∧ D i = (qsub (X i) (Y i) (S i) (T i)).2) (c : Bool) (hc : c = fineB D n) :
    Calls Try.prog 59 #[v1, v2, .func (Fn.func 62) #[] #[]] w (RetVB w (if c then n else 0) (fun i => qv (Z i) (D i)) c) := by
  obtain ⟨A, h1⟩ := h1
  obtain ⟨B, h2⟩ := h2
  obtain ⟨ao, cap, rfl, -, -, -⟩ := h1.form
  obtain ⟨ao2, cap2, rfl, -, -, -⟩ := h2.form
  have H1 := Lib.hid h1
  have H2 := Lib.hid h2
  have HX := Lib.hid hx
  have HY := Lib.hid hy
  have HZ := Lib.hid hz
  have HC := Lib.hid hc
  clear h1 h2 hx hy hz hc
  go_enter Try.func59, Try.ntmps59
  go_wp2
  go_loopw [8, 12] (fun v k wr => ∃ (i : Nat) (E : Nat → Ent), i ≤ n ∧ k = .int .i64 i ∧ Hid (VecF wr w.heap.size wr.heap.size v i E (fun i => qv (Z i) (D i))) ∧ Below w.heap.size w wr) (fun _ k _ => n - (intOf k).toNat)
  case atStart => exact ⟨0, fun _ => ⟨false, .slice none 0 0, .slice none 0 0⟩, by omega, rfl, VecF.nil _ _ _ (Nat.le_refl _), Below.refl _ _⟩
  case round =>
    obtain ⟨i, E, hi, rfl, HF, hb⟩ := hrel
    by_cases hlt : i < n
    · obtain ⟨g, rfl, -, hg1, -⟩ := H1.out.addr hlt
      obtain ⟨g2, rfl, -, hg2, -⟩ := H2.out.addr hlt
      have t1 : (i : Int) < n := by omega
      have BD := below_drew hb
      have HA := Lib.hid (H1.out.bel BD)
      obtain ⟨au, cu, ad, cd, k1, k2, k3, o1, o2⟩ := HA.out.elemq hlt
      have HOA := Lib.hid (And.intro o1 o2)
      clear HA o1 o2
      have HB := Lib.hid (H2.out.bel BD)
      obtain ⟨bu, eu, bd, ed, m1, m2, m3, o1, o2⟩ := HB.out.elemq hlt
      have HOB := Lib.hid (And.intro o1 o2)
      have HF2 := Lib.hid HF.out.drew
      have hlo : w.heap.size ≤ wr.drew.heap.size := BD.size
      clear HB HF o1 o2 hb
      go_wp2_with fail
      go_region_held3 (fun w' => w'.cell? ⟨g, i * 3, none⟩ = some (.bool (ng (X i))) ∧ w'.cell? ⟨g, i * 3 + 1, none⟩ = some (.slice au (limbs (X i).natAbs).length cu) ∧ w'.cell? ⟨g, i * 3 + 2, none⟩ = some (.slice ad (limbs (Y i)).length cd) ∧ w'.cell? ⟨g2, i * 3, none⟩ = some (.bool (ng (S i))) ∧ w'.cell? ⟨g2, i * 3 + 1, none⟩ = some (.slice bu (limbs (S i).natAbs).length eu) ∧ w'.cell? ⟨g2, i * 3 + 2, none⟩ = some (.slice bd (limbs (T i)).length ed)) (first | exact ⟨k1, k2, k3, m1, m2, m3⟩ | exact ⟨keep_cell (alloc_bel _ _) k1, keep_cell (alloc_bel _ _) k2, keep_cell (alloc_bel _ _) k3, keep_cell (alloc_bel _ _) m1, keep_cell (alloc_bel _ _) m2, keep_cell (alloc_bel _ _) m3⟩ | go_keep)
        (first | (go_at_call 62; refine (sub_c _ lo lo _ _ (X i) (Y i) HOA.out.1 HOA.out.2 lo2 lo2 _ _ (S i) (T i) HOB.out.1 HOB.out.2 (.inl (HX.out i hlt)) (.inl (HY.out i hlt)) (Z i) (D i) (HZ.out i hlt).1 (HZ.out i hlt).2).mono ?_; rintro e w1 ⟨u, d, rfl, ho1, ho2, ha, hb1⟩; obtain ⟨ua, uc, rfl, -, -, -, -, -⟩ := ho1.form; obtain ⟨da, dc, rfl, -, -, -, -, -⟩ := ho2.form; have HN := Lib.hid (And.intro (And.intro ho1 ho2) (And.intro ha hb1)); clear ho1 ho2 ha; replace k1 := keep_cell hb1 k1; replace k2 := keep_cell hb1 k2; replace k3 := keep_cell hb1 k3; replace m1 := keep_cell hb1 m1; replace m2 := keep_cell hb1 m2; replace m3 := keep_cell hb1 m3; clear hb1)
               | (rw [if_pos (by rfl)]; refine app_new_wp _ _ rfl HF2.out hlo HN.out.2.2 rfl HN.out.1.1 HN.out.1.2 HN.out.2.1 (by omega) rfl rfl ?_; intro v' w2 hv hbl has; replace k1 := has _ _ (keep_cell (alloc_bel _ _) k1) (.inl hg1); replace k2 := has _ _ (keep_cell (alloc_bel _ _) k2) (.inl hg1); replace k3 := has _ _ (keep_cell (alloc_bel _ _) k3) (.inl hg1); replace m1 := has _ _ (keep_cell (alloc_bel _ _) m1) (.inl hg2); replace m2 := has _ _ (keep_cell (alloc_bel _ _) m2) (.inl hg2); replace m3 := has _ _ (keep_cell (alloc_bel _ _) m3) (.inl hg2); have HV := Lib.hid hv; have B2 := BD.trans hbl; clear hv hbl has HN HF2))
      obtain ⟨F, hF⟩ := HV.out
      have HVF := Lib.hid hF
      clear hF HV
      go_wp2
      go_roundw
      case rel => exact ⟨i + 1, F, by omega, by go_num, HVF.out, B2⟩
      case measure => (simp [intOf]) <;> omega
    · obtain rfl : i = n := by omega
      cases c with
      | true =>
        go_wp2_with fail
        refine (complete_t _ _ Z D ⟨_, HF.out⟩ HC.out.symm).mono ?_
        rintro e w1 ⟨rfl, hb1⟩
        have HV := Lib.hid (HF.out.bel hb1)
        have hs1 := hb1.size
        have B1 := hb.trans (hb1.mono hb.size)
        clear hb hb1 HF
        go_wp2
        go_ret2
        exact retVB ⟨_, HV.out.wider (Nat.le_refl _) hs1 (Nat.le_refl _)⟩ (Nat.le_refl _) rfl (fun _ _ => rfl) rfl B1
      | false =>
        go_wp2_with fail
        refine (complete_f _ _ Z D ⟨_, HF.out⟩ HC.out.symm).mono ?_
        rintro e w1 ⟨rfl, hb1⟩
        have B1 := hb.trans (hb1.mono hb.size)
        clear hb hb1 HF
        go_wp2
        go_ret2
        exact retVB (Vec.nil _ _ (Nat.le_refl _)) (Nat.le_refl _) rfl (fun _ _ => rfl) rfl B1

set_option maxHeartbeats 2000000 in
set_option maxRecDepth 100000 in
theorem AddVectors_b1 (w : World) {lo hi lo2 hi2 : Nat} {v1 v2 : Value} (n : Nat) (A : Nat → Rc) (m : Nat) (B : Nat → Rc) (h1 : Vec w lo hi v1 n A) (h2 : Vec w lo2 hi2 v2 m B) (R : Nat → Rc) (hA : ¬ OkV n A) : Calls Try.prog 31 #[v1, v2] w (RetVB w 0 R false) := by
  obtain ⟨ao, cap, rfl, f1, -, -⟩ := h1.form
  obtain ⟨ao2, cap2, rfl, f2, -, -⟩ := h2.form
  have H1 := Lib.hid h1
  have H2 := Lib.hid h2
  have HA := Lib.hid hA
  clear h1 h2 hA
  go_enter Try.func31, Try.ntmps31
  go_wp2_with fail
  refine (IsVector_f _ n A H1.out HA.out).mono ?_
  rintro e w1 ⟨rfl, B1⟩
  go_wp2
  go_ret2
  exact retVB (Vec.nil _ _ (Nat.le_refl _)) (Nat.le_refl _) rfl (fun _ _ => rfl) rfl B1

set_option maxHeartbeats 2000000 in
set_option maxRecDepth 100000 in
theorem AddVectors_b2 (w : World) {lo hi lo2 hi2 : Nat} {v1 v2 : Value} (n : Nat) (A : Nat → Rc) (m : Nat) (B : Nat → Rc) (h1 : Vec w lo hi v1 n A) (h2 : Vec w lo2 hi2 v2 m B) (R : Nat → Rc) (hA : OkV n A) (hB : ¬ OkV m B) : Calls Try.prog 31 #[v1, v2] w (RetVB w 0 R false) := by
  obtain ⟨ao, cap, rfl, f1, -, -⟩ := h1.form
  obtain ⟨ao2, cap2, rfl, f2, -, -⟩ := h2.form
  have H1 := Lib.hid h1
  have H2 := Lib.hid h2
  have HA := Lib.hid hA
  have HB := Lib.hid hB
  clear h1 h2 hA hB
  go_enter Try.func31, Try.ntmps31
  go_wp2_with fail
  refine (IsVector_t _ n A H1.out HA.out).mono ?_
  rintro e w1 ⟨rfl, B1⟩
  go_wp2_with fail
  refine (IsVector_f _ m B (H2.out.bel B1) HB.out).mono ?_
  rintro e w2 ⟨rfl, hb⟩
  replace B1 := B1.trans (hb.mono B1.size)
  clear hb
  go_wp2
  go_ret2
  exact retVB (Vec.nil _ _ (Nat.le_refl _)) (Nat.le_refl _) rfl (fun _ _ => rfl) rfl B1

set_option maxHeartbeats 2000000 in
set_option maxRecDepth 100000 in
theorem AddVectors_b3 (w : World) {lo hi lo2 hi2 : Nat} {v1 v2 : Value} (n : Nat) (A : Nat → Rc) (m : Nat) (B : Nat → Rc) (h1 : Vec w lo hi v1 n A) (h2 : Vec w lo2 hi2 v2 m B) (R : Nat → Rc) (hA : OkV n A) (hB : OkV m B) (hne : n ≠ m) : Calls Try.prog 31 #[v1, v2] w (RetVB w 0 R false) := by
  obtain ⟨ao, cap, rfl, f1, -, -⟩ := h1.form
  obtain ⟨ao2, cap2, rfl, f2, -, -⟩ := h2.form
  have H1 := Lib.hid h1
  have H2 := Lib.hid h2
  have HA := Lib.hid hA
  have HB := Lib.hid hB
  have d0 : ((n : Int) == m) = false := beq_false_of_ne (by omega)
  clear h1 h2 hA hB hne
  go_enter Try.func31, Try.ntmps31
  go_wp2_with fail
  refine (IsVector_t _ n A H1.out HA.out).mono ?_
  rintro e w1 ⟨rfl, B1⟩
  go_wp2_with fail
  refine (IsVector_t _ m B (H2.out.bel B1) HB.out).mono ?_
  rintro e w2 ⟨rfl, hb⟩
  replace B1 := B1.trans (hb.mono B1.size)
  clear hb
  go_wp2
  go_ret2
  exact retVB (Vec.nil _ _ (Nat.le_refl _)) (Nat.le_refl _) rfl (fun _ _ => rfl) rfl B1

set_option maxHeartbeats 2000000 in
set_option maxRecDepth 100000 in
theorem AddVectors_good (w : World) {lo hi lo2 hi2 : Nat} {v1 v2 : Value} (n : Nat) (A : Nat → Rc) (B : Nat → Rc) (h1 : Vec w lo hi v1 n A) (h2 : Vec w lo2 hi2 v2 n B) (hA : OkV n A) (hB : OkV n B) (c : Bool) (hc : c = fineB (fun i => (vop qadd A B i).2) n) : Calls Try.prog 31 #[v1, v2] w (RetVB w (if c then n else 0) (v2R qadd A B) c) := by
  obtain ⟨ao, cap, rfl, f1, -, -⟩ := h1.form
  obtain ⟨ao2, cap2, rfl, f2, -, -⟩ := h2.form
  have H1 := Lib.hid h1
  have H2 := Lib.hid h2
  have HA := Lib.hid hA
  have HB := Lib.hid hB
  have HC := Lib.hid hc
  obtain ⟨N, hN⟩ : ∃ N, N = if c then n else 0 := ⟨_, rfl⟩
  rw [← hN]
  have HNN := Lib.hid hN
  clear h1 h2 hA hB hc hN
  go_enter Try.func31, Try.ntmps31
  go_wp2_with fail
  refine (IsVector_t _ n A H1.out HA.out).mono ?_
  rintro e w1 ⟨rfl, B1⟩
  go_wp2_with fail
  refine (IsVector_t _ n B (H2.out.bel B1) HB.out).mono ?_
  rintro e w2 ⟨rfl, hb⟩
  replace B1 := B1.trans (hb.mono B1.size)
  clear hb
  go_wp2_with fail
  refine (pairwise_add _ n _ _ (fun i => (vop qadd A B i).1) _ _ (fun i => (vop qadd A B i).2) ((H1.out.bel B1).toQ HA.out) ((H2.out.bel B1).toQ HB.out) (fun i hi => (okV_q HA.out i hi).2) (fun i hi => (okV_q HB.out i hi).2) HA.out.1 (fun i _ => ⟨rfl, rfl⟩) c HC.out).mono ?_
  rintro e w3 ⟨v, rfl, hv, hb⟩
  have HV := Lib.hid hv
  have hs1 := B1.size
  replace B1 := B1.trans (hb.mono B1.size)
  clear hv hb
  go_wp2
  go_ret2
  exact retVB HV.out hs1 HNN.out.symm (fun _ _ => rfl) rfl B1

theorem AddVectors_c (w : World) {lo hi lo2 hi2 : Nat} {v1 v2 : Value} (n : Nat) (A : Nat → Rc) (m : Nat) (B : Nat → Rc) (h1 : Vec w lo hi v1 n A) (h2 : Vec w lo2 hi2 v2 m B) : Calls Try.prog 31 #[v1, v2] w (RetVB w (v2N qadd n A m B) (v2R qadd A B) (v2c qadd n A m B)) := by
  by_cases h : OkV n A ∧ OkV m B ∧ n = m
  · have e := v2c_yes (op := qadd) h
    obtain ⟨hA, hB, rfl⟩ := h
    have := AddVectors_good w n A B h1 h2 hA hB _ rfl
    unfold v2N
    rw [e]; exact this
  · have e := v2c_no (op := qadd) h
    unfold v2N
    rw [e]
    by_cases hA : OkV n A
    · by_cases hB : OkV m B
      · exact AddVectors_b3 w n A m B h1 h2 _ hA hB fun e => h ⟨hA, hB, e⟩
      · exact AddVectors_b2 w n A m B h1 h2 _ hA hB
    · exact AddVectors_b1 w n A m B h1 h2 _ hA

set_option maxHeartbeats 2000000 in
set_option maxRecDepth 100000 in
theorem SubtractVectors_b1 (w : World) {lo hi lo2 hi2 : Nat} {v1 v2 : Value} (n : Nat) (A : Nat → Rc) (m : Nat) (B : Nat → Rc) (h1 : Vec w lo hi v1 n A) (h2 : Vec w lo2 hi2 v2 m B) (R : Nat → Rc) (hA : ¬ OkV n A) : Calls Try.prog 33 #[v1, v2] w (RetVB w 0 R false) := by
  obtain ⟨ao, cap, rfl, f1, -, -⟩ := h1.form
  obtain ⟨ao2, cap2, rfl, f2, -, -⟩ := h2.form
  have H1 := Lib.hid h1
  have H2 := Lib.hid h2
  have HA := Lib.hid hA
  clear h1 h2 hA
  go_enter Try.func33, Try.ntmps33
  go_wp2_with fail
  refine (IsVector_f _ n A H1.out HA.out).mono ?_
  rintro e w1 ⟨rfl, B1⟩
  go_wp2
  go_ret2
  exact retVB (Vec.nil _ _ (Nat.le_refl _)) (Nat.le_refl _) rfl (fun _ _ => rfl) rfl B1

set_option maxHeartbeats 2000000 in
set_option maxRecDepth 100000 in
theorem SubtractVectors_b2 (w : World) {lo hi lo2 hi2 : Nat} {v1 v2 : Value} (n : Nat) (A : Nat → Rc) (m : Nat) (B : Nat → Rc) (h1 : Vec w lo hi v1 n A) (h2 : Vec w lo2 hi2 v2 m B) (R : Nat → Rc) (hA : OkV n A) (hB : ¬ OkV m B) : Calls Try.prog 33 #[v1, v2] w (RetVB w 0 R false) := by
  obtain ⟨ao, cap, rfl, f1, -, -⟩ := h1.form
  obtain ⟨ao2, cap2, rfl, f2, -, -⟩ := h2.form
  have H1 := Lib.hid h1
  have H2 := Lib.hid h2
  have HA := Lib.hid hA
  have HB := Lib.hid hB
  clear h1 h2 hA hB
  go_enter Try.func33, Try.ntmps33
  go_wp2_with fail
  refine (IsVector_t _ n A H1.out HA.out).mono ?_
  rintro e w1 ⟨rfl, B1⟩
  go_wp2_with fail
  refine (IsVector_f _ m B (H2.out.bel B1) HB.out).mono ?_
  rintro e w2 ⟨rfl, hb⟩
  replace B1 := B1.trans (hb.mono B1.size)
  clear hb
  go_wp2
  go_ret2
  exact retVB (Vec.nil _ _ (Nat.le_refl _)) (Nat.le_refl _) rfl (fun _ _ => rfl) rfl B1

set_option maxHeartbeats 2000000 in
set_option maxRecDepth 100000 in
theorem SubtractVectors_b3 (w : World) {lo hi lo2 hi2 : Nat} {v1 v2 : Value} (n : Nat) (A : Nat → Rc) (m : Nat) (B : Nat → Rc) (h1 : Vec w lo hi v1 n A) (h2 : Vec w lo2 hi2 v2 m B) (R : Nat → Rc) (hA : OkV n A) (hB : OkV m B) (hne : n ≠ m) : Calls Try.prog 33 #[v1, v2] w (RetVB w 0 R false) := by
  obtain ⟨ao, cap, rfl, f1, -, -⟩ := h1.form
  obtain ⟨ao2, cap2, rfl, f2, -, -⟩ := h2.form
  have H1 := Lib.hid h1
  have H2 := Lib.hid h2
  have HA := Lib.hid hA
  have HB := Lib.hid hB
  have d0 : ((n : Int) == m) = false := beq_false_of_ne (by omega)
  clear h1 h2 hA hB hne
  go_enter Try.func33, Try.ntmps33
  go_wp2_with fail
  refine (IsVector_t _ n A H1.out HA.out).mono ?_
  rintro e w1 ⟨rfl, B1⟩
  go_wp2_with fail
  refine (IsVector_t _ m B (H2.out.bel B1) HB.out).mono ?_
  rintro e w2 ⟨rfl, hb⟩
  replace B1 := B1.trans (hb.mono B1.size)
  clear hb
  go_wp2
  go_ret2
  exact retVB (Vec.nil _ _ (Nat.le_refl _)) (Nat.le_refl _) rfl (fun _ _ => rfl) rfl B1

set_option maxHeartbeats 2000000 in
set_option maxRecDepth 100000 in
theorem SubtractVectors_good (w : World) {lo hi lo2 hi2 : Nat} {v1 v2 : Value} (n : Nat) (A : Nat → Rc) (B : Nat → Rc) (h1 : Vec w lo hi v1 n A) (h2 : Vec w lo2 hi2 v2 n B) (hA : OkV n A) (hB : OkV n B) (c : Bool) (hc : c = fineB (fun i => (vop qsub A B i).2) n) : Calls Try.prog 33 #[v1, v2] w (RetVB w (if c then n else 0) (v2R qsub A B) c) := by
  obtain ⟨ao, cap, rfl, f1, -, -⟩ := h1.form
  obtain ⟨ao2, cap2, rfl, f2, -, -⟩ := h2.form
  have H1 := Lib.hid h1
  have H2 := Lib.hid h2
  have HA := Lib.hid hA
  have HB := Lib.hid hB
  have HC := Lib.hid hc
  obtain ⟨N, hN⟩ : ∃ N, N = if c then n else 0 := ⟨_, rfl⟩
  rw [← hN]
  have HNN := Lib.hid hN
  clear h1 h2 hA hB hc hN
  go_enter Try.func33, Try.ntmps33
  go_wp2_with fail
  refine (IsVector_t _ n A H1.out HA.out).mono ?_
  rintro e w1 ⟨rfl, B1⟩
  go_wp2_with fail
  refine (IsVector_t _ n B (H2.out.bel B1) HB.out).mono ?_
  rintro e w2 ⟨rfl, hb⟩
  replace B1 := B1.trans (hb.mono B1.size)
  clear hb
  go_wp2_with fail
  refine (pairwise_sub _ n _ _ (fun i => (vop qsub A B i).1) _ _ (fun i => (vop qsub A B i).2) ((H1.out.bel B1).toQ HA.out) ((H2.out.bel B1).toQ HB.out) (fun i hi => (okV_q HA.out i hi).2) (fun i hi => (okV_q HB.out i hi).2) HA.out.1 (fun i _ => ⟨rfl, rfl⟩) c HC.out).mono ?_
  rintro e w3 ⟨v, rfl, hv, hb⟩
  have HV := Lib.hid hv
  have hs1 := B1.size
  replace B1 := B1.trans (hb.mono B1.size)
  clear hv hb
  go_wp2
  go_ret2
  exact retVB HV.out hs1 HNN.out.symm (fun _ _ => rfl) rfl B1

theorem SubtractVectors_c (w : World) {lo hi lo2 hi2 : Nat} {v1 v2 : Value} (n : Nat) (A : Nat → Rc) (m : Nat) (B : Nat → Rc) (h1 : Vec w lo hi v1 n A) (h2 : Vec w lo2 hi2 v2 m B) : Calls Try.prog 33 #[v1, v2] w (RetVB w (v2N qsub n A m B) (v2R qsub A B) (v2c qsub n A m B)) := by
  by_cases h : OkV n A ∧ OkV m B ∧ n = m
  · have e := v2c_yes (op := qsub) h
    obtain ⟨hA, hB, rfl⟩ := h
    have := SubtractVectors_good w n A B h1 h2 hA hB _ rfl
    unfold v2N
    rw [e]; exact this
  · have e := v2c_no (op := qsub) h
    unfold v2N
    rw [e]
    by_cases hA : OkV n A
    · by_cases hB : OkV m B
      · exact SubtractVectors_b3 w n A m B h1 h2 _ hA hB fun e => h ⟨hA, hB, e⟩
      · exact SubtractVectors_b2 w n A m B h1 h2 _ hA hB
    · exact SubtractVectors_b1 w n A m B h1 h2 _ hA

end Go.Proofs.Ytcmhpdhcpkhejaa
