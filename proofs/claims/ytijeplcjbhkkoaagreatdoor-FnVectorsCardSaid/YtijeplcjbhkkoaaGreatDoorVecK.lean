/- Merged texts. -/
import Derived.Test.YtijeplcjbhkkoaaGreatDoorVecJ
import Derived.StillTailTactics

/- pairwise, AddVectors and SubtractVectors of the program. -/
namespace Go.Proofs.YtijeplcjbhkkoaaGreatDoor
open Go.RowKit Lm

theorem complete_t (w : World) {lo hi : Nat} {v1 : Value} (n : Nat) (Z : Nat → Int) (D : Nat → Nat) (h1 : Vec w lo hi v1 n (fun i => qv (Z i) (D i))) (h : fineB D n = true) : Calls Tryz.prog 77 #[v1] w (RetB w true) := by
  have := complete_c w n Z D h1
  rw [h] at this; exact this
theorem complete_f (w : World) {lo hi : Nat} {v1 : Value} (n : Nat) (Z : Nat → Int) (D : Nat → Nat) (h1 : Vec w lo hi v1 n (fun i => qv (Z i) (D i))) (h : fineB D n = false) : Calls Tryz.prog 77 #[v1] w (RetB w false) := by
  have := complete_c w n Z D h1
  rw [h] at this; exact this

set_option maxHeartbeats 2000000 in
set_option maxRecDepth 100000 in
theorem pairwise_add (w : World) {lo hi lo2 hi2 : Nat} {v1 v2 : Value} (n : Nat) (X S Z : Nat → Int) (Y T D : Nat → Nat) (h1 : Vec w lo hi v1 n (fun i => qv (X i) (Y i))) (h2 : Vec w lo2 hi2 v2 n (fun i => qv (S i) (T i))) (hx : ∀ i, i < n → IsQ (X i) (Y i)) (hy : ∀ i, i < n → IsQ (S i) (T i)) (hn : n ≤ 24) (hz : ∀ i, i < n → Z i = (qadd (X i) (Y i) (S i) (T i)).1 ∧ D i = (qadd (X i) (Y i) (S i) (T i)).2) (c : Bool) (hc : c = fineB D n) :
    Calls Tryz.prog 47 #[v1, v2, .func (Fn.func 31) #[] #[]] w (RetVB w (if c then n else 0) (fun i => qv (Z i) (D i)) c) := by
  obtain ⟨A, h1⟩ := h1
  obtain ⟨B, h2⟩ := h2
  obtain ⟨ao, cap, rfl, -, -, -⟩ := h1.form
  obtain ⟨ao2, cap2, rfl, -, -, -⟩ := h2.form
  have H1 := Lib.hid h1
  have H2 := Lib.hid h2
  have HX := Lib.hid hx
  have HY := Lib.hid hy
  have HZ := Lib.hid hz
  have HC := Lib.hid hc
  clear h1 h2 hx hy hz hc
  go_enter Tryz.func47, Tryz.ntmps47
  go_wp2
  go_loopw [8, 12] (fun v k wr => ∃ (i : Nat) (E : Nat → Ent), i ≤ n ∧ k = .int .i64 i ∧ Hid (VecF wr w.heap.size wr.heap.size v i E (fun i => qv (Z i) (D i))) ∧ Below w.heap.size w wr) (fun _ k _ => n - (intOf k).toNat)
  case atStart => exact ⟨0, fun _ => ⟨false, .slice none 0 0, .slice none 0 0⟩, by omega, rfl, VecF.nil _ _ _ (Nat.le_refl _), Below.refl _ _⟩
  case round =>
    obtain ⟨i, E, hi, rfl, HF, hb⟩ := hrel
    by_cases hlt : i < n
    · obtain ⟨g, rfl, -, hg1, -⟩ := H1.out.addr hlt
      obtain ⟨g2, rfl, -, hg2, -⟩ := H2.out.addr hlt
      have t1 : (i : Int) < n := by omega
      have BD := below_drew hb
      have HA := Lib.hid (H1.out.bel BD)
      obtain ⟨au, cu, ad, cd, k1, k2, k3, o1, o2⟩ := HA.out.elemq hlt
      have HOA := Lib.hid (And.intro o1 o2)
      clear HA o1 o2
      have HB := Lib.hid (H2.out.bel BD)
      obtain ⟨bu, eu, bd, ed, m1, m2, m3, o1, o2⟩ := HB.out.elemq hlt
      have HOB := Lib.hid (And.intro o1 o2)
      have HF2 := Lib.hid HF.out.drew
      have hlo : w.heap.size ≤ wr.drew.heap.size := BD.size
      clear HB HF o1 o2 hb
      go_wp2_with fail
      go_region_held3 (fun w' => w'.cell? ⟨g, i * 3, none⟩ = some (.bool (ng (X i))) ∧ w'.cell? ⟨g, i * 3 + 1, none⟩ = some (.slice au (limbs (X i).natAbs).length cu) ∧ w'.cell? ⟨g, i * 3 + 2, none⟩ = some (.slice ad (limbs (Y i)).length cd) ∧ w'.cell? ⟨g2, i * 3, none⟩ = some (.bool (ng (S i))) ∧ w'.cell? ⟨g2, i * 3 + 1, none⟩ = some (.slice bu (limbs (S i).natAbs).length eu) ∧ w'.cell? ⟨g2, i * 3 + 2, none⟩ = some (.slice bd (limbs (T i)).length ed)) (first | exact ⟨k1, k2, k3, m1, m2, m3⟩ | exact ⟨keep_cell (alloc_bel _ _) k1, keep_cell (alloc_bel _ _) k2, keep_cell (alloc_bel _ _) k3, keep_cell (alloc_bel _ _) m1, keep_cell (alloc_bel _ _) m2, keep_cell (alloc_bel _ _) m3⟩ | go_keep)
        (first | (go_at_call 31; refine (add_c _ lo lo _ _ (X i) (Y i) HOA.out.1 HOA.out.2 lo2 lo2 _ _ (S i) (T i) HOB.out.1 HOB.out.2 (.inl (HX.out i hlt)) (.inl (HY.out i hlt)) (Z i) (D i) (HZ.out i hlt).1 (HZ.out i hlt).2).mono ?_; rintro e w1 ⟨u, d, rfl, ho1, ho2, ha, hb1⟩; obtain ⟨ua, uc, rfl, -, -, -, -, -⟩ := ho1.form; obtain ⟨da, dc, rfl, -, -, -, -, -⟩ := ho2.form; have HN := Lib.hid (And.intro (And.intro ho1 ho2) (And.intro ha hb1)); clear ho1 ho2 ha; replace k1 := keep_cell hb1 k1; replace k2 := keep_cell hb1 k2; replace k3 := keep_cell hb1 k3; replace m1 := keep_cell hb1 m1; replace m2 := keep_cell hb1 m2; replace m3 := keep_cell hb1 m3; clear hb1)
               | (rw [if_pos (by rfl)]; refine app_new_wp _ _ rfl HF2.out hlo HN.out.2.2 rfl HN.out.1.1 HN.out.1.2 HN.out.2.1 (by omega) rfl rfl ?_; intro v' w2 hv hbl has; replace k1 := has _ _ (keep_cell (alloc_bel _ _) k1) (.inl hg1); replace k2 := has _ _ (keep_cell (alloc_bel _ _) k2) (.inl hg1); replace k3 := has _ _ (keep_cell (alloc_bel _ _) k3) (.inl hg1); replace m1 := has _ _ (keep_cell (alloc_bel _ _) m1) (.inl hg2); replace m2 := has _ _ (keep_cell (alloc_bel _ _) m2) (.inl hg2); replace m3 := has _ _ (keep_cell (alloc_bel _ _) m3) (.inl hg2); have HV := Lib.hid hv; have B2 := BD.trans hbl; clear hv hbl has HN HF2))
      obtain ⟨F, hF⟩ := HV.out
      have HVF := Lib.hid hF
      clear hF HV
      go_wp2
      go_roundw
      case rel => exact ⟨i + 1, F, by omega, by go_num, HVF.out, B2⟩
      case measure => (simp [intOf]) <;> omega
    · obtain rfl : i = n := by omega
      cases c with
      | true =>
        go_wp2_with fail
        refine (complete_t _ _ Z D ⟨_, HF.out⟩ HC.out.symm).mono ?_
        rintro e w1 ⟨rfl, hb1⟩
        have HV := Lib.hid (HF.out.bel hb1)
        have hs1 := hb1.size
        have B1 := hb.trans (hb1.mono hb.size)
        clear hb hb1 HF
        go_wp2
        go_ret2
        exact retVB ⟨_, HV.out.wider (Nat.le_refl _) hs1 (Nat.le_refl _)⟩ (Nat.le_refl _) rfl (fun _ _ => rfl) rfl B1
      | false =>
        go_wp2_with fail
        refine (complete_f _ _ Z D ⟨_, HF.out⟩ HC.out.symm).mono ?_
        rintro e w1 ⟨rfl, hb1⟩
        have B1 := hb.trans (hb1.mono hb.size)
        clear hb hb1 HF
        go_wp2
        go_ret2
        exact retVB (Vec.nil _ _ (Nat.le_refl _)) (Nat.le_refl _) rfl (fun _ _ => rfl) rfl B1

set_option maxHeartbeats 2000000 in
set_option maxRecDepth 100000 in
theorem pairwise_sub (w : World) {lo hi lo2 hi2 : Nat} {v1 v2 : Value} (n : Nat) (X S Z : Nat → Int) (Y T D : Nat → Nat) (h1 : Vec w lo hi v1 n (fun i => qv (X i) (Y i))) (h2 : Vec w lo2 hi2 v2 n (fun i => qv (S i) (T i))) (hx : ∀ i, i < n → IsQ (X i) (Y i)) (hy : ∀ i, i < n → IsQ (S i) (T i)) (hn : n ≤ 24) (hz : ∀ i, i < n → Z i = (qsub (X i) (Y i) (S i) (T i)).1 ∧ D i = (qsub (X i) (Y i) (S i) (T i)).2) (c : Bool) (hc : c = fineB D n) :
    Calls Tryz.prog 47 #[v1, v2, .func (Fn.func 42) #[] #[]] w (RetVB w (if c then n else 0) (fun i => qv (Z i) (D i)) c) := by
  obtain ⟨A, h1⟩ := h1
  obtain ⟨B, h2⟩ := h2
  obtain ⟨ao, cap, rfl, -, -, -⟩ := h1.form
  obtain ⟨ao2, cap2, rfl, -, -, -⟩ := h2.form
  have H1 := Lib.hid h1
  have H2 := Lib.hid h2
  have HX := Lib.hid hx
  have HY := Lib.hid hy
  have HZ := Lib.hid hz
  have HC := Lib.hid hc
  clear h1 h2 hx hy hz hc
  go_enter Tryz.func47, Tryz.ntmps47
  go_wp2
  go_loopw [8, 12] (fun v k wr => ∃ (i : Nat) (E : Nat → Ent), i ≤ n ∧ k = .int .i64 i ∧ Hid (VecF wr w.heap.size wr.heap.size v i E (fun i => qv (Z i) (D i))) ∧ Below w.heap.size w wr) (fun _ k _ => n - (intOf k).toNat)
  case atStart => exact ⟨0, fun _ => ⟨false, .slice none 0 0, .slice none 0 0⟩, by omega, rfl, VecF.nil _ _ _ (Nat.le_refl _), Below.refl _ _⟩
  case round =>
    obtain ⟨i, E, hi, rfl, HF, hb⟩ := hrel
    by_cases hlt : i < n
    · obtain ⟨g, rfl, -, hg1, -⟩ := H1.out.addr hlt
      obtain ⟨g2, rfl, -, hg2, -⟩ := H2.out.addr hlt
      have t1 : (i : Int) < n := by omega
      have BD := below_drew hb
      have HA := Lib.hid (H1.out.bel BD)
      obtain ⟨au, cu, ad, cd, k1, k2, k3, o1, o2⟩ := HA.out.elemq hlt
      have HOA := Lib.hid (And.intro o1 o2)
      clear HA o1 o2
      have HB := Lib.hid (H2.out.bel BD)
      obtain ⟨bu, eu, bd, ed, m1, m2, m3, o1, o2⟩ := HB.out.elemq hlt
      have HOB := Lib.hid (And.intro o1 o2)
      have HF2 := Lib.hid HF.out.drew
      have hlo : w.heap.size ≤ wr.drew.heap.size := BD.size
      clear HB HF o1 o2 hb
      go_wp2_with fail
      go_region_held3 (fun w' => w'.cell? ⟨g, i * 3, none⟩ = some (.bool (ng (X i))) ∧ w'.cell? ⟨g, i * 3 + 1, none⟩ = some (.slice au (limbs (X i).natAbs).length cu) ∧ w'.cell? ⟨g, i * 3 + 2, none⟩ = some (.slice ad (limbs (Y i)).length cd) ∧ w'.cell? ⟨g2, i * 3, none⟩ = some (.bool (ng (S i))) ∧ w'.cell? ⟨g2, i * 3 + 1, none⟩ = some (.slice bu (limbs (S i).natAbs).length eu) ∧ w'.cell? ⟨g2, i * 3 + 2, none⟩ = some (.slice bd (limbs (T i)).length ed)) (first | exact ⟨k1, k2, k3, m1, m2, m3⟩ | exact ⟨keep_cell (alloc_bel _ _) k1, keep_cell (alloc_bel _ _) k2, keep_cell (alloc_bel _ _) k3, keep_cell (alloc_bel _ _) m1, keep_cell (alloc_bel _ _) m2, keep_cell (alloc_bel _ _) m3⟩ | go_keep)
        (first | (go_at_call 42; refine (sub_c _ lo lo _ _ (X i) (Y i) HOA.out.1 HOA.out.2 lo2 lo2 _ _ (S i) (T i) HOB.out.1 HOB.out.2 (.inl (HX.out i hlt)) (.inl (HY.out i hlt)) (Z i) (D i) (HZ.out i hlt).1 (HZ.out i hlt).2).mono ?_; rintro e w1 ⟨u, d, rfl, ho1, ho2, ha, hb1⟩; obtain ⟨ua, uc, rfl, -, -, -, -, -⟩ := ho1.form; obtain ⟨da, dc, rfl, -, -, -, -, -⟩ := ho2.form; have HN := Lib.hid (And.intro (And.intro ho1 ho2) (And.intro ha hb1)); clear ho1 ho2 ha; replace k1 := keep_cell hb1 k1; replace k2 := keep_cell hb1 k2; replace k3 := keep_cell hb1 k3; replace m1 := keep_cell hb1 m1; replace m2 := keep_cell hb1 m2; replace m3 := keep_cell hb1 m3; clear hb1)
               | (rw [if_pos (by rfl)]; refine app_new_wp _ _ rfl HF2.out hlo HN.out.2.2 rfl HN.out.1.1 HN.out.1.2 HN.out.2.1 (by omega) rfl rfl ?_; intro v' w2 hv hbl has; replace k1 := has _ _ (keep_cell (alloc_bel _ _) k1) (.inl hg1); replace k2 := has _ _ (keep_cell (alloc_bel _ _) k2) (.inl hg1); replace k3 := has _ _ (keep_cell (alloc_bel _ _) k3) (.inl hg1); replace m1 := has _ _ (keep_cell (alloc_bel _ _) m1) (.inl hg2); replace m2 := has _ _ (keep_cell (alloc_bel _ _) m2) (.inl hg2); replace m3 := has _ _ (keep_cell (alloc_bel _ _) m3) (.inl hg2); have HV := Lib.hid hv; have B2 := BD.trans hbl; clear hv hbl has HN HF2))
      obtain ⟨F, hF⟩ := HV.out
      have HVF := Lib.hid hF
      clear hF HV
      go_wp2
      go_roundw
      case rel => exact ⟨i + 1, F, by omega, by go_num, HVF.out, B2⟩
      case measure => (simp [intOf]) <;> omega
    · obtain rfl : i = n := by omega
      cases c with
      | true =>
        go_wp2_with fail
        refine (complete_t _ _ Z D ⟨_, HF.out⟩ HC.out.symm).mono ?_
        rintro e w1 ⟨rfl, hb1⟩
        have HV := Lib.hid (HF.out.bel hb1)
        have hs1 := hb1.size
        have B1 := hb.trans (hb1.mono hb.size)
        clear hb hb1 HF
        go_wp2
        go_ret2
        exact retVB ⟨_, HV.out.wider (Nat.le_refl _) hs1 (Nat.le_refl _)⟩ (Nat.le_refl _) rfl (fun _ _ => rfl) rfl B1
      | false =>
        go_wp2_with fail
        refine (complete_f _ _ Z D ⟨_, HF.out⟩ HC.out.symm).mono ?_
        rintro e w1 ⟨rfl, hb1⟩
        have B1 := hb.trans (hb1.mono hb.size)
        clear hb hb1 HF
        go_wp2
        go_ret2
        exact retVB (Vec.nil _ _ (Nat.le_refl _)) (Nat.le_refl _) rfl (fun _ _ => rfl) rfl B1

set_option maxHeartbeats 2000000 in
set_option maxRecDepth 100000 in
theorem AddVectors_b1 (w : World) {lo hi lo2 hi2 : Nat} {v1 v2 : Value} (n : Nat) (A : Nat → Rc) (m : Nat) (B : Nat → Rc) (h1 : Vec w lo hi v1 n A) (h2 : Vec w lo2 hi2 v2 m B) (R : Nat → Rc) (hA : ¬ OkV n A) : Calls Tryz.prog 18 #[v1, v2] w (RetVB w 0 R false) := by
  obtain ⟨ao, cap, rfl, f1, -, -⟩ := h1.form
  obtain ⟨ao2, cap2, rfl, f2, -, -⟩ := h2.form
  have H1 := Lib.hid h1
  have H2 := Lib.hid h2
  have HA := Lib.hid hA
  clear h1 h2 hA
  go_enter Tryz.func18, Tryz.ntmps18
  go_wp2_with fail
  refine (IsVector_f _ n A H1.out HA.out).mono ?_
  rintro e w1 ⟨rfl, B1⟩
  go_wp2
  go_ret2
  exact retVB (Vec.nil _ _ (Nat.le_refl _)) (Nat.le_refl _) rfl (fun _ _ => rfl) rfl B1

set_option maxHeartbeats 2000000 in
set_option maxRecDepth 100000 in
theorem AddVectors_b2 (w : World) {lo hi lo2 hi2 : Nat} {v1 v2 : Value} (n : Nat) (A : Nat → Rc) (m : Nat) (B : Nat → Rc) (h1 : Vec w lo hi v1 n A) (h2 : Vec w lo2 hi2 v2 m B) (R : Nat → Rc) (hA : OkV n A) (hB : ¬ OkV m B) : Calls Tryz.prog 18 #[v1, v2] w (RetVB w 0 R false) := by
  obtain ⟨ao, cap, rfl, f1, -, -⟩ := h1.form
  obtain ⟨ao2, cap2, rfl, f2, -, -⟩ := h2.form
  have H1 := Lib.hid h1
  have H2 := Lib.hid h2
  have HA := Lib.hid hA
  have HB := Lib.hid hB
  clear h1 h2 hA hB
  go_enter Tryz.func18, Tryz.ntmps18
  go_wp2_with fail
  refine (IsVector_t _ n A H1.out HA.out).mono ?_
  rintro e w1 ⟨rfl, B1⟩
  go_wp2_with fail
  refine (IsVector_f _ m B (H2.out.bel B1) HB.out).mono ?_
  rintro e w2 ⟨rfl, hb⟩
  replace B1 := B1.trans (hb.mono B1.size)
  clear hb
  go_wp2
  go_ret2
  exact retVB (Vec.nil _ _ (Nat.le_refl _)) (Nat.le_refl _) rfl (fun _ _ => rfl) rfl B1

set_option maxHeartbeats 2000000 in
set_option maxRecDepth 100000 in
theorem AddVectors_b3 (w : World) {lo hi lo2 hi2 : Nat} {v1 v2 : Value} (n : Nat) (A : Nat → Rc) (m : Nat) (B : Nat → Rc) (h1 : Vec w lo hi v1 n A) (h2 : Vec w lo2 hi2 v2 m B) (R : Nat → Rc) (hA : OkV n A) (hB : OkV m B) (hne : n ≠ m) : Calls Tryz.prog 18 #[v1, v2] w (RetVB w 0 R false) := by
  obtain ⟨ao, cap, rfl, f1, -, -⟩ := h1.form
  obtain ⟨ao2, cap2, rfl, f2, -, -⟩ := h2.form
  have H1 := Lib.hid h1
  have H2 := Lib.hid h2
  have HA := Lib.hid hA
  have HB := Lib.hid hB
  have d0 : ((n : Int) == m) = false := beq_false_of_ne (by omega)
  clear h1 h2 hA hB hne
  go_enter Tryz.func18, Tryz.ntmps18
  go_wp2_with fail
  refine (IsVector_t _ n A H1.out HA.out).mono ?_
  rintro e w1 ⟨rfl, B1⟩
  go_wp2_with fail
  refine (IsVector_t _ m B (H2.out.bel B1) HB.out).mono ?_
  rintro e w2 ⟨rfl, hb⟩
  replace B1 := B1.trans (hb.mono B1.size)
  clear hb
  go_wp2
  go_ret2
  exact retVB (Vec.nil _ _ (Nat.le_refl _)) (Nat.le_refl _) rfl (fun _ _ => rfl) rfl B1

set_option maxHeartbeats 2000000 in
set_option maxRecDepth 100000 in
theorem AddVectors_good (w : World) {lo hi lo2 hi2 : Nat} {v1 v2 : Value} (n : Nat) (A : Nat → Rc) (B : Nat → Rc) (h1 : Vec w lo hi v1 n A) (h2 : Vec w lo2 hi2 v2 n B) (hA : OkV n A) (hB : OkV n B) (c : Bool) (hc : c = fineB (fun i => (vop qadd A B i).2) n) : Calls Tryz.prog 18 #[v1, v2] w (RetVB w (if c then n else 0) (v2R qadd A B) c) := by
  obtain ⟨ao, cap, rfl, f1, -, -⟩ := h1.form
  obtain ⟨ao2, cap2, rfl, f2, -, -⟩ := h2.form
  have H1 := Lib.hid h1
  have H2 := Lib.hid h2
  have HA := Lib.hid hA
  have HB := Lib.hid hB
  have HC := Lib.hid hc
  obtain ⟨N, hN⟩ : ∃ N, N = if c then n else 0 := ⟨_, rfl⟩
  rw [← hN]
  have HNN := Lib.hid hN
  clear h1 h2 hA hB hc hN
  go_enter Tryz.func18, Tryz.ntmps18
  go_wp2_with fail
  refine (IsVector_t _ n A H1.out HA.out).mono ?_
  rintro e w1 ⟨rfl, B1⟩
  go_wp2_with fail
  refine (IsVector_t _ n B (H2.out.bel B1) HB.out).mono ?_
  rintro e w2 ⟨rfl, hb⟩
  replace B1 := B1.trans (hb.mono B1.size)
  clear hb
  go_wp2_with fail
  refine (pairwise_add _ n _ _ (fun i => (vop qadd A B i).1) _ _ (fun i => (vop qadd A B i).2) ((H1.out.bel B1).toQ HA.out) ((H2.out.bel B1).toQ HB.out) (fun i hi => (okV_q HA.out i hi).2) (fun i hi => (okV_q HB.out i hi).2) HA.out.1 (fun i _ => ⟨rfl, rfl⟩) c HC.out).mono ?_
  rintro e w3 ⟨v, rfl, hv, hb⟩
  have HV := Lib.hid hv
  have hs1 := B1.size
  replace B1 := B1.trans (hb.mono B1.size)
  clear hv hb
  go_wp2
  go_ret2
  exact retVB HV.out hs1 HNN.out.symm (fun _ _ => rfl) rfl B1

theorem AddVectors_c (w : World) {lo hi lo2 hi2 : Nat} {v1 v2 : Value} (n : Nat) (A : Nat → Rc) (m : Nat) (B : Nat → Rc) (h1 : Vec w lo hi v1 n A) (h2 : Vec w lo2 hi2 v2 m B) : Calls Tryz.prog 18 #[v1, v2] w (RetVB w (v2N qadd n A m B) (v2R qadd A B) (v2c qadd n A m B)) := by
  by_cases h : OkV n A ∧ OkV m B ∧ n = m
  · have e := v2c_yes (op := qadd) h
    obtain ⟨hA, hB, rfl⟩ := h
    have := AddVectors_good w n A B h1 h2 hA hB _ rfl
    unfold v2N
    rw [e]; exact this
  · have e := v2c_no (op := qadd) h
    unfold v2N
    rw [e]
    by_cases hA : OkV n A
    · by_cases hB : OkV m B
      · exact AddVectors_b3 w n A m B h1 h2 _ hA hB fun e => h ⟨hA, hB, e⟩
      · exact AddVectors_b2 w n A m B h1 h2 _ hA hB
    · exact AddVectors_b1 w n A m B h1 h2 _ hA

set_option maxHeartbeats 2000000 in
set_option maxRecDepth 100000 in
theorem SubtractVectors_b1 (w : World) {lo hi lo2 hi2 : Nat} {v1 v2 : Value} (n : Nat) (A : Nat → Rc) (m : Nat) (B : Nat → Rc) (h1 : Vec w lo hi v1 n A) (h2 : Vec w lo2 hi2 v2 m B) (R : Nat → Rc) (hA : ¬ OkV n A) : Calls Tryz.prog 22 #[v1, v2] w (RetVB w 0 R false) := by
  obtain ⟨ao, cap, rfl, f1, -, -⟩ := h1.form
  obtain ⟨ao2, cap2, rfl, f2, -, -⟩ := h2.form
  have H1 := Lib.hid h1
  have H2 := Lib.hid h2
  have HA := Lib.hid hA
  clear h1 h2 hA
  go_enter Tryz.func22, Tryz.ntmps22
  go_wp2_with fail
  refine (IsVector_f _ n A H1.out HA.out).mono ?_
  rintro e w1 ⟨rfl, B1⟩
  go_wp2
  go_ret2
  exact retVB (Vec.nil _ _ (Nat.le_refl _)) (Nat.le_refl _) rfl (fun _ _ => rfl) rfl B1

set_option maxHeartbeats 2000000 in
set_option maxRecDepth 100000 in
theorem SubtractVectors_b2 (w : World) {lo hi lo2 hi2 : Nat} {v1 v2 : Value} (n : Nat) (A : Nat → Rc) (m : Nat) (B : Nat → Rc) (h1 : Vec w lo hi v1 n A) (h2 : Vec w lo2 hi2 v2 m B) (R : Nat → Rc) (hA : OkV n A) (hB : ¬ OkV m B) : Calls Tryz.prog 22 #[v1, v2] w (RetVB w 0 R false) := by
  obtain ⟨ao, cap, rfl, f1, -, -⟩ := h1.form
  obtain ⟨ao2, cap2, rfl, f2, -, -⟩ := h2.form
  have H1 := Lib.hid h1
  have H2 := Lib.hid h2
  have HA := Lib.hid hA
  have HB := Lib.hid hB
  clear h1 h2 hA hB
  go_enter Tryz.func22, Tryz.ntmps22
  go_wp2_with fail
  refine (IsVector_t _ n A H1.out HA.out).mono ?_
  rintro e w1 ⟨rfl, B1⟩
  go_wp2_with fail
  refine (IsVector_f _ m B (H2.out.bel B1) HB.out).mono ?_
  rintro e w2 ⟨rfl, hb⟩
  replace B1 := B1.trans (hb.mono B1.size)
  clear hb
  go_wp2
  go_ret2
  exact retVB (Vec.nil _ _ (Nat.le_refl _)) (Nat.le_refl _) rfl (fun _ _ => rfl) rfl B1

set_option maxHeartbeats 2000000 in
set_option maxRecDepth 100000 in
theorem SubtractVectors_b3 (w : World) {lo hi lo2 hi2 : Nat} {v1 v2 : Value} (n : Nat) (A : Nat → Rc) (m : Nat) (B : Nat → Rc) (h1 : Vec w lo hi v1 n A) (h2 : Vec w lo2 hi2 v2 m B) (R : Nat → Rc) (hA : OkV n A) (hB : OkV m B) (hne : n ≠ m) : Calls Tryz.prog 22 #[v1, v2] w (RetVB w 0 R false) := by
  obtain ⟨ao, cap, rfl, f1, -, -⟩ := h1.form
  obtain ⟨ao2, cap2, rfl, f2, -, -⟩ := h2.form
  have H1 := Lib.hid h1
  have H2 := Lib.hid h2
  have HA := Lib.hid hA
  have HB := Lib.hid hB
  have d0 : ((n : Int) == m) = false := beq_false_of_ne (by omega)
  clear h1 h2 hA hB hne
  go_enter Tryz.func22, Tryz.ntmps22
  go_wp2_with fail
  refine (IsVector_t _ n A H1.out HA.out).mono ?_
  rintro e w1 ⟨rfl, B1⟩
  go_wp2_with fail
  refine (IsVector_t _ m B (H2.out.bel B1) HB.out).mono ?_
  rintro e w2 ⟨rfl, hb⟩
  replace B1 := B1.trans (hb.mono B1.size)
  clear hb
  go_wp2
  go_ret2
  exact retVB (Vec.nil _ _ (Nat.le_refl _)) (Nat.le_refl _) rfl (fun _ _ => rfl) rfl B1

set_option maxHeartbeats 2000000 in
set_option maxRecDepth 100000 in
theorem SubtractVectors_good (w : World) {lo hi lo2 hi2 : Nat} {v1 v2 : Value} (n : Nat) (A : Nat → Rc) (B : Nat → Rc) (h1 : Vec w lo hi v1 n A) (h2 : Vec w lo2 hi2 v2 n B) (hA : OkV n A) (hB : OkV n B) (c : Bool) (hc : c = fineB (fun i => (vop qsub A B i).2) n) : Calls Tryz.prog 22 #[v1, v2] w (RetVB w (if c then n else 0) (v2R qsub A B) c) := by
  obtain ⟨ao, cap, rfl, f1, -, -⟩ := h1.form
  obtain ⟨ao2, cap2, rfl, f2, -, -⟩ := h2.form
  have H1 := Lib.hid h1
  have H2 := Lib.hid h2
  have HA := Lib.hid hA
  have HB := Lib.hid hB
  have HC := Lib.hid hc
  obtain ⟨N, hN⟩ : ∃ N, N = if c then n else 0 := ⟨_, rfl⟩
  rw [← hN]
  have HNN := Lib.hid hN
  clear h1 h2 hA hB hc hN
  go_enter Tryz.func22, Tryz.ntmps22
  go_wp2_with fail
  refine (IsVector_t _ n A H1.out HA.out).mono ?_
  rintro e w1 ⟨rfl, B1⟩
  go_wp2_with fail
  refine (IsVector_t _ n B (H2.out.bel B1) HB.out).mono ?_
  rintro e w2 ⟨rfl, hb⟩
  replace B1 := B1.trans (hb.mono B1.size)
  clear hb
  go_wp2_with fail
  refine (pairwise_sub _ n _ _ (fun i => (vop qsub A B i).1) _ _ (fun i => (vop qsub A B i).2) ((H1.out.bel B1).toQ HA.out) ((H2.out.bel B1).toQ HB.out) (fun i hi => (okV_q HA.out i hi).2) (fun i hi => (okV_q HB.out i hi).2) HA.out.1 (fun i _ => ⟨rfl, rfl⟩) c HC.out).mono ?_
  rintro e w3 ⟨v, rfl, hv, hb⟩
  have HV := Lib.hid hv
  have hs1 := B1.size
  replace B1 := B1.trans (hb.mono B1.size)
  clear hv hb
  go_wp2
  go_ret2
  exact retVB HV.out hs1 HNN.out.symm (fun _ _ => rfl) rfl B1

theorem SubtractVectors_c (w : World) {lo hi lo2 hi2 : Nat} {v1 v2 : Value} (n : Nat) (A : Nat → Rc) (m : Nat) (B : Nat → Rc) (h1 : Vec w lo hi v1 n A) (h2 : Vec w lo2 hi2 v2 m B) : Calls Tryz.prog 22 #[v1, v2] w (RetVB w (v2N qsub n A m B) (v2R qsub A B) (v2c qsub n A m B)) := by
  by_cases h : OkV n A ∧ OkV m B ∧ n = m
  · have e := v2c_yes (op := qsub) h
    obtain ⟨hA, hB, rfl⟩ := h
    have := SubtractVectors_good w n A B h1 h2 hA hB _ rfl
    unfold v2N
    rw [e]; exact this
  · have e := v2c_no (op := qsub) h
    unfold v2N
    rw [e]
    by_cases hA : OkV n A
    · by_cases hB : OkV m B
      · exact SubtractVectors_b3 w n A m B h1 h2 _ hA hB fun e => h ⟨hA, hB, e⟩
      · exact SubtractVectors_b2 w n A m B h1 h2 _ hA hB
    · exact SubtractVectors_b1 w n A m B h1 h2 _ hA

end Go.Proofs.YtijeplcjbhkkoaaGreatDoor

/- ScaleVector of the reference and of the program. -/
namespace Go.Proofs.YtijeplcjbhkkoaaGreatDoor
open Go.RowKit Lm

set_option maxHeartbeats 2000000 in
set_option maxRecDepth 100000 in
theorem ScaleVector_b1 (w : World) {lo hi : Nat} (b e : Nat) (s : Bool) (vr ur v2 : Value) (xs ys : List Int) (n : Nat) (A R : Nat → Rc) (o1 : Own w b vr xs) (o2 : Own w e ur ys) (h2 : Vec w lo hi v2 n A) (hr : ¬ OkR s xs ys) :
    Calls Tryz.prog 17 #[.agg #[.bool s, vr, ur], v2] w (RetVB w 0 R false) := by
  have BW : Below w.heap.size w (w.alloc (.cells #[.bool s, vr, ur] 27)) := alloc_bel _ _
  have O1 := Lib.hid (o1.below BW (Nat.le_refl _))
  have O2 := Lib.hid (o2.below BW (Nat.le_refl _))
  have HV := Lib.hid (h2.bel BW)
  have HR := Lib.hid hr
  skip
  clear o1 o2 h2 hr
  go_enter Tryz.func17, Tryz.ntmps17
  go_wp2_with fail
  generalize w.alloc (.cells #[.bool s, vr, ur] 27) = w0 at *
  refine (ratOk_f _ b e s vr ur xs ys O1.out O2.out HR.out).mono ?_
  rintro e1 w1 ⟨rfl, B1⟩
  have BB := BW.trans (B1.mono BW.size)
  clear B1
  go_wp2
  go_ret2
  exact retVB (Vec.nil _ _ (Nat.le_refl _)) (Nat.le_refl _) rfl (fun _ _ => rfl) rfl BB

set_option maxHeartbeats 2000000 in
set_option maxRecDepth 100000 in
theorem ScaleVector_b2 (w : World) {lo hi : Nat} (b e : Nat) (s : Bool) (vr ur v2 : Value) (xs ys : List Int) (n : Nat) (A R : Nat → Rc) (o1 : Own w b vr xs) (o2 : Own w e ur ys) (h2 : Vec w lo hi v2 n A) (hr : OkR s xs ys) (hA : ¬ OkV n A) :
    Calls Tryz.prog 17 #[.agg #[.bool s, vr, ur], v2] w (RetVB w 0 R false) := by
  have BW : Below w.heap.size w (w.alloc (.cells #[.bool s, vr, ur] 27)) := alloc_bel _ _
  have O1 := Lib.hid (o1.below BW (Nat.le_refl _))
  have O2 := Lib.hid (o2.below BW (Nat.le_refl _))
  have HV := Lib.hid (h2.bel BW)
  have HR := Lib.hid hr
  have HA := Lib.hid hA
  clear o1 o2 h2 hr hA
  go_enter Tryz.func17, Tryz.ntmps17
  go_wp2_with fail
  generalize w.alloc (.cells #[.bool s, vr, ur] 27) = w0 at *
  refine (ratOk_t _ b e s vr ur xs ys O1.out O2.out HR.out).mono ?_
  rintro e1 w1 ⟨rfl, B1⟩
  go_wp2_with fail
  refine (IsVector_f _ n A (HV.out.bel B1) HA.out).mono ?_
  rintro e2 w2 ⟨rfl, hb⟩
  replace B1 := B1.trans (hb.mono B1.size)
  clear hb
  have BB := BW.trans (B1.mono BW.size)
  clear B1
  go_wp2
  go_ret2
  exact retVB (Vec.nil _ _ (Nat.le_refl _)) (Nat.le_refl _) rfl (fun _ _ => rfl) rfl BB

set_option maxHeartbeats 2000000 in
set_option maxRecDepth 100000 in
theorem scaled1_c (w : World) (b1 e1 b2 e2 gb : Nat) (v1 u1 v2 u2 vr ur : Value) (x y r : Int) (d _f q : Nat) (h1 : Own w b1 v1 (limbs x.natAbs)) (k1 : Own w e1 u1 (limbs d)) (h2 : Own w b2 vr (limbs r.natAbs)) (k2 : Own w e2 ur (limbs q))
    (hg0 : w.cell? ⟨gb, 0, none⟩ = some (.bool (ng r))) (hg1 : w.cell? ⟨gb, 1, none⟩ = some vr) (hg2 : w.cell? ⟨gb, 2, none⟩ = some ur) (hq : IsQ0 x d) (hk : IsQ0 r q) (z : Int) (e : Nat) (hz : z = (qmul x d r q).1) (he : e = (qmul x d r q).2) :
    Calls Tryz.prog 76 #[.agg #[.bool (ng x), v1, u1], .agg #[.bool (ng y), v2, u2], .pointer (some ⟨gb, 0, none⟩)] w (RetQ w z e) := by
  have BW : Below w.heap.size w (((w.alloc (.cells #[.bool (ng x), v1, u1] 27)).alloc (.cells #[.bool (ng y), v2, u2] 27)).alloc (.cells #[.bool false, .slice none 0 0, .slice none 0 0] 27)) := ((((Below.refl w.heap.size w).alloc (Nat.le_refl _) _).alloc (by simp) _).alloc (by simp; omega) _)
  obtain ⟨c0_0, c0_1, c0_2, c1_0, c1_1, c1_2, c2_0, c2_1, c2_2, q0, q1, q2⟩ : World.cell? (((w.alloc (.cells #[.bool (ng x), v1, u1] 27)).alloc (.cells #[.bool (ng y), v2, u2] 27)).alloc (.cells #[.bool false, .slice none 0 0, .slice none 0 0] 27)) ⟨w.heap.size, 0, none⟩ = some (.bool (ng x)) ∧ World.cell? (((w.alloc (.cells #[.bool (ng x), v1, u1] 27)).alloc (.cells #[.bool (ng y), v2, u2] 27)).alloc (.cells #[.bool false, .slice none 0 0, .slice none 0 0] 27)) ⟨w.heap.size, 1, none⟩ = some (v1) ∧ World.cell? (((w.alloc (.cells #[.bool (ng x), v1, u1] 27)).alloc (.cells #[.bool (ng y), v2, u2] 27)).alloc (.cells #[.bool false, .slice none 0 0, .slice none 0 0] 27)) ⟨w.heap.size, 2, none⟩ = some (u1) ∧ World.cell? (((w.alloc (.cells #[.bool (ng x), v1, u1] 27)).alloc (.cells #[.bool (ng y), v2, u2] 27)).alloc (.cells #[.bool false, .slice none 0 0, .slice none 0 0] 27)) ⟨w.heap.size + 1, 0, none⟩ = some (.bool (ng y)) ∧ World.cell? (((w.alloc (.cells #[.bool (ng x), v1, u1] 27)).alloc (.cells #[.bool (ng y), v2, u2] 27)).alloc (.cells #[.bool false, .slice none 0 0, .slice none 0 0] 27)) ⟨w.heap.size + 1, 1, none⟩ = some (v2) ∧ World.cell? (((w.alloc (.cells #[.bool (ng x), v1, u1] 27)).alloc (.cells #[.bool (ng y), v2, u2] 27)).alloc (.cells #[.bool false, .slice none 0 0, .slice none 0 0] 27)) ⟨w.heap.size + 1, 2, none⟩ = some (u2) ∧ World.cell? (((w.alloc (.cells #[.bool (ng x), v1, u1] 27)).alloc (.cells #[.bool (ng y), v2, u2] 27)).alloc (.cells #[.bool false, .slice none 0 0, .slice none 0 0] 27)) ⟨w.heap.size + 1 + 1, 0, none⟩ = some (.bool false) ∧ World.cell? (((w.alloc (.cells #[.bool (ng x), v1, u1] 27)).alloc (.cells #[.bool (ng y), v2, u2] 27)).alloc (.cells #[.bool false, .slice none 0 0, .slice none 0 0] 27)) ⟨w.heap.size + 1 + 1, 1, none⟩ = some (.slice none 0 0) ∧ World.cell? (((w.alloc (.cells #[.bool (ng x), v1, u1] 27)).alloc (.cells #[.bool (ng y), v2, u2] 27)).alloc (.cells #[.bool false, .slice none 0 0, .slice none 0 0] 27)) ⟨w.heap.size + 1 + 1, 2, none⟩ = some (.slice none 0 0) ∧ World.frozen? (((w.alloc (.cells #[.bool (ng x), v1, u1] 27)).alloc (.cells #[.bool (ng y), v2, u2] 27)).alloc (.cells #[.bool false, .slice none 0 0, .slice none 0 0] 27)) ⟨w.heap.size + 1 + 1, 0, none⟩ = false ∧ World.frozen? (((w.alloc (.cells #[.bool (ng x), v1, u1] 27)).alloc (.cells #[.bool (ng y), v2, u2] 27)).alloc (.cells #[.bool false, .slice none 0 0, .slice none 0 0] 27)) ⟨w.heap.size + 1 + 1, 1, none⟩ = false ∧ World.frozen? (((w.alloc (.cells #[.bool (ng x), v1, u1] 27)).alloc (.cells #[.bool (ng y), v2, u2] 27)).alloc (.cells #[.bool false, .slice none 0 0, .slice none 0 0] 27)) ⟨w.heap.size + 1 + 1, 2, none⟩ = false := by simp [go_sem]
  have hgR : w.heap.size + 1 + 1 < ((((w.alloc (.cells #[.bool (ng x), v1, u1] 27)).alloc (.cells #[.bool (ng y), v2, u2] 27)).alloc (.cells #[.bool false, .slice none 0 0, .slice none 0 0] 27))).heap.size := World.block_lt_of_cell? _ _ c2_0
  have Ha := Lib.hid (h1.below BW (Nat.le_refl _))
  have Hb := Lib.hid (k1.below BW (Nat.le_refl _))
  have Hc := Lib.hid (h2.below BW (Nat.le_refl _))
  have Hd := Lib.hid (k2.below BW (Nat.le_refl _))
  clear h1 k1 h2 k2
  have g0 := keep_cell BW hg0
  have g1 := keep_cell BW hg1
  have g2 := keep_cell BW hg2
  clear hg0 hg1 hg2
  have HX := Lib.hid hq
  have HY := Lib.hid hk
  have HZ := Lib.hid hz
  have HE := Lib.hid he
  clear hq hk hz he
  go_enter Tryz.func76, Tryz.ntmps76
  go_wp2_with fail
  generalize (((w.alloc (.cells #[.bool (ng x), v1, u1] 27)).alloc (.cells #[.bool (ng y), v2, u2] 27)).alloc (.cells #[.bool false, .slice none 0 0, .slice none 0 0] 27)) = w0 at *
  have B0 := Below.refl w0.heap.size w0
  refine (mul_c _ _ _ _ _ x d Ha.out Hb.out _ _ _ _ r q Hc.out Hd.out HX.out HY.out z e HZ.out HE.out).mono ?_
  rintro e w1 ⟨vn, vo, rfl, ho1, ho2, HAP, hb⟩
  replace c0_0 := keep_cell hb c0_0
  replace c0_1 := keep_cell hb c0_1
  replace c0_2 := keep_cell hb c0_2
  replace c1_0 := keep_cell hb c1_0
  replace c1_1 := keep_cell hb c1_1
  replace c1_2 := keep_cell hb c1_2
  replace g0 := keep_cell hb g0
  replace g1 := keep_cell hb g1
  replace g2 := keep_cell hb g2
  replace q0 := keep_frozen (w1 := w1) hb c2_0 q0
  replace c2_0 := keep_cell (w1 := w1) hb c2_0
  replace q1 := keep_frozen (w1 := w1) hb c2_1 q1
  replace c2_1 := keep_cell (w1 := w1) hb c2_1
  replace q2 := keep_frozen (w1 := w1) hb c2_2 q2
  replace c2_2 := keep_cell (w1 := w1) hb c2_2
  replace Ha := Lib.hid (Ha.out.below hb (Nat.le_refl _))
  replace Hb := Lib.hid (Hb.out.below hb (Nat.le_refl _))
  replace Hc := Lib.hid (Hc.out.below hb (Nat.le_refl _))
  replace Hd := Lib.hid (Hd.out.below hb (Nat.le_refl _))
  have Hr := Lib.hid (ho1.mono B0.size)
  clear ho1
  have Hs := Lib.hid (ho2.mono B0.size)
  clear ho2
  obtain ⟨ar, cr, rfl, -, -, -, -, -⟩ := Hr.out.form
  obtain ⟨aS, cS, rfl, -, -, -, -, -⟩ := Hs.out.form
  replace B0 := B0.trans (hb.mono B0.size)
  clear hb
  go_wp2
  exact bodyPost_ret (v := .agg #[.bool (ng z), .slice ar (limbs z.natAbs).length cr, .slice aS (limbs e).length cS]) (by simp [results, Tryz.results76, go_sem, c2_0, c2_1, c2_2]) rfl (retR_end BW (by omega) hgR B0 Hr.out Hs.out HAP)

set_option maxHeartbeats 2000000 in
set_option maxRecDepth 100000 in
theorem pairwise_mul (w : World) {lo hi lo2 hi2 : Nat} {v1 v2 : Value} (b2 e2 gb : Nat) (vr ur : Value) (r : Int) (q : Nat) (o1 : Own w b2 vr (limbs r.natAbs)) (o2 : Own w e2 ur (limbs q)) (hr : IsQ r q) (hg0 : w.cell? ⟨gb, 0, none⟩ = some (.bool (ng r))) (hg1 : w.cell? ⟨gb, 1, none⟩ = some vr) (hg2 : w.cell? ⟨gb, 2, none⟩ = some ur) (n : Nat) (X S Z : Nat → Int) (Y T D : Nat → Nat) (h1 : Vec w lo hi v1 n (fun i => qv (X i) (Y i))) (h2 : Vec w lo2 hi2 v2 n (fun i => qv (S i) (T i))) (hx : ∀ i, i < n → IsQ (X i) (Y i)) (hy : ∀ i, i < n → IsQ (S i) (T i)) (hn : n ≤ 24) (hz : ∀ i, i < n → Z i = (qmul (X i) (Y i) r q).1 ∧ D i = (qmul (X i) (Y i) r q).2) (c : Bool) (hc : c = fineB D n) :
    Calls Tryz.prog 47 #[v1, v2, .func (Fn.func 76) #[] #[.pointer (some ⟨gb, 0, none⟩)]] w (RetVB w (if c then n else 0) (fun i => qv (Z i) (D i)) c) := by
  obtain ⟨A, h1⟩ := h1
  obtain ⟨B, h2⟩ := h2
  obtain ⟨ao, cap, rfl, -, -, -⟩ := h1.form
  obtain ⟨ao2, cap2, rfl, -, -, -⟩ := h2.form
  have H1 := Lib.hid h1
  have H2 := Lib.hid h2
  have HX := Lib.hid hx
  have HY := Lib.hid hy
  have HZ := Lib.hid hz
  have HC := Lib.hid hc
  clear h1 h2 hx hy hz hc
  have HO1 := Lib.hid o1
  have HO2 := Lib.hid o2
  have HR := Lib.hid hr
  have HG := Lib.hid (And.intro hg0 (And.intro hg1 hg2))
  clear o1 o2 hr hg0 hg1 hg2
  go_enter Tryz.func47, Tryz.ntmps47
  go_wp2
  go_loopw [8, 12] (fun v k wr => ∃ (i : Nat) (E : Nat → Ent), i ≤ n ∧ k = .int .i64 i ∧ Hid (VecF wr w.heap.size wr.heap.size v i E (fun i => qv (Z i) (D i))) ∧ Below w.heap.size w wr) (fun _ k _ => n - (intOf k).toNat)
  case atStart => exact ⟨0, fun _ => ⟨false, .slice none 0 0, .slice none 0 0⟩, by omega, rfl, VecF.nil _ _ _ (Nat.le_refl _), Below.refl _ _⟩
  case round =>
    obtain ⟨i, E, hi, rfl, HF, hb⟩ := hrel
    by_cases hlt : i < n
    · obtain ⟨g, rfl, -, hg1, -⟩ := H1.out.addr hlt
      obtain ⟨g2, rfl, -, hg2, -⟩ := H2.out.addr hlt
      have t1 : (i : Int) < n := by omega
      have BD := below_drew hb
      have HA := Lib.hid (H1.out.bel BD)
      obtain ⟨au, cu, ad, cd, k1, k2, k3, o1, o2⟩ := HA.out.elemq hlt
      have HOA := Lib.hid (And.intro o1 o2)
      clear HA o1 o2
      have HB := Lib.hid (H2.out.bel BD)
      obtain ⟨bu, eu, bd, ed, m1, m2, m3, o1, o2⟩ := HB.out.elemq hlt
      have HOB := Lib.hid (And.intro o1 o2)
      have HF2 := Lib.hid HF.out.drew
      have hlo : w.heap.size ≤ wr.drew.heap.size := BD.size
      clear HB HF o1 o2 hb
      go_wp2_with fail
      go_region_held3 (fun w' => w'.cell? ⟨g, i * 3, none⟩ = some (.bool (ng (X i))) ∧ w'.cell? ⟨g, i * 3 + 1, none⟩ = some (.slice au (limbs (X i).natAbs).length cu) ∧ w'.cell? ⟨g, i * 3 + 2, none⟩ = some (.slice ad (limbs (Y i)).length cd) ∧ w'.cell? ⟨g2, i * 3, none⟩ = some (.bool (ng (S i))) ∧ w'.cell? ⟨g2, i * 3 + 1, none⟩ = some (.slice bu (limbs (S i).natAbs).length eu) ∧ w'.cell? ⟨g2, i * 3 + 2, none⟩ = some (.slice bd (limbs (T i)).length ed)) (first | exact ⟨k1, k2, k3, m1, m2, m3⟩ | exact ⟨keep_cell (alloc_bel _ _) k1, keep_cell (alloc_bel _ _) k2, keep_cell (alloc_bel _ _) k3, keep_cell (alloc_bel _ _) m1, keep_cell (alloc_bel _ _) m2, keep_cell (alloc_bel _ _) m3⟩ | go_keep)
        (first | (go_at_call 76; refine (scaled1_c _ lo lo b2 e2 gb _ _ _ _ vr ur (X i) (S i) r (Y i) (T i) q HOA.out.1 HOA.out.2 (HO1.out.below BD (Nat.le_refl _)) (HO2.out.below BD (Nat.le_refl _)) (keep_cell BD HG.out.1) (keep_cell BD HG.out.2.1) (keep_cell BD HG.out.2.2) (.inl (HX.out i hlt)) (.inl HR.out) (Z i) (D i) (HZ.out i hlt).1 (HZ.out i hlt).2).mono ?_; rintro e w1 ⟨u, d, rfl, ho1, ho2, ha, hb1⟩; obtain ⟨ua, uc, rfl, -, -, -, -, -⟩ := ho1.form; obtain ⟨da, dc, rfl, -, -, -, -, -⟩ := ho2.form; have HN := Lib.hid (And.intro (And.intro ho1 ho2) (And.intro ha hb1)); clear ho1 ho2 ha; replace k1 := keep_cell hb1 k1; replace k2 := keep_cell hb1 k2; replace k3 := keep_cell hb1 k3; replace m1 := keep_cell hb1 m1; replace m2 := keep_cell hb1 m2; replace m3 := keep_cell hb1 m3; clear hb1)
               | (rw [if_pos (by rfl)]; refine app_new_wp _ _ rfl HF2.out hlo HN.out.2.2 rfl HN.out.1.1 HN.out.1.2 HN.out.2.1 (by omega) rfl rfl ?_; intro v' w2 hv hbl has; replace k1 := has _ _ (keep_cell (alloc_bel _ _) k1) (.inl hg1); replace k2 := has _ _ (keep_cell (alloc_bel _ _) k2) (.inl hg1); replace k3 := has _ _ (keep_cell (alloc_bel _ _) k3) (.inl hg1); replace m1 := has _ _ (keep_cell (alloc_bel _ _) m1) (.inl hg2); replace m2 := has _ _ (keep_cell (alloc_bel _ _) m2) (.inl hg2); replace m3 := has _ _ (keep_cell (alloc_bel _ _) m3) (.inl hg2); have HV := Lib.hid hv; have B2 := BD.trans hbl; clear hv hbl has HN HF2))
      obtain ⟨F, hF⟩ := HV.out
      have HVF := Lib.hid hF
      clear hF HV
      go_wp2
      go_roundw
      case rel => exact ⟨i + 1, F, by omega, by go_num, HVF.out, B2⟩
      case measure => (simp [intOf]) <;> omega
    · obtain rfl : i = n := by omega
      cases c with
      | true =>
        go_wp2_with fail
        refine (complete_t _ _ Z D ⟨_, HF.out⟩ HC.out.symm).mono ?_
        rintro e w1 ⟨rfl, hb1⟩
        have HV := Lib.hid (HF.out.bel hb1)
        have hs1 := hb1.size
        have B1 := hb.trans (hb1.mono hb.size)
        clear hb hb1 HF
        go_wp2
        go_ret2
        exact retVB ⟨_, HV.out.wider (Nat.le_refl _) hs1 (Nat.le_refl _)⟩ (Nat.le_refl _) rfl (fun _ _ => rfl) rfl B1
      | false =>
        go_wp2_with fail
        refine (complete_f _ _ Z D ⟨_, HF.out⟩ HC.out.symm).mono ?_
        rintro e w1 ⟨rfl, hb1⟩
        have B1 := hb.trans (hb1.mono hb.size)
        clear hb hb1 HF
        go_wp2
        go_ret2
        exact retVB (Vec.nil _ _ (Nat.le_refl _)) (Nat.le_refl _) rfl (fun _ _ => rfl) rfl B1

set_option maxHeartbeats 2000000 in
set_option maxRecDepth 100000 in
theorem scaled_c (w : World) {lo hi : Nat} (b e : Nat) (vr ur v2 : Value) (r : Int) (q : Nat) (n : Nat) (X Z : Nat → Int) (Y D : Nat → Nat) (o1 : Own w b vr (limbs r.natAbs)) (o2 : Own w e ur (limbs q)) (h2 : Vec w lo hi v2 n (fun i => qv (X i) (Y i))) (hr : IsQ r q) (hx : ∀ i, i < n → IsQ (X i) (Y i)) (hn : n ≤ 24) (hz : ∀ i, i < n → Z i = (qmul (X i) (Y i) r q).1 ∧ D i = (qmul (X i) (Y i) r q).2) (c : Bool) (hc : c = fineB D n) :
    Calls Tryz.prog 46 #[.agg #[.bool (ng r), vr, ur], v2] w (RetVB w (if c then n else 0) (fun i => qv (Z i) (D i)) c) := by
  have hn0 := hn
  obtain ⟨N, hN⟩ : ∃ N, N = if c then n else 0 := ⟨_, rfl⟩
  rw [← hN]
  have HNN := Lib.hid hN
  clear hN
  have BW : Below w.heap.size w (w.alloc (.cells #[.bool (ng r), vr, ur] 27)) := alloc_bel _ _
  obtain ⟨c0, c1, c2⟩ : (w.alloc (.cells #[.bool (ng r), vr, ur] 27)).cell? ⟨w.heap.size, 0, none⟩ = some (.bool (ng r)) ∧ (w.alloc (.cells #[.bool (ng r), vr, ur] 27)).cell? ⟨w.heap.size, 1, none⟩ = some vr ∧ (w.alloc (.cells #[.bool (ng r), vr, ur] 27)).cell? ⟨w.heap.size, 2, none⟩ = some ur := by simp [go_sem]
  have O1 := Lib.hid (o1.below BW (Nat.le_refl _))
  have O2 := Lib.hid (o2.below BW (Nat.le_refl _))
  have HV := Lib.hid (h2.bel BW)
  have HR := Lib.hid hr
  have HX := Lib.hid hx
  have HZ := Lib.hid hz
  have HC := Lib.hid hc
  have hgw : w.heap.size < (w.alloc (.cells #[.bool (ng r), vr, ur] 27)).heap.size := by simp
  clear o1 o2 h2 hr hx hz hc
  go_enter Tryz.func46, Tryz.ntmps46
  go_wp2_with fail
  generalize w.alloc (.cells #[.bool (ng r), vr, ur] 27) = w0 at *
  refine (pairwise_mul _ b e w.heap.size vr ur r q O1.out O2.out HR.out c0 c1 c2 n X X Z Y Y D HV.out HV.out HX.out HX.out hn0 HZ.out c HC.out).mono ?_
  rintro e1 w1 ⟨v, rfl, hv, hb⟩
  have HV1 := Lib.hid hv
  have hs := BW.size
  have BB := BW.trans (hb.mono BW.size)
  clear hv hb
  go_wp2
  go_ret2
  exact retVB HV1.out hs HNN.out.symm (fun _ _ => rfl) rfl BB

set_option maxHeartbeats 2000000 in
set_option maxRecDepth 100000 in
theorem ScaleVector_good (w : World) {lo hi : Nat} (b e : Nat) (vr ur v2 : Value) (r : Int) (q : Nat) (n : Nat) (X Z : Nat → Int) (Y D : Nat → Nat) (o1 : Own w b vr (limbs r.natAbs)) (o2 : Own w e ur (limbs q)) (h2 : Vec w lo hi v2 n (fun i => qv (X i) (Y i))) (hr : IsQ r q) (hx : ∀ i, i < n → IsQ (X i) (Y i)) (hn : n ≤ 24) (hz : ∀ i, i < n → Z i = (qmul (X i) (Y i) r q).1 ∧ D i = (qmul (X i) (Y i) r q).2) (c : Bool) (hc : c = fineB D n) :
    Calls Tryz.prog 17 #[.agg #[.bool (ng r), vr, ur], v2] w (RetVB w (if c then n else 0) (fun i => qv (Z i) (D i)) c) := by
  have okA : Hid (OkV n (fun i => qv (X i) (Y i))) := ⟨hn, fun i hi => okRc_of (hx i hi)⟩
  have hn0 := hn
  obtain ⟨N, hN⟩ : ∃ N, N = if c then n else 0 := ⟨_, rfl⟩
  rw [← hN]
  have HNN := Lib.hid hN
  clear hN
  have BW : Below w.heap.size w (w.alloc (.cells #[.bool (ng r), vr, ur] 27)) := alloc_bel _ _
  obtain ⟨c0, c1, c2⟩ : (w.alloc (.cells #[.bool (ng r), vr, ur] 27)).cell? ⟨w.heap.size, 0, none⟩ = some (.bool (ng r)) ∧ (w.alloc (.cells #[.bool (ng r), vr, ur] 27)).cell? ⟨w.heap.size, 1, none⟩ = some vr ∧ (w.alloc (.cells #[.bool (ng r), vr, ur] 27)).cell? ⟨w.heap.size, 2, none⟩ = some ur := by simp [go_sem]
  have O1 := Lib.hid (o1.below BW (Nat.le_refl _))
  have O2 := Lib.hid (o2.below BW (Nat.le_refl _))
  have HV := Lib.hid (h2.bel BW)
  have HR := Lib.hid hr
  have HX := Lib.hid hx
  have HZ := Lib.hid hz
  have HC := Lib.hid hc
  have hgw : w.heap.size < (w.alloc (.cells #[.bool (ng r), vr, ur] 27)).heap.size := by simp
  clear o1 o2 h2 hr hx hz hc
  go_enter Tryz.func17, Tryz.ntmps17
  go_wp2_with fail
  generalize w.alloc (.cells #[.bool (ng r), vr, ur] 27) = w0 at *
  refine (ratOk_q _ _ _ _ _ r q O1.out O2.out HR.out).mono ?_
  rintro e1 w1 ⟨rfl, B1⟩
  replace c0 := keep_cell B1 c0
  replace c1 := keep_cell B1 c1
  replace c2 := keep_cell B1 c2
  go_wp2_with fail
  refine (IsVector_t _ n _ (HV.out.bel B1) okA.out).mono ?_
  rintro e2 w2 ⟨rfl, hb⟩
  replace c0 := keep_cell hb c0
  replace c1 := keep_cell hb c1
  replace c2 := keep_cell hb c2
  replace B1 := B1.trans (hb.mono B1.size)
  clear hb
  go_wp2_with fail
  refine (scaled_c _ b e vr ur v2 r q n X Z Y D (O1.out.below B1 (Nat.le_refl _)) (O2.out.below B1 (Nat.le_refl _)) (HV.out.bel B1) HR.out HX.out hn0 HZ.out c HC.out).mono ?_
  rintro e3 w3 ⟨v, rfl, hv, hb⟩
  have HV1 := Lib.hid hv
  have hs1 := Nat.le_trans BW.size B1.size
  have BB := BW.trans ((B1.trans (hb.mono B1.size)).mono BW.size)
  clear hv hb
  go_wp2
  go_ret2
  exact retVB HV1.out hs1 HNN.out.symm (fun _ _ => rfl) rfl BB

theorem ScaleVector_c (w : World) {lo hi : Nat} (b e : Nat) (s : Bool) (vr ur v2 : Value) (xs ys : List Int) (n : Nat) (A : Nat → Rc) (o1 : Own w b vr xs) (o2 : Own w e ur ys) (h2 : Vec w lo hi v2 n A) :
    Calls Tryz.prog 17 #[.agg #[.bool s, vr, ur], v2] w (RetVB w (scN ⟨s, xs, ys⟩ n A) (v2R qmul A (fun _ => ⟨s, xs, ys⟩)) (scc ⟨s, xs, ys⟩ n A)) := by
  by_cases h : OkRc ⟨s, xs, ys⟩ ∧ OkV n A
  · have e1 := scc_yes h
    obtain ⟨hr, hA⟩ := h
    obtain ⟨e2, hq⟩ := okRc_q hr
    have o1' : Own w b vr (limbs (numR ⟨s, xs, ys⟩).natAbs) := (congrArg (Own w b vr) (show xs = limbs (numR ⟨s, xs, ys⟩).natAbs from congrArg Rc.xs e2)).mp o1
    have o2' : Own w e ur (limbs (denR ⟨s, xs, ys⟩)) := (congrArg (Own w e ur) (show ys = limbs (denR ⟨s, xs, ys⟩) from congrArg Rc.ys e2)).mp o2
    have es : s = ng (numR ⟨s, xs, ys⟩) := congrArg Rc.s e2
    have := ScaleVector_good w b e vr ur v2 (numR ⟨s, xs, ys⟩) (denR ⟨s, xs, ys⟩) n _ (fun i => (vop qmul A (fun _ => ⟨s, xs, ys⟩) i).1) _ (fun i => (vop qmul A (fun _ => ⟨s, xs, ys⟩) i).2) o1' o2' (h2.toQ hA) hq (fun i hi => (okV_q hA i hi).2) hA.1 (fun i _ => ⟨rfl, rfl⟩) _ rfl
    rw [← es] at this
    unfold scN
    rw [e1]; exact this
  · have e1 := scc_no h
    unfold scN
    rw [e1]
    by_cases hr : OkR s xs ys
    · exact ScaleVector_b2 w b e s vr ur v2 xs ys n A _ o1 o2 h2 hr fun hA => h ⟨hr, hA⟩
    · exact ScaleVector_b1 w b e s vr ur v2 xs ys n A _ o1 o2 h2 hr

end Go.Proofs.YtijeplcjbhkkoaaGreatDoor

/- The inner product, of the program and of the reference. -/
namespace Go.Proofs.YtijeplcjbhkkoaaGreatDoor
open Go.RowKit Lm

/-! What it gives. -/
noncomputable def inn (X : Nat → Int) (Y : Nat → Nat) (S : Nat → Int) (T : Nat → Nat) : Nat → Int × Nat
  | 0 => (0, 1)
  | i + 1 => qadd (inn X Y S T i).1 (inn X Y S T i).2 (qmul (X i) (Y i) (S i) (T i)).1 (qmul (X i) (Y i) (S i) (T i)).2
theorem isQ_01 : IsQ 0 1 := ⟨by omega, by simp, by unfold Fit; rw [show Int.natAbs 0 = 0 from rfl, limbs_zero]; simp, by unfold Fit; rw [limbs_one]; simp⟩
theorem inn_q (X : Nat → Int) (Y : Nat → Nat) (S : Nat → Int) (T : Nat → Nat) (i : Nat) : IsQ0 (inn X Y S T i).1 (inn X Y S T i).2 := by
  cases i with
  | zero => exact .inl isQ_01
  | succ i => exact low_isQ0 _ _
theorem qmul_q (x : Int) (d : Nat) (y : Int) (f : Nat) : IsQ0 (qmul x d y f).1 (qmul x d y f).2 := low_isQ0 _ _
theorem low_zero {d : Nat} (hd : 0 < d) : qlow 0 d = (0, 1) := by
  have h := low_scale 0 1 hd
  rw [Int.zero_mul, Nat.one_mul] at h
  have h2 := low_of_isQ isQ_01
  unfold qlow
  rw [h.1, h.2, h2.1, h2.2]
theorem qadd_zero {z : Int} {d : Nat} (h : IsQ0 z d) : qadd z d 0 1 = (z, d) := by
  unfold qadd
  rw [show z * ((1 : Nat) : Int) + 0 * (d : Int) = z by simp, Nat.mul_one]
  rcases h with h | ⟨rfl, rfl⟩
  · have := low_of_isQ h
    unfold qlow; rw [this.1, this.2]
  · have := low_den0 0
    unfold qlow; rw [this.1, this.2]
/-- A step at which one factor is 0 changes nothing. -/
theorem inn_skip {X : Nat → Int} {Y : Nat → Nat} {S : Nat → Int} {T : Nat → Nat} {i : Nat} (hx : IsQ (X i) (Y i)) (hy : IsQ (S i) (T i)) (h : X i = 0 ∨ S i = 0) : inn X Y S T (i + 1) = inn X Y S T i := by
  have e : qmul (X i) (Y i) (S i) (T i) = (0, 1) := by
    unfold qmul
    have h0 : X i * S i = 0 := by rcases h with h | h <;> simp [h]
    rw [h0]
    exact low_zero (Nat.mul_pos hx.1 hy.1)
  simp only [inn]
  rw [e]
  exact qadd_zero (inn_q X Y S T i)

theorem set3_frozen {w : World} {g : Nat} {a b c : Value} (p : Addr) : (((w.setCell ⟨g, 0, none⟩ a).setCell ⟨g, 1, none⟩ b).setCell ⟨g, 2, none⟩ c).frozen? p = w.frozen? p := by simp [go_sem]
/-- A fraction is stored into a box that is there. -/
theorem set3_all {w0 wk : World} {g : Nat} {s : Bool} {u v : Value} {x y z : Value} (h0 : wk.cell? ⟨g, 0, none⟩ = some x) (h1 : wk.cell? ⟨g, 1, none⟩ = some y) (h2 : wk.cell? ⟨g, 2, none⟩ = some z)
    (hB : Below w0.heap.size w0 wk) (hg : w0.heap.size ≤ g) :
    (((wk.setCell ⟨g, 0, none⟩ (.bool s)).setCell ⟨g, 1, none⟩ u).setCell ⟨g, 2, none⟩ v).cell? ⟨g, 0, none⟩ = some (.bool s) ∧ (((wk.setCell ⟨g, 0, none⟩ (.bool s)).setCell ⟨g, 1, none⟩ u).setCell ⟨g, 2, none⟩ v).cell? ⟨g, 1, none⟩ = some u ∧ (((wk.setCell ⟨g, 0, none⟩ (.bool s)).setCell ⟨g, 1, none⟩ u).setCell ⟨g, 2, none⟩ v).cell? ⟨g, 2, none⟩ = some v ∧
    Below w0.heap.size w0 (((wk.setCell ⟨g, 0, none⟩ (.bool s)).setCell ⟨g, 1, none⟩ u).setCell ⟨g, 2, none⟩ v) := by
  obtain ⟨a, b, c⟩ := set_box3 (a := .bool s) (b := u) (c := v) h0 h1 h2
  exact ⟨a, b, c, ((hB.setCell hg _).setCell hg _).setCell hg _⟩

theorem retQ_of {w w' : World} {z y : Int} {e f : Nat} {en : Ending} (h : z = y ∧ e = f) (hr : RetR w (ng y) (limbs y.natAbs) (limbs f) en w') : RetQ w z e en w' := by
  obtain ⟨rfl, rfl⟩ := h; exact hr

set_option maxHeartbeats 2000000 in
set_option maxRecDepth 100000 in
theorem inner_c (w : World) {lo hi lo2 hi2 : Nat} {v1 v2 : Value} (n : Nat) (X S : Nat → Int) (Y T : Nat → Nat) (h1 : Vec w lo hi v1 n (fun i => qv (X i) (Y i))) (h2 : Vec w lo2 hi2 v2 n (fun i => qv (S i) (T i))) (hx : ∀ i, i < n → IsQ (X i) (Y i)) (hy : ∀ i, i < n → IsQ (S i) (T i)) (z : Int) (e : Nat) (hz : z = (inn X Y S T n).1 ∧ e = (inn X Y S T n).2) :
    Calls Tryz.prog 49 #[v1, v2] w (RetQ w z e) := by
  obtain ⟨A, h1⟩ := h1
  obtain ⟨B, h2⟩ := h2
  obtain ⟨ao, cap, rfl, f1, -, -⟩ := h1.form
  obtain ⟨ao2, cap2, rfl, -, -, -⟩ := h2.form
  have BW : Below w.heap.size w (w.alloc (.cells #[.bool false, .slice none 0 0, .slice none 0 0] 27)) := alloc_bel _ _
  obtain ⟨r0, r1, r2, s0, s1, s2⟩ : (w.alloc (.cells #[.bool false, .slice none 0 0, .slice none 0 0] 27)).cell? ⟨w.heap.size, 0, none⟩ = some (.bool false) ∧ (w.alloc (.cells #[.bool false, .slice none 0 0, .slice none 0 0] 27)).cell? ⟨w.heap.size, 1, none⟩ = some (.slice none 0 0) ∧ (w.alloc (.cells #[.bool false, .slice none 0 0, .slice none 0 0] 27)).cell? ⟨w.heap.size, 2, none⟩ = some (.slice none 0 0) ∧ (w.alloc (.cells #[.bool false, .slice none 0 0, .slice none 0 0] 27)).frozen? ⟨w.heap.size, 0, none⟩ = false ∧ (w.alloc (.cells #[.bool false, .slice none 0 0, .slice none 0 0] 27)).frozen? ⟨w.heap.size, 1, none⟩ = false ∧ (w.alloc (.cells #[.bool false, .slice none 0 0, .slice none 0 0] 27)).frozen? ⟨w.heap.size, 2, none⟩ = false := by simp [go_sem]
  have hg0 : w.heap.size < (w.alloc (.cells #[.bool false, .slice none 0 0, .slice none 0 0] 27)).heap.size := by simp
  have H1 := Lib.hid (h1.bel BW)
  have H2 := Lib.hid (h2.bel BW)
  have HX := Lib.hid hx
  have HY := Lib.hid hy
  have HZ := Lib.hid hz
  obtain ⟨z0, d0, hq⟩ := var01
  have HQ := Lib.hid hq
  clear h1 h2 hx hy hz hq
  go_enter Tryz.func49, Tryz.ntmps49
  go_wp2_with fail
  generalize w.alloc (.cells #[.bool false, .slice none 0 0, .slice none 0 0] 27) = w0 at *
  refine (whole_z _ z0 d0 HQ.out).mono ?_
  rintro e1 w1 ⟨u, d, rfl, ho1, ho2, ha, hb1⟩
  obtain ⟨ua, uc, rfl, -, -, -, -, -⟩ := ho1.form
  obtain ⟨da, dc, rfl, -, -, -, -, -⟩ := ho2.form
  have HN := Lib.hid (And.intro (And.intro ho1 ho2) (And.intro ha hb1))
  have hgb : w0.heap.size ≤ w1.heap.size := hb1.size
  clear ho1 ho2 ha hb1
  go_wp2
  go_loopw [10] (fun k wr => ∃ (i : Nat) (y : Int) (f : Nat) (ua : Option Addr) (uc : Nat) (da : Option Addr) (dc : Nat), i ≤ n ∧ k = .int .i64 i ∧ wr.cell? ⟨w1.heap.size, 0, none⟩ = some (.bool (ng y)) ∧ wr.cell? ⟨w1.heap.size, 1, none⟩ = some (.slice ua (limbs y.natAbs).length uc) ∧ wr.cell? ⟨w1.heap.size, 2, none⟩ = some (.slice da (limbs f).length dc) ∧
    wr.frozen? ⟨w1.heap.size, 0, none⟩ = false ∧ wr.frozen? ⟨w1.heap.size, 1, none⟩ = false ∧ wr.frozen? ⟨w1.heap.size, 2, none⟩ = false ∧
    Hid (Own wr w0.heap.size (.slice ua (limbs y.natAbs).length uc) (limbs y.natAbs)) ∧ Hid (Own wr w0.heap.size (.slice da (limbs f).length dc) (limbs f)) ∧ Hid (Apart (.slice ua (limbs y.natAbs).length uc) (.slice da (limbs f).length dc)) ∧ Hid (y = (inn X Y S T i).1 ∧ f = (inn X Y S T i).2) ∧ Below w0.heap.size w0 wr) (fun k _ => n - (intOf k).toNat)
  case atStart => exact ⟨0, z0, d0, ua, uc, da, dc, by omega, rfl, by simp [go_sem], by simp [go_sem], by simp [go_sem], by simp [go_sem], by simp [go_sem], by simp [go_sem], HN.out.1.1.alloc _, HN.out.1.2.alloc _, HN.out.2.1, HQ.out, HN.out.2.2.alloc HN.out.2.2.size _⟩
  case round =>
    clear HN HQ
    obtain ⟨i, y, f, ua, uc, da, dc, hi, rfl, c0, c1, c2, q0, q1, q2, OU, OD, HAP, HYF, hb⟩ := hrel
    by_cases hlt : i < n
    · obtain ⟨g, rfl, -, -, -⟩ := H1.out.addr hlt
      obtain ⟨g2, rfl, -, -, -⟩ := H2.out.addr hlt
      have t1 : (i : Int) < n := by omega
      have isy : Hid (IsQ0 y f) := by
        have := HYF.out
        unfold Hid
        rw [this.1, this.2]; exact inn_q X Y S T i
      have HA := Lib.hid (H1.out.bel hb)
      obtain ⟨au, cu, ad, cd, k1, k2, k3, o1, o2⟩ := HA.out.elemq hlt
      have HOA := Lib.hid (And.intro o1 o2)
      clear HA o1 o2
      have HB := Lib.hid (H2.out.bel hb)
      obtain ⟨bu, eu, bd, ed, m1, m2, m3, o1, o2⟩ := HB.out.elemq hlt
      have HOB := Lib.hid (And.intro o1 o2)
      clear HB o1 o2
      obtain ⟨zm, hzm⟩ : ∃ zm, zm = (qmul (X i) (Y i) (S i) (T i)).1 := ⟨_, rfl⟩
      obtain ⟨em, hem⟩ : ∃ em, em = (qmul (X i) (Y i) (S i) (T i)).2 := ⟨_, rfl⟩
      obtain ⟨yn, hyn⟩ : ∃ yn, yn = (inn X Y S T (i + 1)).1 := ⟨_, rfl⟩
      obtain ⟨fn, hfn⟩ : ∃ fn, fn = (inn X Y S T (i + 1)).2 := ⟨_, rfl⟩
      have HYN : Hid (yn = (inn X Y S T (i + 1)).1 ∧ fn = (inn X Y S T (i + 1)).2) := ⟨hyn, hfn⟩
      have HA1 : Hid (yn = (qadd y f zm em).1 ∧ fn = (qadd y f zm em).2) := by
        unfold Hid
        rw [hyn, hfn, hzm, hem, HYF.out.1, HYF.out.2]; exact ⟨rfl, rfl⟩
      have HM0 : Hid (IsQ0 zm em) := by unfold Hid; rw [hzm, hem]; exact qmul_q _ _ _ _
      have HZM : Hid (zm = (qmul (X i) (Y i) (S i) (T i)).1 ∧ em = (qmul (X i) (Y i) (S i) (T i)).2) := ⟨hzm, hem⟩
      clear hzm hem hyn hfn
      have BD := below_drew hb
      replace OU := Lib.hid OU.out.drew
      replace OD := Lib.hid OD.out.drew
      replace HOA := Lib.hid (And.intro HOA.out.1.drew HOA.out.2.drew)
      replace HOB := Lib.hid (And.intro HOB.out.1.drew HOB.out.2.drew)
      clear hb
      go_wp2_with fail
      replace q0 := frozen_drew q0
      replace q1 := frozen_drew q1
      replace q2 := frozen_drew q2
      replace c0 := cell_drew c0
      replace c1 := cell_drew c1
      replace c2 := cell_drew c2
      go_region_with (first | (go_at_call 30; refine (mul_c _ lo lo _ _ (X i) (Y i) HOA.out.1 HOA.out.2 lo2 lo2 _ _ (S i) (T i) HOB.out.1 HOB.out.2 (.inl (HX.out i hlt)) (.inl (HY.out i hlt)) zm em HZM.out.1 HZM.out.2).mono ?_; rintro e3 w3 ⟨ug, dg, rfl, ho1, ho2, ha, hb3⟩; obtain ⟨uga, ugc, rfl, -, -, -, -, -⟩ := ho1.form; obtain ⟨dga, dgc, rfl, -, -, -, -, -⟩ := ho2.form; have HM := Lib.hid (And.intro ho1 ho2); have HOS := Lib.hid (And.intro (OU.out.below hb3 (Nat.le_refl _)) (OD.out.below hb3 (Nat.le_refl _))); replace q0 := keep_frozen hb3 c0 q0; replace q1 := keep_frozen hb3 c1 q1; replace q2 := keep_frozen hb3 c2 q2; replace c0 := keep_cell hb3 c0; replace c1 := keep_cell hb3 c1; replace c2 := keep_cell hb3 c2; have B3 := BD.trans (hb3.mono BD.size); clear ho1 ho2 ha hb3 OU OD HOA HOB) | (go_at_call 31; refine (add_c _ w0.heap.size w0.heap.size _ _ y f HOS.out.1 HOS.out.2 _ _ _ _ zm em HM.out.1 HM.out.2 isy.out HM0.out yn fn HA1.out.1 HA1.out.2).mono ?_; rintro e4 w4 ⟨un, dn, rfl, ho1, ho2, ha, hb4⟩; obtain ⟨una, unc, rfl, -, -, -, -, -⟩ := ho1.form; obtain ⟨dna, dnc, rfl, -, -, -, -, -⟩ := ho2.form; replace q0 := keep_frozen hb4 c0 q0; replace q1 := keep_frozen hb4 c1 q1; replace q2 := keep_frozen hb4 c2 q2; have hlt3 : w1.heap.size < w3.heap.size := World.block_lt_of_cell? _ _ c0; replace c0 := keep_cell hb4 c0; replace c1 := keep_cell hb4 c1; replace c2 := keep_cell hb4 c2; have B4 := B3.trans (hb4.mono B3.size); have HN := Lib.hid (And.intro (And.intro (ho1.mono B3.size) (ho2.mono B3.size)) (And.intro ha (And.intro (ne_of_base ho1 hlt3) (ne_of_base ho2 hlt3)))); have HS := Lib.hid (set3_all (s := ng yn) (u := .slice una (limbs yn.natAbs).length unc) (v := .slice dna (limbs fn).length dnc) c0 c1 c2 B4 hgb); clear ho1 ho2 ha hb4 HM HOS B3))
      all_goals
        go_wp2
        go_roundw
        case rel => exact ⟨i + 1, yn, fn, una, unc, dna, dnc, by omega, by go_num, HS.out.1, HS.out.2.1, HS.out.2.2.1, (set3_frozen _).trans q0, (set3_frozen _).trans q1, (set3_frozen _).trans q2, set3_own HN.out.1.1 HN.out.2.2.1, set3_own HN.out.1.2 HN.out.2.2.2, HN.out.2.1, HYN.out, HS.out.2.2.2⟩
        case measure => (simp [intOf]) <;> omega
    · obtain rfl : i = n := by omega
      have e0 := keep_cell hb r0
      have e1 := keep_cell hb r1
      have e2 := keep_cell hb r2
      have f0 := keep_frozen hb r0 s0
      have f1 := keep_frozen hb r1 s1
      have f2 := keep_frozen hb r2 s2
      clear r0 r1 r2 s0 s1 s2
      have HEZ : Hid (z = y ∧ e = f) := ⟨HZ.out.1.trans HYF.out.1.symm, HZ.out.2.trans HYF.out.2.symm⟩
      go_wp2
      exact bodyPost_ret (v := .agg #[.bool (ng y), .slice ua (limbs y.natAbs).length uc, .slice da (limbs f).length dc]) (by simp [results, Tryz.results49, go_sem, e0, e1, e2]) rfl (retQ_of HEZ.out (retR_end BW (Nat.le_refl _) hg0 hb OU.out OD.out HAP.out))

end Go.Proofs.YtijeplcjbhkkoaaGreatDoor

/- InnerProduct, of the program and of the reference. -/
namespace Go.Proofs.YtijeplcjbhkkoaaGreatDoor
open Go.RowKit Lm

/-- A fraction in new memory, and a truth value. -/
def RetQB (w : World) (z : Int) (d : Nat) (b : Bool) (e : Ending) (w' : World) : Prop :=
  ∃ u v, e = .returned (.tuple #[.agg #[.bool (ng z), u, v], .bool b]) ∧ Own w' w.heap.size u (limbs z.natAbs) ∧ Own w' w.heap.size v (limbs d) ∧ Apart u v ∧ Below w.heap.size w w'
theorem retQB_end {w w0 wk : World} {g : Nat} {z y : Int} {d f : Nat} {b c : Bool} {u v : Value} (h : z = y ∧ d = f ∧ b = c) (BW : Below w.heap.size w w0) (hg : w.heap.size ≤ g) (hg0 : g < w0.heap.size) (B0 : Below w0.heap.size w0 wk)
    (hu : Own wk w0.heap.size u (limbs y.natAbs)) (hv : Own wk w0.heap.size v (limbs f)) (ha : Apart u v) :
    RetQB w z d b (.returned (.tuple #[.agg #[.bool (ng y), u, v], .bool c])) (((wk.setCell ⟨g, 0, none⟩ (.bool (ng y))).setCell ⟨g, 1, none⟩ u).setCell ⟨g, 2, none⟩ v) := by
  obtain ⟨rfl, rfl, rfl⟩ := h
  exact ⟨u, v, rfl, (set3_own hu (ne_of_base hu hg0)).mono BW.size, (set3_own hv (ne_of_base hv hg0)).mono BW.size, ha, set3_below (BW.trans (B0.mono BW.size)) hg⟩
theorem retQB_nil {w w' : World} {z : Int} {d : Nat} {b : Bool} (h : z = 0 ∧ d = 0 ∧ b = false) (hB : Below w.heap.size w w') : RetQB w z d b (.returned (.tuple #[.agg #[.bool false, .slice none 0 0, .slice none 0 0], .bool false])) w' := by
  obtain ⟨rfl, rfl, rfl⟩ := h
  exact ⟨_, _, rfl, Own.nil _ _, Own.nil _ _, apart_nil, hB⟩
theorem retQB_fin {w w0 wk : World} {z y : Int} {d f : Nat} {b c : Bool} {u v : Value} (h : z = y ∧ d = f ∧ b = c) (BW : Below w.heap.size w w0) (hB : Below w.heap.size w wk)
    (hu : Own wk w0.heap.size u (limbs y.natAbs)) (hv : Own wk w0.heap.size v (limbs f)) (ha : Apart u v) : RetQB w z d b (.returned (.tuple #[.agg #[.bool (ng y), u, v], .bool c])) wk := by
  obtain ⟨rfl, rfl, rfl⟩ := h
  exact ⟨u, v, rfl, hu.mono BW.size, hv.mono BW.size, ha, hB⟩
def GivenP (w : World) (z : Int) (u v : Value) (e : Ending) (w' : World) : Prop := e = .returned (.tuple #[.agg #[.bool (ng z), u, v], .bool true]) ∧ Below w.heap.size w w'
def GivenN (w : World) (e : Ending) (w' : World) : Prop := e = .returned (.tuple #[.agg #[.bool false, .slice none 0 0, .slice none 0 0], .bool false]) ∧ Below w.heap.size w w'
open Classical in
/-- What InnerProduct gives. -/
noncomputable def ipQ (n : Nat) (A : Nat → Rc) (m : Nat) (B : Nat → Rc) : Int × Nat := if OkV n A ∧ OkV m B ∧ n = m then inn (fun i => numR (A i)) (fun i => denR (A i)) (fun i => numR (B i)) (fun i => denR (B i)) n else (0, 0)
noncomputable def ipB (n : Nat) (A : Nat → Rc) (m : Nat) (B : Nat → Rc) : Bool := decide (0 < (ipQ n A m B).2)
theorem ipQ_yes {n m : Nat} {A B : Nat → Rc} (h : OkV n A ∧ OkV m B ∧ n = m) : ipQ n A m B = inn (fun i => numR (A i)) (fun i => denR (A i)) (fun i => numR (B i)) (fun i => denR (B i)) n := if_pos h
theorem ipQ_no {n m : Nat} {A B : Nat → Rc} (h : ¬ (OkV n A ∧ OkV m B ∧ n = m)) : ipQ n A m B = (0, 0) := if_neg h

set_option maxHeartbeats 2000000 in
set_option maxRecDepth 100000 in
theorem given_t (w : World) (b1 b2 : Nat) (z : Int) (d : Nat) (a1 a2 : Option Addr) (c1 c2 : Nat) (h1 : Own w b1 (.slice a1 (limbs z.natAbs).length c1) (limbs z.natAbs)) (h2 : Own w b2 (.slice a2 (limbs d).length c2) (limbs d)) (hd : 0 < d) :
    Calls Tryz.prog 48 #[.agg #[.bool (ng z), (.slice a1 (limbs z.natAbs).length c1), (.slice a2 (limbs d).length c2)]] w (GivenP w z (.slice a1 (limbs z.natAbs).length c1) (.slice a2 (limbs d).length c2)) := by
  have BW : Below w.heap.size w ((w.alloc (.cells #[.bool (ng z), (.slice a1 (limbs z.natAbs).length c1), (.slice a2 (limbs d).length c2)] 27)).alloc (.cells #[.bool false, .slice none 0 0, .slice none 0 0] 27)) := (((Below.refl w.heap.size w).alloc (Nat.le_refl _) _).alloc (by simp) _)
  obtain ⟨c0_0, c0_1, c0_2, c1_0, c1_1, c1_2, q0, q1, q2⟩ : World.cell? ((w.alloc (.cells #[.bool (ng z), (.slice a1 (limbs z.natAbs).length c1), (.slice a2 (limbs d).length c2)] 27)).alloc (.cells #[.bool false, .slice none 0 0, .slice none 0 0] 27)) ⟨w.heap.size, 0, none⟩ = some (.bool (ng z)) ∧ World.cell? ((w.alloc (.cells #[.bool (ng z), (.slice a1 (limbs z.natAbs).length c1), (.slice a2 (limbs d).length c2)] 27)).alloc (.cells #[.bool false, .slice none 0 0, .slice none 0 0] 27)) ⟨w.heap.size, 1, none⟩ = some ((.slice a1 (limbs z.natAbs).length c1)) ∧ World.cell? ((w.alloc (.cells #[.bool (ng z), (.slice a1 (limbs z.natAbs).length c1), (.slice a2 (limbs d).length c2)] 27)).alloc (.cells #[.bool false, .slice none 0 0, .slice none 0 0] 27)) ⟨w.heap.size, 2, none⟩ = some ((.slice a2 (limbs d).length c2)) ∧ World.cell? ((w.alloc (.cells #[.bool (ng z), (.slice a1 (limbs z.natAbs).length c1), (.slice a2 (limbs d).length c2)] 27)).alloc (.cells #[.bool false, .slice none 0 0, .slice none 0 0] 27)) ⟨w.heap.size + 1, 0, none⟩ = some (.bool false) ∧ World.cell? ((w.alloc (.cells #[.bool (ng z), (.slice a1 (limbs z.natAbs).length c1), (.slice a2 (limbs d).length c2)] 27)).alloc (.cells #[.bool false, .slice none 0 0, .slice none 0 0] 27)) ⟨w.heap.size + 1, 1, none⟩ = some (.slice none 0 0) ∧ World.cell? ((w.alloc (.cells #[.bool (ng z), (.slice a1 (limbs z.natAbs).length c1), (.slice a2 (limbs d).length c2)] 27)).alloc (.cells #[.bool false, .slice none 0 0, .slice none 0 0] 27)) ⟨w.heap.size + 1, 2, none⟩ = some (.slice none 0 0) ∧ World.frozen? ((w.alloc (.cells #[.bool (ng z), (.slice a1 (limbs z.natAbs).length c1), (.slice a2 (limbs d).length c2)] 27)).alloc (.cells #[.bool false, .slice none 0 0, .slice none 0 0] 27)) ⟨w.heap.size + 1, 0, none⟩ = false ∧ World.frozen? ((w.alloc (.cells #[.bool (ng z), (.slice a1 (limbs z.natAbs).length c1), (.slice a2 (limbs d).length c2)] 27)).alloc (.cells #[.bool false, .slice none 0 0, .slice none 0 0] 27)) ⟨w.heap.size + 1, 1, none⟩ = false ∧ World.frozen? ((w.alloc (.cells #[.bool (ng z), (.slice a1 (limbs z.natAbs).length c1), (.slice a2 (limbs d).length c2)] 27)).alloc (.cells #[.bool false, .slice none 0 0, .slice none 0 0] 27)) ⟨w.heap.size + 1, 2, none⟩ = false := by simp [go_sem]
  have hg0 : w.heap.size + 1 < (((w.alloc (.cells #[.bool (ng z), (.slice a1 (limbs z.natAbs).length c1), (.slice a2 (limbs d).length c2)] 27)).alloc (.cells #[.bool false, .slice none 0 0, .slice none 0 0] 27))).heap.size := World.block_lt_of_cell? _ _ c1_0
  have Ha := Lib.hid (h1.below BW (Nat.le_refl _))
  have Hb := Lib.hid (h2.below BW (Nat.le_refl _))
  clear h1 h2
  have HD := Lib.hid hd
  clear hd
  go_enter Tryz.func48, Tryz.ntmps48
  go_wp2_with fail
  generalize ((w.alloc (.cells #[.bool (ng z), (.slice a1 (limbs z.natAbs).length c1), (.slice a2 (limbs d).length c2)] 27)).alloc (.cells #[.bool false, .slice none 0 0, .slice none 0 0] 27)) = w0 at *
  have B0 := Below.refl w0.heap.size w0
  refine (void_f _ _ _ _ _ d Hb.out HD.out).mono ?_
  rintro e w1 ⟨rfl, hb⟩
  replace c0_0 := keep_cell hb c0_0
  replace c0_1 := keep_cell hb c0_1
  replace c0_2 := keep_cell hb c0_2
  replace q0 := keep_frozen (w1 := w1) hb c1_0 q0
  replace c1_0 := keep_cell (w1 := w1) hb c1_0
  replace q1 := keep_frozen (w1 := w1) hb c1_1 q1
  replace c1_1 := keep_cell (w1 := w1) hb c1_1
  replace q2 := keep_frozen (w1 := w1) hb c1_2 q2
  replace c1_2 := keep_cell (w1 := w1) hb c1_2
  replace Ha := Lib.hid (Ha.out.below hb (Nat.le_refl _))
  replace Hb := Lib.hid (Hb.out.below hb (Nat.le_refl _))
  replace B0 := B0.trans (hb.mono B0.size)
  clear hb
  go_wp2
  exact bodyPost_ret (v := .tuple #[.agg #[.bool (ng z), (.slice a1 (limbs z.natAbs).length c1), (.slice a2 (limbs d).length c2)], .bool true]) (by simp [results, Tryz.results48, go_sem, c1_0, c1_1, c1_2]) rfl ⟨rfl, set3_below (BW.trans (B0.mono BW.size)) (by omega)⟩

set_option maxHeartbeats 2000000 in
set_option maxRecDepth 100000 in
theorem given_f (w : World) (b1 b2 : Nat) (z : Int) (d : Nat) (a1 a2 : Option Addr) (c1 c2 : Nat) (h1 : Own w b1 (.slice a1 (limbs z.natAbs).length c1) (limbs z.natAbs)) (h2 : Own w b2 (.slice a2 (limbs d).length c2) (limbs d)) (hd : d = 0) :
    Calls Tryz.prog 48 #[.agg #[.bool (ng z), (.slice a1 (limbs z.natAbs).length c1), (.slice a2 (limbs d).length c2)]] w (GivenN w) := by
  have BW : Below w.heap.size w ((w.alloc (.cells #[.bool (ng z), (.slice a1 (limbs z.natAbs).length c1), (.slice a2 (limbs d).length c2)] 27)).alloc (.cells #[.bool false, .slice none 0 0, .slice none 0 0] 27)) := (((Below.refl w.heap.size w).alloc (Nat.le_refl _) _).alloc (by simp) _)
  obtain ⟨c0_0, c0_1, c0_2, c1_0, c1_1, c1_2, q0, q1, q2⟩ : World.cell? ((w.alloc (.cells #[.bool (ng z), (.slice a1 (limbs z.natAbs).length c1), (.slice a2 (limbs d).length c2)] 27)).alloc (.cells #[.bool false, .slice none 0 0, .slice none 0 0] 27)) ⟨w.heap.size, 0, none⟩ = some (.bool (ng z)) ∧ World.cell? ((w.alloc (.cells #[.bool (ng z), (.slice a1 (limbs z.natAbs).length c1), (.slice a2 (limbs d).length c2)] 27)).alloc (.cells #[.bool false, .slice none 0 0, .slice none 0 0] 27)) ⟨w.heap.size, 1, none⟩ = some ((.slice a1 (limbs z.natAbs).length c1)) ∧ World.cell? ((w.alloc (.cells #[.bool (ng z), (.slice a1 (limbs z.natAbs).length c1), (.slice a2 (limbs d).length c2)] 27)).alloc (.cells #[.bool false, .slice none 0 0, .slice none 0 0] 27)) ⟨w.heap.size, 2, none⟩ = some ((.slice a2 (limbs d).length c2)) ∧ World.cell? ((w.alloc (.cells #[.bool (ng z), (.slice a1 (limbs z.natAbs).length c1), (.slice a2 (limbs d).length c2)] 27)).alloc (.cells #[.bool false, .slice none 0 0, .slice none 0 0] 27)) ⟨w.heap.size + 1, 0, none⟩ = some (.bool false) ∧ World.cell? ((w.alloc (.cells #[.bool (ng z), (.slice a1 (limbs z.natAbs).length c1), (.slice a2 (limbs d).length c2)] 27)).alloc (.cells #[.bool false, .slice none 0 0, .slice none 0 0] 27)) ⟨w.heap.size + 1, 1, none⟩ = some (.slice none 0 0) ∧ World.cell? ((w.alloc (.cells #[.bool (ng z), (.slice a1 (limbs z.natAbs).length c1), (.slice a2 (limbs d).length c2)] 27)).alloc (.cells #[.bool false, .slice none 0 0, .slice none 0 0] 27)) ⟨w.heap.size + 1, 2, none⟩ = some (.slice none 0 0) ∧ World.frozen? ((w.alloc (.cells #[.bool (ng z), (.slice a1 (limbs z.natAbs).length c1), (.slice a2 (limbs d).length c2)] 27)).alloc (.cells #[.bool false, .slice none 0 0, .slice none 0 0] 27)) ⟨w.heap.size + 1, 0, none⟩ = false ∧ World.frozen? ((w.alloc (.cells #[.bool (ng z), (.slice a1 (limbs z.natAbs).length c1), (.slice a2 (limbs d).length c2)] 27)).alloc (.cells #[.bool false, .slice none 0 0, .slice none 0 0] 27)) ⟨w.heap.size + 1, 1, none⟩ = false ∧ World.frozen? ((w.alloc (.cells #[.bool (ng z), (.slice a1 (limbs z.natAbs).length c1), (.slice a2 (limbs d).length c2)] 27)).alloc (.cells #[.bool false, .slice none 0 0, .slice none 0 0] 27)) ⟨w.heap.size + 1, 2, none⟩ = false := by simp [go_sem]
  have hg0 : w.heap.size + 1 < (((w.alloc (.cells #[.bool (ng z), (.slice a1 (limbs z.natAbs).length c1), (.slice a2 (limbs d).length c2)] 27)).alloc (.cells #[.bool false, .slice none 0 0, .slice none 0 0] 27))).heap.size := World.block_lt_of_cell? _ _ c1_0
  have Ha := Lib.hid (h1.below BW (Nat.le_refl _))
  have Hb := Lib.hid (h2.below BW (Nat.le_refl _))
  clear h1 h2
  have HD := Lib.hid hd
  clear hd
  go_enter Tryz.func48, Tryz.ntmps48
  go_wp2_with fail
  generalize ((w.alloc (.cells #[.bool (ng z), (.slice a1 (limbs z.natAbs).length c1), (.slice a2 (limbs d).length c2)] 27)).alloc (.cells #[.bool false, .slice none 0 0, .slice none 0 0] 27)) = w0 at *
  have B0 := Below.refl w0.heap.size w0
  refine (void_t _ _ _ _ _ d Hb.out HD.out).mono ?_
  rintro e w1 ⟨rfl, hb⟩
  replace c0_0 := keep_cell hb c0_0
  replace c0_1 := keep_cell hb c0_1
  replace c0_2 := keep_cell hb c0_2
  replace q0 := keep_frozen (w1 := w1) hb c1_0 q0
  replace c1_0 := keep_cell (w1 := w1) hb c1_0
  replace q1 := keep_frozen (w1 := w1) hb c1_1 q1
  replace c1_1 := keep_cell (w1 := w1) hb c1_1
  replace q2 := keep_frozen (w1 := w1) hb c1_2 q2
  replace c1_2 := keep_cell (w1 := w1) hb c1_2
  replace Ha := Lib.hid (Ha.out.below hb (Nat.le_refl _))
  replace Hb := Lib.hid (Hb.out.below hb (Nat.le_refl _))
  replace B0 := B0.trans (hb.mono B0.size)
  clear hb
  go_wp2
  exact bodyPost_ret (v := .tuple #[.agg #[.bool false, .slice none 0 0, .slice none 0 0], .bool false]) (by simp [results, Tryz.results48, go_sem, c1_0, c1_1, c1_2]) rfl ⟨rfl, set3_below (BW.trans (B0.mono BW.size)) (by omega)⟩

set_option maxHeartbeats 2000000 in
set_option maxRecDepth 100000 in
theorem InnerProduct_b1 (w : World) {lo hi lo2 hi2 : Nat} {v1 v2 : Value} (n : Nat) (A : Nat → Rc) (m : Nat) (B : Nat → Rc) (h1 : Vec w lo hi v1 n A) (h2 : Vec w lo2 hi2 v2 m B) (hA : ¬ OkV n A) : Calls Tryz.prog 19 #[v1, v2] w (RetQB w 0 0 false) := by
  obtain ⟨ao, cap, rfl, f1, -, -⟩ := h1.form
  obtain ⟨ao2, cap2, rfl, f2, -, -⟩ := h2.form
  have BW : Below w.heap.size w (w.alloc (.cells #[.bool false, .slice none 0 0, .slice none 0 0] 27)) := ((Below.refl w.heap.size w).alloc (Nat.le_refl _) _)
  obtain ⟨c0_0, c0_1, c0_2, q0, q1, q2⟩ : World.cell? (w.alloc (.cells #[.bool false, .slice none 0 0, .slice none 0 0] 27)) ⟨w.heap.size, 0, none⟩ = some (.bool false) ∧ World.cell? (w.alloc (.cells #[.bool false, .slice none 0 0, .slice none 0 0] 27)) ⟨w.heap.size, 1, none⟩ = some (.slice none 0 0) ∧ World.cell? (w.alloc (.cells #[.bool false, .slice none 0 0, .slice none 0 0] 27)) ⟨w.heap.size, 2, none⟩ = some (.slice none 0 0) ∧ World.frozen? (w.alloc (.cells #[.bool false, .slice none 0 0, .slice none 0 0] 27)) ⟨w.heap.size, 0, none⟩ = false ∧ World.frozen? (w.alloc (.cells #[.bool false, .slice none 0 0, .slice none 0 0] 27)) ⟨w.heap.size, 1, none⟩ = false ∧ World.frozen? (w.alloc (.cells #[.bool false, .slice none 0 0, .slice none 0 0] 27)) ⟨w.heap.size, 2, none⟩ = false := by simp [go_sem]
  have hg0 : w.heap.size < ((w.alloc (.cells #[.bool false, .slice none 0 0, .slice none 0 0] 27))).heap.size := World.block_lt_of_cell? _ _ c0_0
  have HV := Lib.hid (h1.bel BW)
  clear h1
  have HU := Lib.hid (h2.bel BW)
  clear h2
  have HA := Lib.hid hA
  clear hA
  go_enter Tryz.func19, Tryz.ntmps19
  go_wp2_with fail
  generalize (w.alloc (.cells #[.bool false, .slice none 0 0, .slice none 0 0] 27)) = w0 at *
  have B0 := Below.refl w0.heap.size w0
  refine (IsVector_f _ n A HV.out HA.out).mono ?_
  rintro e w1 ⟨rfl, hb⟩
  replace q0 := keep_frozen (w1 := w1) hb c0_0 q0
  replace c0_0 := keep_cell (w1 := w1) hb c0_0
  replace q1 := keep_frozen (w1 := w1) hb c0_1 q1
  replace c0_1 := keep_cell (w1 := w1) hb c0_1
  replace q2 := keep_frozen (w1 := w1) hb c0_2 q2
  replace c0_2 := keep_cell (w1 := w1) hb c0_2
  replace HV := Lib.hid (HV.out.bel hb)
  replace HU := Lib.hid (HU.out.bel hb)
  replace B0 := B0.trans (hb.mono B0.size)
  clear hb
  go_wp2
  exact bodyPost_ret (v := .tuple #[.agg #[.bool false, .slice none 0 0, .slice none 0 0], .bool false]) (by simp [results, Tryz.results19, go_sem, c0_0, c0_1, c0_2]) rfl (retQB_nil ⟨rfl, rfl, rfl⟩ (set3_below (BW.trans (B0.mono BW.size)) (by omega)))

set_option maxHeartbeats 2000000 in
set_option maxRecDepth 100000 in
theorem InnerProduct_b2 (w : World) {lo hi lo2 hi2 : Nat} {v1 v2 : Value} (n : Nat) (A : Nat → Rc) (m : Nat) (B : Nat → Rc) (h1 : Vec w lo hi v1 n A) (h2 : Vec w lo2 hi2 v2 m B) (hA : OkV n A) (hB : ¬ OkV m B) : Calls Tryz.prog 19 #[v1, v2] w (RetQB w 0 0 false) := by
  obtain ⟨ao, cap, rfl, f1, -, -⟩ := h1.form
  obtain ⟨ao2, cap2, rfl, f2, -, -⟩ := h2.form
  have BW : Below w.heap.size w (w.alloc (.cells #[.bool false, .slice none 0 0, .slice none 0 0] 27)) := ((Below.refl w.heap.size w).alloc (Nat.le_refl _) _)
  obtain ⟨c0_0, c0_1, c0_2, q0, q1, q2⟩ : World.cell? (w.alloc (.cells #[.bool false, .slice none 0 0, .slice none 0 0] 27)) ⟨w.heap.size, 0, none⟩ = some (.bool false) ∧ World.cell? (w.alloc (.cells #[.bool false, .slice none 0 0, .slice none 0 0] 27)) ⟨w.heap.size, 1, none⟩ = some (.slice none 0 0) ∧ World.cell? (w.alloc (.cells #[.bool false, .slice none 0 0, .slice none 0 0] 27)) ⟨w.heap.size, 2, none⟩ = some (.slice none 0 0) ∧ World.frozen? (w.alloc (.cells #[.bool false, .slice none 0 0, .slice none 0 0] 27)) ⟨w.heap.size, 0, none⟩ = false ∧ World.frozen? (w.alloc (.cells #[.bool false, .slice none 0 0, .slice none 0 0] 27)) ⟨w.heap.size, 1, none⟩ = false ∧ World.frozen? (w.alloc (.cells #[.bool false, .slice none 0 0, .slice none 0 0] 27)) ⟨w.heap.size, 2, none⟩ = false := by simp [go_sem]
  have hg0 : w.heap.size < ((w.alloc (.cells #[.bool false, .slice none 0 0, .slice none 0 0] 27))).heap.size := World.block_lt_of_cell? _ _ c0_0
  have HV := Lib.hid (h1.bel BW)
  clear h1
  have HU := Lib.hid (h2.bel BW)
  clear h2
  have HA := Lib.hid hA
  have HB := Lib.hid hB
  clear hA hB
  go_enter Tryz.func19, Tryz.ntmps19
  go_wp2_with fail
  generalize (w.alloc (.cells #[.bool false, .slice none 0 0, .slice none 0 0] 27)) = w0 at *
  have B0 := Below.refl w0.heap.size w0
  refine (IsVector_t _ n A HV.out HA.out).mono ?_
  rintro e w1 ⟨rfl, hb⟩
  replace q0 := keep_frozen (w1 := w1) hb c0_0 q0
  replace c0_0 := keep_cell (w1 := w1) hb c0_0
  replace q1 := keep_frozen (w1 := w1) hb c0_1 q1
  replace c0_1 := keep_cell (w1 := w1) hb c0_1
  replace q2 := keep_frozen (w1 := w1) hb c0_2 q2
  replace c0_2 := keep_cell (w1 := w1) hb c0_2
  replace HV := Lib.hid (HV.out.bel hb)
  replace HU := Lib.hid (HU.out.bel hb)
  replace B0 := B0.trans (hb.mono B0.size)
  clear hb
  go_wp2_with fail
  refine (IsVector_f _ m B HU.out HB.out).mono ?_
  rintro e w2 ⟨rfl, hb⟩
  replace q0 := keep_frozen (w1 := w2) hb c0_0 q0
  replace c0_0 := keep_cell (w1 := w2) hb c0_0
  replace q1 := keep_frozen (w1 := w2) hb c0_1 q1
  replace c0_1 := keep_cell (w1 := w2) hb c0_1
  replace q2 := keep_frozen (w1 := w2) hb c0_2 q2
  replace c0_2 := keep_cell (w1 := w2) hb c0_2
  replace HV := Lib.hid (HV.out.bel hb)
  replace HU := Lib.hid (HU.out.bel hb)
  replace B0 := B0.trans (hb.mono B0.size)
  clear hb
  go_wp2
  exact bodyPost_ret (v := .tuple #[.agg #[.bool false, .slice none 0 0, .slice none 0 0], .bool false]) (by simp [results, Tryz.results19, go_sem, c0_0, c0_1, c0_2]) rfl (retQB_nil ⟨rfl, rfl, rfl⟩ (set3_below (BW.trans (B0.mono BW.size)) (by omega)))

set_option maxHeartbeats 2000000 in
set_option maxRecDepth 100000 in
theorem InnerProduct_b3 (w : World) {lo hi lo2 hi2 : Nat} {v1 v2 : Value} (n : Nat) (A : Nat → Rc) (m : Nat) (B : Nat → Rc) (h1 : Vec w lo hi v1 n A) (h2 : Vec w lo2 hi2 v2 m B) (hA : OkV n A) (hB : OkV m B) (hne : n ≠ m) : Calls Tryz.prog 19 #[v1, v2] w (RetQB w 0 0 false) := by
  obtain ⟨ao, cap, rfl, f1, -, -⟩ := h1.form
  obtain ⟨ao2, cap2, rfl, f2, -, -⟩ := h2.form
  have BW : Below w.heap.size w (w.alloc (.cells #[.bool false, .slice none 0 0, .slice none 0 0] 27)) := ((Below.refl w.heap.size w).alloc (Nat.le_refl _) _)
  obtain ⟨c0_0, c0_1, c0_2, q0, q1, q2⟩ : World.cell? (w.alloc (.cells #[.bool false, .slice none 0 0, .slice none 0 0] 27)) ⟨w.heap.size, 0, none⟩ = some (.bool false) ∧ World.cell? (w.alloc (.cells #[.bool false, .slice none 0 0, .slice none 0 0] 27)) ⟨w.heap.size, 1, none⟩ = some (.slice none 0 0) ∧ World.cell? (w.alloc (.cells #[.bool false, .slice none 0 0, .slice none 0 0] 27)) ⟨w.heap.size, 2, none⟩ = some (.slice none 0 0) ∧ World.frozen? (w.alloc (.cells #[.bool false, .slice none 0 0, .slice none 0 0] 27)) ⟨w.heap.size, 0, none⟩ = false ∧ World.frozen? (w.alloc (.cells #[.bool false, .slice none 0 0, .slice none 0 0] 27)) ⟨w.heap.size, 1, none⟩ = false ∧ World.frozen? (w.alloc (.cells #[.bool false, .slice none 0 0, .slice none 0 0] 27)) ⟨w.heap.size, 2, none⟩ = false := by simp [go_sem]
  have hg0 : w.heap.size < ((w.alloc (.cells #[.bool false, .slice none 0 0, .slice none 0 0] 27))).heap.size := World.block_lt_of_cell? _ _ c0_0
  have HV := Lib.hid (h1.bel BW)
  clear h1
  have HU := Lib.hid (h2.bel BW)
  clear h2
  have HA := Lib.hid hA
  have HB := Lib.hid hB
  have d0 : ((n : Int) == m) = false := beq_false_of_ne (by omega)
  clear hA hB hne
  go_enter Tryz.func19, Tryz.ntmps19
  go_wp2_with fail
  generalize (w.alloc (.cells #[.bool false, .slice none 0 0, .slice none 0 0] 27)) = w0 at *
  have B0 := Below.refl w0.heap.size w0
  refine (IsVector_t _ n A HV.out HA.out).mono ?_
  rintro e w1 ⟨rfl, hb⟩
  replace q0 := keep_frozen (w1 := w1) hb c0_0 q0
  replace c0_0 := keep_cell (w1 := w1) hb c0_0
  replace q1 := keep_frozen (w1 := w1) hb c0_1 q1
  replace c0_1 := keep_cell (w1 := w1) hb c0_1
  replace q2 := keep_frozen (w1 := w1) hb c0_2 q2
  replace c0_2 := keep_cell (w1 := w1) hb c0_2
  replace HV := Lib.hid (HV.out.bel hb)
  replace HU := Lib.hid (HU.out.bel hb)
  replace B0 := B0.trans (hb.mono B0.size)
  clear hb
  go_wp2_with fail
  refine (IsVector_t _ m B HU.out HB.out).mono ?_
  rintro e w2 ⟨rfl, hb⟩
  replace q0 := keep_frozen (w1 := w2) hb c0_0 q0
  replace c0_0 := keep_cell (w1 := w2) hb c0_0
  replace q1 := keep_frozen (w1 := w2) hb c0_1 q1
  replace c0_1 := keep_cell (w1 := w2) hb c0_1
  replace q2 := keep_frozen (w1 := w2) hb c0_2 q2
  replace c0_2 := keep_cell (w1 := w2) hb c0_2
  replace HV := Lib.hid (HV.out.bel hb)
  replace HU := Lib.hid (HU.out.bel hb)
  replace B0 := B0.trans (hb.mono B0.size)
  clear hb
  go_wp2
  exact bodyPost_ret (v := .tuple #[.agg #[.bool false, .slice none 0 0, .slice none 0 0], .bool false]) (by simp [results, Tryz.results19, go_sem, c0_0, c0_1, c0_2]) rfl (retQB_nil ⟨rfl, rfl, rfl⟩ (set3_below (BW.trans (B0.mono BW.size)) (by omega)))

set_option maxHeartbeats 2000000 in
set_option maxRecDepth 100000 in
theorem InnerProduct_gt (w : World) {lo hi lo2 hi2 : Nat} {v1 v2 : Value} (n : Nat) (A : Nat → Rc) (B : Nat → Rc) (h1 : Vec w lo hi v1 n A) (h2 : Vec w lo2 hi2 v2 n B) (hA : OkV n A) (hB : OkV n B) (z : Int) (e : Nat) (hz : z = (inn (fun i => numR (A i)) (fun i => denR (A i)) (fun i => numR (B i)) (fun i => denR (B i)) n).1 ∧ e = (inn (fun i => numR (A i)) (fun i => denR (A i)) (fun i => numR (B i)) (fun i => denR (B i)) n).2) (hd : 0 < e) :
    Calls Tryz.prog 19 #[v1, v2] w (RetQB w z e true) := by
  obtain ⟨ao, cap, rfl, f1, -, -⟩ := h1.form
  obtain ⟨ao2, cap2, rfl, f2, -, -⟩ := h2.form
  have BW : Below w.heap.size w (w.alloc (.cells #[.bool false, .slice none 0 0, .slice none 0 0] 27)) := ((Below.refl w.heap.size w).alloc (Nat.le_refl _) _)
  obtain ⟨c0_0, c0_1, c0_2, q0, q1, q2⟩ : World.cell? (w.alloc (.cells #[.bool false, .slice none 0 0, .slice none 0 0] 27)) ⟨w.heap.size, 0, none⟩ = some (.bool false) ∧ World.cell? (w.alloc (.cells #[.bool false, .slice none 0 0, .slice none 0 0] 27)) ⟨w.heap.size, 1, none⟩ = some (.slice none 0 0) ∧ World.cell? (w.alloc (.cells #[.bool false, .slice none 0 0, .slice none 0 0] 27)) ⟨w.heap.size, 2, none⟩ = some (.slice none 0 0) ∧ World.frozen? (w.alloc (.cells #[.bool false, .slice none 0 0, .slice none 0 0] 27)) ⟨w.heap.size, 0, none⟩ = false ∧ World.frozen? (w.alloc (.cells #[.bool false, .slice none 0 0, .slice none 0 0] 27)) ⟨w.heap.size, 1, none⟩ = false ∧ World.frozen? (w.alloc (.cells #[.bool false, .slice none 0 0, .slice none 0 0] 27)) ⟨w.heap.size, 2, none⟩ = false := by simp [go_sem]
  have hg0 : w.heap.size < ((w.alloc (.cells #[.bool false, .slice none 0 0, .slice none 0 0] 27))).heap.size := World.block_lt_of_cell? _ _ c0_0
  have HV := Lib.hid (h1.bel BW)
  clear h1
  have HU := Lib.hid (h2.bel BW)
  clear h2
  have HA := Lib.hid hA
  have HB := Lib.hid hB
  have HZ := Lib.hid hz
  have HD := Lib.hid hd
  clear hA hB hz hd
  go_enter Tryz.func19, Tryz.ntmps19
  go_wp2_with fail
  generalize (w.alloc (.cells #[.bool false, .slice none 0 0, .slice none 0 0] 27)) = w0 at *
  have B0 := Below.refl w0.heap.size w0
  refine (IsVector_t _ n A HV.out HA.out).mono ?_
  rintro e w1 ⟨rfl, hb⟩
  replace q0 := keep_frozen (w1 := w1) hb c0_0 q0
  replace c0_0 := keep_cell (w1 := w1) hb c0_0
  replace q1 := keep_frozen (w1 := w1) hb c0_1 q1
  replace c0_1 := keep_cell (w1 := w1) hb c0_1
  replace q2 := keep_frozen (w1 := w1) hb c0_2 q2
  replace c0_2 := keep_cell (w1 := w1) hb c0_2
  replace HV := Lib.hid (HV.out.bel hb)
  replace HU := Lib.hid (HU.out.bel hb)
  replace B0 := B0.trans (hb.mono B0.size)
  clear hb
  go_wp2_with fail
  refine (IsVector_t _ n B HU.out HB.out).mono ?_
  rintro e w2 ⟨rfl, hb⟩
  replace q0 := keep_frozen (w1 := w2) hb c0_0 q0
  replace c0_0 := keep_cell (w1 := w2) hb c0_0
  replace q1 := keep_frozen (w1 := w2) hb c0_1 q1
  replace c0_1 := keep_cell (w1 := w2) hb c0_1
  replace q2 := keep_frozen (w1 := w2) hb c0_2 q2
  replace c0_2 := keep_cell (w1 := w2) hb c0_2
  replace HV := Lib.hid (HV.out.bel hb)
  replace HU := Lib.hid (HU.out.bel hb)
  replace B0 := B0.trans (hb.mono B0.size)
  clear hb
  go_wp2_with fail
  refine (inner_c _ n (fun i => numR (A i)) (fun i => numR (B i)) (fun i => denR (A i)) (fun i => denR (B i)) (HV.out.toQ HA.out) (HU.out.toQ HB.out) (fun i hi => (okV_q HA.out i hi).2) (fun i hi => (okV_q HB.out i hi).2) z e HZ.out).mono ?_
  rintro e w3 ⟨vr, vs, rfl, ho1, ho2, ha, hb⟩
  replace q0 := keep_frozen (w1 := w3) hb c0_0 q0
  replace c0_0 := keep_cell (w1 := w3) hb c0_0
  replace q1 := keep_frozen (w1 := w3) hb c0_1 q1
  replace c0_1 := keep_cell (w1 := w3) hb c0_1
  replace q2 := keep_frozen (w1 := w3) hb c0_2 q2
  replace c0_2 := keep_cell (w1 := w3) hb c0_2
  replace HV := Lib.hid (HV.out.bel hb)
  replace HU := Lib.hid (HU.out.bel hb)
  have Hr := Lib.hid (ho1.mono B0.size)
  clear ho1
  have Hs := Lib.hid (ho2.mono B0.size)
  clear ho2
  have HAP := Lib.hid ha
  clear ha
  obtain ⟨ar, cr, rfl, -, -, -, -, -⟩ := Hr.out.form
  obtain ⟨aw, cw, rfl, -, -, -, -, -⟩ := Hs.out.form
  replace B0 := B0.trans (hb.mono B0.size)
  clear hb
  go_wp2_with fail
  refine (given_t _ _ _ z e ar aw cr cw Hr.out Hs.out HD.out).mono ?_
  rintro e w4 ⟨rfl, hb⟩
  replace q0 := keep_frozen (w1 := w4) hb c0_0 q0
  replace c0_0 := keep_cell (w1 := w4) hb c0_0
  replace q1 := keep_frozen (w1 := w4) hb c0_1 q1
  replace c0_1 := keep_cell (w1 := w4) hb c0_1
  replace q2 := keep_frozen (w1 := w4) hb c0_2 q2
  replace c0_2 := keep_cell (w1 := w4) hb c0_2
  replace Hr := Lib.hid (Hr.out.below hb (Nat.le_refl _))
  replace Hs := Lib.hid (Hs.out.below hb (Nat.le_refl _))
  replace HV := Lib.hid (HV.out.bel hb)
  replace HU := Lib.hid (HU.out.bel hb)
  replace B0 := B0.trans (hb.mono B0.size)
  clear hb
  go_wp2
  exact bodyPost_ret (v := .tuple #[.agg #[.bool (ng z), .slice ar (limbs z.natAbs).length cr, .slice aw (limbs e).length cw], .bool true]) (by simp [results, Tryz.results19, go_sem, c0_0, c0_1, c0_2]) rfl (retQB_end ⟨rfl, rfl, rfl⟩ BW (by omega) hg0 B0 Hr.out Hs.out HAP.out)

set_option maxHeartbeats 2000000 in
set_option maxRecDepth 100000 in
theorem InnerProduct_gf (w : World) {lo hi lo2 hi2 : Nat} {v1 v2 : Value} (n : Nat) (A : Nat → Rc) (B : Nat → Rc) (h1 : Vec w lo hi v1 n A) (h2 : Vec w lo2 hi2 v2 n B) (hA : OkV n A) (hB : OkV n B) (z : Int) (e : Nat) (hz : z = (inn (fun i => numR (A i)) (fun i => denR (A i)) (fun i => numR (B i)) (fun i => denR (B i)) n).1 ∧ e = (inn (fun i => numR (A i)) (fun i => denR (A i)) (fun i => numR (B i)) (fun i => denR (B i)) n).2) (hd : e = 0) (hz0 : z = 0) :
    Calls Tryz.prog 19 #[v1, v2] w (RetQB w z e false) := by
  obtain ⟨ao, cap, rfl, f1, -, -⟩ := h1.form
  obtain ⟨ao2, cap2, rfl, f2, -, -⟩ := h2.form
  have BW : Below w.heap.size w (w.alloc (.cells #[.bool false, .slice none 0 0, .slice none 0 0] 27)) := ((Below.refl w.heap.size w).alloc (Nat.le_refl _) _)
  obtain ⟨c0_0, c0_1, c0_2, q0, q1, q2⟩ : World.cell? (w.alloc (.cells #[.bool false, .slice none 0 0, .slice none 0 0] 27)) ⟨w.heap.size, 0, none⟩ = some (.bool false) ∧ World.cell? (w.alloc (.cells #[.bool false, .slice none 0 0, .slice none 0 0] 27)) ⟨w.heap.size, 1, none⟩ = some (.slice none 0 0) ∧ World.cell? (w.alloc (.cells #[.bool false, .slice none 0 0, .slice none 0 0] 27)) ⟨w.heap.size, 2, none⟩ = some (.slice none 0 0) ∧ World.frozen? (w.alloc (.cells #[.bool false, .slice none 0 0, .slice none 0 0] 27)) ⟨w.heap.size, 0, none⟩ = false ∧ World.frozen? (w.alloc (.cells #[.bool false, .slice none 0 0, .slice none 0 0] 27)) ⟨w.heap.size, 1, none⟩ = false ∧ World.frozen? (w.alloc (.cells #[.bool false, .slice none 0 0, .slice none 0 0] 27)) ⟨w.heap.size, 2, none⟩ = false := by simp [go_sem]
  have hg0 : w.heap.size < ((w.alloc (.cells #[.bool false, .slice none 0 0, .slice none 0 0] 27))).heap.size := World.block_lt_of_cell? _ _ c0_0
  have HV := Lib.hid (h1.bel BW)
  clear h1
  have HU := Lib.hid (h2.bel BW)
  clear h2
  have HA := Lib.hid hA
  have HB := Lib.hid hB
  have HZ := Lib.hid hz
  have HD := Lib.hid hd
  have HZ0 := Lib.hid hz0
  clear hA hB hz hd hz0
  go_enter Tryz.func19, Tryz.ntmps19
  go_wp2_with fail
  generalize (w.alloc (.cells #[.bool false, .slice none 0 0, .slice none 0 0] 27)) = w0 at *
  have B0 := Below.refl w0.heap.size w0
  refine (IsVector_t _ n A HV.out HA.out).mono ?_
  rintro e w1 ⟨rfl, hb⟩
  replace q0 := keep_frozen (w1 := w1) hb c0_0 q0
  replace c0_0 := keep_cell (w1 := w1) hb c0_0
  replace q1 := keep_frozen (w1 := w1) hb c0_1 q1
  replace c0_1 := keep_cell (w1 := w1) hb c0_1
  replace q2 := keep_frozen (w1 := w1) hb c0_2 q2
  replace c0_2 := keep_cell (w1 := w1) hb c0_2
  replace HV := Lib.hid (HV.out.bel hb)
  replace HU := Lib.hid (HU.out.bel hb)
  replace B0 := B0.trans (hb.mono B0.size)
  clear hb
  go_wp2_with fail
  refine (IsVector_t _ n B HU.out HB.out).mono ?_
  rintro e w2 ⟨rfl, hb⟩
  replace q0 := keep_frozen (w1 := w2) hb c0_0 q0
  replace c0_0 := keep_cell (w1 := w2) hb c0_0
  replace q1 := keep_frozen (w1 := w2) hb c0_1 q1
  replace c0_1 := keep_cell (w1 := w2) hb c0_1
  replace q2 := keep_frozen (w1 := w2) hb c0_2 q2
  replace c0_2 := keep_cell (w1 := w2) hb c0_2
  replace HV := Lib.hid (HV.out.bel hb)
  replace HU := Lib.hid (HU.out.bel hb)
  replace B0 := B0.trans (hb.mono B0.size)
  clear hb
  go_wp2_with fail
  refine (inner_c _ n (fun i => numR (A i)) (fun i => numR (B i)) (fun i => denR (A i)) (fun i => denR (B i)) (HV.out.toQ HA.out) (HU.out.toQ HB.out) (fun i hi => (okV_q HA.out i hi).2) (fun i hi => (okV_q HB.out i hi).2) z e HZ.out).mono ?_
  rintro e w3 ⟨vr, vs, rfl, ho1, ho2, ha, hb⟩
  replace q0 := keep_frozen (w1 := w3) hb c0_0 q0
  replace c0_0 := keep_cell (w1 := w3) hb c0_0
  replace q1 := keep_frozen (w1 := w3) hb c0_1 q1
  replace c0_1 := keep_cell (w1 := w3) hb c0_1
  replace q2 := keep_frozen (w1 := w3) hb c0_2 q2
  replace c0_2 := keep_cell (w1 := w3) hb c0_2
  replace HV := Lib.hid (HV.out.bel hb)
  replace HU := Lib.hid (HU.out.bel hb)
  have Hr := Lib.hid (ho1.mono B0.size)
  clear ho1
  have Hs := Lib.hid (ho2.mono B0.size)
  clear ho2
  have HAP := Lib.hid ha
  clear ha
  obtain ⟨ar, cr, rfl, -, -, -, -, -⟩ := Hr.out.form
  obtain ⟨aw, cw, rfl, -, -, -, -, -⟩ := Hs.out.form
  replace B0 := B0.trans (hb.mono B0.size)
  clear hb
  go_wp2_with fail
  refine (given_f _ _ _ z e ar aw cr cw Hr.out Hs.out HD.out).mono ?_
  rintro e w4 ⟨rfl, hb⟩
  replace q0 := keep_frozen (w1 := w4) hb c0_0 q0
  replace c0_0 := keep_cell (w1 := w4) hb c0_0
  replace q1 := keep_frozen (w1 := w4) hb c0_1 q1
  replace c0_1 := keep_cell (w1 := w4) hb c0_1
  replace q2 := keep_frozen (w1 := w4) hb c0_2 q2
  replace c0_2 := keep_cell (w1 := w4) hb c0_2
  replace Hr := Lib.hid (Hr.out.below hb (Nat.le_refl _))
  replace Hs := Lib.hid (Hs.out.below hb (Nat.le_refl _))
  replace HV := Lib.hid (HV.out.bel hb)
  replace HU := Lib.hid (HU.out.bel hb)
  replace B0 := B0.trans (hb.mono B0.size)
  clear hb
  go_wp2
  exact bodyPost_ret (v := .tuple #[.agg #[.bool false, .slice none 0 0, .slice none 0 0], .bool false]) (by simp [results, Tryz.results19, go_sem, c0_0, c0_1, c0_2]) rfl (retQB_nil ⟨HZ0.out, HD.out, rfl⟩ (set3_below (BW.trans (B0.mono BW.size)) (by omega)))

theorem InnerProduct_c (w : World) {lo hi lo2 hi2 : Nat} {v1 v2 : Value} (n : Nat) (A : Nat → Rc) (m : Nat) (B : Nat → Rc) (h1 : Vec w lo hi v1 n A) (h2 : Vec w lo2 hi2 v2 m B) : Calls Tryz.prog 19 #[v1, v2] w (RetQB w (ipQ n A m B).1 (ipQ n A m B).2 (ipB n A m B)) := by
  unfold ipB
  by_cases h : OkV n A ∧ OkV m B ∧ n = m
  · have e0 := ipQ_yes h
    obtain ⟨hA, hB, rfl⟩ := h
    rw [e0]
    by_cases hd : 0 < (inn (fun i => numR (A i)) (fun i => denR (A i)) (fun i => numR (B i)) (fun i => denR (B i)) n).2
    · rw [decide_eq_true hd]
      exact InnerProduct_gt w n A B h1 h2 hA hB _ _ ⟨rfl, rfl⟩ hd
    · rw [decide_eq_false hd]
      have hq := inn_q (fun i => numR (A i)) (fun i => denR (A i)) (fun i => numR (B i)) (fun i => denR (B i)) n
      have hz : (inn (fun i => numR (A i)) (fun i => denR (A i)) (fun i => numR (B i)) (fun i => denR (B i)) n).1 = 0 := by
        rcases hq with hq | hq
        · exact absurd hq.1 hd
        · exact hq.1
      exact InnerProduct_gf w n A B h1 h2 hA hB _ _ ⟨rfl, rfl⟩ (by omega) hz
  · rw [ipQ_no h]
    by_cases hA : OkV n A
    · by_cases hB : OkV m B
      · exact InnerProduct_b3 w n A m B h1 h2 hA hB fun e => h ⟨hA, hB, e⟩
      · exact InnerProduct_b2 w n A m B h1 h2 hA hB
    · exact InnerProduct_b1 w n A m B h1 h2 hA

end Go.Proofs.YtijeplcjbhkkoaaGreatDoor
