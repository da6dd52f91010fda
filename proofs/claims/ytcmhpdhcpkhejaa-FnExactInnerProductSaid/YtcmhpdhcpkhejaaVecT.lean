/- The inner product, of the program and of the reference. -/
import Derived.Test.YtcmhpdhcpkhejaaVecR
import Derived.StillTailTactics
namespace Go.Proofs.Ytcmhpdhcpkhejaa
open Go.RowKit Lm

/-! What it gives. -/
noncomputable def inn (X : Nat → Int) (Y : Nat → Nat) (S : Nat → Int) (T : Nat → Nat) : Nat → Int × Nat
  | 0 => (0, 1)
  | i + 1 => qadd (inn X Y S T i).1 (inn X Y S T i).2 (qmul (X i) (Y i) (S i) (T i)).1 (qmul (X i) (Y i) (S i) (T i)).2
theorem isQ_01 : IsQ 0 1 := ⟨by omega, by simp, by unfold Fit; rw [show Int.natAbs 0 = 0 from rfl, limbs_zero]; simp, by unfold Fit; rw [limbs_one]; simp⟩
theorem inn_q (X : Nat → Int) (Y : Nat → Nat) (S : Nat → Int) (T : Nat → Nat) (i : Nat) : IsQ0 (inn X Y S T i).1 (inn X Y S T i).2 := by
  cases i with
  | zero => exact .inl isQ_01
  | succ i => exact low_isQ0 _ _
theorem qmul_q (x : Int) (d : Nat) (y : Int) (f : Nat) : IsQ0 (qmul x d y f).1 (qmul x d y f).2 := low_isQ0 _ _
theorem low_zero {d : Nat} (hd : 0 < d) : qlow 0 d = (0, 1) := by
  have h := low_scale 0 1 hd
  rw [Int.zero_mul, Nat.one_mul] at h
  have h2 := low_of_isQ isQ_01
  unfold qlow
  rw [h.1, h.2, h2.1, h2.2]
theorem qadd_zero {z : Int} {d : Nat} (h : IsQ0 z d) : qadd z d 0 1 = (z, d) := by
  unfold qadd
  rw [show z * ((1 : Nat) : Int) + 0 * (d : Int) = z by simp, Nat.mul_one]
  rcases h with h | ⟨rfl, rfl⟩
  · have := low_of_isQ h
    unfold qlow; rw [this.1, this.2]
  · have := low_den0 0
    unfold qlow; rw [this.1, this.2]
/-- A step at which one factor is 0 changes nothing. -/
theorem inn_skip {X : Nat → Int} {Y : Nat → Nat} {S : Nat → Int} {T : Nat → Nat} {i : Nat} (hx : IsQ (X i) (Y i)) (hy : IsQ (S i) (T i)) (h : X i = 0 ∨ S i = 0) : inn X Y S T (i + 1) = inn X Y S T i := by
  have e : qmul (X i) (Y i) (S i) (T i) = (0, 1) := by
    unfold qmul
    have h0 : X i * S i = 0 := by rcases h with h | h <;> simp [h]
    rw [h0]
    exact low_zero (Nat.mul_pos hx.1 hy.1)
  simp only [inn]
  rw [e]
  exact qadd_zero (inn_q X Y S T i)

theorem set3_frozen {w : World} {g : Nat} {a b c : Value} (p : Addr) : (((w.setCell ⟨g, 0, none⟩ a).setCell ⟨g, 1, none⟩ b).setCell ⟨g, 2, none⟩ c).frozen? p = w.frozen? p := by simp [go_sem]
/-- A fraction is stored into a box that is there. -/
theorem set3_all {w0 wk : World} {g : Nat} {s : Bool} {u v : Value} {x y z : Value} (h0 : wk.cell? ⟨g, 0, none⟩ = some x) (h1 : wk.cell? ⟨g, 1, none⟩ = some y) (h2 : wk.cell? ⟨g, 2, none⟩ = some z)
    (hB : Below w0.heap.size w0 wk) (hg : w0.heap.size ≤ g) :
    (((wk.setCell ⟨g, 0, none⟩ (.bool s)).setCell ⟨g, 1, none⟩ u).setCell ⟨g, 2, none⟩ v).cell? ⟨g, 0, none⟩ = some (.bool s) ∧ (((wk.setCell ⟨g, 0, none⟩ (.bool s)).setCell ⟨g, 1, none⟩ u).setCell ⟨g, 2, none⟩ v).cell? ⟨g, 1, none⟩ = some u ∧ (((wk.setCell ⟨g, 0, none⟩ (.bool s)).setCell ⟨g, 1, none⟩ u).setCell ⟨g, 2, none⟩ v).cell? ⟨g, 2, none⟩ = some v ∧
    Below w0.heap.size w0 (((wk.setCell ⟨g, 0, none⟩ (.bool s)).setCell ⟨g, 1, none⟩ u).setCell ⟨g, 2, none⟩ v) := by
  obtain ⟨a, b, c⟩ := set_box3 (a := .bool s) (b := u) (c := v) h0 h1 h2
  exact ⟨a, b, c, ((hB.setCell hg _).setCell hg _).setCell hg _⟩

theorem retQ_of {w w' : World} {z y : Int} {e f : Nat} {en : Ending} (h : z = y ∧ e = f) (hr : RetR w (ng y) (limbs y.natAbs) (limbs f) en w') : RetQ w z e en w' := by
  obtain ⟨rfl, rfl⟩ := h; exact hr

set_option maxHeartbeats 2000000 in
set_option maxRecDepth 100000 in
theorem inner_c (w : World) {lo hi lo2 hi2 : Nat} {v1 v2 : Value} (n : Nat) (X S : Nat → Int) (Y T : Nat → Nat) (h1 : Vec w lo hi v1 n (fun i => qv (X i) (Y i))) (h2 : Vec w lo2 hi2 v2 n (fun i => qv (S i) (T i))) (hx : ∀ i, i < n → IsQ (X i) (Y i)) (hy : ∀ i, i < n → IsQ (S i) (T i)) (z : Int) (e : Nat) (hz : z = (inn X Y S T n).1 ∧ e = (inn X Y S T n).2) :
    Calls Try.prog 66 #[v1, v2] w (RetQ w z e) := by
  obtain ⟨A, h1⟩ := h1
  obtain ⟨B, h2⟩ := h2
  obtain ⟨ao, cap, rfl, f1, -, -⟩ := h1.form
  obtain ⟨ao2, cap2, rfl, -, -, -⟩ := h2.form
  have BW : Below w.heap.size w (w.alloc (.cells #[.bool false, .slice none 0 0, .slice none 0 0] 45)) := alloc_bel _ _
  obtain ⟨r0, r1, r2, s0, s1, s2⟩ : (w.alloc (.cells #[.bool false, .slice none 0 0, .slice none 0 0] 45)).cell? ⟨w.heap.size, 0, none⟩ = some (.bool false) ∧ (w.alloc (.cells #[.bool false, .slice none 0 0, .slice none 0 0] 45)).cell? ⟨w.heap.size, 1, none⟩ = some (.slice none 0 0) ∧ (w.alloc (.cells #[.bool false, .slice none 0 0, .slice none 0 0] 45)).cell? ⟨w.heap.size, 2, none⟩ = some (.slice none 0 0) ∧ (w.alloc (.cells #[.bool false, .slice none 0 0, .slice none 0 0] 45)).frozen? ⟨w.heap.size, 0, none⟩ = false ∧ (w.alloc (.cells #[.bool false, .slice none 0 0, .slice none 0 0] 45)).frozen? ⟨w.heap.size, 1, none⟩ = false ∧ (w.alloc (.cells #[.bool false, .slice none 0 0, .slice none 0 0] 45)).frozen? ⟨w.heap.size, 2, none⟩ = false := by simp [go_sem]
  have hg0 : w.heap.size < (w.alloc (.cells #[.bool false, .slice none 0 0, .slice none 0 0] 45)).heap.size := by simp
  have H1 := Lib.hid (h1.bel BW)
  have H2 := Lib.hid (h2.bel BW)
  have HX := Lib.hid hx
  have HY := Lib.hid hy
  have HZ := Lib.hid hz
  obtain ⟨z0, d0, hq⟩ := var01
  have HQ := Lib.hid hq
  clear h1 h2 hx hy hz hq
  go_enter Try.func66, Try.ntmps66
  go_wp2_with fail
  generalize w.alloc (.cells #[.bool false, .slice none 0 0, .slice none 0 0] 45) = w0 at *
  refine (whole_z _ z0 d0 HQ.out).mono ?_
  rintro e1 w1 ⟨u, d, rfl, ho1, ho2, ha, hb1⟩
  obtain ⟨ua, uc, rfl, -, -, -, -, -⟩ := ho1.form
  obtain ⟨da, dc, rfl, -, -, -, -, -⟩ := ho2.form
  have HN := Lib.hid (And.intro (And.intro ho1 ho2) (And.intro ha hb1))
  have hgb : w0.heap.size ≤ w1.heap.size := hb1.size
  clear ho1 ho2 ha hb1
  go_wp2
  go_loopw [10] (fun k wr => ∃ (i : Nat) (y : Int) (f : Nat) (ua : Option Addr) (uc : Nat) (da : Option Addr) (dc : Nat), i ≤ n ∧ k = .int .i64 i ∧ wr.cell? ⟨w1.heap.size, 0, none⟩ = some (.bool (ng y)) ∧ wr.cell? ⟨w1.heap.size, 1, none⟩ = some (.slice ua (limbs y.natAbs).length uc) ∧ wr.cell? ⟨w1.heap.size, 2, none⟩ = some (.slice da (limbs f).length dc) ∧
    wr.frozen? ⟨w1.heap.size, 0, none⟩ = false ∧ wr.frozen? ⟨w1.heap.size, 1, none⟩ = false ∧ wr.frozen? ⟨w1.heap.size, 2, none⟩ = false ∧
    Hid (Own wr w0.heap.size (.slice ua (limbs y.natAbs).length uc) (limbs y.natAbs)) ∧ Hid (Own wr w0.heap.size (.slice da (limbs f).length dc) (limbs f)) ∧ Hid (Apart (.slice ua (limbs y.natAbs).length uc) (.slice da (limbs f).length dc)) ∧ Hid (y = (inn X Y S T i).1 ∧ f = (inn X Y S T i).2) ∧ Below w0.heap.size w0 wr) (fun k _ => n - (intOf k).toNat)
  case atStart => exact ⟨0, z0, d0, ua, uc, da, dc, by omega, rfl, by simp [go_sem], by simp [go_sem], by simp [go_sem], by simp [go_sem], by simp [go_sem], by simp [go_sem], HN.out.1.1.alloc _, HN.out.1.2.alloc _, HN.out.2.1, HQ.out, HN.out.2.2.alloc HN.out.2.2.size _⟩
  case round =>
    clear HN HQ
    obtain ⟨i, y, f, ua, uc, da, dc, hi, rfl, c0, c1, c2, q0, q1, q2, OU, OD, HAP, HYF, hb⟩ := hrel
    by_cases hlt : i < n
    · obtain ⟨g, rfl, -, -, -⟩ := H1.out.addr hlt
      obtain ⟨g2, rfl, -, -, -⟩ := H2.out.addr hlt
      have t1 : (i : Int) < n := by omega
      have isy : Hid (IsQ0 y f) := by
        have := HYF.out
        unfold Hid
        rw [this.1, this.2]; exact inn_q X Y S T i
      have HA := Lib.hid (H1.out.bel hb)
      obtain ⟨au, cu, ad, cd, k1, k2, k3, o1, o2⟩ := HA.out.elemq hlt
      have HOA := Lib.hid (And.intro o1 o2)
      clear HA o1 o2
      have HB := Lib.hid (H2.out.bel hb)
      obtain ⟨bu, eu, bd, ed, m1, m2, m3, o1, o2⟩ := HB.out.elemq hlt
      have HOB := Lib.hid (And.intro o1 o2)
      clear HB o1 o2
      obtain ⟨zm, hzm⟩ : ∃ zm, zm = (qmul (X i) (Y i) (S i) (T i)).1 := ⟨_, rfl⟩
      obtain ⟨em, hem⟩ : ∃ em, em = (qmul (X i) (Y i) (S i) (T i)).2 := ⟨_, rfl⟩
      obtain ⟨yn, hyn⟩ : ∃ yn, yn = (inn X Y S T (i + 1)).1 := ⟨_, rfl⟩
      obtain ⟨fn, hfn⟩ : ∃ fn, fn = (inn X Y S T (i + 1)).2 := ⟨_, rfl⟩
      have HYN : Hid (yn = (inn X Y S T (i + 1)).1 ∧ fn = (inn X Y S T (i + 1)).2) := ⟨hyn, hfn⟩
      have HA1 : Hid (yn = (qadd y f zm em).1 ∧ fn = (qadd y f zm em).2) := by
        unfold Hid
        rw [hyn, hfn, hzm, hem, HYF.out.1, HYF.out.2]; exact ⟨rfl, rfl⟩
      have HM0 : Hid (IsQ0 zm em) := by unfold Hid; rw [hzm, hem]; exact qmul_q _ _ _ _
      have HZM : Hid (zm = (qmul (X i) (Y i) (S i) (T i)).1 ∧ em = (qmul (X i) (Y i) (S i) (T i)).2) := ⟨hzm, hem⟩
      clear hzm hem hyn hfn
      have BD := below_drew hb
      replace OU := Lib.hid OU.out.drew
      replace OD := Lib.hid OD.out.drew
      replace HOA := Lib.hid (And.intro HOA.out.1.drew HOA.out.2.drew)
      replace HOB := Lib.hid (And.intro HOB.out.1.drew HOB.out.2.drew)
      clear hb
      go_wp2_with fail
      replace q0 := frozen_drew q0
      replace q1 := frozen_drew q1
      replace q2 := frozen_drew q2
      replace c0 := cell_drew c0
      replace c1 := cell_drew c1
      replace c2 := cell_drew c2
      go_region_with (first | (go_at_call 85; refine (mul_c _ lo lo _ _ (X i) (Y i) HOA.out.1 HOA.out.2 lo2 lo2 _ _ (S i) (T i) HOB.out.1 HOB.out.2 (.inl (HX.out i hlt)) (.inl (HY.out i hlt)) zm em HZM.out.1 HZM.out.2).mono ?_; rintro e3 w3 ⟨ug, dg, rfl, ho1, ho2, ha, hb3⟩; obtain ⟨uga, ugc, rfl, -, -, -, -, -⟩ := ho1.form; obtain ⟨dga, dgc, rfl, -, -, -, -, -⟩ := ho2.form; have HM := Lib.hid (And.intro ho1 ho2); have HOS := Lib.hid (And.intro (OU.out.below hb3 (Nat.le_refl _)) (OD.out.below hb3 (Nat.le_refl _))); replace q0 := keep_frozen hb3 c0 q0; replace q1 := keep_frozen hb3 c1 q1; replace q2 := keep_frozen hb3 c2 q2; replace c0 := keep_cell hb3 c0; replace c1 := keep_cell hb3 c1; replace c2 := keep_cell hb3 c2; have B3 := BD.trans (hb3.mono BD.size); clear ho1 ho2 ha hb3 OU OD HOA HOB) | (go_at_call 60; refine (add_c _ w0.heap.size w0.heap.size _ _ y f HOS.out.1 HOS.out.2 _ _ _ _ zm em HM.out.1 HM.out.2 isy.out HM0.out yn fn HA1.out.1 HA1.out.2).mono ?_; rintro e4 w4 ⟨un, dn, rfl, ho1, ho2, ha, hb4⟩; obtain ⟨una, unc, rfl, -, -, -, -, -⟩ := ho1.form; obtain ⟨dna, dnc, rfl, -, -, -, -, -⟩ := ho2.form; replace q0 := keep_frozen hb4 c0 q0; replace q1 := keep_frozen hb4 c1 q1; replace q2 := keep_frozen hb4 c2 q2; have hlt3 : w1.heap.size < w3.heap.size := World.block_lt_of_cell? _ _ c0; replace c0 := keep_cell hb4 c0; replace c1 := keep_cell hb4 c1; replace c2 := keep_cell hb4 c2; have B4 := B3.trans (hb4.mono B3.size); have HN := Lib.hid (And.intro (And.intro (ho1.mono B3.size) (ho2.mono B3.size)) (And.intro ha (And.intro (ne_of_base ho1 hlt3) (ne_of_base ho2 hlt3)))); have HS := Lib.hid (set3_all (s := ng yn) (u := .slice una (limbs yn.natAbs).length unc) (v := .slice dna (limbs fn).length dnc) c0 c1 c2 B4 hgb); clear ho1 ho2 ha hb4 HM HOS B3))
      all_goals
        go_wp2
        go_roundw
        case rel => exact ⟨i + 1, yn, fn, una, unc, dna, dnc, by omega, by go_num, HS.out.1, HS.out.2.1, HS.out.2.2.1, (set3_frozen _).trans q0, (set3_frozen _).trans q1, (set3_frozen _).trans q2, set3_own HN.out.1.1 HN.out.2.2.1, set3_own HN.out.1.2 HN.out.2.2.2, HN.out.2.1, HYN.out, HS.out.2.2.2⟩
        case measure => (simp [intOf]) <;> omega
    · obtain rfl : i = n := by omega
      have e0 := keep_cell hb r0
      have e1 := keep_cell hb r1
      have e2 := keep_cell hb r2
      have f0 := keep_frozen hb r0 s0
      have f1 := keep_frozen hb r1 s1
      have f2 := keep_frozen hb r2 s2
      clear r0 r1 r2 s0 s1 s2
      have HEZ : Hid (z = y ∧ e = f) := ⟨HZ.out.1.trans HYF.out.1.symm, HZ.out.2.trans HYF.out.2.symm⟩
      go_wp2
      exact bodyPost_ret (v := .agg #[.bool (ng y), .slice ua (limbs y.natAbs).length uc, .slice da (limbs f).length dc]) (by simp [results, Try.results66, go_sem, e0, e1, e2]) rfl (retQ_of HEZ.out (retR_end BW (Nat.le_refl _) hg0 hb OU.out OD.out HAP.out))

theorem l05Nil_t (w : World) (b1 : Nat) (s : Bool) (v1 u1 : Value) (x : Int) (k1 : Own w b1 v1 (limbs x.natAbs)) (hx : x = 0) : Calls Try.prog 97 #[.agg #[.bool s, v1, u1]] w (RetB w true) := by
  subst hx
  rw [show Int.natAbs 0 = 0 from rfl, limbs_zero] at k1
  obtain ⟨a1, c1, rfl, -, -, -, -, -⟩ := k1.form
  go_enter Try.func97, Try.ntmps97
  go_wp2
  go_ret
  exact retB rfl (alloc_bel _ _)
theorem l05Nil_f (w : World) (b1 : Nat) (s : Bool) (v1 u1 : Value) (x : Int) (k1 : Own w b1 v1 (limbs x.natAbs)) (hx : x ≠ 0) : Calls Try.prog 97 #[.agg #[.bool s, v1, u1]] w (RetB w false) := by
  obtain ⟨a1, c1, rfl, -, -, -, -, -⟩ := k1.form
  have hl : (((limbs x.natAbs).length : Int) == 0) = false := beq_false_of_ne (by
    intro e
    have e2 : limbs x.natAbs = [] := List.length_eq_zero_iff.1 (by omega)
    rw [limbs_nil] at e2
    omega)
  go_enter Try.func97, Try.ntmps97
  go_wp2
  go_ret
  exact retB rfl (alloc_bel _ _)

set_option maxHeartbeats 2000000 in
set_option maxRecDepth 100000 in
theorem l05Inner_c (w : World) {lo hi lo2 hi2 : Nat} {v1 v2 : Value} (n : Nat) (X S : Nat → Int) (Y T : Nat → Nat) (h1 : Vec w lo hi v1 n (fun i => qv (X i) (Y i))) (h2 : Vec w lo2 hi2 v2 n (fun i => qv (S i) (T i))) (hx : ∀ i, i < n → IsQ (X i) (Y i)) (hy : ∀ i, i < n → IsQ (S i) (T i)) (z : Int) (e : Nat) (hz : z = (inn X Y S T n).1 ∧ e = (inn X Y S T n).2) :
    Calls Try.prog 63 #[v1, v2] w (RetQ w z e) := by
  obtain ⟨A, h1⟩ := h1
  obtain ⟨B, h2⟩ := h2
  obtain ⟨ao, cap, rfl, f1, -, -⟩ := h1.form
  obtain ⟨ao2, cap2, rfl, -, -, -⟩ := h2.form
  have BW : Below w.heap.size w (w.alloc (.cells #[.bool false, .slice none 0 0, .slice none 0 0] 45)) := alloc_bel _ _
  obtain ⟨r0, r1, r2, s0, s1, s2⟩ : (w.alloc (.cells #[.bool false, .slice none 0 0, .slice none 0 0] 45)).cell? ⟨w.heap.size, 0, none⟩ = some (.bool false) ∧ (w.alloc (.cells #[.bool false, .slice none 0 0, .slice none 0 0] 45)).cell? ⟨w.heap.size, 1, none⟩ = some (.slice none 0 0) ∧ (w.alloc (.cells #[.bool false, .slice none 0 0, .slice none 0 0] 45)).cell? ⟨w.heap.size, 2, none⟩ = some (.slice none 0 0) ∧ (w.alloc (.cells #[.bool false, .slice none 0 0, .slice none 0 0] 45)).frozen? ⟨w.heap.size, 0, none⟩ = false ∧ (w.alloc (.cells #[.bool false, .slice none 0 0, .slice none 0 0] 45)).frozen? ⟨w.heap.size, 1, none⟩ = false ∧ (w.alloc (.cells #[.bool false, .slice none 0 0, .slice none 0 0] 45)).frozen? ⟨w.heap.size, 2, none⟩ = false := by simp [go_sem]
  have hg0 : w.heap.size < (w.alloc (.cells #[.bool false, .slice none 0 0, .slice none 0 0] 45)).heap.size := by simp
  have H1 := Lib.hid (h1.bel BW)
  have H2 := Lib.hid (h2.bel BW)
  have HX := Lib.hid hx
  have HY := Lib.hid hy
  have HZ := Lib.hid hz
  obtain ⟨z0, d0, hq⟩ := var01
  have HQ := Lib.hid hq
  clear h1 h2 hx hy hz hq
  go_enter Try.func63, Try.ntmps63
  go_wp2_with fail
  generalize w.alloc (.cells #[.bool false, .slice none 0 0, .slice none 0 0] 45) = w0 at *
  refine (l05Zero_z _ z0 d0 HQ.out).mono ?_
  rintro e1 w1 ⟨u, d, rfl, ho1, ho2, ha, hb1⟩
  obtain ⟨ua, uc, rfl, -, -, -, -, -⟩ := ho1.form
  obtain ⟨da, dc, rfl, -, -, -, -, -⟩ := ho2.form
  have HN := Lib.hid (And.intro (And.intro ho1 ho2) (And.intro ha hb1))
  have hgb : w0.heap.size ≤ w1.heap.size := hb1.size
  clear ho1 ho2 ha hb1
  go_wp2
  go_loopw [11] (fun k wr => ∃ (i : Nat) (y : Int) (f : Nat) (ua : Option Addr) (uc : Nat) (da : Option Addr) (dc : Nat), i ≤ n ∧ k = .int .i64 i ∧ wr.cell? ⟨w1.heap.size, 0, none⟩ = some (.bool (ng y)) ∧ wr.cell? ⟨w1.heap.size, 1, none⟩ = some (.slice ua (limbs y.natAbs).length uc) ∧ wr.cell? ⟨w1.heap.size, 2, none⟩ = some (.slice da (limbs f).length dc) ∧
    wr.frozen? ⟨w1.heap.size, 0, none⟩ = false ∧ wr.frozen? ⟨w1.heap.size, 1, none⟩ = false ∧ wr.frozen? ⟨w1.heap.size, 2, none⟩ = false ∧
    Hid (Own wr w0.heap.size (.slice ua (limbs y.natAbs).length uc) (limbs y.natAbs)) ∧ Hid (Own wr w0.heap.size (.slice da (limbs f).length dc) (limbs f)) ∧ Hid (Apart (.slice ua (limbs y.natAbs).length uc) (.slice da (limbs f).length dc)) ∧ Hid (y = (inn X Y S T i).1 ∧ f = (inn X Y S T i).2) ∧ Below w0.heap.size w0 wr) (fun k _ => n - (intOf k).toNat)
  case atStart => exact ⟨0, z0, d0, ua, uc, da, dc, by omega, rfl, by simp [go_sem], by simp [go_sem], by simp [go_sem], by simp [go_sem], by simp [go_sem], by simp [go_sem], HN.out.1.1.alloc _, HN.out.1.2.alloc _, HN.out.2.1, HQ.out, HN.out.2.2.alloc HN.out.2.2.size _⟩
  case round =>
    clear HN HQ
    obtain ⟨i, y, f, ua, uc, da, dc, hi, rfl, c0, c1, c2, q0, q1, q2, OU, OD, HAP, HYF, hb⟩ := hrel
    by_cases hlt : i < n
    · obtain ⟨g, rfl, -, -, -⟩ := H1.out.addr hlt
      obtain ⟨g2, rfl, -, -, -⟩ := H2.out.addr hlt
      have t1 : (i : Int) < n := by omega
      have isy : Hid (IsQ0 y f) := by
        have := HYF.out
        unfold Hid
        rw [this.1, this.2]; exact inn_q X Y S T i
      have HA := Lib.hid (H1.out.bel hb)
      obtain ⟨au, cu, ad, cd, k1, k2, k3, o1, o2⟩ := HA.out.elemq hlt
      have HOA := Lib.hid (And.intro o1 o2)
      clear HA o1 o2
      have HB := Lib.hid (H2.out.bel hb)
      obtain ⟨bu, eu, bd, ed, m1, m2, m3, o1, o2⟩ := HB.out.elemq hlt
      have HOB := Lib.hid (And.intro o1 o2)
      clear HB o1 o2
      by_cases hX0 : X i = 0
      · have H0X := Lib.hid hX0
        clear hX0
        have BA := alloc_bel wr (.cells #[.bool (ng (X i)), Value.slice au (limbs (X i).natAbs).length cu, Value.slice ad (limbs (Y i)).length cd] 45)
        obtain ⟨x0, x1, x2⟩ : (wr.alloc (.cells #[.bool (ng (X i)), Value.slice au (limbs (X i).natAbs).length cu, Value.slice ad (limbs (Y i)).length cd] 45)).cell? ⟨wr.heap.size, 0, none⟩ = some (.bool (ng (X i))) ∧ (wr.alloc (.cells #[.bool (ng (X i)), Value.slice au (limbs (X i).natAbs).length cu, Value.slice ad (limbs (Y i)).length cd] 45)).cell? ⟨wr.heap.size, 1, none⟩ = some (.slice au (limbs (X i).natAbs).length cu) ∧ (wr.alloc (.cells #[.bool (ng (X i)), Value.slice au (limbs (X i).natAbs).length cu, Value.slice ad (limbs (Y i)).length cd] 45)).cell? ⟨wr.heap.size, 2, none⟩ = some (.slice ad (limbs (Y i)).length cd) := by simp [go_sem]
        go_wp2_with fail
        clear k1 k2 k3
        replace q0 := keep_frozen BA c0 q0
        replace q1 := keep_frozen BA c1 q1
        replace q2 := keep_frozen BA c2 q2
        replace c0 := keep_cell BA c0
        replace c1 := keep_cell BA c1
        replace c2 := keep_cell BA c2
        replace m1 := keep_cell BA m1
        replace m2 := keep_cell BA m2
        replace m3 := keep_cell BA m3
        replace OU := Lib.hid (OU.out.below BA (Nat.le_refl _))
        replace OD := Lib.hid (OD.out.below BA (Nat.le_refl _))
        replace HOA := Lib.hid (And.intro (HOA.out.1.below BA (Nat.le_refl _)) (HOA.out.2.below BA (Nat.le_refl _)))
        replace HOB := Lib.hid (And.intro (HOB.out.1.below BA (Nat.le_refl _)) (HOB.out.2.below BA (Nat.le_refl _)))
        replace hb := hb.trans (BA.mono hb.size)
        clear BA

        generalize wr.alloc (.cells #[.bool (ng (X i)), Value.slice au (limbs (X i).natAbs).length cu, Value.slice ad (limbs (Y i)).length cd] 45) = wx at *
        refine (l05Nil_t _ _ _ _ _ (X i) HOA.out.1 H0X.out).mono ?_
        rintro e3 w3 ⟨rfl, hb3⟩
        replace q0 := keep_frozen hb3 c0 q0
        replace q1 := keep_frozen hb3 c1 q1
        replace q2 := keep_frozen hb3 c2 q2
        replace c0 := keep_cell hb3 c0
        replace c1 := keep_cell hb3 c1
        replace c2 := keep_cell hb3 c2
        replace x0 := keep_cell hb3 x0
        replace x1 := keep_cell hb3 x1
        replace x2 := keep_cell hb3 x2
        replace m1 := keep_cell hb3 m1
        replace m2 := keep_cell hb3 m2
        replace m3 := keep_cell hb3 m3
        replace OU := Lib.hid (OU.out.below hb3 (Nat.le_refl _))
        replace OD := Lib.hid (OD.out.below hb3 (Nat.le_refl _))
        replace HOA := Lib.hid (And.intro (HOA.out.1.below hb3 (Nat.le_refl _)) (HOA.out.2.below hb3 (Nat.le_refl _)))
        replace HOB := Lib.hid (And.intro (HOB.out.1.below hb3 (Nat.le_refl _)) (HOB.out.2.below hb3 (Nat.le_refl _)))
        replace hb := hb.trans (hb3.mono hb.size)
        clear hb3
        go_wp2_with fail
        refine (l05Bad_f _ _ _ _ _ (Y i) HOA.out.2 (HX.out i hlt).1).mono ?_
        rintro e3 w3 ⟨rfl, hb3⟩
        replace q0 := keep_frozen hb3 c0 q0
        replace q1 := keep_frozen hb3 c1 q1
        replace q2 := keep_frozen hb3 c2 q2
        replace c0 := keep_cell hb3 c0
        replace c1 := keep_cell hb3 c1
        replace c2 := keep_cell hb3 c2
        replace x0 := keep_cell hb3 x0
        replace x1 := keep_cell hb3 x1
        replace x2 := keep_cell hb3 x2
        replace m1 := keep_cell hb3 m1
        replace m2 := keep_cell hb3 m2
        replace m3 := keep_cell hb3 m3
        replace OU := Lib.hid (OU.out.below hb3 (Nat.le_refl _))
        replace OD := Lib.hid (OD.out.below hb3 (Nat.le_refl _))
        replace HOA := Lib.hid (And.intro (HOA.out.1.below hb3 (Nat.le_refl _)) (HOA.out.2.below hb3 (Nat.le_refl _)))
        replace HOB := Lib.hid (And.intro (HOB.out.1.below hb3 (Nat.le_refl _)) (HOB.out.2.below hb3 (Nat.le_refl _)))
        replace hb := hb.trans (hb3.mono hb.size)
        clear hb3
        have HS : Hid (y = (inn X Y S T (i + 1)).1 ∧ f = (inn X Y S T (i + 1)).2) := by
          unfold Hid
          rw [inn_skip (HX.out i hlt) (HY.out i hlt) (.inl H0X.out)]; exact HYF.out
        clear HOA HOB x0 x1 x2 m1 m2 m3
        go_wp2
        go_roundw
        case rel => exact ⟨i + 1, y, f, ua, uc, da, dc, by omega, by go_num, c0, c1, c2, q0, q1, q2, OU, OD, HAP, HS, hb⟩
        case measure => (simp [intOf]) <;> omega
      · have H0X := Lib.hid hX0
        clear hX0
        by_cases hS0 : S i = 0
        · have H0S := Lib.hid hS0
          clear hS0
          have BA := alloc_bel wr (.cells #[.bool (ng (X i)), Value.slice au (limbs (X i).natAbs).length cu, Value.slice ad (limbs (Y i)).length cd] 45)
          obtain ⟨x0, x1, x2⟩ : (wr.alloc (.cells #[.bool (ng (X i)), Value.slice au (limbs (X i).natAbs).length cu, Value.slice ad (limbs (Y i)).length cd] 45)).cell? ⟨wr.heap.size, 0, none⟩ = some (.bool (ng (X i))) ∧ (wr.alloc (.cells #[.bool (ng (X i)), Value.slice au (limbs (X i).natAbs).length cu, Value.slice ad (limbs (Y i)).length cd] 45)).cell? ⟨wr.heap.size, 1, none⟩ = some (.slice au (limbs (X i).natAbs).length cu) ∧ (wr.alloc (.cells #[.bool (ng (X i)), Value.slice au (limbs (X i).natAbs).length cu, Value.slice ad (limbs (Y i)).length cd] 45)).cell? ⟨wr.heap.size, 2, none⟩ = some (.slice ad (limbs (Y i)).length cd) := by simp [go_sem]
          go_wp2_with fail
          clear k1 k2 k3
          replace q0 := keep_frozen BA c0 q0
          replace q1 := keep_frozen BA c1 q1
          replace q2 := keep_frozen BA c2 q2
          replace c0 := keep_cell BA c0
          replace c1 := keep_cell BA c1
          replace c2 := keep_cell BA c2
          replace m1 := keep_cell BA m1
          replace m2 := keep_cell BA m2
          replace m3 := keep_cell BA m3
          replace OU := Lib.hid (OU.out.below BA (Nat.le_refl _))
          replace OD := Lib.hid (OD.out.below BA (Nat.le_refl _))
          replace HOA := Lib.hid (And.intro (HOA.out.1.below BA (Nat.le_refl _)) (HOA.out.2.below BA (Nat.le_refl _)))
          replace HOB := Lib.hid (And.intro (HOB.out.1.below BA (Nat.le_refl _)) (HOB.out.2.below BA (Nat.le_refl _)))
          replace hb := hb.trans (BA.mono hb.size)
          clear BA

          generalize wr.alloc (.cells #[.bool (ng (X i)), Value.slice au (limbs (X i).natAbs).length cu, Value.slice ad (limbs (Y i)).length cd] 45) = wx at *
          refine (l05Nil_f _ _ _ _ _ (X i) HOA.out.1 H0X.out).mono ?_
          rintro e3 w3 ⟨rfl, hb3⟩
          replace q0 := keep_frozen hb3 c0 q0
          replace q1 := keep_frozen hb3 c1 q1
          replace q2 := keep_frozen hb3 c2 q2
          replace c0 := keep_cell hb3 c0
          replace c1 := keep_cell hb3 c1
          replace c2 := keep_cell hb3 c2
          replace x0 := keep_cell hb3 x0
          replace x1 := keep_cell hb3 x1
          replace x2 := keep_cell hb3 x2
          replace m1 := keep_cell hb3 m1
          replace m2 := keep_cell hb3 m2
          replace m3 := keep_cell hb3 m3
          replace OU := Lib.hid (OU.out.below hb3 (Nat.le_refl _))
          replace OD := Lib.hid (OD.out.below hb3 (Nat.le_refl _))
          replace HOA := Lib.hid (And.intro (HOA.out.1.below hb3 (Nat.le_refl _)) (HOA.out.2.below hb3 (Nat.le_refl _)))
          replace HOB := Lib.hid (And.intro (HOB.out.1.below hb3 (Nat.le_refl _)) (HOB.out.2.below hb3 (Nat.le_refl _)))
          replace hb := hb.trans (hb3.mono hb.size)
          clear hb3
          go_wp2_with fail
          refine (l05Nil_t _ _ _ _ _ (S i) HOB.out.1 H0S.out).mono ?_
          rintro e3 w3 ⟨rfl, hb3⟩
          replace q0 := keep_frozen hb3 c0 q0
          replace q1 := keep_frozen hb3 c1 q1
          replace q2 := keep_frozen hb3 c2 q2
          replace c0 := keep_cell hb3 c0
          replace c1 := keep_cell hb3 c1
          replace c2 := keep_cell hb3 c2
          replace x0 := keep_cell hb3 x0
          replace x1 := keep_cell hb3 x1
          replace x2 := keep_cell hb3 x2
          replace m1 := keep_cell hb3 m1
          replace m2 := keep_cell hb3 m2
          replace m3 := keep_cell hb3 m3
          replace OU := Lib.hid (OU.out.below hb3 (Nat.le_refl _))
          replace OD := Lib.hid (OD.out.below hb3 (Nat.le_refl _))
          replace HOA := Lib.hid (And.intro (HOA.out.1.below hb3 (Nat.le_refl _)) (HOA.out.2.below hb3 (Nat.le_refl _)))
          replace HOB := Lib.hid (And.intro (HOB.out.1.below hb3 (Nat.le_refl _)) (HOB.out.2.below hb3 (Nat.le_refl _)))
          replace hb := hb.trans (hb3.mono hb.size)
          clear hb3
          go_wp2_with fail
          refine (l05Bad_f _ _ _ _ _ (T i) HOB.out.2 (HY.out i hlt).1).mono ?_
          rintro e3 w3 ⟨rfl, hb3⟩
          replace q0 := keep_frozen hb3 c0 q0
          replace q1 := keep_frozen hb3 c1 q1
          replace q2 := keep_frozen hb3 c2 q2
          replace c0 := keep_cell hb3 c0
          replace c1 := keep_cell hb3 c1
          replace c2 := keep_cell hb3 c2
          replace x0 := keep_cell hb3 x0
          replace x1 := keep_cell hb3 x1
          replace x2 := keep_cell hb3 x2
          replace m1 := keep_cell hb3 m1
          replace m2 := keep_cell hb3 m2
          replace m3 := keep_cell hb3 m3
          replace OU := Lib.hid (OU.out.below hb3 (Nat.le_refl _))
          replace OD := Lib.hid (OD.out.below hb3 (Nat.le_refl _))
          replace HOA := Lib.hid (And.intro (HOA.out.1.below hb3 (Nat.le_refl _)) (HOA.out.2.below hb3 (Nat.le_refl _)))
          replace HOB := Lib.hid (And.intro (HOB.out.1.below hb3 (Nat.le_refl _)) (HOB.out.2.below hb3 (Nat.le_refl _)))
          replace hb := hb.trans (hb3.mono hb.size)
          clear hb3
          have HS : Hid (y = (inn X Y S T (i + 1)).1 ∧ f = (inn X Y S T (i + 1)).2) := by
            unfold Hid
            rw [inn_skip (HX.out i hlt) (HY.out i hlt) (.inr H0S.out)]; exact HYF.out
          clear HOA HOB x0 x1 x2 m1 m2 m3
          go_wp2
          go_roundw
          case rel => exact ⟨i + 1, y, f, ua, uc, da, dc, by omega, by go_num, c0, c1, c2, q0, q1, q2, OU, OD, HAP, HS, hb⟩
          case measure => (simp [intOf]) <;> omega
        · have H0S := Lib.hid hS0
          clear hS0
          have BA := alloc_bel wr (.cells #[.bool (ng (X i)), Value.slice au (limbs (X i).natAbs).length cu, Value.slice ad (limbs (Y i)).length cd] 45)
          obtain ⟨x0, x1, x2⟩ : (wr.alloc (.cells #[.bool (ng (X i)), Value.slice au (limbs (X i).natAbs).length cu, Value.slice ad (limbs (Y i)).length cd] 45)).cell? ⟨wr.heap.size, 0, none⟩ = some (.bool (ng (X i))) ∧ (wr.alloc (.cells #[.bool (ng (X i)), Value.slice au (limbs (X i).natAbs).length cu, Value.slice ad (limbs (Y i)).length cd] 45)).cell? ⟨wr.heap.size, 1, none⟩ = some (.slice au (limbs (X i).natAbs).length cu) ∧ (wr.alloc (.cells #[.bool (ng (X i)), Value.slice au (limbs (X i).natAbs).length cu, Value.slice ad (limbs (Y i)).length cd] 45)).cell? ⟨wr.heap.size, 2, none⟩ = some (.slice ad (limbs (Y i)).length cd) := by simp [go_sem]
          go_wp2_with fail
          clear k1 k2 k3
          replace q0 := keep_frozen BA c0 q0
          replace q1 := keep_frozen BA c1 q1
          replace q2 := keep_frozen BA c2 q2
          replace c0 := keep_cell BA c0
          replace c1 := keep_cell BA c1
          replace c2 := keep_cell BA c2
          replace m1 := keep_cell BA m1
          replace m2 := keep_cell BA m2
          replace m3 := keep_cell BA m3
          replace OU := Lib.hid (OU.out.below BA (Nat.le_refl _))
          replace OD := Lib.hid (OD.out.below BA (Nat.le_refl _))
          replace HOA := Lib.hid (And.intro (HOA.out.1.below BA (Nat.le_refl _)) (HOA.out.2.below BA (Nat.le_refl _)))
          replace HOB := Lib.hid (And.intro (HOB.out.1.below BA (Nat.le_refl _)) (HOB.out.2.below BA (Nat.le_refl _)))
          replace hb := hb.trans (BA.mono hb.size)
          clear BA

          generalize wr.alloc (.cells #[.bool (ng (X i)), Value.slice au (limbs (X i).natAbs).length cu, Value.slice ad (limbs (Y i)).length cd] 45) = wx at *
          refine (l05Nil_f _ _ _ _ _ (X i) HOA.out.1 H0X.out).mono ?_
          rintro e3 w3 ⟨rfl, hb3⟩
          replace q0 := keep_frozen hb3 c0 q0
          replace q1 := keep_frozen hb3 c1 q1
          replace q2 := keep_frozen hb3 c2 q2
          replace c0 := keep_cell hb3 c0
          replace c1 := keep_cell hb3 c1
          replace c2 := keep_cell hb3 c2
          replace x0 := keep_cell hb3 x0
          replace x1 := keep_cell hb3 x1
          replace x2 := keep_cell hb3 x2
          replace m1 := keep_cell hb3 m1
          replace m2 := keep_cell hb3 m2
          replace m3 := keep_cell hb3 m3
          replace OU := Lib.hid (OU.out.below hb3 (Nat.le_refl _))
          replace OD := Lib.hid (OD.out.below hb3 (Nat.le_refl _))
          replace HOA := Lib.hid (And.intro (HOA.out.1.below hb3 (Nat.le_refl _)) (HOA.out.2.below hb3 (Nat.le_refl _)))
          replace HOB := Lib.hid (And.intro (HOB.out.1.below hb3 (Nat.le_refl _)) (HOB.out.2.below hb3 (Nat.le_refl _)))
          replace hb := hb.trans (hb3.mono hb.size)
          clear hb3
          go_wp2_with fail
          refine (l05Nil_f _ _ _ _ _ (S i) HOB.out.1 H0S.out).mono ?_
          rintro e3 w3 ⟨rfl, hb3⟩
          replace q0 := keep_frozen hb3 c0 q0
          replace q1 := keep_frozen hb3 c1 q1
          replace q2 := keep_frozen hb3 c2 q2
          replace c0 := keep_cell hb3 c0
          replace c1 := keep_cell hb3 c1
          replace c2 := keep_cell hb3 c2
          replace x0 := keep_cell hb3 x0
          replace x1 := keep_cell hb3 x1
          replace x2 := keep_cell hb3 x2
          replace m1 := keep_cell hb3 m1
          replace m2 := keep_cell hb3 m2
          replace m3 := keep_cell hb3 m3
          replace OU := Lib.hid (OU.out.below hb3 (Nat.le_refl _))
          replace OD := Lib.hid (OD.out.below hb3 (Nat.le_refl _))
          replace HOA := Lib.hid (And.intro (HOA.out.1.below hb3 (Nat.le_refl _)) (HOA.out.2.below hb3 (Nat.le_refl _)))
          replace HOB := Lib.hid (And.intro (HOB.out.1.below hb3 (Nat.le_refl _)) (HOB.out.2.below hb3 (Nat.le_refl _)))
          replace hb := hb.trans (hb3.mono hb.size)
          clear hb3
          obtain ⟨zm, hzm⟩ : ∃ zm, zm = (qmul (X i) (Y i) (S i) (T i)).1 := ⟨_, rfl⟩
          obtain ⟨em, hem⟩ : ∃ em, em = (qmul (X i) (Y i) (S i) (T i)).2 := ⟨_, rfl⟩
          obtain ⟨yn, hyn⟩ : ∃ yn, yn = (inn X Y S T (i + 1)).1 := ⟨_, rfl⟩
          obtain ⟨fn, hfn⟩ : ∃ fn, fn = (inn X Y S T (i + 1)).2 := ⟨_, rfl⟩
          have HYN : Hid (yn = (inn X Y S T (i + 1)).1 ∧ fn = (inn X Y S T (i + 1)).2) := ⟨hyn, hfn⟩
          have HA1 : Hid (yn = (qadd y f zm em).1 ∧ fn = (qadd y f zm em).2) := by
            unfold Hid
            rw [hyn, hfn, hzm, hem, HYF.out.1, HYF.out.2]; exact ⟨rfl, rfl⟩
          have HM0 : Hid (IsQ0 zm em) := by unfold Hid; rw [hzm, hem]; exact qmul_q _ _ _ _
          have HZM : Hid (zm = (qmul (X i) (Y i) (S i) (T i)).1 ∧ em = (qmul (X i) (Y i) (S i) (T i)).2) := ⟨hzm, hem⟩
          clear hzm hem hyn hfn
          have BD := below_drew hb
          replace OU := Lib.hid OU.out.drew
          replace OD := Lib.hid OD.out.drew
          replace HOA := Lib.hid (And.intro HOA.out.1.drew HOA.out.2.drew)
          replace HOB := Lib.hid (And.intro HOB.out.1.drew HOB.out.2.drew)
          clear hb
          go_wp2_with fail
          replace q0 := frozen_drew q0
          replace q1 := frozen_drew q1
          replace q2 := frozen_drew q2
          replace c0 := cell_drew c0
          replace c1 := cell_drew c1
          replace c2 := cell_drew c2
          replace x0 := cell_drew x0
          replace x1 := cell_drew x1
          replace x2 := cell_drew x2
          replace m1 := cell_drew m1
          replace m2 := cell_drew m2
          replace m3 := cell_drew m3
          go_region_with (first | (go_at_call 49; refine (l04Mul_c _ lo lo _ _ (X i) (Y i) HOA.out.1 HOA.out.2 lo2 lo2 _ _ (S i) (T i) HOB.out.1 HOB.out.2 (.inl (HX.out i hlt)) (.inl (HY.out i hlt)) zm em HZM.out.1 HZM.out.2).mono ?_; rintro e3 w3 ⟨ug, dg, rfl, ho1, ho2, ha, hb3⟩; obtain ⟨uga, ugc, rfl, -, -, -, -, -⟩ := ho1.form; obtain ⟨dga, dgc, rfl, -, -, -, -, -⟩ := ho2.form; have HM := Lib.hid (And.intro ho1 ho2); have HOS := Lib.hid (And.intro (OU.out.below hb3 (Nat.le_refl _)) (OD.out.below hb3 (Nat.le_refl _))); replace q0 := keep_frozen hb3 c0 q0; replace q1 := keep_frozen hb3 c1 q1; replace q2 := keep_frozen hb3 c2 q2; replace c0 := keep_cell hb3 c0; replace c1 := keep_cell hb3 c1; replace c2 := keep_cell hb3 c2; have B3 := BD.trans (hb3.mono BD.size); clear ho1 ho2 ha hb3 OU OD HOA HOB) | (go_at_call 58; refine (l04Add_c _ w0.heap.size w0.heap.size _ _ y f HOS.out.1 HOS.out.2 _ _ _ _ zm em HM.out.1 HM.out.2 isy.out HM0.out yn fn HA1.out.1 HA1.out.2).mono ?_; rintro e4 w4 ⟨un, dn, rfl, ho1, ho2, ha, hb4⟩; obtain ⟨una, unc, rfl, -, -, -, -, -⟩ := ho1.form; obtain ⟨dna, dnc, rfl, -, -, -, -, -⟩ := ho2.form; replace q0 := keep_frozen hb4 c0 q0; replace q1 := keep_frozen hb4 c1 q1; replace q2 := keep_frozen hb4 c2 q2; have hlt3 : w1.heap.size < w3.heap.size := World.block_lt_of_cell? _ _ c0; replace c0 := keep_cell hb4 c0; replace c1 := keep_cell hb4 c1; replace c2 := keep_cell hb4 c2; have B4 := B3.trans (hb4.mono B3.size); have HN := Lib.hid (And.intro (And.intro (ho1.mono B3.size) (ho2.mono B3.size)) (And.intro ha (And.intro (ne_of_base ho1 hlt3) (ne_of_base ho2 hlt3)))); have HS := Lib.hid (set3_all (s := ng yn) (u := .slice una (limbs yn.natAbs).length unc) (v := .slice dna (limbs fn).length dnc) c0 c1 c2 B4 hgb); clear ho1 ho2 ha hb4 HM HOS B3))
          all_goals
            go_wp2
            go_roundw
            case rel => exact ⟨i + 1, yn, fn, una, unc, dna, dnc, by omega, by go_num, HS.out.1, HS.out.2.1, HS.out.2.2.1, (set3_frozen _).trans q0, (set3_frozen _).trans q1, (set3_frozen _).trans q2, set3_own HN.out.1.1 HN.out.2.2.1, set3_own HN.out.1.2 HN.out.2.2.2, HN.out.2.1, HYN.out, HS.out.2.2.2⟩
            case measure => (simp [intOf]) <;> omega
    · obtain rfl : i = n := by omega
      have e0 := keep_cell hb r0
      have e1 := keep_cell hb r1
      have e2 := keep_cell hb r2
      have f0 := keep_frozen hb r0 s0
      have f1 := keep_frozen hb r1 s1
      have f2 := keep_frozen hb r2 s2
      clear r0 r1 r2 s0 s1 s2
      have HEZ : Hid (z = y ∧ e = f) := ⟨HZ.out.1.trans HYF.out.1.symm, HZ.out.2.trans HYF.out.2.symm⟩
      go_wp2
      exact bodyPost_ret (v := .agg #[.bool (ng y), .slice ua (limbs y.natAbs).length uc, .slice da (limbs f).length dc]) (by simp [results, Try.results63, go_sem, e0, e1, e2]) rfl (retQ_of HEZ.out (retR_end BW (Nat.le_refl _) hg0 hb OU.out OD.out HAP.out))

end Go.Proofs.Ytcmhpdhcpkhejaa
