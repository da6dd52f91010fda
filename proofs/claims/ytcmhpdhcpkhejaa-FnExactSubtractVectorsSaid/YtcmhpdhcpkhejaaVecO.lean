/- Functions that read vectors: IsVector, complete, l05Fine, EqualVectors, of the program and of the reference. -/
import Derived.Test.YtcmhpdhcpkhejaaVecV
namespace Go.Proofs.Ytcmhpdhcpkhejaa
open Go.RowKit Lm

theorem cell_al {w : World} {p : Addr} {v : Value} {o : Obj} (h : w.cell? p = some v) : (w.alloc o).cell? p = some v := keep_cell (alloc_bel w o) h
theorem below_al {B : Nat} {a w : World} (h : Below B a w) (hB : B ≤ w.heap.size) (o : Obj) : Below B a (w.alloc o) := h.alloc hB o
theorem below_al_call {a w w' : World} {o : Obj} (h : Below a.heap.size a w) (hb : Below (w.alloc o).heap.size (w.alloc o) w') : Below a.heap.size a w' := (h.alloc h.size o).trans (hb.mono (Nat.le_trans h.size (heap_le_alloc _ _)))

set_option maxHeartbeats 1000000 in
theorem IsVector_c (w : World) {lo hi : Nat} {v1 : Value} (n : Nat) (R : Nat → Rc) (h1 : Vec w lo hi v1 n R) :
    Calls Try.prog 23 #[v1] w (RetB w (okVB n R)) := by
  obtain ⟨E, h1⟩ := h1
  obtain ⟨ao, cap, rfl, f1, -, -⟩ := h1.form
  have H1 := Lib.hid h1
  clear h1
  by_cases hn : n ≤ 24
  case neg =>
    have d0 : decide ((24 : Int) < n) = true := decide_eq_true (by omega)
    go_enter Try.func23, Try.ntmps23
    go_wp2
    go_ret
    exact retB (okVB_f fun h => hn h.1).symm (Below.refl _ _)
  case pos =>
    have d0 : decide ((24 : Int) < n) = false := decide_eq_false (by omega)
    go_enter Try.func23, Try.ntmps23
    go_wp2
    go_loopw [10] (fun k' wr => ∃ (i : Nat), i ≤ n ∧ k' = .int .i64 i ∧ Hid (∀ j, j < i → OkRc (R j)) ∧ Below w.heap.size w wr) (fun k _ => n - (intOf k).toNat)
    case atStart => exact ⟨0, by omega, rfl, fun j hj => absurd hj (by omega), Below.refl _ _⟩
    case round =>
      obtain ⟨i, hi, rfl, HK, hb⟩ := hrel
      by_cases hlt : i < n
      · obtain ⟨g, rfl, -, -, -⟩ := H1.out.addr hlt
        have HA := Lib.hid (H1.out.bel hb)
        obtain ⟨au, cu, ad, cd, k1, k2, k3, o1, o2⟩ := HA.out.elem hlt
        have t1 : (i : Int) < n := by omega
        have HE := Lib.hid (And.intro o1 o2)
        clear HA o1 o2
        by_cases hok : OkRc (R i)
        · have HOK := Lib.hid hok
          clear hok
          go_wp2_with fail
          refine (ratOk_t _ lo lo (R i).s _ _ (R i).xs (R i).ys (HE.out.1.alloc _) (HE.out.2.alloc _) HOK.out).mono ?_
          rintro e w1 ⟨rfl, hb1⟩
          have B1 := below_al_call hb hb1
          clear hb1 hb k1 k2 k3 HE
          go_wp2
          go_roundw
          case rel => exact ⟨i + 1, by omega, by go_num, fun j hj => by
            by_cases hji : j = i
            · subst hji; exact HOK.out
            · exact HK.out j (by omega), B1⟩
          case measure => (simp [intOf]) <;> omega
        · have HOK := Lib.hid hok
          clear hok
          go_wp2_with fail
          refine (ratOk_f _ lo lo (R i).s _ _ (R i).xs (R i).ys (HE.out.1.alloc _) (HE.out.2.alloc _) HOK.out).mono ?_
          rintro e w1 ⟨rfl, hb1⟩
          have B1 := below_al_call hb hb1
          clear hb1 hb k1 k2 k3 HE
          go_wp2
          go_ret
          exact retB (okVB_f fun h => HOK.out (h.2 i hlt)).symm B1
      · obtain rfl : i = n := by omega
        go_wp2
        go_ret
        exact retB (okVB_t ⟨hn, HK.out⟩).symm hb

set_option maxHeartbeats 1000000 in
theorem sIsVector_c (w : World) {lo hi : Nat} {v1 : Value} (n : Nat) (R : Nat → Rc) (h1 : Vec w lo hi v1 n R) :
    Calls Try.prog 22 #[v1] w (RetB w (okVB n R)) := by
  obtain ⟨E, h1⟩ := h1
  obtain ⟨ao, cap, rfl, f1, -, -⟩ := h1.form
  have H1 := Lib.hid h1
  clear h1
  by_cases hn : n ≤ 24
  case neg =>
    have d0 : decide ((24 : Int) < n) = true := decide_eq_true (by omega)
    go_enter Try.func22, Try.ntmps22
    go_wp2
    go_ret
    exact retB (okVB_f fun h => hn h.1).symm (Below.refl _ _)
  case pos =>
    have d0 : decide ((24 : Int) < n) = false := decide_eq_false (by omega)
    go_enter Try.func22, Try.ntmps22
    go_wp2
    go_loopw [10] (fun k' wr => ∃ (i : Nat), i ≤ n ∧ k' = .int .i64 i ∧ Hid (∀ j, j < i → OkRc (R j)) ∧ Below w.heap.size w wr) (fun k _ => n - (intOf k).toNat)
    case atStart => exact ⟨0, by omega, rfl, fun j hj => absurd hj (by omega), Below.refl _ _⟩
    case round =>
      obtain ⟨i, hi, rfl, HK, hb⟩ := hrel
      by_cases hlt : i < n
      · obtain ⟨g, rfl, -, -, -⟩ := H1.out.addr hlt
        have HA := Lib.hid (H1.out.bel hb)
        obtain ⟨au, cu, ad, cd, k1, k2, k3, o1, o2⟩ := HA.out.elem hlt
        have t1 : (i : Int) < n := by omega
        have HE := Lib.hid (And.intro o1 o2)
        clear HA o1 o2
        by_cases hok : OkRc (R i)
        · have HOK := Lib.hid hok
          clear hok
          go_wp2_with fail
          refine (sRatOk_t _ lo lo (R i).s _ _ (R i).xs (R i).ys (HE.out.1.alloc _) (HE.out.2.alloc _) HOK.out).mono ?_
          rintro e w1 ⟨rfl, hb1⟩
          have B1 := below_al_call hb hb1
          clear hb1 hb k1 k2 k3 HE
          go_wp2
          go_roundw
          case rel => exact ⟨i + 1, by omega, by go_num, fun j hj => by
            by_cases hji : j = i
            · subst hji; exact HOK.out
            · exact HK.out j (by omega), B1⟩
          case measure => (simp [intOf]) <;> omega
        · have HOK := Lib.hid hok
          clear hok
          go_wp2_with fail
          refine (sRatOk_f _ lo lo (R i).s _ _ (R i).xs (R i).ys (HE.out.1.alloc _) (HE.out.2.alloc _) HOK.out).mono ?_
          rintro e w1 ⟨rfl, hb1⟩
          have B1 := below_al_call hb hb1
          clear hb1 hb k1 k2 k3 HE
          go_wp2
          go_ret
          exact retB (okVB_f fun h => HOK.out (h.2 i hlt)).symm B1
      · obtain rfl : i = n := by omega
        go_wp2
        go_ret
        exact retB (okVB_t ⟨hn, HK.out⟩).symm hb

theorem l05Bad_t (w : World) (e1 : Nat) (s : Bool) (v1 u1 : Value) (d : Nat) (k1 : Own w e1 u1 (limbs d)) (hd : d = 0) : Calls Try.prog 64 #[.agg #[.bool s, v1, u1]] w (RetB w true) := by
  subst hd
  rw [limbs_zero] at k1
  obtain ⟨a1, c1, rfl, -, -, -, -, -⟩ := k1.form
  go_enter Try.func64, Try.ntmps64
  go_wp2
  go_ret
  exact retB rfl (alloc_bel _ _)
theorem l05Bad_f (w : World) (e1 : Nat) (s : Bool) (v1 u1 : Value) (d : Nat) (k1 : Own w e1 u1 (limbs d)) (hd : 0 < d) : Calls Try.prog 64 #[.agg #[.bool s, v1, u1]] w (RetB w false) := by
  obtain ⟨a1, c1, rfl, -, -, -, -, -⟩ := k1.form
  have hl : (((limbs d).length : Int) == 0) = false := beq_false_of_ne (by
    intro e
    have e2 : limbs d = [] := List.length_eq_zero_iff.1 (by omega)
    rw [limbs_nil] at e2
    omega)
  go_enter Try.func64, Try.ntmps64
  go_wp2
  go_ret
  exact retB rfl (alloc_bel _ _)

set_option maxHeartbeats 1000000 in
theorem complete_c (w : World) {lo hi : Nat} {v1 : Value} (n : Nat) (Z : Nat → Int) (D : Nat → Nat) (h1 : Vec w lo hi v1 n (fun i => qv (Z i) (D i))) :
    Calls Try.prog 88 #[v1] w (RetB w (fineB D n)) := by
  obtain ⟨E, h1⟩ := h1
  obtain ⟨ao, cap, rfl, f1, -, -⟩ := h1.form
  have H1 := Lib.hid h1
  clear h1
  go_enter Try.func88, Try.ntmps88
  go_wp2
  go_loopw [7] (fun k' wr => ∃ (i : Nat), i ≤ n ∧ k' = .int .i64 i ∧ Hid (∀ j, j < i → 0 < D j) ∧ Below w.heap.size w wr) (fun k _ => n - (intOf k).toNat)
  case atStart => exact ⟨0, by omega, rfl, fun j hj => absurd hj (by omega), Below.refl _ _⟩
  case round =>
    obtain ⟨i, hi, rfl, HK, hb⟩ := hrel
    by_cases hlt : i < n
    · obtain ⟨g, rfl, -, -, -⟩ := H1.out.addr hlt
      have HA := Lib.hid (H1.out.bel hb)
      obtain ⟨au, cu, ad, cd, k1, k2, k3, o1, o2⟩ := HA.out.elem hlt
      have t1 : (i : Int) < n := by omega
      have HE := Lib.hid (And.intro o1 o2)
      clear HA o1 o2
      by_cases hok : 0 < D i
      · have HOK := Lib.hid hok
        clear hok
        go_wp2_with fail
        refine (void_f _ lo _ _ _ (D i) (HE.out.2.alloc _) HOK.out).mono ?_
        rintro e w1 ⟨rfl, hb1⟩
        have B1 := below_al_call hb hb1
        clear hb1 hb k1 k2 k3 HE
        go_wp2
        go_roundw
        case rel => exact ⟨i + 1, by omega, by go_num, fun j hj => by
          by_cases hji : j = i
          · subst hji; exact HOK.out
          · exact HK.out j (by omega), B1⟩
        case measure => (simp [intOf]) <;> omega
      · have HOK := Lib.hid (show D i = 0 by omega)
        clear hok
        go_wp2_with fail
        refine (void_t _ lo _ _ _ (D i) (HE.out.2.alloc _) HOK.out).mono ?_
        rintro e w1 ⟨rfl, hb1⟩
        have B1 := below_al_call hb hb1
        clear hb1 hb k1 k2 k3 HE
        go_wp2
        go_ret
        exact retB (fineB_f hlt HOK.out).symm B1
    · obtain rfl : i = n := by omega
      go_wp2
      go_ret
      exact retB (fineB_t HK.out).symm hb

set_option maxHeartbeats 1000000 in
theorem l05Fine_c (w : World) {lo hi : Nat} {v1 : Value} (n : Nat) (Z : Nat → Int) (D : Nat → Nat) (h1 : Vec w lo hi v1 n (fun i => qv (Z i) (D i))) :
    Calls Try.prog 83 #[v1] w (RetB w (fineB D n)) := by
  obtain ⟨E, h1⟩ := h1
  obtain ⟨ao, cap, rfl, f1, -, -⟩ := h1.form
  have H1 := Lib.hid h1
  clear h1
  go_enter Try.func83, Try.ntmps83
  go_wp2
  go_loopw [7] (fun k' wr => ∃ (i : Nat), i ≤ n ∧ k' = .int .i64 i ∧ Hid (∀ j, j < i → 0 < D j) ∧ Below w.heap.size w wr) (fun k _ => n - (intOf k).toNat)
  case atStart => exact ⟨0, by omega, rfl, fun j hj => absurd hj (by omega), Below.refl _ _⟩
  case round =>
    obtain ⟨i, hi, rfl, HK, hb⟩ := hrel
    by_cases hlt : i < n
    · obtain ⟨g, rfl, -, -, -⟩ := H1.out.addr hlt
      have HA := Lib.hid (H1.out.bel hb)
      obtain ⟨au, cu, ad, cd, k1, k2, k3, o1, o2⟩ := HA.out.elem hlt
      have t1 : (i : Int) < n := by omega
      have HE := Lib.hid (And.intro o1 o2)
      clear HA o1 o2
      by_cases hok : 0 < D i
      · have HOK := Lib.hid hok
        clear hok
        go_wp2_with fail
        refine (l05Bad_f _ lo _ _ _ (D i) (HE.out.2.alloc _) HOK.out).mono ?_
        rintro e w1 ⟨rfl, hb1⟩
        have B1 := below_al_call hb hb1
        clear hb1 hb k1 k2 k3 HE
        go_wp2
        go_roundw
        case rel => exact ⟨i + 1, by omega, by go_num, fun j hj => by
          by_cases hji : j = i
          · subst hji; exact HOK.out
          · exact HK.out j (by omega), B1⟩
        case measure => (simp [intOf]) <;> omega
      · have HOK := Lib.hid (show D i = 0 by omega)
        clear hok
        go_wp2_with fail
        refine (l05Bad_t _ lo _ _ _ (D i) (HE.out.2.alloc _) HOK.out).mono ?_
        rintro e w1 ⟨rfl, hb1⟩
        have B1 := below_al_call hb hb1
        clear hb1 hb k1 k2 k3 HE
        go_wp2
        go_ret
        exact retB (fineB_f hlt HOK.out).symm B1
    · obtain rfl : i = n := by omega
      go_wp2
      go_ret
      exact retB (fineB_t HK.out).symm hb

theorem reqR_call {p : Program} {f : Nat} {args : Array Value} {w : World} {r q : Rc} {c : Bool} (hc : c = reqR r q) (h : Calls p f args w (RetB w (reqB r.s r.xs r.ys q.s q.xs q.ys))) : Calls p f args w (RetB w c) := by
  subst hc; exact h

set_option maxHeartbeats 1000000 in
theorem EqualVectors_c (w : World) {lo hi lo2 hi2 : Nat} {v1 v2 : Value} (n : Nat) (A : Nat → Rc) (m : Nat) (B : Nat → Rc) (h1 : Vec w lo hi v1 n A) (h2 : Vec w lo2 hi2 v2 m B) :
    Calls Try.prog 14 #[v1, v2] w (RetB w (eqVB n A m B)) := by
  obtain ⟨E, h1⟩ := h1
  obtain ⟨F, h2⟩ := h2
  obtain ⟨ao, cap, rfl, f1, -, -⟩ := h1.form
  obtain ⟨ao2, cap2, rfl, f2, -, -⟩ := h2.form
  have H1 := Lib.hid h1
  have H2 := Lib.hid h2
  clear h1 h2
  by_cases hnm : n = m
  case neg =>
    have d0 : ((n : Int) == m) = false := beq_false_of_ne (by omega)
    go_enter Try.func14, Try.ntmps14
    go_wp2
    go_ret
    exact retB (eqVB_len hnm).symm (Below.refl _ _)
  case pos =>
    subst hnm
    go_enter Try.func14, Try.ntmps14
    go_wp2
    go_loopw [13] (fun k' wr => ∃ (i : Nat), i ≤ n ∧ k' = .int .i64 i ∧ Hid (∀ j, j < i → reqR (A j) (B j) = true) ∧ Below w.heap.size w wr) (fun k _ => n - (intOf k).toNat)
    case atStart => exact ⟨0, by omega, rfl, fun j hj => absurd hj (by omega), Below.refl _ _⟩
    case round =>
      obtain ⟨i, hi, rfl, HK, hb⟩ := hrel
      by_cases hlt : i < n
      · obtain ⟨g, rfl, -, -, -⟩ := H1.out.addr hlt
        obtain ⟨g2, rfl, -, -, -⟩ := H2.out.addr hlt
        have t1 : (i : Int) < n := by omega
        have HA0 := Lib.hid (H1.out.bel hb)
        obtain ⟨au, cu, ad, cd, k1, k2, k3, o1, o2⟩ := HA0.out.elem hlt
        have HOA := Lib.hid (And.intro o1 o2)
        clear HA0 o1 o2
        have BD := below_drew hb
        clear hb
        have HB := Lib.hid (H2.out.bel BD)
        obtain ⟨m1, m2, m3⟩ := HB.out.cells hlt
        have HE := Lib.hid (HB.out.ent i hlt)
        have HOB := Lib.hid (And.intro (HOA.out.1.below (below_drawn _ 1) (Nat.le_refl _)) (HOA.out.2.below (below_drawn _ 1) (Nat.le_refl _)))
        replace k1 := cell_drew k1
        replace k2 := cell_drew k2
        replace k3 := cell_drew k3
        clear HB HOA
        obtain ⟨c, hc⟩ : ∃ c, c = reqR (A i) (B i) := ⟨_, rfl⟩
        have HC := Lib.hid hc
        clear hc
        go_wp2_with fail
        go_region_held3 (fun w' => w'.cell? ⟨g, i * 3, none⟩ = some (.bool (A i).s) ∧ w'.cell? ⟨g, i * 3 + 1, none⟩ = some (Value.slice au (A i).xs.length cu) ∧ w'.cell? ⟨g, i * 3 + 2, none⟩ = some (Value.slice ad (A i).ys.length cd) ∧ w'.cell? ⟨g2, i * 3, none⟩ = some (.bool (B i).s) ∧ w'.cell? ⟨g2, i * 3 + 1, none⟩ = some (F i).u ∧ w'.cell? ⟨g2, i * 3 + 2, none⟩ = some (F i).d) (first | exact ⟨k1, k2, k3, m1, m2, m3⟩ | go_keep)
          (first | (go_at_call 38; refine (reqR_call HC.out (RatEqual_c _ lo lo (A i).s _ _ (A i).xs (A i).ys HOB.out.1 HOB.out.2 lo2 lo2 (B i).s (F i).u (F i).d (B i).xs (B i).ys HE.out.num HE.out.den)).mono ?_; rintro e w1 ⟨rfl, hb1⟩; replace k1 := keep_cell hb1 k1; replace k2 := keep_cell hb1 k2; replace k3 := keep_cell hb1 k3; replace m1 := keep_cell hb1 m1; replace m2 := keep_cell hb1 m2; replace m3 := keep_cell hb1 m3; have B1 := BD.trans (hb1.mono BD.size); clear hb1))
        cases c with
        | true =>
          go_wp2
          go_roundw
          case rel => exact ⟨i + 1, by omega, by go_num, fun j hj => by
            by_cases hji : j = i
            · subst hji; exact HC.out.symm
            · exact HK.out j (by omega), B1⟩
          case measure => (simp [intOf]) <;> omega
        | false =>
          go_wp2
          go_ret
          exact retB (eqVB_f hlt HC.out.symm).symm B1
      · obtain rfl : i = n := by omega
        go_wp2
        go_ret
        exact retB (eqVB_t HK.out).symm hb

set_option maxHeartbeats 1000000 in
theorem sEqualVectors_c (w : World) {lo hi lo2 hi2 : Nat} {v1 v2 : Value} (n : Nat) (A : Nat → Rc) (m : Nat) (B : Nat → Rc) (h1 : Vec w lo hi v1 n A) (h2 : Vec w lo2 hi2 v2 m B) :
    Calls Try.prog 12 #[v1, v2] w (RetB w (eqVB n A m B)) := by
  obtain ⟨E, h1⟩ := h1
  obtain ⟨F, h2⟩ := h2
  obtain ⟨ao, cap, rfl, f1, -, -⟩ := h1.form
  obtain ⟨ao2, cap2, rfl, f2, -, -⟩ := h2.form
  have H1 := Lib.hid h1
  have H2 := Lib.hid h2
  clear h1 h2
  by_cases hnm : n = m
  case neg =>
    have d0 : ((n : Int) == m) = false := beq_false_of_ne (by omega)
    go_enter Try.func12, Try.ntmps12
    go_wp2
    go_ret
    exact retB (eqVB_len hnm).symm (Below.refl _ _)
  case pos =>
    subst hnm
    go_enter Try.func12, Try.ntmps12
    go_wp2
    go_loopw [14] (fun k' wr => ∃ (i : Nat), i ≤ n ∧ k' = .int .i64 i ∧ Hid (∀ j, j < i → reqR (A j) (B j) = true) ∧ Below w.heap.size w wr) (fun k _ => n - (intOf k).toNat)
    case atStart => exact ⟨0, by omega, rfl, fun j hj => absurd hj (by omega), Below.refl _ _⟩
    case round =>
      obtain ⟨i, hi, rfl, HK, hb⟩ := hrel
      by_cases hlt : i < n
      · obtain ⟨g, rfl, -, -, -⟩ := H1.out.addr hlt
        obtain ⟨g2, rfl, -, -, -⟩ := H2.out.addr hlt
        have t1 : (i : Int) < n := by omega
        have HA0 := Lib.hid (H1.out.bel hb)
        obtain ⟨au, cu, ad, cd, k1, k2, k3, o1, o2⟩ := HA0.out.elem hlt
        have HOA := Lib.hid (And.intro o1 o2)
        clear HA0 o1 o2
        go_wp2_with fail
        have BX := below_al hb hb.size (.cells #[.bool (A i).s, Value.slice au (A i).xs.length cu, Value.slice ad (A i).ys.length cd] 45)
        obtain ⟨c1, c2, c3⟩ : (wr.alloc (.cells #[.bool (A i).s, Value.slice au (A i).xs.length cu, Value.slice ad (A i).ys.length cd] 45)).cell? ⟨wr.heap.size, 0, none⟩ = some (.bool (A i).s) ∧ (wr.alloc (.cells #[.bool (A i).s, Value.slice au (A i).xs.length cu, Value.slice ad (A i).ys.length cd] 45)).cell? ⟨wr.heap.size, 1, none⟩ = some (Value.slice au (A i).xs.length cu) ∧ (wr.alloc (.cells #[.bool (A i).s, Value.slice au (A i).xs.length cu, Value.slice ad (A i).ys.length cd] 45)).cell? ⟨wr.heap.size, 2, none⟩ = some (Value.slice ad (A i).ys.length cd) := by simp [go_sem]
        clear k1 k2 k3
        have BOA0 := alloc_bel wr (.cells #[.bool (A i).s, Value.slice au (A i).xs.length cu, Value.slice ad (A i).ys.length cd] 45)
        generalize wr.alloc (.cells #[.bool (A i).s, Value.slice au (A i).xs.length cu, Value.slice ad (A i).ys.length cd] 45) = wx at *
        have BD := below_drew BX
        have BOA := below_drew BOA0
        clear BX hb BOA0
        have HB := Lib.hid (H2.out.bel BD)
        obtain ⟨m1, m2, m3⟩ := HB.out.cells hlt
        have HE := Lib.hid (HB.out.ent i hlt)
        have HOB := Lib.hid (And.intro (HOA.out.1.below BOA (Nat.le_refl _)) (HOA.out.2.below BOA (Nat.le_refl _)))
        replace c1 := cell_drew c1
        replace c2 := cell_drew c2
        replace c3 := cell_drew c3
        clear HB HOA
        obtain ⟨c, hc⟩ : ∃ c, c = reqR (A i) (B i) := ⟨_, rfl⟩
        have HC := Lib.hid hc
        clear hc
        skip
        go_region_held3 (fun w' => w'.cell? ⟨wr.heap.size, 0, none⟩ = some (.bool (A i).s) ∧ w'.cell? ⟨wr.heap.size, 1, none⟩ = some (Value.slice au (A i).xs.length cu) ∧ w'.cell? ⟨wr.heap.size, 2, none⟩ = some (Value.slice ad (A i).ys.length cd) ∧ w'.cell? ⟨g2, i * 3, none⟩ = some (.bool (B i).s) ∧ w'.cell? ⟨g2, i * 3 + 1, none⟩ = some (F i).u ∧ w'.cell? ⟨g2, i * 3 + 2, none⟩ = some (F i).d) (first | exact ⟨c1, c2, c3, m1, m2, m3⟩ | go_keep)
          (first | (go_at_call 37; refine (reqR_call HC.out (sRatEqual_c _ lo lo (A i).s _ _ (A i).xs (A i).ys HOB.out.1 HOB.out.2 lo2 lo2 (B i).s (F i).u (F i).d (B i).xs (B i).ys HE.out.num HE.out.den)).mono ?_; rintro e w1 ⟨rfl, hb1⟩; replace c1 := keep_cell hb1 c1; replace c2 := keep_cell hb1 c2; replace c3 := keep_cell hb1 c3; replace m1 := keep_cell hb1 m1; replace m2 := keep_cell hb1 m2; replace m3 := keep_cell hb1 m3; have B1 := BD.trans (hb1.mono BD.size); clear hb1))
        cases c with
        | true =>
          go_wp2
          go_roundw
          case rel => exact ⟨i + 1, by omega, by go_num, fun j hj => by
            by_cases hji : j = i
            · subst hji; exact HC.out.symm
            · exact HK.out j (by omega), B1⟩
          case measure => (simp [intOf]) <;> omega
        | false =>
          go_wp2
          go_ret
          exact retB (eqVB_f hlt HC.out.symm).symm B1
      · obtain rfl : i = n := by omega
        go_wp2
        go_ret
        exact retB (eqVB_t HK.out).symm hb

end Go.Proofs.Ytcmhpdhcpkhejaa
