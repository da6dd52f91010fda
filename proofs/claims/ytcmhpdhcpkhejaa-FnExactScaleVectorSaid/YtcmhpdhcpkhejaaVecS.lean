/- ScaleVector of the reference and of the program. -/
import Derived.Test.YtcmhpdhcpkhejaaVecR
namespace Go.Proofs.Ytcmhpdhcpkhejaa
open Go.RowKit Lm

set_option maxHeartbeats 2000000 in
set_option maxRecDepth 100000 in
theorem sScaleVector_good (w : World) {lo hi : Nat} (b e : Nat) (vr ur v2 : Value) (r : Int) (q : Nat) (n : Nat) (X Z : Nat → Int) (Y D : Nat → Nat) (o1 : Own w b vr (limbs r.natAbs)) (o2 : Own w e ur (limbs q)) (h2 : Vec w lo hi v2 n (fun i => qv (X i) (Y i))) (hr : IsQ r q) (hx : ∀ i, i < n → IsQ (X i) (Y i)) (hn : n ≤ 24) (hz : ∀ i, i < n → Z i = (qmul (X i) (Y i) r q).1 ∧ D i = (qmul (X i) (Y i) r q).2) (c : Bool) (hc : c = fineB D n) :
    Calls Try.prog 25 #[.agg #[.bool (ng r), vr, ur], v2] w (RetVB w (if c then n else 0) (fun i => qv (Z i) (D i)) c) := by
  have okA : Hid (OkV n (fun i => qv (X i) (Y i))) := ⟨hn, fun i hi => okRc_of (hx i hi)⟩
  obtain ⟨A, h2⟩ := h2
  obtain ⟨ao, cap, rfl, -, -, -⟩ := h2.form
  have BW : Below w.heap.size w (w.alloc (.cells #[.bool (ng r), vr, ur] 45)) := alloc_bel _ _
  obtain ⟨c0, c1, c2⟩ : (w.alloc (.cells #[.bool (ng r), vr, ur] 45)).cell? ⟨w.heap.size, 0, none⟩ = some (.bool (ng r)) ∧ (w.alloc (.cells #[.bool (ng r), vr, ur] 45)).cell? ⟨w.heap.size, 1, none⟩ = some vr ∧ (w.alloc (.cells #[.bool (ng r), vr, ur] 45)).cell? ⟨w.heap.size, 2, none⟩ = some ur := by simp [go_sem]
  have O1 := Lib.hid (o1.below BW (Nat.le_refl _))
  have O2 := Lib.hid (o2.below BW (Nat.le_refl _))
  have HV := Lib.hid (h2.bel BW)
  have HR := Lib.hid hr
  have HX := Lib.hid hx
  have HZ := Lib.hid hz
  have HC := Lib.hid hc
  have hgw : w.heap.size < (w.alloc (.cells #[.bool (ng r), vr, ur] 45)).heap.size := by simp
  clear o1 o2 h2 hr hx hz hc
  go_enter Try.func25, Try.ntmps25
  go_wp2_with fail
  generalize w.alloc (.cells #[.bool (ng r), vr, ur] 45) = w0 at *
  refine (sRatOk_q _ _ _ _ _ r q O1.out O2.out HR.out).mono ?_
  rintro e1 w1 ⟨rfl, B1⟩
  replace c0 := keep_cell B1 c0
  replace c1 := keep_cell B1 c1
  replace c2 := keep_cell B1 c2
  go_wp2_with fail
  refine (sIsVector_t _ n _ ⟨_, HV.out.bel B1⟩ okA.out).mono ?_
  rintro e2 w2 ⟨rfl, hb⟩
  replace c0 := keep_cell hb c0
  replace c1 := keep_cell hb c1
  replace c2 := keep_cell hb c2
  replace B1 := B1.trans (hb.mono B1.size)
  clear hb
  have h0 := VecF.lit0 w2 (lo := w0.heap.size) (fun _ => ⟨false, .slice none 0 0, .slice none 0 0⟩) (fun i => qv (Z i) (D i)) B1.size
  have H0 := Lib.hid (h0.wider (Nat.le_refl _) (by simp) (Nat.le_refl _))
  clear h0
  go_wp2
  go_loopw [6, 20] (fun v k wr => ∃ (i : Nat) (E : Nat → Ent), i ≤ n ∧ k = .int .i64 i ∧ Hid (VecF wr w0.heap.size wr.heap.size v i E (fun i => qv (Z i) (D i))) ∧ Below w0.heap.size w0 wr ∧ wr.cell? ⟨w.heap.size, 0, none⟩ = some (.bool (ng r)) ∧ wr.cell? ⟨w.heap.size, 1, none⟩ = some vr ∧ wr.cell? ⟨w.heap.size, 2, none⟩ = some ur) (fun _ k _ => n - (intOf k).toNat)
  case atStart => exact ⟨0, _, by omega, rfl, H0.out, B1.alloc B1.size _, keep_cell (alloc_bel _ _) c0, keep_cell (alloc_bel _ _) c1, keep_cell (alloc_bel _ _) c2⟩
  case round =>
    clear c0 c1 c2
    obtain ⟨i, E, hi, rfl, HF, hb, c0, c1, c2⟩ := hrel
    by_cases hlt : i < n
    · obtain ⟨g, rfl, -, -, -⟩ := HV.out.addr hlt
      have t1 : (i : Int) < n := by omega
      have HA0 := Lib.hid (HV.out.bel hb)
      obtain ⟨au, cu, ad, cd, k1, k2, k3, p1, p2⟩ := HA0.out.elemq hlt
      have BA := alloc_bel wr (.cells #[.bool (ng (X i)), Value.slice au (limbs (X i).natAbs).length cu, Value.slice ad (limbs (Y i)).length cd] 45)
      have BX := below_al hb hb.size (.cells #[.bool (ng (X i)), Value.slice au (limbs (X i).natAbs).length cu, Value.slice ad (limbs (Y i)).length cd] 45)
      have HOA := Lib.hid (And.intro (p1.below BA (Nat.le_refl _)) (p2.below BA (Nat.le_refl _)))
      have HOR := Lib.hid (And.intro (O1.out.below BX (Nat.le_refl _)) (O2.out.below BX (Nat.le_refl _)))
      have HF2 := Lib.hid (HF.out.bel BA)
      have hlo : w0.heap.size ≤ (wr.alloc (.cells #[.bool (ng (X i)), Value.slice au (limbs (X i).natAbs).length cu, Value.slice ad (limbs (Y i)).length cd] 45)).heap.size := BX.size
      clear HA0 p1 p2 HF
      replace c0 := keep_cell BA c0
      replace c1 := keep_cell BA c1
      replace c2 := keep_cell BA c2
      go_wp2_with fail
      clear k1 k2 k3 BA
      generalize wr.alloc (.cells #[.bool (ng (X i)), Value.slice au (limbs (X i).natAbs).length cu, Value.slice ad (limbs (Y i)).length cd] 45) = wx at *
      refine (l04Mul_c _ b e _ _ r q HOR.out.1 HOR.out.2 lo lo _ _ (X i) (Y i) HOA.out.1 HOA.out.2 (.inl HR.out) (.inl (HX.out i hlt)) (Z i) (D i) (by rw [qmul_comm]; exact (HZ.out i hlt).1) (by rw [qmul_comm]; exact (HZ.out i hlt).2)).mono ?_
      rintro e3 w1 ⟨u, d, rfl, ho1, ho2, ha, hb1⟩
      obtain ⟨ua, uc, rfl, -, -, -, -, -⟩ := ho1.form
      obtain ⟨da, dc, rfl, -, -, -, -, -⟩ := ho2.form
      replace c0 := keep_cell hb1 c0
      replace c1 := keep_cell hb1 c1
      replace c2 := keep_cell hb1 c2
      have HN := Lib.hid (And.intro (And.intro ho1 ho2) (And.intro ha hb1))
      clear ho1 ho2 ha hb1
      go_wp2_with (at_builtin; refine app_new (w := wx) rfl _ _ rfl rfl rfl HF2.out hlo HN.out.2.2 rfl HN.out.1.1 HN.out.1.2 HN.out.2.1 (by omega) ?_)
      intro v' w2 hv hbl has
      replace c0 := has _ _ (keep_cell (alloc_bel _ _) c0) (.inl hgw)
      replace c1 := has _ _ (keep_cell (alloc_bel _ _) c1) (.inl hgw)
      replace c2 := has _ _ (keep_cell (alloc_bel _ _) c2) (.inl hgw)
      have B2 := BX.trans hbl
      obtain ⟨F, hF⟩ := hv
      have HVF := Lib.hid hF
      clear hF hbl has HF2 HN HOA HOR BX hb
      go_wp2
      go_roundw
      case rel => exact ⟨i + 1, F, by omega, by go_num, HVF.out, B2, c0, c1, c2⟩
      case measure => (simp [intOf]) <;> omega
    · obtain rfl : i = n := by omega
      have hs := BW.size
      cases c with
      | true =>
        go_wp2_with fail
        refine (l05Done_t _ _ Z D ⟨_, HF.out⟩ HC.out.symm).mono ?_
        rintro e3 w1 ⟨rfl, hb1⟩
        have HV := Lib.hid (HF.out.bel hb1)
        have hs1 := hb1.size
        have B1 := hb.trans (hb1.mono hb.size)
        have BB := BW.trans (B1.mono BW.size)
        clear hb hb1 HF B1
        go_wp2
        go_ret2
        exact retVB ⟨_, HV.out.wider (Nat.le_refl _) hs1 (Nat.le_refl _)⟩ hs rfl (fun _ _ => rfl) rfl BB
      | false =>
        go_wp2_with fail
        refine (l05Done_f _ _ Z D ⟨_, HF.out⟩ HC.out.symm).mono ?_
        rintro e3 w1 ⟨rfl, hb1⟩
        have B1 := hb.trans (hb1.mono hb.size)
        have BB := BW.trans (B1.mono BW.size)
        clear hb hb1 HF B1
        go_wp2
        go_ret2
        exact retVB (Vec.nil _ _ (Nat.le_refl _)) (Nat.le_refl _) rfl (fun _ _ => rfl) rfl BB

set_option maxHeartbeats 2000000 in
set_option maxRecDepth 100000 in
theorem sScaleVector_b1 (w : World) {lo hi : Nat} (b e : Nat) (s : Bool) (vr ur v2 : Value) (xs ys : List Int) (n : Nat) (A R : Nat → Rc) (o1 : Own w b vr xs) (o2 : Own w e ur ys) (h2 : Vec w lo hi v2 n A) (hr : ¬ OkR s xs ys) :
    Calls Try.prog 25 #[.agg #[.bool s, vr, ur], v2] w (RetVB w 0 R false) := by
  have BW : Below w.heap.size w (w.alloc (.cells #[.bool s, vr, ur] 45)) := alloc_bel _ _
  have O1 := Lib.hid (o1.below BW (Nat.le_refl _))
  have O2 := Lib.hid (o2.below BW (Nat.le_refl _))
  have HV := Lib.hid (h2.bel BW)
  have HR := Lib.hid hr
  skip
  clear o1 o2 h2 hr
  go_enter Try.func25, Try.ntmps25
  go_wp2_with fail
  generalize w.alloc (.cells #[.bool s, vr, ur] 45) = w0 at *
  refine (sRatOk_f _ b e s vr ur xs ys O1.out O2.out HR.out).mono ?_
  rintro e1 w1 ⟨rfl, B1⟩
  have BB := BW.trans (B1.mono BW.size)
  clear B1
  go_wp2
  go_ret2
  exact retVB (Vec.nil _ _ (Nat.le_refl _)) (Nat.le_refl _) rfl (fun _ _ => rfl) rfl BB

set_option maxHeartbeats 2000000 in
set_option maxRecDepth 100000 in
theorem sScaleVector_b2 (w : World) {lo hi : Nat} (b e : Nat) (s : Bool) (vr ur v2 : Value) (xs ys : List Int) (n : Nat) (A R : Nat → Rc) (o1 : Own w b vr xs) (o2 : Own w e ur ys) (h2 : Vec w lo hi v2 n A) (hr : OkR s xs ys) (hA : ¬ OkV n A) :
    Calls Try.prog 25 #[.agg #[.bool s, vr, ur], v2] w (RetVB w 0 R false) := by
  have BW : Below w.heap.size w (w.alloc (.cells #[.bool s, vr, ur] 45)) := alloc_bel _ _
  have O1 := Lib.hid (o1.below BW (Nat.le_refl _))
  have O2 := Lib.hid (o2.below BW (Nat.le_refl _))
  have HV := Lib.hid (h2.bel BW)
  have HR := Lib.hid hr
  have HA := Lib.hid hA
  clear o1 o2 h2 hr hA
  go_enter Try.func25, Try.ntmps25
  go_wp2_with fail
  generalize w.alloc (.cells #[.bool s, vr, ur] 45) = w0 at *
  refine (sRatOk_t _ b e s vr ur xs ys O1.out O2.out HR.out).mono ?_
  rintro e1 w1 ⟨rfl, B1⟩
  go_wp2_with fail
  refine (sIsVector_f _ n A (HV.out.bel B1) HA.out).mono ?_
  rintro e2 w2 ⟨rfl, hb⟩
  replace B1 := B1.trans (hb.mono B1.size)
  clear hb
  have BB := BW.trans (B1.mono BW.size)
  clear B1
  go_wp2
  go_ret2
  exact retVB (Vec.nil _ _ (Nat.le_refl _)) (Nat.le_refl _) rfl (fun _ _ => rfl) rfl BB

set_option maxHeartbeats 2000000 in
set_option maxRecDepth 100000 in
theorem ScaleVector_b1 (w : World) {lo hi : Nat} (b e : Nat) (s : Bool) (vr ur v2 : Value) (xs ys : List Int) (n : Nat) (A R : Nat → Rc) (o1 : Own w b vr xs) (o2 : Own w e ur ys) (h2 : Vec w lo hi v2 n A) (hr : ¬ OkR s xs ys) :
    Calls Try.prog 27 #[.agg #[.bool s, vr, ur], v2] w (RetVB w 0 R false) := by
  have BW : Below w.heap.size w (w.alloc (.cells #[.bool s, vr, ur] 45)) := alloc_bel _ _
  have O1 := Lib.hid (o1.below BW (Nat.le_refl _))
  have O2 := Lib.hid (o2.below BW (Nat.le_refl _))
  have HV := Lib.hid (h2.bel BW)
  have HR := Lib.hid hr
  skip
  clear o1 o2 h2 hr
  go_enter Try.func27, Try.ntmps27
  go_wp2_with fail
  generalize w.alloc (.cells #[.bool s, vr, ur] 45) = w0 at *
  refine (ratOk_f _ b e s vr ur xs ys O1.out O2.out HR.out).mono ?_
  rintro e1 w1 ⟨rfl, B1⟩
  have BB := BW.trans (B1.mono BW.size)
  clear B1
  go_wp2
  go_ret2
  exact retVB (Vec.nil _ _ (Nat.le_refl _)) (Nat.le_refl _) rfl (fun _ _ => rfl) rfl BB

set_option maxHeartbeats 2000000 in
set_option maxRecDepth 100000 in
theorem ScaleVector_b2 (w : World) {lo hi : Nat} (b e : Nat) (s : Bool) (vr ur v2 : Value) (xs ys : List Int) (n : Nat) (A R : Nat → Rc) (o1 : Own w b vr xs) (o2 : Own w e ur ys) (h2 : Vec w lo hi v2 n A) (hr : OkR s xs ys) (hA : ¬ OkV n A) :
    Calls Try.prog 27 #[.agg #[.bool s, vr, ur], v2] w (RetVB w 0 R false) := by
  have BW : Below w.heap.size w (w.alloc (.cells #[.bool s, vr, ur] 45)) := alloc_bel _ _
  have O1 := Lib.hid (o1.below BW (Nat.le_refl _))
  have O2 := Lib.hid (o2.below BW (Nat.le_refl _))
  have HV := Lib.hid (h2.bel BW)
  have HR := Lib.hid hr
  have HA := Lib.hid hA
  clear o1 o2 h2 hr hA
  go_enter Try.func27, Try.ntmps27
  go_wp2_with fail
  generalize w.alloc (.cells #[.bool s, vr, ur] 45) = w0 at *
  refine (ratOk_t _ b e s vr ur xs ys O1.out O2.out HR.out).mono ?_
  rintro e1 w1 ⟨rfl, B1⟩
  go_wp2_with fail
  refine (IsVector_f _ n A (HV.out.bel B1) HA.out).mono ?_
  rintro e2 w2 ⟨rfl, hb⟩
  replace B1 := B1.trans (hb.mono B1.size)
  clear hb
  have BB := BW.trans (B1.mono BW.size)
  clear B1
  go_wp2
  go_ret2
  exact retVB (Vec.nil _ _ (Nat.le_refl _)) (Nat.le_refl _) rfl (fun _ _ => rfl) rfl BB

set_option maxHeartbeats 2000000 in
set_option maxRecDepth 100000 in
theorem scaled1_c (w : World) (b1 e1 b2 e2 gb : Nat) (v1 u1 v2 u2 vr ur : Value) (x y r : Int) (d _f q : Nat) (h1 : Own w b1 v1 (limbs x.natAbs)) (k1 : Own w e1 u1 (limbs d)) (h2 : Own w b2 vr (limbs r.natAbs)) (k2 : Own w e2 ur (limbs q))
    (hg0 : w.cell? ⟨gb, 0, none⟩ = some (.bool (ng r))) (hg1 : w.cell? ⟨gb, 1, none⟩ = some vr) (hg2 : w.cell? ⟨gb, 2, none⟩ = some ur) (hq : IsQ0 x d) (hk : IsQ0 r q) (z : Int) (e : Nat) (hz : z = (qmul x d r q).1) (he : e = (qmul x d r q).2) :
    Calls Try.prog 84 #[.agg #[.bool (ng x), v1, u1], .agg #[.bool (ng y), v2, u2], .pointer (some ⟨gb, 0, none⟩)] w (RetQ w z e) := by
  have BW : Below w.heap.size w (((w.alloc (.cells #[.bool (ng x), v1, u1] 45)).alloc (.cells #[.bool (ng y), v2, u2] 45)).alloc (.cells #[.bool false, .slice none 0 0, .slice none 0 0] 45)) := ((((Below.refl w.heap.size w).alloc (Nat.le_refl _) _).alloc (by simp) _).alloc (by simp; omega) _)
  obtain ⟨c0_0, c0_1, c0_2, c1_0, c1_1, c1_2, c2_0, c2_1, c2_2, q0, q1, q2⟩ : World.cell? (((w.alloc (.cells #[.bool (ng x), v1, u1] 45)).alloc (.cells #[.bool (ng y), v2, u2] 45)).alloc (.cells #[.bool false, .slice none 0 0, .slice none 0 0] 45)) ⟨w.heap.size, 0, none⟩ = some (.bool (ng x)) ∧ World.cell? (((w.alloc (.cells #[.bool (ng x), v1, u1] 45)).alloc (.cells #[.bool (ng y), v2, u2] 45)).alloc (.cells #[.bool false, .slice none 0 0, .slice none 0 0] 45)) ⟨w.heap.size, 1, none⟩ = some (v1) ∧ World.cell? (((w.alloc (.cells #[.bool (ng x), v1, u1] 45)).alloc (.cells #[.bool (ng y), v2, u2] 45)).alloc (.cells #[.bool false, .slice none 0 0, .slice none 0 0] 45)) ⟨w.heap.size, 2, none⟩ = some (u1) ∧ World.cell? (((w.alloc (.cells #[.bool (ng x), v1, u1] 45)).alloc (.cells #[.bool (ng y), v2, u2] 45)).alloc (.cells #[.bool false, .slice none 0 0, .slice none 0 0] 45)) ⟨w.heap.size + 1, 0, none⟩ = some (.bool (ng y)) ∧ World.cell? (((w.alloc (.cells #[.bool (ng x), v1, u1] 45)).alloc (.cells #[.bool (ng y), v2, u2] 45)).alloc (.cells #[.bool false, .slice none 0 0, .slice none 0 0] 45)) ⟨w.heap.size + 1, 1, none⟩ = some (v2) ∧ World.cell? (((w.alloc (.cells #[.bool (ng x), v1, u1] 45)).alloc (.cells #[.bool (ng y), v2, u2] 45)).alloc (.cells #[.bool false, .slice none 0 0, .slice none 0 0] 45)) ⟨w.heap.size + 1, 2, none⟩ = some (u2) ∧ World.cell? (((w.alloc (.cells #[.bool (ng x), v1, u1] 45)).alloc (.cells #[.bool (ng y), v2, u2] 45)).alloc (.cells #[.bool false, .slice none 0 0, .slice none 0 0] 45)) ⟨w.heap.size + 1 + 1, 0, none⟩ = some (.bool false) ∧ World.cell? (((w.alloc (.cells #[.bool (ng x), v1, u1] 45)).alloc (.cells #[.bool (ng y), v2, u2] 45)).alloc (.cells #[.bool false, .slice none 0 0, .slice none 0 0] 45)) ⟨w.heap.size + 1 + 1, 1, none⟩ = some (.slice none 0 0) ∧ World.cell? (((w.alloc (.cells #[.bool (ng x), v1, u1] 45)).alloc (.cells #[.bool (ng y), v2, u2] 45)).alloc (.cells #[.bool false, .slice none 0 0, .slice none 0 0] 45)) ⟨w.heap.size + 1 + 1, 2, none⟩ = some (.slice none 0 0) ∧ World.frozen? (((w.alloc (.cells #[.bool (ng x), v1, u1] 45)).alloc (.cells #[.bool (ng y), v2, u2] 45)).alloc (.cells #[.bool false, .slice none 0 0, .slice none 0 0] 45)) ⟨w.heap.size + 1 + 1, 0, none⟩ = false ∧ World.frozen? (((w.alloc (.cells #[.bool (ng x), v1, u1] 45)).alloc (.cells #[.bool (ng y), v2, u2] 45)).alloc (.cells #[.bool false, .slice none 0 0, .slice none 0 0] 45)) ⟨w.heap.size + 1 + 1, 1, none⟩ = false ∧ World.frozen? (((w.alloc (.cells #[.bool (ng x), v1, u1] 45)).alloc (.cells #[.bool (ng y), v2, u2] 45)).alloc (.cells #[.bool false, .slice none 0 0, .slice none 0 0] 45)) ⟨w.heap.size + 1 + 1, 2, none⟩ = false := by simp [go_sem]
  have hgR : w.heap.size + 1 + 1 < ((((w.alloc (.cells #[.bool (ng x), v1, u1] 45)).alloc (.cells #[.bool (ng y), v2, u2] 45)).alloc (.cells #[.bool false, .slice none 0 0, .slice none 0 0] 45))).heap.size := World.block_lt_of_cell? _ _ c2_0
  have Ha := Lib.hid (h1.below BW (Nat.le_refl _))
  have Hb := Lib.hid (k1.below BW (Nat.le_refl _))
  have Hc := Lib.hid (h2.below BW (Nat.le_refl _))
  have Hd := Lib.hid (k2.below BW (Nat.le_refl _))
  clear h1 k1 h2 k2
  have g0 := keep_cell BW hg0
  have g1 := keep_cell BW hg1
  have g2 := keep_cell BW hg2
  clear hg0 hg1 hg2
  have HX := Lib.hid hq
  have HY := Lib.hid hk
  have HZ := Lib.hid hz
  have HE := Lib.hid he
  clear hq hk hz he
  go_enter Try.func84, Try.ntmps84
  go_wp2_with fail
  generalize (((w.alloc (.cells #[.bool (ng x), v1, u1] 45)).alloc (.cells #[.bool (ng y), v2, u2] 45)).alloc (.cells #[.bool false, .slice none 0 0, .slice none 0 0] 45)) = w0 at *
  have B0 := Below.refl w0.heap.size w0
  refine (mul_c _ _ _ _ _ x d Ha.out Hb.out _ _ _ _ r q Hc.out Hd.out HX.out HY.out z e HZ.out HE.out).mono ?_
  rintro e w1 ⟨vn, vo, rfl, ho1, ho2, HAP, hb⟩
  replace c0_0 := keep_cell hb c0_0
  replace c0_1 := keep_cell hb c0_1
  replace c0_2 := keep_cell hb c0_2
  replace c1_0 := keep_cell hb c1_0
  replace c1_1 := keep_cell hb c1_1
  replace c1_2 := keep_cell hb c1_2
  replace g0 := keep_cell hb g0
  replace g1 := keep_cell hb g1
  replace g2 := keep_cell hb g2
  replace q0 := keep_frozen (w1 := w1) hb c2_0 q0
  replace c2_0 := keep_cell (w1 := w1) hb c2_0
  replace q1 := keep_frozen (w1 := w1) hb c2_1 q1
  replace c2_1 := keep_cell (w1 := w1) hb c2_1
  replace q2 := keep_frozen (w1 := w1) hb c2_2 q2
  replace c2_2 := keep_cell (w1 := w1) hb c2_2
  replace Ha := Lib.hid (Ha.out.below hb (Nat.le_refl _))
  replace Hb := Lib.hid (Hb.out.below hb (Nat.le_refl _))
  replace Hc := Lib.hid (Hc.out.below hb (Nat.le_refl _))
  replace Hd := Lib.hid (Hd.out.below hb (Nat.le_refl _))
  have Hr := Lib.hid (ho1.mono B0.size)
  clear ho1
  have Hs := Lib.hid (ho2.mono B0.size)
  clear ho2
  obtain ⟨ar, cr, rfl, -, -, -, -, -⟩ := Hr.out.form
  obtain ⟨aS, cS, rfl, -, -, -, -, -⟩ := Hs.out.form
  replace B0 := B0.trans (hb.mono B0.size)
  clear hb
  go_wp2
  exact bodyPost_ret (v := .agg #[.bool (ng z), .slice ar (limbs z.natAbs).length cr, .slice aS (limbs e).length cS]) (by simp [results, Try.results84, go_sem, c2_0, c2_1, c2_2]) rfl (retR_end BW (by omega) hgR B0 Hr.out Hs.out HAP)

set_option maxHeartbeats 2000000 in
set_option maxRecDepth 100000 in
theorem pairwise_mul (w : World) {lo hi lo2 hi2 : Nat} {v1 v2 : Value} (b2 e2 gb : Nat) (vr ur : Value) (r : Int) (q : Nat) (o1 : Own w b2 vr (limbs r.natAbs)) (o2 : Own w e2 ur (limbs q)) (hr : IsQ r q) (hg0 : w.cell? ⟨gb, 0, none⟩ = some (.bool (ng r))) (hg1 : w.cell? ⟨gb, 1, none⟩ = some vr) (hg2 : w.cell? ⟨gb, 2, none⟩ = some ur) (n : Nat) (X S Z : Nat → Int) (Y T D : Nat → Nat) (h1 : Vec w lo hi v1 n (fun i => qv (X i) (Y i))) (h2 : Vec w lo2 hi2 v2 n (fun i => qv (S i) (T i))) (hx : ∀ i, i < n → IsQ (X i) (Y i)) (hy : ∀ i, i < n → IsQ (S i) (T i)) (hn : n ≤ 24) (hz : ∀ i, i < n → Z i = (qmul (X i) (Y i) r q).1 ∧ D i = (qmul (X i) (Y i) r q).2) (c : Bool) (hc : c = fineB D n) :
    Calls Try.prog 59 #[v1, v2, .func (Fn.func 84) #[] #[.pointer (some ⟨gb, 0, none⟩)]] w (RetVB w (if c then n else 0) (fun i => qv (Z i) (D i)) c) := by
  obtain ⟨A, h1⟩ := h1
  obtain ⟨B, h2⟩ := h2
  obtain ⟨ao, cap, rfl, -, -, -⟩ := h1.form
  obtain ⟨ao2, cap2, rfl, -, -, -⟩ := h2.form
  have H1 := Lib.hid h1
  have H2 := Lib.hid h2
  have HX := Lib.hid hx
  have HY := Lib.hid hy
  have HZ := Lib.hid hz
  have HC := Lib.hid hc
  clear h1 h2 hx hy hz hc
  have HO1 := Lib.hid o1
  have HO2 := Lib.hid o2
  have HR := Lib.hid hr
  have HG := Lib.hid (And.intro hg0 (And.intro hg1 hg2))
  clear o1 o2 hr hg0 hg1 hg2
  go_enter Try.func59, Try.ntmps59
  go_wp2
  go_loopw [8, 12] (fun v k wr => ∃ (i : Nat) (E : Nat → Ent), i ≤ n ∧ k = .int .i64 i ∧ Hid (VecF wr w.heap.size wr.heap.size v i E (fun i => qv (Z i) (D i))) ∧ Below w.heap.size w wr) (fun _ k _ => n - (intOf k).toNat)
  case atStart => exact ⟨0, fun _ => ⟨false, .slice none 0 0, .slice none 0 0⟩, by omega, rfl, VecF.nil _ _ _ (Nat.le_refl _), Below.refl _ _⟩
  case round =>
    obtain ⟨i, E, hi, rfl, HF, hb⟩ := hrel
    by_cases hlt : i < n
    · obtain ⟨g, rfl, -, hg1, -⟩ := H1.out.addr hlt
      obtain ⟨g2, rfl, -, hg2, -⟩ := H2.out.addr hlt
      have t1 : (i : Int) < n := by omega
      have BD := below_drew hb
      have HA := Lib.hid (H1.out.bel BD)
      obtain ⟨au, cu, ad, cd, k1, k2, k3, o1, o2⟩ := HA.out.elemq hlt
      have HOA := Lib.hid (And.intro o1 o2)
      clear HA o1 o2
      have HB := Lib.hid (H2.out.bel BD)
      obtain ⟨bu, eu, bd, ed, m1, m2, m3, o1, o2⟩ := HB.out.elemq hlt
      have HOB := Lib.hid (And.intro o1 o2)
      have HF2 := Lib.hid HF.out.drew
      have hlo : w.heap.size ≤ wr.drew.heap.size := BD.size
      clear HB HF o1 o2 hb
      go_wp2_with fail
      go_region_held3 (fun w' => w'.cell? ⟨g, i * 3, none⟩ = some (.bool (ng (X i))) ∧ w'.cell? ⟨g, i * 3 + 1, none⟩ = some (.slice au (limbs (X i).natAbs).length cu) ∧ w'.cell? ⟨g, i * 3 + 2, none⟩ = some (.slice ad (limbs (Y i)).length cd) ∧ w'.cell? ⟨g2, i * 3, none⟩ = some (.bool (ng (S i))) ∧ w'.cell? ⟨g2, i * 3 + 1, none⟩ = some (.slice bu (limbs (S i).natAbs).length eu) ∧ w'.cell? ⟨g2, i * 3 + 2, none⟩ = some (.slice bd (limbs (T i)).length ed)) (first | exact ⟨k1, k2, k3, m1, m2, m3⟩ | exact ⟨keep_cell (alloc_bel _ _) k1, keep_cell (alloc_bel _ _) k2, keep_cell (alloc_bel _ _) k3, keep_cell (alloc_bel _ _) m1, keep_cell (alloc_bel _ _) m2, keep_cell (alloc_bel _ _) m3⟩ | go_keep)
        (first | (go_at_call 84; refine (scaled1_c _ lo lo b2 e2 gb _ _ _ _ vr ur (X i) (S i) r (Y i) (T i) q HOA.out.1 HOA.out.2 (HO1.out.below BD (Nat.le_refl _)) (HO2.out.below BD (Nat.le_refl _)) (keep_cell BD HG.out.1) (keep_cell BD HG.out.2.1) (keep_cell BD HG.out.2.2) (.inl (HX.out i hlt)) (.inl HR.out) (Z i) (D i) (HZ.out i hlt).1 (HZ.out i hlt).2).mono ?_; rintro e w1 ⟨u, d, rfl, ho1, ho2, ha, hb1⟩; obtain ⟨ua, uc, rfl, -, -, -, -, -⟩ := ho1.form; obtain ⟨da, dc, rfl, -, -, -, -, -⟩ := ho2.form; have HN := Lib.hid (And.intro (And.intro ho1 ho2) (And.intro ha hb1)); clear ho1 ho2 ha; replace k1 := keep_cell hb1 k1; replace k2 := keep_cell hb1 k2; replace k3 := keep_cell hb1 k3; replace m1 := keep_cell hb1 m1; replace m2 := keep_cell hb1 m2; replace m3 := keep_cell hb1 m3; clear hb1)
               | (rw [if_pos (by rfl)]; refine app_new_wp _ _ rfl HF2.out hlo HN.out.2.2 rfl HN.out.1.1 HN.out.1.2 HN.out.2.1 (by omega) rfl rfl ?_; intro v' w2 hv hbl has; replace k1 := has _ _ (keep_cell (alloc_bel _ _) k1) (.inl hg1); replace k2 := has _ _ (keep_cell (alloc_bel _ _) k2) (.inl hg1); replace k3 := has _ _ (keep_cell (alloc_bel _ _) k3) (.inl hg1); replace m1 := has _ _ (keep_cell (alloc_bel _ _) m1) (.inl hg2); replace m2 := has _ _ (keep_cell (alloc_bel _ _) m2) (.inl hg2); replace m3 := has _ _ (keep_cell (alloc_bel _ _) m3) (.inl hg2); have HV := Lib.hid hv; have B2 := BD.trans hbl; clear hv hbl has HN HF2))
      obtain ⟨F, hF⟩ := HV.out
      have HVF := Lib.hid hF
      clear hF HV
      go_wp2
      go_roundw
      case rel => exact ⟨i + 1, F, by omega, by go_num, HVF.out, B2⟩
      case measure => (simp [intOf]) <;> omega
    · obtain rfl : i = n := by omega
      cases c with
      | true =>
        go_wp2_with fail
        refine (complete_t _ _ Z D ⟨_, HF.out⟩ HC.out.symm).mono ?_
        rintro e w1 ⟨rfl, hb1⟩
        have HV := Lib.hid (HF.out.bel hb1)
        have hs1 := hb1.size
        have B1 := hb.trans (hb1.mono hb.size)
        clear hb hb1 HF
        go_wp2
        go_ret2
        exact retVB ⟨_, HV.out.wider (Nat.le_refl _) hs1 (Nat.le_refl _)⟩ (Nat.le_refl _) rfl (fun _ _ => rfl) rfl B1
      | false =>
        go_wp2_with fail
        refine (complete_f _ _ Z D ⟨_, HF.out⟩ HC.out.symm).mono ?_
        rintro e w1 ⟨rfl, hb1⟩
        have B1 := hb.trans (hb1.mono hb.size)
        clear hb hb1 HF
        go_wp2
        go_ret2
        exact retVB (Vec.nil _ _ (Nat.le_refl _)) (Nat.le_refl _) rfl (fun _ _ => rfl) rfl B1

set_option maxHeartbeats 2000000 in
set_option maxRecDepth 100000 in
theorem scaled_c (w : World) {lo hi : Nat} (b e : Nat) (vr ur v2 : Value) (r : Int) (q : Nat) (n : Nat) (X Z : Nat → Int) (Y D : Nat → Nat) (o1 : Own w b vr (limbs r.natAbs)) (o2 : Own w e ur (limbs q)) (h2 : Vec w lo hi v2 n (fun i => qv (X i) (Y i))) (hr : IsQ r q) (hx : ∀ i, i < n → IsQ (X i) (Y i)) (hn : n ≤ 24) (hz : ∀ i, i < n → Z i = (qmul (X i) (Y i) r q).1 ∧ D i = (qmul (X i) (Y i) r q).2) (c : Bool) (hc : c = fineB D n) :
    Calls Try.prog 53 #[.agg #[.bool (ng r), vr, ur], v2] w (RetVB w (if c then n else 0) (fun i => qv (Z i) (D i)) c) := by
  have hn0 := hn
  obtain ⟨N, hN⟩ : ∃ N, N = if c then n else 0 := ⟨_, rfl⟩
  rw [← hN]
  have HNN := Lib.hid hN
  clear hN
  have BW : Below w.heap.size w (w.alloc (.cells #[.bool (ng r), vr, ur] 45)) := alloc_bel _ _
  obtain ⟨c0, c1, c2⟩ : (w.alloc (.cells #[.bool (ng r), vr, ur] 45)).cell? ⟨w.heap.size, 0, none⟩ = some (.bool (ng r)) ∧ (w.alloc (.cells #[.bool (ng r), vr, ur] 45)).cell? ⟨w.heap.size, 1, none⟩ = some vr ∧ (w.alloc (.cells #[.bool (ng r), vr, ur] 45)).cell? ⟨w.heap.size, 2, none⟩ = some ur := by simp [go_sem]
  have O1 := Lib.hid (o1.below BW (Nat.le_refl _))
  have O2 := Lib.hid (o2.below BW (Nat.le_refl _))
  have HV := Lib.hid (h2.bel BW)
  have HR := Lib.hid hr
  have HX := Lib.hid hx
  have HZ := Lib.hid hz
  have HC := Lib.hid hc
  have hgw : w.heap.size < (w.alloc (.cells #[.bool (ng r), vr, ur] 45)).heap.size := by simp
  clear o1 o2 h2 hr hx hz hc
  go_enter Try.func53, Try.ntmps53
  go_wp2_with fail
  generalize w.alloc (.cells #[.bool (ng r), vr, ur] 45) = w0 at *
  refine (pairwise_mul _ b e w.heap.size vr ur r q O1.out O2.out HR.out c0 c1 c2 n X X Z Y Y D HV.out HV.out HX.out HX.out hn0 HZ.out c HC.out).mono ?_
  rintro e1 w1 ⟨v, rfl, hv, hb⟩
  have HV1 := Lib.hid hv
  have hs := BW.size
  have BB := BW.trans (hb.mono BW.size)
  clear hv hb
  go_wp2
  go_ret2
  exact retVB HV1.out hs HNN.out.symm (fun _ _ => rfl) rfl BB

set_option maxHeartbeats 2000000 in
set_option maxRecDepth 100000 in
theorem ScaleVector_good (w : World) {lo hi : Nat} (b e : Nat) (vr ur v2 : Value) (r : Int) (q : Nat) (n : Nat) (X Z : Nat → Int) (Y D : Nat → Nat) (o1 : Own w b vr (limbs r.natAbs)) (o2 : Own w e ur (limbs q)) (h2 : Vec w lo hi v2 n (fun i => qv (X i) (Y i))) (hr : IsQ r q) (hx : ∀ i, i < n → IsQ (X i) (Y i)) (hn : n ≤ 24) (hz : ∀ i, i < n → Z i = (qmul (X i) (Y i) r q).1 ∧ D i = (qmul (X i) (Y i) r q).2) (c : Bool) (hc : c = fineB D n) :
    Calls Try.prog 27 #[.agg #[.bool (ng r), vr, ur], v2] w (RetVB w (if c then n else 0) (fun i => qv (Z i) (D i)) c) := by
  have okA : Hid (OkV n (fun i => qv (X i) (Y i))) := ⟨hn, fun i hi => okRc_of (hx i hi)⟩
  have hn0 := hn
  obtain ⟨N, hN⟩ : ∃ N, N = if c then n else 0 := ⟨_, rfl⟩
  rw [← hN]
  have HNN := Lib.hid hN
  clear hN
  have BW : Below w.heap.size w (w.alloc (.cells #[.bool (ng r), vr, ur] 45)) := alloc_bel _ _
  obtain ⟨c0, c1, c2⟩ : (w.alloc (.cells #[.bool (ng r), vr, ur] 45)).cell? ⟨w.heap.size, 0, none⟩ = some (.bool (ng r)) ∧ (w.alloc (.cells #[.bool (ng r), vr, ur] 45)).cell? ⟨w.heap.size, 1, none⟩ = some vr ∧ (w.alloc (.cells #[.bool (ng r), vr, ur] 45)).cell? ⟨w.heap.size, 2, none⟩ = some ur := by simp [go_sem]
  have O1 := Lib.hid (o1.below BW (Nat.le_refl _))
  have O2 := Lib.hid (o2.below BW (Nat.le_refl _))
  have HV := Lib.hid (h2.bel BW)
  have HR := Lib.hid hr
  have HX := Lib.hid hx
  have HZ := Lib.hid hz
  have HC := Lib.hid hc
  have hgw : w.heap.size < (w.alloc (.cells #[.bool (ng r), vr, ur] 45)).heap.size := by simp
  clear o1 o2 h2 hr hx hz hc
  go_enter Try.func27, Try.ntmps27
  go_wp2_with fail
  generalize w.alloc (.cells #[.bool (ng r), vr, ur] 45) = w0 at *
  refine (ratOk_q _ _ _ _ _ r q O1.out O2.out HR.out).mono ?_
  rintro e1 w1 ⟨rfl, B1⟩
  replace c0 := keep_cell B1 c0
  replace c1 := keep_cell B1 c1
  replace c2 := keep_cell B1 c2
  go_wp2_with fail
  refine (IsVector_t _ n _ (HV.out.bel B1) okA.out).mono ?_
  rintro e2 w2 ⟨rfl, hb⟩
  replace c0 := keep_cell hb c0
  replace c1 := keep_cell hb c1
  replace c2 := keep_cell hb c2
  replace B1 := B1.trans (hb.mono B1.size)
  clear hb
  go_wp2_with fail
  refine (scaled_c _ b e vr ur v2 r q n X Z Y D (O1.out.below B1 (Nat.le_refl _)) (O2.out.below B1 (Nat.le_refl _)) (HV.out.bel B1) HR.out HX.out hn0 HZ.out c HC.out).mono ?_
  rintro e3 w3 ⟨v, rfl, hv, hb⟩
  have HV1 := Lib.hid hv
  have hs1 := Nat.le_trans BW.size B1.size
  have BB := BW.trans ((B1.trans (hb.mono B1.size)).mono BW.size)
  clear hv hb
  go_wp2
  go_ret2
  exact retVB HV1.out hs1 HNN.out.symm (fun _ _ => rfl) rfl BB

theorem sScaleVector_c (w : World) {lo hi : Nat} (b e : Nat) (s : Bool) (vr ur v2 : Value) (xs ys : List Int) (n : Nat) (A : Nat → Rc) (o1 : Own w b vr xs) (o2 : Own w e ur ys) (h2 : Vec w lo hi v2 n A) :
    Calls Try.prog 25 #[.agg #[.bool s, vr, ur], v2] w (RetVB w (scN ⟨s, xs, ys⟩ n A) (v2R qmul A (fun _ => ⟨s, xs, ys⟩)) (scc ⟨s, xs, ys⟩ n A)) := by
  by_cases h : OkRc ⟨s, xs, ys⟩ ∧ OkV n A
  · have e1 := scc_yes h
    obtain ⟨hr, hA⟩ := h
    obtain ⟨e2, hq⟩ := okRc_q hr
    have o1' : Own w b vr (limbs (numR ⟨s, xs, ys⟩).natAbs) := (congrArg (Own w b vr) (show xs = limbs (numR ⟨s, xs, ys⟩).natAbs from congrArg Rc.xs e2)).mp o1
    have o2' : Own w e ur (limbs (denR ⟨s, xs, ys⟩)) := (congrArg (Own w e ur) (show ys = limbs (denR ⟨s, xs, ys⟩) from congrArg Rc.ys e2)).mp o2
    have es : s = ng (numR ⟨s, xs, ys⟩) := congrArg Rc.s e2
    have := sScaleVector_good w b e vr ur v2 (numR ⟨s, xs, ys⟩) (denR ⟨s, xs, ys⟩) n _ (fun i => (vop qmul A (fun _ => ⟨s, xs, ys⟩) i).1) _ (fun i => (vop qmul A (fun _ => ⟨s, xs, ys⟩) i).2) o1' o2' (h2.toQ hA) hq (fun i hi => (okV_q hA i hi).2) hA.1 (fun i _ => ⟨rfl, rfl⟩) _ rfl
    rw [← es] at this
    unfold scN
    rw [e1]; exact this
  · have e1 := scc_no h
    unfold scN
    rw [e1]
    by_cases hr : OkR s xs ys
    · exact sScaleVector_b2 w b e s vr ur v2 xs ys n A _ o1 o2 h2 hr fun hA => h ⟨hr, hA⟩
    · exact sScaleVector_b1 w b e s vr ur v2 xs ys n A _ o1 o2 h2 hr

theorem ScaleVector_c (w : World) {lo hi : Nat} (b e : Nat) (s : Bool) (vr ur v2 : Value) (xs ys : List Int) (n : Nat) (A : Nat → Rc) (o1 : Own w b vr xs) (o2 : Own w e ur ys) (h2 : Vec w lo hi v2 n A) :
    Calls Try.prog 27 #[.agg #[.bool s, vr, ur], v2] w (RetVB w (scN ⟨s, xs, ys⟩ n A) (v2R qmul A (fun _ => ⟨s, xs, ys⟩)) (scc ⟨s, xs, ys⟩ n A)) := by
  by_cases h : OkRc ⟨s, xs, ys⟩ ∧ OkV n A
  · have e1 := scc_yes h
    obtain ⟨hr, hA⟩ := h
    obtain ⟨e2, hq⟩ := okRc_q hr
    have o1' : Own w b vr (limbs (numR ⟨s, xs, ys⟩).natAbs) := (congrArg (Own w b vr) (show xs = limbs (numR ⟨s, xs, ys⟩).natAbs from congrArg Rc.xs e2)).mp o1
    have o2' : Own w e ur (limbs (denR ⟨s, xs, ys⟩)) := (congrArg (Own w e ur) (show ys = limbs (denR ⟨s, xs, ys⟩) from congrArg Rc.ys e2)).mp o2
    have es : s = ng (numR ⟨s, xs, ys⟩) := congrArg Rc.s e2
    have := ScaleVector_good w b e vr ur v2 (numR ⟨s, xs, ys⟩) (denR ⟨s, xs, ys⟩) n _ (fun i => (vop qmul A (fun _ => ⟨s, xs, ys⟩) i).1) _ (fun i => (vop qmul A (fun _ => ⟨s, xs, ys⟩) i).2) o1' o2' (h2.toQ hA) hq (fun i hi => (okV_q hA i hi).2) hA.1 (fun i _ => ⟨rfl, rfl⟩) _ rfl
    rw [← es] at this
    unfold scN
    rw [e1]; exact this
  · have e1 := scc_no h
    unfold scN
    rw [e1]
    by_cases hr : OkR s xs ys
    · exact ScaleVector_b2 w b e s vr ur v2 xs ys n A _ o1 o2 h2 hr fun hA => h ⟨hr, hA⟩
    · exact ScaleVector_b1 w b e s vr ur v2 xs ys n A _ o1 o2 h2 hr

end Go.Proofs.Ytcmhpdhcpkhejaa
