/- AddVectors, SubtractVectors and ScaleVector of the reference. -/
import Derived.Test.YtcmhpdhcpkhejaaVecH
namespace Go.Proofs.Ytcmhpdhcpkhejaa
open Go.RowKit Lm

/-! What they give. -/
noncomputable def vop (op : Int → Nat → Int → Nat → Int × Nat) (A B : Nat → Rc) (i : Nat) : Int × Nat := op (numR (A i)) (denR (A i)) (numR (B i)) (denR (B i))
open Classical in
noncomputable def v2c (op : Int → Nat → Int → Nat → Int × Nat) (n : Nat) (A : Nat → Rc) (m : Nat) (B : Nat → Rc) : Bool := decide (OkV n A ∧ OkV m B ∧ n = m) && fineB (fun i => (vop op A B i).2) n
noncomputable def v2N (op : Int → Nat → Int → Nat → Int × Nat) (n : Nat) (A : Nat → Rc) (m : Nat) (B : Nat → Rc) : Nat := if v2c op n A m B then n else 0
noncomputable def v2R (op : Int → Nat → Int → Nat → Int × Nat) (A B : Nat → Rc) : Nat → Rc := fun i => qv (vop op A B i).1 (vop op A B i).2
open Classical in
noncomputable def scc (r : Rc) (n : Nat) (A : Nat → Rc) : Bool := decide (OkRc r ∧ OkV n A) && fineB (fun i => (vop qmul A (fun _ => r) i).2) n
noncomputable def scN (r : Rc) (n : Nat) (A : Nat → Rc) : Nat := if scc r n A then n else 0
theorem v2c_no {op : Int → Nat → Int → Nat → Int × Nat} {n m : Nat} {A B : Nat → Rc} (h : ¬ (OkV n A ∧ OkV m B ∧ n = m)) : v2c op n A m B = false := by unfold v2c; simp only [h, decide_false, Bool.false_and]
theorem v2c_yes {op : Int → Nat → Int → Nat → Int × Nat} {n m : Nat} {A B : Nat → Rc} (h : OkV n A ∧ OkV m B ∧ n = m) : v2c op n A m B = fineB (fun i => (vop op A B i).2) n := by
  obtain ⟨h1, h2, rfl⟩ := h
  unfold v2c; simp only [h1, h2, and_self, decide_true, Bool.true_and]
theorem scc_no {r : Rc} {n : Nat} {A : Nat → Rc} (h : ¬ (OkRc r ∧ OkV n A)) : scc r n A = false := by unfold scc; simp only [h, decide_false, Bool.false_and]
theorem scc_yes {r : Rc} {n : Nat} {A : Nat → Rc} (h : OkRc r ∧ OkV n A) : scc r n A = fineB (fun i => (vop qmul A (fun _ => r) i).2) n := by
  obtain ⟨h1, h2⟩ := h
  unfold scc; simp only [h1, h2, and_self, decide_true, Bool.true_and]
theorem qmul_comm (z : Int) (d : Nat) (y : Int) (f : Nat) : qmul z d y f = qmul y f z d := by unfold qmul; rw [Int.mul_comm, Nat.mul_comm]
/-- A valid vector as fractions in plain numbers. -/
theorem okV_q {n : Nat} {A : Nat → Rc} (h : OkV n A) : ∀ i, i < n → A i = qv (numR (A i)) (denR (A i)) ∧ IsQ (numR (A i)) (denR (A i)) := fun i hi => okRc_q (h.2 i hi)
theorem Vec.toQ {w : World} {lo hi : Nat} {v : Value} {n : Nat} {A : Nat → Rc} (h : Vec w lo hi v n A) (hA : OkV n A) : Vec w lo hi v n (fun i => qv (numR (A i)) (denR (A i))) := h.congr fun i hi => (okV_q hA i hi).1
theorem VecF.elemq {w : World} {lo hi g n m cap : Nat} {E : Nat → Ent} {X : Nat → Int} {Y : Nat → Nat} (h : VecF w lo hi (.slice (some ⟨g, 0, none⟩) m cap) n E (fun i => qv (X i) (Y i))) {i : Nat} (hi : i < n) :
    ∃ au cu ad cd, w.cell? ⟨g, i * 3, none⟩ = some (.bool (ng (X i))) ∧ w.cell? ⟨g, i * 3 + 1, none⟩ = some (.slice au (limbs (X i).natAbs).length cu) ∧ w.cell? ⟨g, i * 3 + 2, none⟩ = some (.slice ad (limbs (Y i)).length cd) ∧
      Own w lo (.slice au (limbs (X i).natAbs).length cu) (limbs (X i).natAbs) ∧ Own w lo (.slice ad (limbs (Y i)).length cd) (limbs (Y i)) := h.elem hi

theorem sIsVector_t (w : World) {lo hi : Nat} {v1 : Value} (n : Nat) (R : Nat → Rc) (h1 : Vec w lo hi v1 n R) (h : OkV n R) : Calls Try.prog 22 #[v1] w (RetB w true) := by
  have := sIsVector_c w n R h1
  rw [okVB_t h] at this; exact this
theorem sIsVector_f (w : World) {lo hi : Nat} {v1 : Value} (n : Nat) (R : Nat → Rc) (h1 : Vec w lo hi v1 n R) (h : ¬ OkV n R) : Calls Try.prog 22 #[v1] w (RetB w false) := by
  have := sIsVector_c w n R h1
  rw [okVB_f h] at this; exact this

set_option maxHeartbeats 2000000 in
set_option maxRecDepth 100000 in
theorem l05Sub_c (w : World) (b1 e1 : Nat) (v1 u1 : Value) (x : Int) (d : Nat) (h1 : Own w b1 v1 (limbs x.natAbs)) (k1 : Own w e1 u1 (limbs d)) (b2 e2 : Nat) (v2 u2 : Value) (y : Int) (f : Nat) (h2 : Own w b2 v2 (limbs y.natAbs)) (k2 : Own w e2 u2 (limbs f)) (hq : IsQ0 x d) (hk : IsQ0 y f) (z : Int) (e : Nat) (hz : z = (qsub x d y f).1) (he : e = (qsub x d y f).2) :
    Calls Try.prog 61 #[.agg #[.bool (ng x), v1, u1], .agg #[.bool (ng y), v2, u2]] w (RetQ w z e) := by
  have BW : Below w.heap.size w (((w.alloc (.cells #[.bool (ng x), v1, u1] 45)).alloc (.cells #[.bool (ng y), v2, u2] 45)).alloc (.cells #[.bool false, .slice none 0 0, .slice none 0 0] 45)) := ((((Below.refl w.heap.size w).alloc (Nat.le_refl _) _).alloc (by simp) _).alloc (by simp; omega) _)
  obtain ⟨c0_0, c0_1, c0_2, c1_0, c1_1, c1_2, c2_0, c2_1, c2_2, q0, q1, q2⟩ : World.cell? (((w.alloc (.cells #[.bool (ng x), v1, u1] 45)).alloc (.cells #[.bool (ng y), v2, u2] 45)).alloc (.cells #[.bool false, .slice none 0 0, .slice none 0 0] 45)) ⟨w.heap.size, 0, none⟩ = some (.bool (ng x)) ∧ World.cell? (((w.alloc (.cells #[.bool (ng x), v1, u1] 45)).alloc (.cells #[.bool (ng y), v2, u2] 45)).alloc (.cells #[.bool false, .slice none 0 0, .slice none 0 0] 45)) ⟨w.heap.size, 1, none⟩ = some (v1) ∧ World.cell? (((w.alloc (.cells #[.bool (ng x), v1, u1] 45)).alloc (.cells #[.bool (ng y), v2, u2] 45)).alloc (.cells #[.bool false, .slice none 0 0, .slice none 0 0] 45)) ⟨w.heap.size, 2, none⟩ = some (u1) ∧ World.cell? (((w.alloc (.cells #[.bool (ng x), v1, u1] 45)).alloc (.cells #[.bool (ng y), v2, u2] 45)).alloc (.cells #[.bool false, .slice none 0 0, .slice none 0 0] 45)) ⟨w.heap.size + 1, 0, none⟩ = some (.bool (ng y)) ∧ World.cell? (((w.alloc (.cells #[.bool (ng x), v1, u1] 45)).alloc (.cells #[.bool (ng y), v2, u2] 45)).alloc (.cells #[.bool false, .slice none 0 0, .slice none 0 0] 45)) ⟨w.heap.size + 1, 1, none⟩ = some (v2) ∧ World.cell? (((w.alloc (.cells #[.bool (ng x), v1, u1] 45)).alloc (.cells #[.bool (ng y), v2, u2] 45)).alloc (.cells #[.bool false, .slice none 0 0, .slice none 0 0] 45)) ⟨w.heap.size + 1, 2, none⟩ = some (u2) ∧ World.cell? (((w.alloc (.cells #[.bool (ng x), v1, u1] 45)).alloc (.cells #[.bool (ng y), v2, u2] 45)).alloc (.cells #[.bool false, .slice none 0 0, .slice none 0 0] 45)) ⟨w.heap.size + 1 + 1, 0, none⟩ = some (.bool false) ∧ World.cell? (((w.alloc (.cells #[.bool (ng x), v1, u1] 45)).alloc (.cells #[.bool (ng y), v2, u2] 45)).alloc (.cells #[.bool false, .slice none 0 0, .slice none 0 0] 45)) ⟨w.heap.size + 1 + 1, 1, none⟩ = some (.slice none 0 0) ∧ World.cell? (((w.alloc (.cells #[.bool (ng x), v1, u1] 45)).alloc (.cells #[.bool (ng y), v2, u2] 45)).alloc (.cells #[.bool false, .slice none 0 0, .slice none 0 0] 45)) ⟨w.heap.size + 1 + 1, 2, none⟩ = some (.slice none 0 0) ∧ World.frozen? (((w.alloc (.cells #[.bool (ng x), v1, u1] 45)).alloc (.cells #[.bool (ng y), v2, u2] 45)).alloc (.cells #[.bool false, .slice none 0 0, .slice none 0 0] 45)) ⟨w.heap.size + 1 + 1, 0, none⟩ = false ∧ World.frozen? (((w.alloc (.cells #[.bool (ng x), v1, u1] 45)).alloc (.cells #[.bool (ng y), v2, u2] 45)).alloc (.cells #[.bool false, .slice none 0 0, .slice none 0 0] 45)) ⟨w.heap.size + 1 + 1, 1, none⟩ = false ∧ World.frozen? (((w.alloc (.cells #[.bool (ng x), v1, u1] 45)).alloc (.cells #[.bool (ng y), v2, u2] 45)).alloc (.cells #[.bool false, .slice none 0 0, .slice none 0 0] 45)) ⟨w.heap.size + 1 + 1, 2, none⟩ = false := by simp [go_sem]
  have hg0 : w.heap.size + 1 + 1 < ((((w.alloc (.cells #[.bool (ng x), v1, u1] 45)).alloc (.cells #[.bool (ng y), v2, u2] 45)).alloc (.cells #[.bool false, .slice none 0 0, .slice none 0 0] 45))).heap.size := World.block_lt_of_cell? _ _ c2_0
  have Ha := Lib.hid (h1.below BW (Nat.le_refl _))
  have Hb := Lib.hid (k1.below BW (Nat.le_refl _))
  have Hc := Lib.hid (h2.below BW (Nat.le_refl _))
  have Hd := Lib.hid (k2.below BW (Nat.le_refl _))
  clear h1 k1 h2 k2
  obtain ⟨m3, m4⟩ := hk.len
  obtain ⟨yn, hyn⟩ : ∃ yn : Int, yn = -y := ⟨_, rfl⟩
  have HYN := Lib.hid hyn
  have HX0 : Hid (IsQ0 x d) := hq
  have HYN0 : Hid (IsQ0 yn f) := by unfold Hid; rw [hyn]; exact isQ0_neg hk
  have HZ : Hid (z = (qadd x d yn f).1) := by unfold Hid; rw [hyn]; exact hz
  have HE : Hid (e = (qadd x d yn f).2) := by unfold Hid; rw [hyn]; exact he
  clear hq hk hz he hyn
  go_enter Try.func61, Try.ntmps61
  go_wp2_with fail
  generalize (((w.alloc (.cells #[.bool (ng x), v1, u1] 45)).alloc (.cells #[.bool (ng y), v2, u2] 45)).alloc (.cells #[.bool false, .slice none 0 0, .slice none 0 0] 45)) = w0 at *
  have B0 := Below.refl w0.heap.size w0
  replace Ha := Lib.hid Ha.out.drew
  replace Hb := Lib.hid Hb.out.drew
  replace Hc := Lib.hid Hc.out.drew
  replace Hd := Lib.hid Hd.out.drew
  replace B0 := below_drew B0
  replace q0 := frozen_drew q0
  replace c2_0 := cell_drew c2_0
  replace q1 := frozen_drew q1
  replace c2_1 := cell_drew c2_1
  replace q2 := frozen_drew q2
  replace c2_2 := cell_drew c2_2
  replace c0_0 := cell_drew c0_0
  replace c0_1 := cell_drew c0_1
  replace c0_2 := cell_drew c0_2
  replace c1_0 := cell_drew c1_0
  replace c1_1 := cell_drew c1_1
  replace c1_2 := cell_drew c1_2
  go_region_held3 (fun w' => w'.cell? ⟨w.heap.size, 0, none⟩ = some (.bool (ng x)) ∧ w'.cell? ⟨w.heap.size, 1, none⟩ = some (v1) ∧ w'.cell? ⟨w.heap.size, 2, none⟩ = some (u1) ∧ w'.cell? ⟨w.heap.size + 1, 0, none⟩ = some (.bool (ng y)) ∧ w'.cell? ⟨w.heap.size + 1, 1, none⟩ = some (v2) ∧ w'.cell? ⟨w.heap.size + 1, 2, none⟩ = some (u2)) (first | exact ⟨c0_0, c0_1, c0_2, c1_0, c1_1, c1_2⟩ | (go_split_ands; exact ⟨(set_far (set_far ‹_› (by dsimp only; omega)) (by dsimp only; omega)), (set_far (set_far ‹_› (by dsimp only; omega)) (by dsimp only; omega)), (set_far (set_far ‹_› (by dsimp only; omega)) (by dsimp only; omega)), (set_far (set_far ‹_› (by dsimp only; omega)) (by dsimp only; omega)), (set_far (set_far ‹_› (by dsimp only; omega)) (by dsimp only; omega)), (set_far (set_far ‹_› (by dsimp only; omega)) (by dsimp only; omega))⟩) | (go_split_ands; exact ⟨(set_far (set_far (set_far ‹_› (by dsimp only; omega)) (by dsimp only; omega)) (by dsimp only; omega)), (set_far (set_far (set_far ‹_› (by dsimp only; omega)) (by dsimp only; omega)) (by dsimp only; omega)), (set_far (set_far (set_far ‹_› (by dsimp only; omega)) (by dsimp only; omega)) (by dsimp only; omega)), (set_far (set_far (set_far ‹_› (by dsimp only; omega)) (by dsimp only; omega)) (by dsimp only; omega)), (set_far (set_far (set_far ‹_› (by dsimp only; omega)) (by dsimp only; omega)) (by dsimp only; omega)), (set_far (set_far (set_far ‹_› (by dsimp only; omega)) (by dsimp only; omega)) (by dsimp only; omega))⟩) | (go_split_ands; exact ⟨(set_far ‹_› (by dsimp only; omega)), (set_far ‹_› (by dsimp only; omega)), (set_far ‹_› (by dsimp only; omega)), (set_far ‹_› (by dsimp only; omega)), (set_far ‹_› (by dsimp only; omega)), (set_far ‹_› (by dsimp only; omega))⟩) | go_keep)
    (first | (go_at_call 95; refine (l04Neg_f _ _ _ _ _ y f Hc.out Hd.out m3 m4 yn HYN.out).mono ?_; rintro e w1 ⟨vn, vo, rfl, ho1, ho2, hap, hb1⟩; replace q0 := keep_frozen (w1 := w1) hb1 c2_0 q0; replace c2_0 := keep_cell (w1 := w1) hb1 c2_0; replace q1 := keep_frozen (w1 := w1) hb1 c2_1 q1; replace c2_1 := keep_cell (w1 := w1) hb1 c2_1; replace q2 := keep_frozen (w1 := w1) hb1 c2_2 q2; replace c2_2 := keep_cell (w1 := w1) hb1 c2_2; replace c0_0 := keep_cell (w1 := w1) hb1 c0_0; replace c0_1 := keep_cell (w1 := w1) hb1 c0_1; replace c0_2 := keep_cell (w1 := w1) hb1 c0_2; replace c1_0 := keep_cell (w1 := w1) hb1 c1_0; replace c1_1 := keep_cell (w1 := w1) hb1 c1_1; replace c1_2 := keep_cell (w1 := w1) hb1 c1_2; replace Ha := Lib.hid (Ha.out.below hb1 (Nat.le_refl _)); replace Hb := Lib.hid (Hb.out.below hb1 (Nat.le_refl _)); replace Hc := Lib.hid (Hc.out.below hb1 (Nat.le_refl _)); replace Hd := Lib.hid (Hd.out.below hb1 (Nat.le_refl _)); (try (replace Hr := Lib.hid (Hr.out.below hb1 (Nat.le_refl _)))); (try (replace Hs := Lib.hid (Hs.out.below hb1 (Nat.le_refl _)))); have Hn := Lib.hid (ho1.mono B0.size); clear ho1; have Ho := Lib.hid (ho2.mono B0.size); clear ho2; clear hap; replace B0 := B0.trans (hb1.mono B0.size); clear hb1) | (go_at_call 58; refine (l04Add_c _ _ _ _ _ x d Ha.out Hb.out _ _ _ _ yn f Hn.out Ho.out HX0.out HYN0.out z e HZ.out HE.out).mono ?_; rintro e w2 ⟨vr, vs, rfl, ho1, ho2, HAP, hb2⟩; replace q0 := keep_frozen (w1 := w2) hb2 c2_0 q0; replace c2_0 := keep_cell (w1 := w2) hb2 c2_0; replace q1 := keep_frozen (w1 := w2) hb2 c2_1 q1; replace c2_1 := keep_cell (w1 := w2) hb2 c2_1; replace q2 := keep_frozen (w1 := w2) hb2 c2_2 q2; replace c2_2 := keep_cell (w1 := w2) hb2 c2_2; replace c0_0 := keep_cell (w1 := w2) hb2 c0_0; replace c0_1 := keep_cell (w1 := w2) hb2 c0_1; replace c0_2 := keep_cell (w1 := w2) hb2 c0_2; replace c1_0 := keep_cell (w1 := w2) hb2 c1_0; replace c1_1 := keep_cell (w1 := w2) hb2 c1_1; replace c1_2 := keep_cell (w1 := w2) hb2 c1_2; replace Ha := Lib.hid (Ha.out.below hb2 (Nat.le_refl _)); replace Hb := Lib.hid (Hb.out.below hb2 (Nat.le_refl _)); replace Hc := Lib.hid (Hc.out.below hb2 (Nat.le_refl _)); replace Hd := Lib.hid (Hd.out.below hb2 (Nat.le_refl _)); (try (replace Hn := Lib.hid (Hn.out.below hb2 (Nat.le_refl _)))); (try (replace Ho := Lib.hid (Ho.out.below hb2 (Nat.le_refl _)))); have Hr := Lib.hid (ho1.mono B0.size); clear ho1; have Hs := Lib.hid (ho2.mono B0.size); clear ho2; obtain ⟨ar, cr, rfl, -, -, -, -, -⟩ := Hr.out.form; obtain ⟨aS, cS, rfl, -, -, -, -, -⟩ := Hs.out.form; replace B0 := B0.trans (hb2.mono B0.size); clear hb2))
  go_wp2
  exact bodyPost_ret (v := .agg #[.bool (ng z), .slice ar (limbs z.natAbs).length cr, .slice aS (limbs e).length cS]) (by simp [results, Try.results61, go_sem, c2_0, c2_1, c2_2]) rfl (retR_end BW (by omega) hg0 B0 Hr.out Hs.out HAP)

def DonePt (w : World) (v : Value) (e : Ending) (w' : World) : Prop := e = .returned (.tuple #[v, .bool true]) ∧ Below w.heap.size w w'
set_option maxHeartbeats 2000000 in
set_option maxRecDepth 100000 in
theorem l05Done_t (w : World) {lo hi : Nat} {v1 : Value} (n : Nat) (Z : Nat → Int) (D : Nat → Nat) (h1 : Vec w lo hi v1 n (fun i => qv (Z i) (D i))) (h : fineB D n = true) :
    Calls Try.prog 50 #[v1] w (DonePt w (v1)) := by
  have HC := l05Fine_c w n Z D h1
  rw [h] at HC
  have HK := Lib.hid HC
  clear HC h h1
  go_enter Try.func50, Try.ntmps50
  go_wp2_with fail
  refine HK.out.mono ?_
  rintro e w1 ⟨rfl, hb⟩
  go_wp2
  go_ret2
  exact ⟨rfl, hb⟩

def DonePf (w : World) (v : Value) (e : Ending) (w' : World) : Prop := e = .returned (.tuple #[v, .bool false]) ∧ Below w.heap.size w w'
set_option maxHeartbeats 2000000 in
set_option maxRecDepth 100000 in
theorem l05Done_f (w : World) {lo hi : Nat} {v1 : Value} (n : Nat) (Z : Nat → Int) (D : Nat → Nat) (h1 : Vec w lo hi v1 n (fun i => qv (Z i) (D i))) (h : fineB D n = false) :
    Calls Try.prog 50 #[v1] w (DonePf w (.slice none 0 0)) := by
  have HC := l05Fine_c w n Z D h1
  rw [h] at HC
  have HK := Lib.hid HC
  clear HC h h1
  go_enter Try.func50, Try.ntmps50
  go_wp2_with fail
  refine HK.out.mono ?_
  rintro e w1 ⟨rfl, hb⟩
  go_wp2
  go_ret2
  exact ⟨rfl, hb⟩

set_option maxHeartbeats 2000000 in
set_option maxRecDepth 100000 in
theorem l05Pair_f1 (w : World) {lo hi lo2 hi2 : Nat} {v1 v2 : Value} (n : Nat) (A : Nat → Rc) (m : Nat) (B : Nat → Rc) (h1 : Vec w lo hi v1 n A) (h2 : Vec w lo2 hi2 v2 m B) (hA : ¬ OkV n A) : Calls Try.prog 57 #[v1, v2] w (RetB w false) := by
  obtain ⟨ao, cap, rfl, f1, -, -⟩ := h1.form
  obtain ⟨ao2, cap2, rfl, f2, -, -⟩ := h2.form
  have H1 := Lib.hid h1
  have H2 := Lib.hid h2
  have HA := Lib.hid hA
  clear h1 h2 hA
  go_enter Try.func57, Try.ntmps57
  go_wp2_with fail
  refine (sIsVector_f _ n A H1.out HA.out).mono ?_
  rintro e w1 ⟨rfl, B1⟩
  go_wp2
  go_ret
  exact retB rfl B1

set_option maxHeartbeats 2000000 in
set_option maxRecDepth 100000 in
theorem l05Pair_f2 (w : World) {lo hi lo2 hi2 : Nat} {v1 v2 : Value} (n : Nat) (A : Nat → Rc) (m : Nat) (B : Nat → Rc) (h1 : Vec w lo hi v1 n A) (h2 : Vec w lo2 hi2 v2 m B) (hA : OkV n A) (hB : ¬ OkV m B) : Calls Try.prog 57 #[v1, v2] w (RetB w false) := by
  obtain ⟨ao, cap, rfl, f1, -, -⟩ := h1.form
  obtain ⟨ao2, cap2, rfl, f2, -, -⟩ := h2.form
  have H1 := Lib.hid h1
  have H2 := Lib.hid h2
  have HA := Lib.hid hA
  have HB := Lib.hid hB
  clear h1 h2 hA hB
  go_enter Try.func57, Try.ntmps57
  go_wp2_with fail
  refine (sIsVector_t _ n A H1.out HA.out).mono ?_
  rintro e w1 ⟨rfl, B1⟩
  go_wp2_with fail
  refine (sIsVector_f _ m B (H2.out.bel B1) HB.out).mono ?_
  rintro e w2 ⟨rfl, hb⟩
  replace B1 := B1.trans (hb.mono B1.size)
  clear hb
  go_wp2
  go_ret
  exact retB rfl B1

set_option maxHeartbeats 2000000 in
set_option maxRecDepth 100000 in
theorem l05Pair_f3 (w : World) {lo hi lo2 hi2 : Nat} {v1 v2 : Value} (n : Nat) (A : Nat → Rc) (m : Nat) (B : Nat → Rc) (h1 : Vec w lo hi v1 n A) (h2 : Vec w lo2 hi2 v2 m B) (hA : OkV n A) (hB : OkV m B) (hne : n ≠ m) : Calls Try.prog 57 #[v1, v2] w (RetB w false) := by
  obtain ⟨ao, cap, rfl, f1, -, -⟩ := h1.form
  obtain ⟨ao2, cap2, rfl, f2, -, -⟩ := h2.form
  have H1 := Lib.hid h1
  have H2 := Lib.hid h2
  have HA := Lib.hid hA
  have HB := Lib.hid hB
  have d0 : ((n : Int) == m) = false := beq_false_of_ne (by omega)
  clear h1 h2 hA hB hne
  go_enter Try.func57, Try.ntmps57
  go_wp2_with fail
  refine (sIsVector_t _ n A H1.out HA.out).mono ?_
  rintro e w1 ⟨rfl, B1⟩
  go_wp2_with fail
  refine (sIsVector_t _ m B (H2.out.bel B1) HB.out).mono ?_
  rintro e w2 ⟨rfl, hb⟩
  replace B1 := B1.trans (hb.mono B1.size)
  clear hb
  go_wp2
  go_ret
  exact retB rfl B1

set_option maxHeartbeats 2000000 in
set_option maxRecDepth 100000 in
theorem l05Pair_t (w : World) {lo hi lo2 hi2 : Nat} {v1 v2 : Value} (n : Nat) (A : Nat → Rc) (m : Nat) (B : Nat → Rc) (h1 : Vec w lo hi v1 n A) (h2 : Vec w lo2 hi2 v2 m B) (hA : OkV n A) (hB : OkV m B) (heq : n = m) : Calls Try.prog 57 #[v1, v2] w (RetB w true) := by
  obtain ⟨ao, cap, rfl, f1, -, -⟩ := h1.form
  obtain ⟨ao2, cap2, rfl, f2, -, -⟩ := h2.form
  have H1 := Lib.hid h1
  have H2 := Lib.hid h2
  have HA := Lib.hid hA
  have HB := Lib.hid hB
  subst heq
  clear h1 h2 hA hB
  go_enter Try.func57, Try.ntmps57
  go_wp2_with fail
  refine (sIsVector_t _ n A H1.out HA.out).mono ?_
  rintro e w1 ⟨rfl, B1⟩
  go_wp2_with fail
  refine (sIsVector_t _ n B (H2.out.bel B1) HB.out).mono ?_
  rintro e w2 ⟨rfl, hb⟩
  replace B1 := B1.trans (hb.mono B1.size)
  clear hb
  go_wp2
  go_ret
  exact retB rfl B1

theorem l05Pair_f (w : World) {lo hi lo2 hi2 : Nat} {v1 v2 : Value} (n : Nat) (A : Nat → Rc) (m : Nat) (B : Nat → Rc) (h1 : Vec w lo hi v1 n A) (h2 : Vec w lo2 hi2 v2 m B) (h : ¬ (OkV n A ∧ OkV m B ∧ n = m)) : Calls Try.prog 57 #[v1, v2] w (RetB w false) := by
  by_cases hA : OkV n A
  · by_cases hB : OkV m B
    · exact l05Pair_f3 w n A m B h1 h2 hA hB fun e => h ⟨hA, hB, e⟩
    · exact l05Pair_f2 w n A m B h1 h2 hA hB
  · exact l05Pair_f1 w n A m B h1 h2 hA

set_option maxHeartbeats 2000000 in
set_option maxRecDepth 100000 in
theorem sAddVectors_good (w : World) {lo hi lo2 hi2 : Nat} {v1 v2 : Value} (n : Nat) (X S Z : Nat → Int) (Y T D : Nat → Nat) (h1 : Vec w lo hi v1 n (fun i => qv (X i) (Y i))) (h2 : Vec w lo2 hi2 v2 n (fun i => qv (S i) (T i))) (hx : ∀ i, i < n → IsQ (X i) (Y i)) (hy : ∀ i, i < n → IsQ (S i) (T i)) (hn : n ≤ 24) (hz : ∀ i, i < n → Z i = (qadd (X i) (Y i) (S i) (T i)).1 ∧ D i = (qadd (X i) (Y i) (S i) (T i)).2) (c : Bool) (hc : c = fineB D n) :
    Calls Try.prog 30 #[v1, v2] w (RetVB w (if c then n else 0) (fun i => qv (Z i) (D i)) c) := by
  have okA : OkV n (fun i => qv (X i) (Y i)) := ⟨hn, fun i hi => okRc_of (hx i hi)⟩
  have okB : OkV n (fun i => qv (S i) (T i)) := ⟨hn, fun i hi => okRc_of (hy i hi)⟩
  have HP := Lib.hid (l05Pair_t w n _ n _ h1 h2 okA okB rfl)
  clear okA okB
  obtain ⟨A, h1⟩ := h1
  obtain ⟨B, h2⟩ := h2
  obtain ⟨ao, cap, rfl, -, -, -⟩ := h1.form
  obtain ⟨ao2, cap2, rfl, -, -, -⟩ := h2.form
  have H1 := Lib.hid h1
  have H2 := Lib.hid h2
  have HX := Lib.hid hx
  have HY := Lib.hid hy
  have HZ := Lib.hid hz
  have HC := Lib.hid hc
  clear h1 h2 hx hy hz hc
  go_enter Try.func30, Try.ntmps30
  go_wp2_with fail
  refine HP.out.mono ?_
  rintro e w0 ⟨rfl, hb0⟩
  have h0 := VecF.lit0 w0 (lo := w.heap.size) (fun _ => ⟨false, .slice none 0 0, .slice none 0 0⟩) (fun i => qv (Z i) (D i)) hb0.size
  have H0 := Lib.hid (h0.wider (Nat.le_refl _) (by simp) (Nat.le_refl _))
  clear h0 HP
  go_wp2
  go_loopw [6, 16] (fun v k wr => ∃ (i : Nat) (E : Nat → Ent), i ≤ n ∧ k = .int .i64 i ∧ Hid (VecF wr w.heap.size wr.heap.size v i E (fun i => qv (Z i) (D i))) ∧ Below w.heap.size w wr) (fun _ k _ => n - (intOf k).toNat)
  case atStart => exact ⟨0, _, by omega, rfl, H0.out, hb0.alloc hb0.size _⟩
  case round =>
    obtain ⟨i, E, hi, rfl, HF, hb⟩ := hrel
    by_cases hlt : i < n
    · obtain ⟨g, rfl, -, -, -⟩ := H1.out.addr hlt
      obtain ⟨g2, rfl, -, hg2, -⟩ := H2.out.addr hlt
      have t1 : (i : Int) < n := by omega
      have HA0 := Lib.hid (H1.out.bel hb)
      obtain ⟨au, cu, ad, cd, k1, k2, k3, o1, o2⟩ := HA0.out.elemq hlt
      have HOA := Lib.hid (And.intro o1 o2)
      clear HA0 o1 o2
      go_wp2_with fail
      have BX := below_al hb hb.size (.cells #[.bool (ng (X i)), Value.slice au (limbs (X i).natAbs).length cu, Value.slice ad (limbs (Y i)).length cd] 45)
      obtain ⟨c1, c2, c3⟩ : (wr.alloc (.cells #[.bool (ng (X i)), Value.slice au (limbs (X i).natAbs).length cu, Value.slice ad (limbs (Y i)).length cd] 45)).cell? ⟨wr.heap.size, 0, none⟩ = some (.bool (ng (X i))) ∧ (wr.alloc (.cells #[.bool (ng (X i)), Value.slice au (limbs (X i).natAbs).length cu, Value.slice ad (limbs (Y i)).length cd] 45)).cell? ⟨wr.heap.size, 1, none⟩ = some (.slice au (limbs (X i).natAbs).length cu) ∧ (wr.alloc (.cells #[.bool (ng (X i)), Value.slice au (limbs (X i).natAbs).length cu, Value.slice ad (limbs (Y i)).length cd] 45)).cell? ⟨wr.heap.size, 2, none⟩ = some (.slice ad (limbs (Y i)).length cd) := by simp [go_sem]
      clear k1 k2 k3
      have BOA0 := alloc_bel wr (.cells #[.bool (ng (X i)), Value.slice au (limbs (X i).natAbs).length cu, Value.slice ad (limbs (Y i)).length cd] 45)
      generalize wr.alloc (.cells #[.bool (ng (X i)), Value.slice au (limbs (X i).natAbs).length cu, Value.slice ad (limbs (Y i)).length cd] 45) = wx at *
      have BD := below_drew BX
      have BOA := below_drew BOA0
      clear BX BOA0
      have HB := Lib.hid (H2.out.bel BD)
      obtain ⟨bu, eu, bd, ed, m1, m2, m3, o1, o2⟩ := HB.out.elemq hlt
      have HE := Lib.hid (And.intro o1 o2)
      have HOB := Lib.hid (And.intro (HOA.out.1.below BOA (Nat.le_refl _)) (HOA.out.2.below BOA (Nat.le_refl _)))
      have HF2 := Lib.hid (HF.out.bel BOA)
      replace c1 := cell_drew c1
      replace c2 := cell_drew c2
      replace c3 := cell_drew c3
      have hlo : w.heap.size ≤ wx.drew.heap.size := BD.size
      clear HB HOA HF o1 o2
      go_region_held3 (fun w' => w'.cell? ⟨wr.heap.size, 0, none⟩ = some (.bool (ng (X i))) ∧ w'.cell? ⟨wr.heap.size, 1, none⟩ = some (.slice au (limbs (X i).natAbs).length cu) ∧ w'.cell? ⟨wr.heap.size, 2, none⟩ = some (.slice ad (limbs (Y i)).length cd) ∧ w'.cell? ⟨g2, i * 3, none⟩ = some (.bool (ng (S i))) ∧ w'.cell? ⟨g2, i * 3 + 1, none⟩ = some (.slice bu (limbs (S i).natAbs).length eu) ∧ w'.cell? ⟨g2, i * 3 + 2, none⟩ = some (.slice bd (limbs (T i)).length ed)) (first | exact ⟨c1, c2, c3, m1, m2, m3⟩ | exact ⟨keep_cell (alloc_bel _ _) c1, keep_cell (alloc_bel _ _) c2, keep_cell (alloc_bel _ _) c3, keep_cell (alloc_bel _ _) m1, keep_cell (alloc_bel _ _) m2, keep_cell (alloc_bel _ _) m3⟩ | go_keep)
        (first | (go_at_call 58; refine (l04Add_c _ lo lo _ _ (X i) (Y i) HOB.out.1 HOB.out.2 lo2 lo2 _ _ (S i) (T i) HE.out.1 HE.out.2 (.inl (HX.out i hlt)) (.inl (HY.out i hlt)) (Z i) (D i) (HZ.out i hlt).1 (HZ.out i hlt).2).mono ?_; rintro e w1 ⟨u, d, rfl, ho1, ho2, ha, hb1⟩; obtain ⟨ua, uc, rfl, -, -, -, -, -⟩ := ho1.form; obtain ⟨da, dc, rfl, -, -, -, -, -⟩ := ho2.form; have HN := Lib.hid (And.intro (And.intro ho1 ho2) (And.intro ha hb1)); clear ho1 ho2 ha; replace c1 := keep_cell hb1 c1; replace c2 := keep_cell hb1 c2; replace c3 := keep_cell hb1 c3; replace m1 := keep_cell hb1 m1; replace m2 := keep_cell hb1 m2; replace m3 := keep_cell hb1 m3; clear hb1)
               | (rw [if_pos (by rfl)]; refine app_new_wp _ _ rfl HF2.out hlo HN.out.2.2 rfl HN.out.1.1 HN.out.1.2 HN.out.2.1 (by omega) rfl rfl ?_; intro v' w2 hv hbl has; replace c1 := has _ _ (keep_cell (alloc_bel _ _) c1) (.inr (Nat.le_refl _)); replace c2 := has _ _ (keep_cell (alloc_bel _ _) c2) (.inr (Nat.le_refl _)); replace c3 := has _ _ (keep_cell (alloc_bel _ _) c3) (.inr (Nat.le_refl _)); replace m1 := has _ _ (keep_cell (alloc_bel _ _) m1) (.inl hg2); replace m2 := has _ _ (keep_cell (alloc_bel _ _) m2) (.inl hg2); replace m3 := has _ _ (keep_cell (alloc_bel _ _) m3) (.inl hg2); have HV := Lib.hid hv; have B2 := BD.trans hbl; clear hv hbl has HN HF2))
      obtain ⟨F, hF⟩ := HV.out
      have HVF := Lib.hid hF
      clear hF HV
      go_wp2
      go_roundw
      case rel => exact ⟨i + 1, F, by omega, by go_num, HVF.out, B2⟩
      case measure => (simp [intOf]) <;> omega
    · obtain rfl : i = n := by omega
      cases c with
      | true =>
        go_wp2_with fail
        refine (l05Done_t _ _ Z D ⟨_, HF.out⟩ HC.out.symm).mono ?_
        rintro e w1 ⟨rfl, hb1⟩
        have HV := Lib.hid (HF.out.bel hb1)
        have hs1 := hb1.size
        have B1 := hb.trans (hb1.mono hb.size)
        clear hb hb1 HF
        go_wp2
        go_ret2
        exact retVB ⟨_, HV.out.wider (Nat.le_refl _) hs1 (Nat.le_refl _)⟩ (Nat.le_refl _) rfl (fun _ _ => rfl) rfl B1
      | false =>
        go_wp2_with fail
        refine (l05Done_f _ _ Z D ⟨_, HF.out⟩ HC.out.symm).mono ?_
        rintro e w1 ⟨rfl, hb1⟩
        have B1 := hb.trans (hb1.mono hb.size)
        clear hb hb1 HF
        go_wp2
        go_ret2
        exact retVB (Vec.nil _ _ (Nat.le_refl _)) (Nat.le_refl _) rfl (fun _ _ => rfl) rfl B1

set_option maxHeartbeats 2000000 in
set_option maxRecDepth 100000 in
theorem sAddVectors_bad (w : World) {lo hi lo2 hi2 : Nat} {v1 v2 : Value} (n : Nat) (A : Nat → Rc) (m : Nat) (B : Nat → Rc) (h1 : Vec w lo hi v1 n A) (h2 : Vec w lo2 hi2 v2 m B) (R : Nat → Rc) (h : ¬ (OkV n A ∧ OkV m B ∧ n = m)) : Calls Try.prog 30 #[v1, v2] w (RetVB w 0 R false) := by
  have HP := Lib.hid (l05Pair_f w n A m B h1 h2 h)
  clear h h1 h2
  go_enter Try.func30, Try.ntmps30
  go_wp2_with fail
  refine HP.out.mono ?_
  rintro e w0 ⟨rfl, hb0⟩
  go_wp2
  go_ret2
  exact retVB (Vec.nil _ _ (Nat.le_refl _)) (Nat.le_refl _) rfl (fun _ _ => rfl) rfl hb0

theorem sAddVectors_c (w : World) {lo hi lo2 hi2 : Nat} {v1 v2 : Value} (n : Nat) (A : Nat → Rc) (m : Nat) (B : Nat → Rc) (h1 : Vec w lo hi v1 n A) (h2 : Vec w lo2 hi2 v2 m B) : Calls Try.prog 30 #[v1, v2] w (RetVB w (v2N qadd n A m B) (v2R qadd A B) (v2c qadd n A m B)) := by
  by_cases h : OkV n A ∧ OkV m B ∧ n = m
  · obtain ⟨hA, hB, rfl⟩ := h
    have e := v2c_yes (op := qadd) (n := n) (m := n) (A := A) (B := B) ⟨hA, hB, rfl⟩
    have := sAddVectors_good w n _ _ (fun i => (vop qadd A B i).1) _ _ (fun i => (vop qadd A B i).2) (h1.toQ hA) (h2.toQ hB) (fun i hi => (okV_q hA i hi).2) (fun i hi => (okV_q hB i hi).2) hA.1 (fun i _ => ⟨rfl, rfl⟩) _ rfl
    unfold v2N
    rw [e]; exact this
  · have e := v2c_no (op := qadd) h
    unfold v2N
    rw [e]; exact sAddVectors_bad w n A m B h1 h2 _ h

set_option maxHeartbeats 2000000 in
set_option maxRecDepth 100000 in
theorem sSubtractVectors_good (w : World) {lo hi lo2 hi2 : Nat} {v1 v2 : Value} (n : Nat) (X S Z : Nat → Int) (Y T D : Nat → Nat) (h1 : Vec w lo hi v1 n (fun i => qv (X i) (Y i))) (h2 : Vec w lo2 hi2 v2 n (fun i => qv (S i) (T i))) (hx : ∀ i, i < n → IsQ (X i) (Y i)) (hy : ∀ i, i < n → IsQ (S i) (T i)) (hn : n ≤ 24) (hz : ∀ i, i < n → Z i = (qsub (X i) (Y i) (S i) (T i)).1 ∧ D i = (qsub (X i) (Y i) (S i) (T i)).2) (c : Bool) (hc : c = fineB D n) :
    Calls Try.prog 32 #[v1, v2] w (RetVB w (if c then n else 0) (fun i => qv (Z i) (D i)) c) := by
  have okA : OkV n (fun i => qv (X i) (Y i)) := ⟨hn, fun i hi => okRc_of (hx i hi)⟩
  have okB : OkV n (fun i => qv (S i) (T i)) := ⟨hn, fun i hi => okRc_of (hy i hi)⟩
  have HP := Lib.hid (l05Pair_t w n _ n _ h1 h2 okA okB rfl)
  clear okA okB
  obtain ⟨A, h1⟩ := h1
  obtain ⟨B, h2⟩ := h2
  obtain ⟨ao, cap, rfl, -, -, -⟩ := h1.form
  obtain ⟨ao2, cap2, rfl, -, -, -⟩ := h2.form
  have H1 := Lib.hid h1
  have H2 := Lib.hid h2
  have HX := Lib.hid hx
  have HY := Lib.hid hy
  have HZ := Lib.hid hz
  have HC := Lib.hid hc
  clear h1 h2 hx hy hz hc
  go_enter Try.func32, Try.ntmps32
  go_wp2_with fail
  refine HP.out.mono ?_
  rintro e w0 ⟨rfl, hb0⟩
  have h0 := VecF.lit0 w0 (lo := w.heap.size) (fun _ => ⟨false, .slice none 0 0, .slice none 0 0⟩) (fun i => qv (Z i) (D i)) hb0.size
  have H0 := Lib.hid (h0.wider (Nat.le_refl _) (by simp) (Nat.le_refl _))
  clear h0 HP
  go_wp2
  go_loopw [6, 16] (fun v k wr => ∃ (i : Nat) (E : Nat → Ent), i ≤ n ∧ k = .int .i64 i ∧ Hid (VecF wr w.heap.size wr.heap.size v i E (fun i => qv (Z i) (D i))) ∧ Below w.heap.size w wr) (fun _ k _ => n - (intOf k).toNat)
  case atStart => exact ⟨0, _, by omega, rfl, H0.out, hb0.alloc hb0.size _⟩
  case round =>
    obtain ⟨i, E, hi, rfl, HF, hb⟩ := hrel
    by_cases hlt : i < n
    · obtain ⟨g, rfl, -, -, -⟩ := H1.out.addr hlt
      obtain ⟨g2, rfl, -, hg2, -⟩ := H2.out.addr hlt
      have t1 : (i : Int) < n := by omega
      have HA0 := Lib.hid (H1.out.bel hb)
      obtain ⟨au, cu, ad, cd, k1, k2, k3, o1, o2⟩ := HA0.out.elemq hlt
      have HOA := Lib.hid (And.intro o1 o2)
      clear HA0 o1 o2
      go_wp2_with fail
      have BX := below_al hb hb.size (.cells #[.bool (ng (X i)), Value.slice au (limbs (X i).natAbs).length cu, Value.slice ad (limbs (Y i)).length cd] 45)
      obtain ⟨c1, c2, c3⟩ : (wr.alloc (.cells #[.bool (ng (X i)), Value.slice au (limbs (X i).natAbs).length cu, Value.slice ad (limbs (Y i)).length cd] 45)).cell? ⟨wr.heap.size, 0, none⟩ = some (.bool (ng (X i))) ∧ (wr.alloc (.cells #[.bool (ng (X i)), Value.slice au (limbs (X i).natAbs).length cu, Value.slice ad (limbs (Y i)).length cd] 45)).cell? ⟨wr.heap.size, 1, none⟩ = some (.slice au (limbs (X i).natAbs).length cu) ∧ (wr.alloc (.cells #[.bool (ng (X i)), Value.slice au (limbs (X i).natAbs).length cu, Value.slice ad (limbs (Y i)).length cd] 45)).cell? ⟨wr.heap.size, 2, none⟩ = some (.slice ad (limbs (Y i)).length cd) := by simp [go_sem]
      clear k1 k2 k3
      have BOA0 := alloc_bel wr (.cells #[.bool (ng (X i)), Value.slice au (limbs (X i).natAbs).length cu, Value.slice ad (limbs (Y i)).length cd] 45)
      generalize wr.alloc (.cells #[.bool (ng (X i)), Value.slice au (limbs (X i).natAbs).length cu, Value.slice ad (limbs (Y i)).length cd] 45) = wx at *
      have BD := below_drew BX
      have BOA := below_drew BOA0
      clear BX BOA0
      have HB := Lib.hid (H2.out.bel BD)
      obtain ⟨bu, eu, bd, ed, m1, m2, m3, o1, o2⟩ := HB.out.elemq hlt
      have HE := Lib.hid (And.intro o1 o2)
      have HOB := Lib.hid (And.intro (HOA.out.1.below BOA (Nat.le_refl _)) (HOA.out.2.below BOA (Nat.le_refl _)))
      have HF2 := Lib.hid (HF.out.bel BOA)
      replace c1 := cell_drew c1
      replace c2 := cell_drew c2
      replace c3 := cell_drew c3
      have hlo : w.heap.size ≤ wx.drew.heap.size := BD.size
      clear HB HOA HF o1 o2
      go_region_held3 (fun w' => w'.cell? ⟨wr.heap.size, 0, none⟩ = some (.bool (ng (X i))) ∧ w'.cell? ⟨wr.heap.size, 1, none⟩ = some (.slice au (limbs (X i).natAbs).length cu) ∧ w'.cell? ⟨wr.heap.size, 2, none⟩ = some (.slice ad (limbs (Y i)).length cd) ∧ w'.cell? ⟨g2, i * 3, none⟩ = some (.bool (ng (S i))) ∧ w'.cell? ⟨g2, i * 3 + 1, none⟩ = some (.slice bu (limbs (S i).natAbs).length eu) ∧ w'.cell? ⟨g2, i * 3 + 2, none⟩ = some (.slice bd (limbs (T i)).length ed)) (first | exact ⟨c1, c2, c3, m1, m2, m3⟩ | exact ⟨keep_cell (alloc_bel _ _) c1, keep_cell (alloc_bel _ _) c2, keep_cell (alloc_bel _ _) c3, keep_cell (alloc_bel _ _) m1, keep_cell (alloc_bel _ _) m2, keep_cell (alloc_bel _ _) m3⟩ | go_keep)
        (first | (go_at_call 61; refine (l05Sub_c _ lo lo _ _ (X i) (Y i) HOB.out.1 HOB.out.2 lo2 lo2 _ _ (S i) (T i) HE.out.1 HE.out.2 (.inl (HX.out i hlt)) (.inl (HY.out i hlt)) (Z i) (D i) (HZ.out i hlt).1 (HZ.out i hlt).2).mono ?_; rintro e w1 ⟨u, d, rfl, ho1, ho2, ha, hb1⟩; obtain ⟨ua, uc, rfl, -, -, -, -, -⟩ := ho1.form; obtain ⟨da, dc, rfl, -, -, -, -, -⟩ := ho2.form; have HN := Lib.hid (And.intro (And.intro ho1 ho2) (And.intro ha hb1)); clear ho1 ho2 ha; replace c1 := keep_cell hb1 c1; replace c2 := keep_cell hb1 c2; replace c3 := keep_cell hb1 c3; replace m1 := keep_cell hb1 m1; replace m2 := keep_cell hb1 m2; replace m3 := keep_cell hb1 m3; clear hb1)
               | (rw [if_pos (by rfl)]; refine app_new_wp _ _ rfl HF2.out hlo HN.out.2.2 rfl HN.out.1.1 HN.out.1.2 HN.out.2.1 (by omega) rfl rfl ?_; intro v' w2 hv hbl has; replace c1 := has _ _ (keep_cell (alloc_bel _ _) c1) (.inr (Nat.le_refl _)); replace c2 := has _ _ (keep_cell (alloc_bel _ _) c2) (.inr (Nat.le_refl _)); replace c3 := has _ _ (keep_cell (alloc_bel _ _) c3) (.inr (Nat.le_refl _)); replace m1 := has _ _ (keep_cell (alloc_bel _ _) m1) (.inl hg2); replace m2 := has _ _ (keep_cell (alloc_bel _ _) m2) (.inl hg2); replace m3 := has _ _ (keep_cell (alloc_bel _ _) m3) (.inl hg2); have HV := Lib.hid hv; have B2 := BD.trans hbl; clear hv hbl has HN HF2))
      obtain ⟨F, hF⟩ := HV.out
      have HVF := Lib.hid hF
      clear hF HV
      go_wp2
      go_roundw
      case rel => exact ⟨i + 1, F, by omega, by go_num, HVF.out, B2⟩
      case measure => (simp [intOf]) <;> omega
    · obtain rfl : i = n := by omega
      cases c with
      | true =>
        go_wp2_with fail
        refine (l05Done_t _ _ Z D ⟨_, HF.out⟩ HC.out.symm).mono ?_
        rintro e w1 ⟨rfl, hb1⟩
        have HV := Lib.hid (HF.out.bel hb1)
        have hs1 := hb1.size
        have B1 := hb.trans (hb1.mono hb.size)
        clear hb hb1 HF
        go_wp2
        go_ret2
        exact retVB ⟨_, HV.out.wider (Nat.le_refl _) hs1 (Nat.le_refl _)⟩ (Nat.le_refl _) rfl (fun _ _ => rfl) rfl B1
      | false =>
        go_wp2_with fail
        refine (l05Done_f _ _ Z D ⟨_, HF.out⟩ HC.out.symm).mono ?_
        rintro e w1 ⟨rfl, hb1⟩
        have B1 := hb.trans (hb1.mono hb.size)
        clear hb hb1 HF
        go_wp2
        go_ret2
        exact retVB (Vec.nil _ _ (Nat.le_refl _)) (Nat.le_refl _) rfl (fun _ _ => rfl) rfl B1

set_option maxHeartbeats 2000000 in
set_option maxRecDepth 100000 in
theorem sSubtractVectors_bad (w : World) {lo hi lo2 hi2 : Nat} {v1 v2 : Value} (n : Nat) (A : Nat → Rc) (m : Nat) (B : Nat → Rc) (h1 : Vec w lo hi v1 n A) (h2 : Vec w lo2 hi2 v2 m B) (R : Nat → Rc) (h : ¬ (OkV n A ∧ OkV m B ∧ n = m)) : Calls Try.prog 32 #[v1, v2] w (RetVB w 0 R false) := by
  have HP := Lib.hid (l05Pair_f w n A m B h1 h2 h)
  clear h h1 h2
  go_enter Try.func32, Try.ntmps32
  go_wp2_with fail
  refine HP.out.mono ?_
  rintro e w0 ⟨rfl, hb0⟩
  go_wp2
  go_ret2
  exact retVB (Vec.nil _ _ (Nat.le_refl _)) (Nat.le_refl _) rfl (fun _ _ => rfl) rfl hb0

theorem sSubtractVectors_c (w : World) {lo hi lo2 hi2 : Nat} {v1 v2 : Value} (n : Nat) (A : Nat → Rc) (m : Nat) (B : Nat → Rc) (h1 : Vec w lo hi v1 n A) (h2 : Vec w lo2 hi2 v2 m B) : Calls Try.prog 32 #[v1, v2] w (RetVB w (v2N qsub n A m B) (v2R qsub A B) (v2c qsub n A m B)) := by
  by_cases h : OkV n A ∧ OkV m B ∧ n = m
  · obtain ⟨hA, hB, rfl⟩ := h
    have e := v2c_yes (op := qsub) (n := n) (m := n) (A := A) (B := B) ⟨hA, hB, rfl⟩
    have := sSubtractVectors_good w n _ _ (fun i => (vop qsub A B i).1) _ _ (fun i => (vop qsub A B i).2) (h1.toQ hA) (h2.toQ hB) (fun i hi => (okV_q hA i hi).2) (fun i hi => (okV_q hB i hi).2) hA.1 (fun i _ => ⟨rfl, rfl⟩) _ rfl
    unfold v2N
    rw [e]; exact this
  · have e := v2c_no (op := qsub) h
    unfold v2N
    rw [e]; exact sSubtractVectors_bad w n A m B h1 h2 _ h

end Go.Proofs.Ytcmhpdhcpkhejaa
