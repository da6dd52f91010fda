/- The laws' own helpers on slices of fractions: eqRatS, toRatS, szRatS. -/
import Derived.Test.YtcmhpdhcpkhejaaVecM
import Derived.Test.YtcmhpdhcpkhejaaLawR
namespace Go.Proofs.Ytcmhpdhcpkhejaa
open Go.RowKit Lm

theorem VecF.drew {w : World} {lo hi n : Nat} {v : Value} {E : Nat → Ent} {R : Nat → Rc} (h : VecF w lo hi v n E R) : VecF w.drew lo hi v n E R := h.same (Nat.le_refl _) fun _ _ _ => rfl

set_option maxHeartbeats 1000000 in
theorem eqRatS_c (w : World) {lo hi lo2 hi2 : Nat} {v1 v2 : Value} (n : Nat) (R : Nat → Rc) (h1 : Vec w lo hi v1 n R) (h2 : Vec w lo2 hi2 v2 n R) :
    Calls Try.prog 15 #[v1, v2] w (RetB w true) := by
  obtain ⟨E, h1⟩ := h1
  obtain ⟨F, h2⟩ := h2
  obtain ⟨ao, cap, rfl, f1, -, -⟩ := h1.form
  obtain ⟨ao2, cap2, rfl, -, -, -⟩ := h2.form
  have H1 := Lib.hid h1
  have H2 := Lib.hid h2
  clear h1 h2
  go_enter Try.func15, Try.ntmps15
  go_wp2
  go_loopw [5] (fun k' wr => ∃ (i : Nat), i ≤ n ∧ k' = .int .i64 i ∧ Below w.heap.size w wr) (fun k _ => n - (intOf k).toNat)
  case atStart => exact ⟨0, by omega, rfl, Below.refl _ _⟩
  case round =>
    obtain ⟨i, hi, rfl, hb⟩ := hrel
    by_cases hlt : i < n
    · obtain ⟨g, rfl, -, -, -⟩ := H1.out.addr hlt
      obtain ⟨g2, rfl, -, -, -⟩ := H2.out.addr hlt
      have HA := Lib.hid (H1.out.bel hb).drew
      have HB := Lib.hid (H2.out.bel hb).drew
      obtain ⟨k1, k2, k3⟩ := HA.out.cells hlt
      obtain ⟨m1, m2, m3⟩ := HB.out.cells hlt
      have t1 : (i : Int) < n := by omega
      have e1 := HA.out.ent i hlt
      have e2 := HB.out.ent i hlt
      have HE := Lib.hid (And.intro e1 e2)
      clear e1 e2 HA HB
      have BD := below_drew hb
      clear hb
      go_wp2_with fail
      go_region_held3 (fun w' => w'.cell? ⟨g, i * 3, none⟩ = some (.bool (R i).s) ∧ w'.cell? ⟨g, i * 3 + 1, none⟩ = some (E i).u ∧ w'.cell? ⟨g, i * 3 + 2, none⟩ = some (E i).d ∧ w'.cell? ⟨g2, i * 3, none⟩ = some (.bool (R i).s) ∧ w'.cell? ⟨g2, i * 3 + 1, none⟩ = some (F i).u ∧ w'.cell? ⟨g2, i * 3 + 2, none⟩ = some (F i).d) (first | exact ⟨k1, k2, k3, m1, m2, m3⟩ | go_keep)
        (first | (go_at_call 28; refine (eqRat_c _ (R i).s (R i).xs (R i).ys HE.out.1.num HE.out.1.den HE.out.2.num HE.out.2.den).mono ?_; rintro e w1 ⟨rfl, hb1⟩; replace k1 := keep_cell hb1 k1; replace k2 := keep_cell hb1 k2; replace k3 := keep_cell hb1 k3; replace m1 := keep_cell hb1 m1; replace m2 := keep_cell hb1 m2; replace m3 := keep_cell hb1 m3; have B1 := BD.trans (hb1.mono BD.size); clear hb1))
      go_wp2
      go_roundw
      case rel => exact ⟨i + 1, by omega, by go_num, B1⟩
      case measure => (simp [intOf]) <;> omega
    · obtain rfl : i = n := by omega
      go_wp2
      go_ret
      exact retB rfl hb

/-- A slice of the laws' fractions that came in: element i lies in cells E i and reads as R i. -/
structure RdV (w : World) (v : Value) (n : Nat) (E : Nat → Ent) (R : Nat → Rc) : Prop where
  len : n ≤ 9223372036854775807
  form : ∃ ao cap, v = .slice ao n cap
  cell : ∀ i, i < n → ∃ b off cap, v = .slice (some ⟨b, off, none⟩) n cap ∧ b < w.heap.size ∧ w.cell? ⟨b, off + i * 3, none⟩ = some (.bool (R i).s) ∧ w.cell? ⟨b, off + i * 3 + 1, none⟩ = some (E i).u ∧ w.cell? ⟨b, off + i * 3 + 2, none⟩ = some (E i).d
  ent : ∀ i, i < n → Rd2 w (E i).u (E i).d (R i).xs (R i).ys ∧ (R i).xs.length ≤ 9223372036854775807 ∧ (R i).ys.length ≤ 9223372036854775807
theorem RdV.below {w w' : World} {v : Value} {n : Nat} {E : Nat → Ent} {R : Nat → Rc} (h : RdV w v n E R) (hb : Below w.heap.size w w') : RdV w' v n E R := by
  refine ⟨h.len, h.form, fun i hi => ?_, fun i hi => ?_⟩
  · obtain ⟨b, off, cap, h1, h2, h3, h4, h5⟩ := h.cell i hi
    exact ⟨b, off, cap, h1, Nat.lt_of_lt_of_le h2 hb.size, keep_cell hb h3, keep_cell hb h4, keep_cell hb h5⟩
  · obtain ⟨h1, h2⟩ := h.ent i hi
    exact ⟨h1.below hb, h2⟩

def RetSz (w : World) (n : Nat) (R : Nat → Rc) (l : Int) (e : Ending) (w' : World) : Prop := ∃ m : Int, e = .returned (.int .i64 m) ∧ m ≤ l ∧ (0 ≤ m → m + sumK R 0 n = l) ∧ Below w.heap.size w w'
theorem sumK_ge (R : Nat → Rc) (n : Nat) : (n : Int) ≤ sumK R 0 n := by
  induction n with
  | zero => exact Int.le_refl _
  | succ n ih => simp only [sumK]; omega

set_option maxHeartbeats 2000000 in
theorem szRatS_c (w : World) (v1 : Value) (n : Nat) (E : Nat → Ent) (R : Nat → Rc) (l : Int) (h1 : RdV w v1 n E R) (hl0 : 0 ≤ l) (hl1 : l ≤ 1048576) :
    Calls Try.prog 11 #[v1, .int .i64 l] w (RetSz w n R l) := by
  obtain ⟨ao, cap, rfl⟩ := h1.form
  have f1 := h1.len
  have H1 := Lib.hid h1
  clear h1
  by_cases hneg : l - (n : Int) < 0
  · go_enter Try.func11, Try.ntmps11
    go_wp2
    go_ret
    exact ⟨-1, rfl, by omega, by omega, Below.refl _ _⟩
  · have d0 : decide (l - (n : Int) < 0) = false := decide_eq_false hneg
    go_enter Try.func11, Try.ntmps11
    go_wp2
    go_loopw [1, 5] (fun kk k' wr => ∃ (i : Nat) (m : Int), i ≤ n ∧ k' = .int .i64 i ∧ kk = .int .i64 m ∧ 0 ≤ m ∧ Hid (m + (n - i) + sumK R 0 i = l) ∧ Below w.heap.size w wr) (fun _ k _ => n - (intOf k).toNat)
    case atStart => exact ⟨0, l - n, by omega, rfl, rfl, by omega, by unfold Hid; simp [sumK], Below.refl _ _⟩
    case round =>
      obtain ⟨i, m, hi, rfl, rfl, hm, HM, hb⟩ := hrel
      have hmm : m ≤ 1048576 := by
        have := HM.out; have := sumK_ge R i; omega
      by_cases hlt : i < n
      · obtain ⟨b, off, cap2, hv, hbs, c1, c2, c3⟩ := (H1.out.below hb).cell i hlt
        cases hv
        obtain ⟨⟨r1, r2⟩, l1, l2⟩ := (H1.out.below hb).ent i hlt
        obtain ⟨p1, q1, hu, -⟩ := r1
        obtain ⟨p2, q2, hd, -⟩ := r2
        rw [hu] at c2
        rw [hd] at c3
        clear hu hd
        have t1 : (i : Int) < n := by omega
        have HS : Hid (sumK R 0 (i + 1) = sumK R 0 i + 1 + ((R i).xs.length : Int) + ((R i).ys.length : Int)) := rfl
        by_cases h1 : m - ((R i).xs.length : Int) < 0
        · go_wp2_with fail
          refine (szRat_x1 _ (R i).s _ _ q1 p1 q2 p2 m h1 hm l1 hmm).mono ?_
          rintro e w1 ⟨rfl, hb1⟩
          have B1 := hb.trans (hb1.mono hb.size)
          clear hb1 hb
          go_wp2
          go_ret
          exact ⟨-1, rfl, by omega, by omega, B1⟩
        · by_cases h2 : m - ((R i).xs.length : Int) - ((R i).ys.length : Int) < 0
          · go_wp2_with fail
            refine (szRat_x2 _ (R i).s _ _ q1 p1 q2 p2 m (by omega) h2 hm l2 hmm).mono ?_
            rintro e w1 ⟨rfl, hb1⟩
            have B1 := hb.trans (hb1.mono hb.size)
            clear hb1 hb
            go_wp2
            go_ret
            exact ⟨-1, rfl, by omega, by omega, B1⟩
          · have d1 : decide (m - ((R i).xs.length : Int) - ((R i).ys.length : Int) < 0) = false := decide_eq_false h2
            go_wp2_with fail
            refine (szRat_ok _ (R i).s _ _ q1 p1 q2 p2 m (by omega) (by omega) hmm).mono ?_
            rintro e w1 ⟨rfl, hb1⟩
            have B1 := hb.trans (hb1.mono hb.size)
            clear hb1 hb
            go_wp2
            go_roundw
            case rel => exact ⟨i + 1, _, by omega, by go_num, rfl, by omega, by unfold Hid; rw [HS.out]; have := HM.out; omega, B1⟩
            case measure => (simp [intOf]) <;> omega
      · obtain rfl : i = n := by omega
        go_wp2
        go_ret
        exact ⟨m, rfl, by have := HM.out; have := sumK_ge R i; omega, fun _ => by have := HM.out; omega, hb⟩

set_option maxHeartbeats 2000000 in
theorem toRatS_c (w : World) (v1 : Value) (n : Nat) (E : Nat → Ent) (R : Nat → Rc) (h1 : RdV w v1 n E R) (hk : sumK R 0 n ≤ 1048576) :
    Calls Try.prog 13 #[v1] w (RetVec w n R) := by
  obtain ⟨ao, cap, rfl⟩ := h1.form
  have f1 := sumK_ge R n
  have H1 := Lib.hid h1
  clear h1
  go_enter Try.func13, Try.ntmps13
  go_wp2_with (at_make; refine make_vec rfl _ _ rfl _ _ _ _ n rfl rfl (by omega) (by omega) (by omega) ?_)
  intro w0 ho hb0
  have HO := Lib.hid ho
  clear ho
  go_wp2_with fail
  go_loopw [4] (fun k wr => ∃ (i : Nat) (F : Nat → Ent), i ≤ n ∧ k = .int .i64 i ∧ Hid (VecF wr w.heap.size wr.heap.size (.slice (some ⟨w.heap.size, 0, none⟩) n n) n F (fun j => if j < i then R j else ⟨false, [], []⟩)) ∧ Below w.heap.size w wr) (fun k _ => n - (intOf k).toNat)
  case atStart => exact ⟨0, _, by omega, rfl, HO.out.congr fun i hi => by simp, hb0⟩
  case round =>
    obtain ⟨i, F, hi, rfl, HF, hb⟩ := hrel
    by_cases hlt : i < n
    · obtain ⟨b, off, cap2, hv, hbs, c1, c2, c3⟩ := (H1.out.below hb).cell i hlt
      cases hv
      have he := (H1.out.below hb).ent i hlt
      have HE := Lib.hid he.1
      clear he
      have hm2 := sumK_mono R 0 (i := i + 1) (j := n) (by omega)
      simp only [sumK] at hm2
      have hm1 := sumK_mono R 0 (i := 0) (j := i) (by omega)
      simp only [sumK] at hm1
      have t1 : (i : Int) < n := by omega
      go_wp2_with fail
      refine (toRat_c _ _ _ (R i).s (R i).xs (R i).ys HE.out (by omega) (by omega)).mono ?_
      rintro e w1 ⟨u, d, rfl, ho1, ho2, ha, hb1⟩
      have HG := Lib.hid (HF.out.bel hb1)
      obtain ⟨k1, k2, k3⟩ := HG.out.cells hlt
      have z1 := HG.out.frozen hlt (i * 3)
      have z2 := HG.out.frozen hlt (i * 3 + 1)
      have z3 := HG.out.frozen hlt (i * 3 + 2)
      have hs1 := hb1.size
      have hs := hb.size
      have B1 := hb.trans (hb1.mono hb.size)
      have hst := HG.out.store3 (e := ⟨(R i).s, u, d⟩) (r := R i) hlt ⟨rfl, ho1.mono hs, ho2.mono hs, fun k hk => (ho1.lt k hk).2, fun k hk => (ho2.lt k hk).2⟩ ha (fun k hk => (ho1.lt k hk).1) (fun k hk => (ho2.lt k hk).1)
      have HST := Lib.hid hst
      clear hst
      obtain ⟨ua, uc, rfl, -, -, -, -, -⟩ := ho1.form
      obtain ⟨da, dc, rfl, -, -, -, -, -⟩ := ho2.form
      have HO1 := Lib.hid (And.intro ho1 ho2)
      clear ho1 ho2 hb1 ha c1 c2 c3 HF HG HE
      go_wp2
      go_roundw
      case rel =>
        refine ⟨i + 1, _, by omega, by go_num, (HST.out.1.wider (Nat.le_refl _) (by simp [World.setCell]) (Nat.le_refl _)).congr fun j hj => ?_, ((B1.setCell (Nat.le_refl _) _).setCell (Nat.le_refl _) _).setCell (Nat.le_refl _) _⟩
        by_cases hji : j = i
        · subst hji
          simp only [if_true, Nat.lt_succ_self]
        · by_cases hlj : j < i
          · simp only [hji, hlj, if_true, if_false, show j < i + 1 by omega]
          · simp only [hji, hlj, if_false, show ¬ j < i + 1 by omega]
      case measure => (simp [intOf]) <;> omega
    · obtain rfl : i = n := by omega
      have HV := Lib.hid (HF.out.congr (R' := R) fun j hj => if_pos hj)
      go_wp2
      go_ret
      exact retVec ⟨_, HV.out⟩ (Nat.le_refl _) rfl (fun _ _ => rfl) hb

end Go.Proofs.Ytcmhpdhcpkhejaa
