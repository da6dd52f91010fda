/- The laws' own helpers on slices of fractions: markRatS, heldRatS. -/
import Derived.Test.YtcmhpdhcpkhejaaVec
import Derived.Test.YtcmhpdhcpkhejaaBigA
import Derived.Deep.RegionHeld3
namespace Go.Proofs.Ytcmhpdhcpkhejaa
open Go.RowKit Lm

/-- The count at element i. -/
def sumK (R : Nat → Rc) (k : Int) : Nat → Int
  | 0 => k
  | i + 1 => sumK R k i + 1 + (R i).xs.length + (R i).ys.length
theorem sumK_mono (R : Nat → Rc) (k : Int) {i j : Nat} (h : i ≤ j) : sumK R k i ≤ sumK R k j := by
  induction j with
  | zero => obtain rfl : i = 0 := by omega
            exact Int.le_refl _
  | succ j ih =>
    by_cases hj : i ≤ j
    · have := ih hj; simp only [sumK]; omega
    · obtain rfl : i = j + 1 := by omega
      exact Int.le_refl _
/-- Element j, marked. -/
def mkR (R : Nat → Rc) (k : Int) (j : Nat) : Rc := ⟨sumK R k j % 3 == 0, iota (sumK R k j + 1) (R j).xs.length, iota (sumK R k j + 1 + (R j).xs.length) (R j).ys.length⟩
def RetMV (w : World) (lo hi : Nat) (v : Value) (n : Nat) (R : Nat → Rc) (k : Int) (e : Ending) (w' : World) : Prop := ∃ m : Int, sumK R k n = m ∧ e = .returned (.int .i64 m) ∧ Vec w' lo hi v n (mkR R k) ∧ Within lo hi w w'

set_option maxHeartbeats 1000000 in
theorem markRatS_c (w : World) (lo hi : Nat) (v1 : Value) (n : Nat) (R : Nat → Rc) (k : Int) (h1 : Vec w lo hi v1 n R) (hk0 : 0 ≤ k) (hk1 : sumK R k n ≤ 17592186044415) :
    Calls Try.prog 18 #[v1, .int .i64 k] w (RetMV w lo hi v1 n R k) := by
  obtain ⟨E, h1⟩ := h1
  obtain ⟨ao, cap, rfl, f1, -, -⟩ := h1.form
  have H1 := Lib.hid h1
  clear h1
  go_enter Try.func18, Try.ntmps18
  go_wp2
  go_loopw [1, 5] (fun kk k' wr => ∃ (i : Nat) (F : Nat → Ent), i ≤ n ∧ k' = .int .i64 i ∧ kk = .int .i64 (sumK R k i) ∧ Hid (VecF wr lo hi (.slice ao n cap) n F (fun j => if j < i then mkR R k j else R j)) ∧ Hid (Within lo hi w wr)) (fun _ k _ => n - (intOf k).toNat)
  case atStart => exact ⟨0, E, by omega, rfl, rfl, H1.out.congr fun i hi => by simp, Within.refl _ _ _⟩
  case round =>
    obtain ⟨i, F, hi, rfl, rfl, HO, HW⟩ := hrel
    by_cases hlt : i < n
    · obtain ⟨g, rfl, hlg, hgs, -⟩ := HO.out.addr hlt
      have HO := Lib.hid HO.out
      have k1 := (HO.out.cells hlt).1
      have k2 := (HO.out.cells hlt).2.1
      have k3 := (HO.out.cells hlt).2.2
      have z1 := HO.out.frozen hlt (i * 3)
      have hm1 := sumK_mono R k (i := 0) (j := i) (by omega)
      have hm2 := sumK_mono R k (i := i + 1) (j := n) (by omega)
      simp only [sumK] at hm1 hm2
      have t1 : (i : Int) < n := by omega
      obtain ⟨q, hq⟩ : ∃ q, q = sumK R k i := ⟨_, rfl⟩
      rw [← hq] at hm1 hm2 ⊢
      have HQ := Lib.hid hq
      clear hq
      have hst := HO.out.store0 hlt (q % 3 == 0)
      have HST := Lib.hid hst.1
      have HG0 := Lib.hid hst.2
      clear hst
      have c3 := (HST.out.cells hlt).2.2
      simp only [if_true] at c3
      clear k3
      go_wp2_with fail
      have he := HST.out.ent i hlt
      simp only [if_true, Nat.lt_irrefl, if_false] at he
      have HE := Lib.hid he
      clear he
      refine (markI_c _ lo (F i).u (R i).xs (q + 1) HE.out.num (by omega) (by omega) (by omega)).mono ?_
      rintro e w1 ⟨m, hm, rfl, ho, hg⟩
      have c4 := hg.cell c3 (fun e => (HST.out.one i hlt).1 g rfl (by simpa using e.symm))
      have HM := Lib.hid hm
      have hmb : 0 ≤ m ∧ m + (R i).ys.length ≤ 17592186044415 := by omega
      clear hm k1 k2 z1 c3
      have HA := Lib.hid (HST.out.markU hlt (by simpa using ho) (by simpa using hg))
      have HU := Lib.hid hg
      clear ho hg
      go_wp2_with fail
      have he2 := HA.out.ent i hlt
      simp only [if_true, Nat.lt_irrefl, if_false] at he2
      have HE2 := Lib.hid he2
      clear he2
      refine (markI_c _ lo (F i).d (R i).ys m HE2.out.den (by omega) (by omega) (by omega)).mono ?_
      rintro e w2 ⟨m2, hm, rfl, ho, hg⟩
      have HM2 := Lib.hid hm
      clear hm c4
      have HA2 := Lib.hid (HA.out.markD hlt (by simpa using ho) (by simpa using hg))
      have HD := Lib.hid hg
      clear ho hg
      go_wp2
      go_roundw
      case rel =>
        refine ⟨i + 1, _, by omega, by go_num, by congr 1; rw [sumK, ← HQ.out, ← HM2.out, ← HM.out], HA2.out.congr fun j hj => ?_, ?_⟩
        · by_cases hji : j = i
          · subst hji
            simp only [if_true, Nat.lt_irrefl, if_false, Nat.lt_succ_self]
            unfold mkR
            rw [← HQ.out, ← HM.out]
          · by_cases hlj : j < i
            · simp only [hji, hlj, if_true, if_false, show j < i + 1 by omega]
            · simp only [hji, hlj, if_false, show ¬ j < i + 1 by omega]
        · exact ((HW.out.grown HG0.out fun k hk => by cases hk; exact ⟨hlg, HO.out.vhi g rfl⟩).grown HU.out fun k hk => ⟨((HO.out.ent i hlt).num.lt k hk).1, (HO.out.ent i hlt).uhi k hk⟩).grown HD.out fun k hk => ⟨((HO.out.ent i hlt).den.lt k hk).1, (HO.out.ent i hlt).dhi k hk⟩
      case measure => (simp [intOf]) <;> omega
    · obtain rfl : i = n := by omega
      have HV := Lib.hid (HO.out.congr (R' := mkR R k) fun j hj => if_pos hj)
      go_wp2
      go_ret
      exact ⟨_, rfl, rfl, ⟨_, HV.out⟩, HW.out⟩

set_option maxHeartbeats 1000000 in
theorem heldRatS_c (w : World) (lo hi : Nat) (v1 : Value) (n : Nat) (R : Nat → Rc) (k m : Int) (h1 : Vec w lo hi v1 n (mkR R k)) (hk0 : 0 ≤ k) (hk1 : m ≤ 17592186044415) (hm : sumK R k n = m) :
    Calls Try.prog 19 #[v1, .int .i64 k] w (RetI w m) := by
  obtain ⟨E, h1⟩ := h1
  obtain ⟨ao, cap, rfl, f1, -, -⟩ := h1.form
  have H1 := Lib.hid h1
  have HZ := Lib.hid hm
  have hk2 : sumK R k n ≤ 17592186044415 := by omega
  clear h1 hm
  go_enter Try.func19, Try.ntmps19
  go_wp2
  go_loopw [1, 5] (fun kk k' wr => ∃ (i : Nat), i ≤ n ∧ k' = .int .i64 i ∧ kk = .int .i64 (sumK R k i) ∧ Below w.heap.size w wr) (fun _ k _ => n - (intOf k).toNat)
  case atStart => exact ⟨0, by omega, rfl, rfl, Below.refl _ _⟩
  case round =>
    obtain ⟨i, hi, rfl, rfl, hb⟩ := hrel
    by_cases hlt : i < n
    · obtain ⟨g, rfl, hlg, hgs, -⟩ := H1.out.addr hlt
      have HO := Lib.hid (H1.out.bel hb)
      have k1 := (HO.out.cells hlt).1
      have k2 := (HO.out.cells hlt).2.1
      have k3 := (HO.out.cells hlt).2.2
      have hm1 := sumK_mono R k (i := 0) (j := i) (by omega)
      have hm2 := sumK_mono R k (i := i + 1) (j := n) (by omega)
      simp only [sumK] at hm1 hm2
      have t1 : (i : Int) < n := by omega
      obtain ⟨q, hq⟩ : ∃ q, q = sumK R k i := ⟨_, rfl⟩
      simp only [mkR] at k1
      rw [← hq] at hm1 hm2 k1 ⊢
      have hnum := (HO.out.ent i hlt).num
      have hden := (HO.out.ent i hlt).den
      simp only [mkR] at hnum hden
      rw [← hq] at hnum hden
      have HN := Lib.hid hnum
      have HD := Lib.hid hden
      have HQ := Lib.hid hq
      clear hq hnum hden
      have d1 : decide (q + 1 + ((R i).xs.length : Int) < 0) = false := decide_eq_false (by omega)
      have d2 : decide (q + 1 + ((R i).xs.length : Int) + ((R i).ys.length : Int) < 0) = false := decide_eq_false (by omega)
      go_wp2_with fail
      refine (heldI_c _ lo (E i).u (R i).xs.length (q + 1) (q + 1 + ((R i).xs.length : Int)) HN.out (by omega) (by omega) (by omega) rfl).mono ?_
      rintro e w1 ⟨rfl, hb1⟩
      have c3 := keep_cell hb1 k3
      have HD2 := Lib.hid (HD.out.below hb1 (Nat.le_refl _))
      have B1 := hb.trans (hb1.mono hb.size)
      clear hb1 HN HD k1 k2 k3 hb
      go_wp2_with fail
      refine (heldI_c _ lo (E i).d (R i).ys.length (q + 1 + ((R i).xs.length : Int)) (q + 1 + ((R i).xs.length : Int) + ((R i).ys.length : Int)) HD2.out (by omega) (by omega) (by omega) rfl).mono ?_
      rintro e w2 ⟨rfl, hb1⟩
      have B2 := B1.trans (hb1.mono B1.size)
      clear hb1 HD2 c3 B1
      go_wp2
      go_roundw
      case rel => exact ⟨i + 1, by omega, by go_num, by congr 1; rw [sumK, ← HQ.out], B2⟩
      case measure => (simp [intOf]) <;> omega
    · obtain rfl : i = n := by omega
      go_wp2
      go_ret
      exact retI HZ.out hb

end Go.Proofs.Ytcmhpdhcpkhejaa
