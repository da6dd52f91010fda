/- FormatVector, of the program and of the reference. -/
import Derived.Test.YtijeplcjbhkkoaaGreatDoorVecH
import Derived.Test.YtijeplcjbhkkoaaGreatDoorFmtH
namespace Go.Proofs.YtijeplcjbhkkoaaGreatDoor
open Go.RowKit Lm Tx

def fRc (r : Rc) : ByteArray := bs (fmtR r.s r.xs r.ys)
/-- The texts of the first n elements. -/
def fVs (R : Nat → Rc) : Nat → List ByteArray
  | 0 => []
  | n + 1 => fVs R n ++ [fRc (R n)]
theorem fVs_length (R : Nat → Rc) (n : Nat) : (fVs R n).length = n := by
  induction n with
  | zero => rfl
  | succ n ih => simp [fVs, ih]
theorem lensB_app (xs ys : List ByteArray) : lensB (xs ++ ys) = lensB xs + lensB ys := by
  unfold lensB Lib.lens
  rw [List.map_append]
  simp
theorem lensB_one (x : ByteArray) : lensB [x] = x.size := by
  unfold lensB Lib.lens
  rw [size_list]
  simp
theorem okP_norm {xs : List Int} (h : OkP xs) : Norm xs ∧ xs.length ≤ 60 := by
  obtain ⟨a, rfl, hl⟩ := ok_limbs h
  exact ⟨limbs_norm a, hl⟩
theorem fmtR_size {s : Bool} {xs ys : List Int} (h : OkR s xs ys) : (bs (fmtR s xs ys)).size ≤ 1084 := by
  have h1 := fmtZ_len (s := s) h.1.1
  have h2 := fmtN_len (okP_norm h.2.1).1 (okP_norm h.2.1).2
  rw [bs_size]
  unfold fmtR
  rw [List.length_append]
  split
  · simp; omega
  · rw [List.length_cons]; omega
theorem fRc_size {r : Rc} (h : OkRc r) : (fRc r).size ≤ 1084 := by
  obtain ⟨s, xs, ys⟩ := r
  have h1 := fmtR_size (show OkR s xs ys from h)
  exact h1
theorem fVs_lens {R : Nat → Rc} {n : Nat} (h : ∀ i, i < n → OkRc (R i)) : lensB (fVs R n) ≤ n * 1084 := by
  induction n with
  | zero => exact Nat.le_refl _
  | succ n ih =>
    have h1 := ih fun i hi => h i (by omega)
    have h2 := fRc_size (h n (by omega))
    simp only [fVs]
    rw [lensB_app, lensB_one]
    omega
def spS : ByteArray := ⟨#[32]⟩
open Classical in
/-- What FormatVector gives. -/
noncomputable def fV (n : Nat) (A : Nat → Rc) : ByteArray := if OkV n A then joinB (fVs A n) spS else { data := #[] }
theorem fV_yes {n : Nat} {A : Nat → Rc} (h : OkV n A) : fV n A = joinB (fVs A n) spS := if_pos h
theorem fV_no {n : Nat} {A : Nat → Rc} (h : ¬ OkV n A) : fV n A = { data := #[] } := if_neg h

set_option maxHeartbeats 2000000 in
set_option maxRecDepth 100000 in
theorem FormatVector_n (w : World) {lo hi : Nat} {v1 : Value} (n : Nat) (A : Nat → Rc) (h1 : Vec w lo hi v1 n A) (hA : ¬ OkV n A) (t : ByteArray) (hT : t = { data := #[] }) :
    Calls Tryz.prog 21 #[v1] w (RetT w t) := by
  obtain ⟨ao, cap, rfl, f1, -, -⟩ := h1.form
  have H1 := Lib.hid h1
  have HA := Lib.hid hA
  have HT := Lib.hid hT
  clear h1 hA hT
  go_enter Tryz.func21, Tryz.ntmps21
  go_wp2_with fail
  refine (IsVector_f _ n A H1.out HA.out).mono ?_
  rintro e w1 ⟨rfl, hb⟩
  go_wp2
  go_ret
  exact retT HT.out.symm hb

set_option maxHeartbeats 2000000 in
set_option maxRecDepth 100000 in
theorem FormatVector_y (w : World) {lo hi : Nat} {v1 : Value} (n : Nat) (A : Nat → Rc) (h1 : Vec w lo hi v1 n A) (hA : OkV n A) (ht : Tabs w) (t : ByteArray) (hT : t = joinB (fVs A n) spS) :
    Calls Tryz.prog 21 #[v1] w (RetT w t) := by
  obtain ⟨E, h1⟩ := h1
  obtain ⟨ao, cap, rfl, f1, -, -⟩ := h1.form
  have hn : n ≤ 24 := hA.1
  have H1 := Lib.hid h1
  have HA := Lib.hid hA
  have HT := Lib.hid hT
  have HTB := Lib.hid ht
  clear h1 hA hT ht
  go_enter Tryz.func21, Tryz.ntmps21
  go_wp2_with fail
  refine (IsVector_t _ n A ⟨_, H1.out⟩ HA.out).mono ?_
  rintro e w1 ⟨rfl, B1⟩
  go_wp2
  go_loopw [3, 11] (fun v k wr => ∃ (i : Nat), i ≤ n ∧ k = .int .i64 i ∧ Hid (OwnS wr w.heap.size v (fVs A i)) ∧ Below w.heap.size w wr) (fun _ k _ => n - (intOf k).toNat)
  case atStart => exact ⟨0, by omega, rfl, OwnS.nil _ _, B1⟩
  case round =>
    obtain ⟨i, hi, rfl, HO, hb⟩ := hrel
    by_cases hlt : i < n
    · obtain ⟨g, rfl, -, -, -⟩ := H1.out.addr hlt
      have t1 : (i : Int) < n := by omega
      have HA0 := Lib.hid (H1.out.bel hb)
      obtain ⟨au, cu, ad, cd, k1, k2, k3, o1, o2⟩ := HA0.out.elem hlt
      have HOA := Lib.hid (And.intro o1 o2)
      have hok := Lib.hid (HA.out.2 i hlt)
      obtain ⟨x, hx⟩ : ∃ x, x = fRc (A i) := ⟨_, rfl⟩
      have HX := Lib.hid hx
      clear HA0 o1 o2 hx
      go_wp2_with fail
      refine (formatRat_c _ lo lo (A i).s _ _ (A i).xs (A i).ys (HOA.out.1.alloc _) (HOA.out.2.alloc _) hok.out.1.1 hok.out.2.1 (HTB.out.below (hb.alloc hb.size _) (Nat.le_refl _)) x HX).mono ?_
      rintro e2 w2 ⟨rfl, hb2⟩
      have BQ := (alloc_bel wr (.cells #[.bool (A i).s, Value.slice au (A i).xs.length cu, Value.slice ad (A i).ys.length cd] 27)).trans (hb2.mono (heap_le_alloc _ _))
      have HO2 := Lib.hid (HO.out.below BQ (Nat.le_refl _))
      have B2 := hb.trans (BQ.mono hb.size)
      have hl := fVs_length A i
      have hs2 := B2.size
      clear hb hb2 BQ HO HOA
      go_wp2_with (at_builtin; refine app_ownS rfl _ _ rfl _ _ w.heap.size w2.heap.size (fVs A i) [x] rfl rfl (HO2.out.alloc _) (OwnS.lit1 _ _) (by simp; omega) (by simp; omega) ?_)
      intro v' w3 hx1 hg _
      have HX1 : Hid (OwnS w3 w.heap.size v' (fVs A (i + 1))) := by
        unfold Hid
        simp only [fVs]
        rw [← HX.out]; exact hx1
      have B3 : Below w.heap.size w w3 := (HO2.out.alloc _).grownBelow (B2.alloc B2.size _) hg (Nat.le_refl _) (by simp; omega)
      clear hx1 hg HO2 B2 hl hs2
      go_wp2
      go_roundw
      case rel => exact ⟨i + 1, by omega, by go_num, HX1.out, B3⟩
      case measure => (simp [intOf]) <;> omega
    · obtain rfl : i = n := by omega
      have hl := fVs_length A i
      have hle := fVs_lens (n := i) HA.out.2
      have HL := Lib.hid hl
      clear hl
      go_wp2_with fail
      refine (Join_c _ w.heap.size _ (fVs A i) spS t HO.out HT.out (by rw [HL.out]; omega) (by decide) (by omega)).mono ?_
      rintro e2 w2 ⟨rfl, hb2⟩
      have B2 := hb.trans (hb2.mono hb.size)
      clear hb hb2
      go_wp2
      go_ret
      exact retT rfl B2

theorem FormatVector_c (w : World) {lo hi : Nat} {v1 : Value} (n : Nat) (A : Nat → Rc) (h1 : Vec w lo hi v1 n A) (ht : Tabs w) : Calls Tryz.prog 21 #[v1] w (RetT w (fV n A)) := by
  by_cases hA : OkV n A
  · exact FormatVector_y w n A h1 hA ht _ (fV_yes hA)
  · exact FormatVector_n w n A h1 hA _ (fV_no hA)

end Go.Proofs.YtijeplcjbhkkoaaGreatDoor
