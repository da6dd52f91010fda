/- NatToInt: the reference's and the program's. -/
import Derived.Test.YtcmhpdhcpkhejaaDoorNatOk
import Derived.Test.YtcmhpdhcpkhejaaDoorSpecM
namespace Go.Proofs.YtcmhpdhcpkhejaaDoor
open Go.RowKit Lm

/-- An int and a bool. -/
def RetIB (w : World) (n : Int) (b : Bool) (e : Ending) (w' : World) : Prop := e = .returned (.tuple #[.int .i64 n, .bool b]) ∧ Below w.heap.size w w'
theorem retIB {w w' : World} {n m : Int} {b c : Bool} (h : m = n) (k : c = b) (hb : Below w.heap.size w w') : RetIB w n b (.returned (.tuple #[.int .i64 m, .bool c])) w' := ⟨by rw [h, k], hb⟩

theorem maxLimbs : [(854775807 : Int), 223372036, 9] = limbs 9223372036854775807 := by
  refine Norm.limbs ⟨InR.cons (by omega) (by omega) (InR.cons (by omega) (by omega) (InR.cons (by omega) (by omega) InR.nil)), .inr ?_⟩ ?_
  · decide
  · decide
theorem Own.lit3 (w : World) (x y z : Int) : Own (w.alloc (.cells #[.int .i64 x, .int .i64 y, .int .i64 z] 3)) w.heap.size (.slice (some ⟨w.heap.size, 0, none⟩) 3 3) [x, y, z] :=
  World.ownsRow_lit w #[.int .i64 x, .int .i64 y, .int .i64 z] 3 (Nat.le_refl _) (by unfold maxLen; omega) rfl

set_option maxHeartbeats 1000000 in
theorem specNatToInt_bad (w : World) (b1 : Nat) (v1 : Value) (xs : List Int) (h1 : Own w b1 v1 xs) (hn : ¬ OkP xs) :
    Calls Tryd.prog 47 #[v1] w (RetIB w 0 false) := by
  have HC := Lib.hid (specNatOk_c w b1 v1 xs h1)
  rw [okB_false hn] at HC
  clear h1 hn
  go_enter Tryd.func47, Tryd.ntmps47
  go_wp2_with fail
  refine HC.out.mono ?_
  rintro e w1 ⟨rfl, hb1⟩
  go_wp2
  go_ret2
  exact retIB rfl rfl hb1

set_option maxHeartbeats 1000000 in
theorem specNatToInt_big (w : World) (b1 : Nat) (v1 : Value) (n : Nat) (h1 : Own w b1 v1 (limbs n)) (hl : (limbs n).length ≤ 60) (hn : 9223372036854775807 < n) :
    Calls Tryd.prog 47 #[v1] w (RetIB w 0 false) := by
  have HC := Lib.hid (specNatOk_c w b1 v1 _ h1)
  rw [okB_true ⟨hl, limbs_norm n⟩] at HC
  have hcc : 0 < cmp3 (n : Int) ((9223372036854775807 : Nat) : Int) := by
    rcases cmp3_cases (n : Int) ((9223372036854775807 : Nat) : Int) with ⟨h, e⟩ | ⟨h, e⟩ | ⟨h, e⟩ <;> omega
  have H1 := Lib.hid h1
  have HCM := fun (w' : World) (b2 : Nat) (v2 : Value) (h : Own w' b1 v1 (limbs n)) (k : Own w' b2 v2 (limbs 9223372036854775807)) => l02Cmp_n w' b1 b2 v1 v2 n 9223372036854775807 h k
  generalize cmp3 (n : Int) ((9223372036854775807 : Nat) : Int) = c at *
  have HCMH := Lib.hid HCM
  clear h1 hl hn HCM
  go_enter Tryd.func47, Tryd.ntmps47
  go_wp2_with fail
  refine HC.out.mono ?_
  rintro e w1 ⟨rfl, hb1⟩
  go_wp2_with fail
  refine (HCMH.out _ w1.heap.size _ ((H1.out.below hb1 (Nat.le_refl _)).alloc _) (by rw [← maxLimbs]; exact Own.lit3 _ _ _ _)).mono ?_
  rintro e w2 ⟨rfl, hb2⟩
  go_wp2
  go_ret2
  exact retIB rfl rfl ((hb1.alloc hb1.size _).trans (hb2.mono (by simp; have := hb1.size; omega)))

set_option maxHeartbeats 1000000 in
theorem specNatToInt_ok (w : World) (b1 : Nat) (v1 : Value) (n : Nat) (h1 : Own w b1 v1 (limbs n)) (hn : n ≤ 9223372036854775807) :
    Calls Tryd.prog 47 #[v1] w (RetIB w n true) := by
  have hl : (limbs n).length ≤ 3 := limbs_len_le.2 (by simp only [pw]; omega)
  have HC := Lib.hid (specNatOk_c w b1 v1 _ h1)
  rw [okB_true ⟨by omega, limbs_norm n⟩] at HC
  have hcc : cmp3 (n : Int) ((9223372036854775807 : Nat) : Int) ≤ 0 := by
    rcases cmp3_cases (n : Int) ((9223372036854775807 : Nat) : Int) with ⟨h, e⟩ | ⟨h, e⟩ | ⟨h, e⟩ <;> omega
  have HCM := fun (w' : World) (b2 : Nat) (v2 : Value) (h : Own w' b1 v1 (limbs n)) (k : Own w' b2 v2 (limbs 9223372036854775807)) => l02Cmp_n w' b1 b2 v1 v2 n 9223372036854775807 h k
  generalize cmp3 (n : Int) ((9223372036854775807 : Nat) : Int) = c at *
  have HCMH := Lib.hid HCM
  obtain ⟨a1, c1, rfl, -, f2, f3, -, -⟩ := h1.form
  unfold maxLen at f3
  have H1 := Lib.hid h1
  have i1 := limbs_inR n
  have ev := nv_limbs n
  have hdr := fun k => drop_le (limbs_inR n) k
  rw [ev] at hdr
  clear h1 HCM
  generalize limbs n = xs at *
  have I1 := Lib.hid i1; have EV := Lib.hid ev; have HDR := Lib.hid hdr
  clear i1 ev hdr
  go_enter Tryd.func47, Tryd.ntmps47
  go_wp2_with fail
  refine HC.out.mono ?_
  rintro e w1 ⟨rfl, hb1⟩
  go_wp2_with fail
  refine (HCMH.out _ w1.heap.size _ ((H1.out.below hb1 (Nat.le_refl _)).alloc _) (by rw [← maxLimbs]; exact Own.lit3 _ _ _ _)).mono ?_
  rintro e w2 ⟨rfl, hb2⟩
  have hb3 := (hb1.alloc hb1.size _).trans (hb2.mono (by simp; have := hb1.size; omega))
  clear hb1 hb2
  go_wp2_with fail
  go_loopw [4, 5] (fun s k wr => ∃ (K : Nat) (m : Int), K ≤ xs.length ∧ k = .int .i64 ((K : Int) - 1) ∧ s = .int .i64 m ∧ 0 ≤ m ∧ m ≤ 9223372036854775807 ∧ Hid (m = nv (xs.drop K)) ∧ wr = w2) (fun _ k _ => (intOf k + 1).toNat)
  case atStart => exact ⟨xs.length, 0, by omega, rfl, rfl, by omega, by omega, by unfold Hid; rw [nv_drop_all (Nat.le_refl _)], rfl⟩
  case round =>
    obtain ⟨K, m, hK, rfl, rfl, m0, m1, HM, rfl⟩ := hrel
    by_cases h0 : 0 < K
    · obtain ⟨i, rfl⟩ : ∃ i, K = i + 1 := ⟨K - 1, by omega⟩
      have hlt : i < xs.length := by omega
      obtain ⟨g, rfl, -, -⟩ := H1.out.addr hlt
      have k1 := (H1.out.below hb3 (Nat.le_refl _)).cell i hlt
      obtain ⟨r11, r12⟩ := I1.out.lat i
      have t1 : (i : Int) < xs.length := by omega
      have hnx : m * 1000000000 + lat xs i ≤ 9223372036854775807 := by
        have h1 := HDR.out i
        have h2 := nv_drop xs i hlt
        have h3 := HM.out
        omega
      have HN : Hid (m * 1000000000 + lat xs i = nv (xs.drop i)) := by
        unfold Hid
        have h2 := nv_drop xs i hlt
        have h3 := HM.out
        omega
      rw [show ((i + 1 : Nat) : Int) - 1 = (i : Int) by omega]
      go_wp2
      go_roundw
      case rel => exact ⟨i, _, by omega, by go_num, rfl, by omega, by omega, HN.out, (by first | rfl | trivial)⟩
      case measure => (simp [intOf]) <;> omega
    · obtain rfl : K = 0 := by omega
      go_wp2
      go_ret2
      exact retIB (by have := HM.out; rw [List.drop_zero, EV.out] at this; exact this) rfl hb3

end Go.Proofs.YtcmhpdhcpkhejaaDoor
