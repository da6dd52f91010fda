/- The reference's functions on natural numbers: l02Div. -/
import Derived.Test.YtcmhpdhcpkhejaaSpecE
namespace Go.Proofs.Ytcmhpdhcpkhejaa
open Go.RowKit Lm

theorem Own.setBelow {w : World} {base : Nat} {v : Value} {xs : List Int} (h : Own w base v xs) {a : Addr} (ha : a.block < base) (u : Value) : Own (w.setCell a u) base v xs := ownsRow_setCell_below h ha u

set_option maxHeartbeats 1000000 in
theorem l02Div_one (w : World) (b1 b2 : Nat) (v1 v2 : Value) (a b : Nat) (h1 : Own w b1 v1 (limbs a)) (h2 : Own w b2 v2 (limbs b)) (hs1 : (limbs a).length ≤ 1000) (hl : (limbs b).length = 1) :
    Calls Try.prog 102 #[v1, v2] w (RetSS w (limbs (a / b)) (limbs (a % b))) := by
  have hb0 : 0 < b := limbs_len_pos.1 (by omega)
  have hb1 : b < 1000000000 := by
    have := (limbs_len_le (n := b) (k := 1)).1 (by omega)
    simp only [pw] at this
    omega
  have el : limbs b = [(b : Int)] := limbs_small hb0 hb1
  rw [el] at h2
  obtain ⟨a2, c2, rfl, -, -, -, -, -⟩ := h2.form
  obtain ⟨g, rfl, -, -⟩ := h2.addr (i := 0) (by simp)
  have k1 := h2.cell 0 (by simp)
  rw [show lat [(b : Int)] 0 = b from rfl] at k1
  have H1 := Lib.hid h1
  clear h1 h2 el hl
  go_enter Try.func102, Try.ntmps102
  go_wp2_with fail
  refine (l02Small_c w b1 v1 a b H1.out (by omega) hb0 (by omega)).mono ?_
  rintro e w2 ⟨q, rfl, hq, hb2⟩
  have HQ := Lib.hid hq
  clear hq
  go_wp2_with fail
  have hm := Nat.mod_lt a hb0
  refine (specNatOf_c w2 ((a % b : Nat) : Int) (by omega)).mono ?_
  rintro e w3 ⟨u, rfl, ho, hb3⟩
  have HR := Lib.hid ho
  clear ho
  go_wp2
  go_ret2
  exact retSS (HQ.out.below hb3 (Nat.le_refl _)) (HR.out.mono hb2.size) rfl rfl (apart_new HQ.out (.inr rfl) HR.out) (hb2.trans (hb3.mono hb2.size))

set_option maxHeartbeats 4000000 in
theorem l02Div_long (w : World) (b1 b2 : Nat) (v1 v2 : Value) (a b : Nat) (h1 : Own w b1 v1 (limbs a)) (h2 : Own w b2 v2 (limbs b)) (hs1 : (limbs a).length ≤ 1000) (hs2 : (limbs b).length ≤ 900) (hb0 : 0 < b) (hl : (limbs b).length ≠ 1) :
    Calls Try.prog 102 #[v1, v2] w (RetSS w (limbs (a / b)) (limbs (a % b))) := by
  obtain ⟨a1, c1, rfl, -, f2, f3, -, -⟩ := h1.form
  obtain ⟨a2, c2, rfl, -, -, -, -, -⟩ := h2.form
  unfold maxLen at f3
  have d1 : ((limbs b).length == 1) = false := beq_eq_false_iff_ne.2 hl
  have d2 : (((limbs b).length : Int) == 1) = false := beq_eq_false_iff_ne.2 (by omega)
  have i1 := limbs_inR a
  generalize hX : limbs a = xs at *
  have HX := Lib.hid hX
  have H1 := Lib.hid h1; have H2 := Lib.hid h2; have I1 := Lib.hid i1
  clear h1 h2 i1 hX hl
  go_enter Try.func102, Try.ntmps102
  go_wp2_with (at_make; refine make_ints rfl _ _ rfl _ _ _ _ xs.length rfl rfl (by omega) (by omega) (by omega) ?_)
  intro w0 ho hbw hs0
  have HO := Lib.hid (ho.alloc (.cells #[] 3))
  have HR := Lib.hid ((Own.lit0 w0).mono (base' := w.heap.size + 1) hs0)
  have hb00 := hbw.alloc hbw.size (.cells #[] 3)
  clear ho
  go_wp2_with fail
  go_loopw [9, 10] (fun v k wr => ∃ (K : Nat) (out : List Int) (r : Nat), K ≤ xs.length ∧ k = .int .i64 ((K : Int) - 1) ∧ Hid (Own wr w.heap.size (.slice (some ⟨w.heap.size, 0, none⟩) xs.length xs.length) out) ∧ Hid (Own wr (w.heap.size + 1) v (limbs r)) ∧ Hid (DivZ xs b K out r) ∧ w.heap.size + 1 ≤ wr.heap.size ∧ Below w.heap.size w wr) (fun _ k _ => (intOf k + 1).toNat)
  case atStart => exact ⟨xs.length, _, 0, by omega, rfl, HO.out, HR.out, DivZ.start _ hb0, by simp; omega, hb00⟩
  case round =>
    obtain ⟨K, out, r, hK, rfl, HO', HR', HA, hsz, hb⟩ := hrel
    by_cases h0 : 0 < K
    · obtain ⟨i, rfl⟩ : ∃ i, K = i + 1 := ⟨K - 1, by omega⟩
      have hlt : i < xs.length := by omega
      obtain ⟨g, rfl, -, -⟩ := H1.out.addr hlt
      have k1 := (H1.out.below hb (Nat.le_refl _)).cell i hlt
      have hlo : i < out.length := by rw [HA.out.div.len]; exact hlt
      obtain ⟨r11, r12⟩ := I1.out.lat i
      have hrb := HA.out.div.rem.2
      obtain ⟨s, hs⟩ : ∃ s : Nat, (s : Int) = r * 1000000000 + lat xs i := ⟨_, Int.toNat_of_nonneg (by omega)⟩
      obtain ⟨hsb, hstep⟩ := HA.out.step I1.out hlt hs
      have HST := Lib.hid hstep
      have hsk := fun h => HA.out.skip I1.out hlt hs h
      have HSK := Lib.hid hsk
      have hrl : (limbs r).length ≤ 900 := Nat.le_trans (limbs_len_mono (by omega)) hs2
      have hslen1 : (limbs s).length ≤ 1000 := by
        have h0 : (limbs s).length ≤ 900 + 1 := by
          rw [limbs_len_le, pw_succ]
          have h1 : (b : Int) < pw 900 := limbs_len_le.1 hs2
          omega
        omega
      have HIN : Hid (InR ([lat xs i] ++ limbs r)) := (InR.cons r11 r12 InR.nil).append (limbs_inR r)
      have HNV : Hid (nv ([lat xs i] ++ limbs r) = s) := by
        unfold Hid
        rw [List.singleton_append, nv_cons, nv_limbs]; omega
      rw [show ((i + 1 : Nat) : Int) - 1 = (i : Int) by omega]
      have t1 : (i : Int) < xs.length := by omega
      clear hstep hsk hs hrb
      have HO1 := Lib.hid (HO'.out.alloc (.cells #[.int .i64 (lat xs i)] 3))
      have HL1 := Lib.hid ((Own.lit1 wr (lat xs i)).mono (base' := w.heap.size + 1) hsz)
      go_wp2_with (at_builtin; refine app_own rfl _ _ rfl _ _ (w.heap.size + 1) (w.heap.size + 1) [lat xs i] (limbs r) rfl rfl HL1.out (HR'.out.alloc _) (by simp; omega) (by simp; omega) ?_)
      intro v' w1 ho hg _
      have hb1 := HL1.out.grownBelow (B := w.heap.size) (hb.alloc hb.size _) hg (by omega) (by simp; omega)
      have HO2 := Lib.hid (HO1.out.grown hg (.inr (by simp [Value.ownBlock]; omega)))
      have hsz1 : w.heap.size + 1 ≤ w1.heap.size := by have := hg.size; simp at this; omega
      have HV := Lib.hid ho
      clear ho hg HO1 HL1 HR' k1
      go_wp2_with fail
      refine (l02Trim_c w1 (w.heap.size + 1) v' _ s HV.out HIN.out HNV.out).mono ?_
      rintro e w2 ⟨v2, rfl, ho, -, hb2⟩
      have HV2 := Lib.hid ho
      have B2 := hb1.trans (hb2.mono hb1.size)
      have HO3 := Lib.hid (HO2.out.below hb2 (Nat.le_refl _))
      have hsz2 : w.heap.size + 1 ≤ w2.heap.size := Nat.le_trans hsz1 hb2.size
      clear ho HO2
      go_wp2_with fail
      refine (l02Cmp_n w2 _ b2 v2 _ s b HV2.out (H2.out.below B2 (Nat.le_refl _))).mono ?_
      rintro e w3 ⟨rfl, hb3⟩
      have B3 := B2.trans (hb3.mono B2.size)
      have HV3 := Lib.hid (HV2.out.below hb3 (Nat.le_refl _))
      have HO4 := Lib.hid (HO3.out.below hb3 (Nat.le_refl _))
      have hsz3 : w.heap.size + 1 ≤ w3.heap.size := Nat.le_trans hsz2 hb3.size
      have hcc := cmp3_cases (s : Int) b
      generalize cmp3 (s : Int) b = c at *
      clear HV2 HO3
      by_cases hc : c < 0
      · have hsb2 : s < b := by rcases hcc with ⟨h, e⟩ | ⟨h, e⟩ | ⟨h, e⟩ <;> omega
        have HSK2 := Lib.hid (HSK.out hsb2)
        clear hcc
        go_wp2_with fail
        go_roundw
        case rel => exact ⟨i, out, s, by omega, by go_num, HO4.out, HV3.out, HSK2.out, hsz3, B3⟩
        case measure => (simp [intOf]) <;> omega
      · clear hcc
        go_wp2_with fail
        refine (l02Digit_c w3 _ b2 v2 _ s b HV3.out (H2.out.below B3 (Nat.le_refl _)) (by omega) (by omega)).mono ?_
        rintro e w4 ⟨rfl, hb4⟩
        have B4 := B3.trans (hb4.mono B3.size)
        have HV4 := Lib.hid (HV3.out.below hb4 (Nat.le_refl _))
        have HO5 := Lib.hid (HO4.out.below hb4 (Nat.le_refl _))
        have hsz4 : w.heap.size + 1 ≤ w4.heap.size := Nat.le_trans hsz3 hb4.size
        clear HV3 HO4
        have hq : s / b < 1000000000 := Nat.div_lt_of_lt_mul hsb
        have k2 := HO5.out.cell i hlo
        have z2 := HO5.out.frozen i
        have HO6 := Lib.hid (HO5.out.store i ((s / b : Nat) : Int)).1
        have HV6 := Lib.hid (HV4.out.setBelow (a := ⟨w.heap.size, i, none⟩) (Nat.lt_succ_self _) (.int .i64 ((s / b : Nat) : Int)))
        have B5 := B4.setCell (p := ⟨w.heap.size, i, none⟩) (Nat.le_refl _) (.int .i64 ((s / b : Nat) : Int))
        have hsz5 : w.heap.size + 1 ≤ (w4.setCell ⟨w.heap.size, i, none⟩ (.int .i64 ((s / b : Nat) : Int))).heap.size := by simp [World.setCell]; omega
        have HQS := Lib.hid (show s - b * (s / b) = s % b from by have := Nat.div_add_mod s b; omega)
        have hle : b * (s / b) ≤ s := Nat.mul_div_le s b
        generalize hqq : s / b = q at *
        have HQQ := Lib.hid hqq
        clear hqq HO5 HV4
        go_wp2_with fail
        generalize w4.setCell ⟨w.heap.size, i, none⟩ (.int .i64 (q : Int)) = w5 at *
        refine (specNatOf_c w5 q (by omega)).mono ?_
        rintro e w6 ⟨v6, rfl, ho, hb6⟩
        rw [Int.toNat_natCast] at ho
        have HQ6 := Lib.hid ho
        have B6 := B5.trans (hb6.mono B5.size)
        have HO7 := Lib.hid (HO6.out.below hb6 (Nat.le_refl _))
        have HV7 := Lib.hid (HV6.out.below hb6 (Nat.le_refl _))
        have hsz6 := Nat.le_trans hsz5 hb6.size
        clear ho HO6 HV6 k2 z2
        go_wp2_with fail
        refine (l02Mul_c w6 b2 _ _ v6 b q (H2.out.below B6 (Nat.le_refl _)) HQ6.out (by omega) (by have := (limbs_len_le (n := q) (k := 2)).2 (by simp only [pw]; omega); omega)).mono ?_
        rintro e w7 ⟨v7, rfl, ho, hb7⟩
        have HM7 := Lib.hid ho
        have B7 := B6.trans (hb7.mono B6.size)
        have HO8 := Lib.hid (HO7.out.below hb7 (Nat.le_refl _))
        have HV8 := Lib.hid (HV7.out.below hb7 (Nat.le_refl _))
        have hsz7 := Nat.le_trans hsz6 hb7.size
        clear ho HO7 HV7 HQ6
        go_wp2_with fail
        refine (l02Sub_c w7 _ _ v2 v7 s (b * q) HV8.out HM7.out hslen1 hle).mono ?_
        rintro e w8 ⟨v8, rfl, ho, hb8⟩
        have HR8 := Lib.hid (ho.mono hsz7)
        have B8 := B7.trans (hb8.mono B7.size)
        have HO9 := Lib.hid (HO8.out.below hb8 (Nat.le_refl _))
        have hsz8 := Nat.le_trans hsz7 hb8.size
        clear ho HO8 HV8
        go_wp2_with fail
        go_roundw
        case rel => exact ⟨i, _, s % b, by omega, by go_num, HO9.out, by rw [← HQS.out]; exact HR8.out, HST.out, hsz8, B8⟩
        case measure => (simp [intOf]) <;> omega
    · obtain rfl : K = 0 := by omega
      have HD : Hid (nv out = (a / b : Nat) ∧ r = a % b) := by
        have h := HA.out
        rw [← HX.out] at h
        exact h.done
      have HI : Hid (InR out) := HA.out.div.inr
      go_wp2_with fail
      refine (l02Trim_c wr w.heap.size _ out (a / b) HO'.out HI.out HD.out.1).mono ?_
      rintro e w2 ⟨v2, rfl, ho, hob, hb2⟩
      have HO3 := Lib.hid ho; have HOB := Lib.hid hob
      have HR3 := Lib.hid (HR'.out.below hb2 (Nat.le_refl _))
      clear ho hob
      go_wp2_with fail
      go_ret2
      refine retSS HO3.out (HR3.out.mono (Nat.le_succ _)) rfl (by rw [HD.out.2]) ?_ (hb.trans (hb2.mono hb.size))
      intro j hj0 hj2
      have hj : v2.ownBlock = some j := hj0
      have h2 := (HR3.out.lt j hj2).1
      rcases HOB.out with h | h
      · rw [h] at hj; cases hj
      · rw [h] at hj
        have : w.heap.size = j := Option.some.inj hj
        omega

theorem l02Div_c (w : World) (b1 b2 : Nat) (v1 v2 : Value) (a b : Nat) (h1 : Own w b1 v1 (limbs a)) (h2 : Own w b2 v2 (limbs b)) (hs1 : (limbs a).length ≤ 1000) (hs2 : (limbs b).length ≤ 900) (hb : 0 < b) :
    Calls Try.prog 102 #[v1, v2] w (RetSS w (limbs (a / b)) (limbs (a % b))) := by
  by_cases hl : (limbs b).length = 1
  · exact l02Div_one w b1 b2 v1 v2 a b h1 h2 hs1 hl
  · exact l02Div_long w b1 b2 v1 v2 a b h1 h2 hs1 hs2 hb hl

end Go.Proofs.Ytcmhpdhcpkhejaa
