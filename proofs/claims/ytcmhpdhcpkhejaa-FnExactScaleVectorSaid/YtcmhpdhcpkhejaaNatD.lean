/- The program's long division: natDiv. -/
import Derived.Test.YtcmhpdhcpkhejaaNatC
import Derived.Deep.DeepCutAuto
import Derived.Deep.CutBlock
namespace Go.Proofs.Ytcmhpdhcpkhejaa
open Go.RowKit Lm

set_option maxRecDepth 100000 in
set_option maxHeartbeats 1000000 in
theorem natDiv_small (w : World) (b1 b2 : Nat) (v1 v2 : Value) (a b : Nat) (h1 : Own w b1 v1 (limbs a)) (h2 : Own w b2 v2 (limbs b)) (hs1 : (limbs a).length ≤ 1000) (hab : a < b) :
    Calls Try.prog 103 #[v1, v2] w (RetSS w (limbs (a / b)) (limbs (a % b))) := by
  rw [Nat.div_eq_of_lt hab, Nat.mod_eq_of_lt hab]
  have e : cmp3 a b = -1 := by rw [cmp3, if_pos (by omega)]
  have HC := Lib.hid (natCmp_n w b1 b2 v1 v2 a b h1 h2)
  rw [e] at HC
  have H1 := Lib.hid h1
  clear e h1 h2
  go_enter Try.func103, Try.ntmps103
  go_wp2_with fail
  refine HC.out.mono ?_
  rintro e w1 ⟨rfl, hb1⟩
  go_wp2_with fail
  refine (copyInts_c w1 b1 v1 (limbs a) (H1.out.below hb1 (Nat.le_refl _)) (by omega)).mono ?_
  rintro e w2 ⟨v, rfl, ho, hb2⟩
  have HO := Lib.hid ho
  clear ho
  go_wp2
  go_ret2
  exact retSS (Own.nil _ _) (HO.out.mono hb1.size) rfl rfl (fun k hk => by cases hk) (hb1.trans (hb2.mono hb1.size))

set_option maxRecDepth 100000 in
set_option maxHeartbeats 1000000 in
theorem natDiv_one (w : World) (b1 b2 : Nat) (v1 v2 : Value) (a b : Nat) (h1 : Own w b1 v1 (limbs a)) (h2 : Own w b2 v2 (limbs b)) (hs1 : (limbs a).length ≤ 1000) (hab : b ≤ a) (hl : (limbs b).length = 1) :
    Calls Try.prog 103 #[v1, v2] w (RetSS w (limbs (a / b)) (limbs (a % b))) := by
  have hb0 : 0 < b := limbs_len_pos.1 (by omega)
  have hb1 : b < 1000000000 := by
    have := (limbs_len_le (n := b) (k := 1)).1 (by omega)
    simp only [pw] at this
    omega
  have el : limbs b = [(b : Int)] := limbs_small hb0 hb1
  rw [el] at h2
  have HC := Lib.hid (natCmp_n w b1 b2 v1 v2 a b h1 (by rw [el]; exact h2))
  have hc : 0 ≤ cmp3 a b := by
    rcases cmp3_cases a b with ⟨h, e⟩ | ⟨h, e⟩ | ⟨h, e⟩ <;> omega
  generalize cmp3 a b = c at *
  obtain ⟨a2, c2, rfl, -, -, -, -, -⟩ := h2.form
  obtain ⟨g, rfl, -, -⟩ := h2.addr (i := 0) (by simp)
  have H1 := Lib.hid h1
  have H2 := Lib.hid h2
  clear h1 h2 el hl
  go_enter Try.func103, Try.ntmps103
  go_wp2_with fail
  refine HC.out.mono ?_
  rintro e w1 ⟨rfl, hb1⟩
  have k1 := (H2.out.below hb1 (Nat.le_refl _)).cell 0 (by simp)
  rw [show lat [(b : Int)] 0 = b from rfl] at k1
  go_wp2_with fail
  refine (divSmall_c w1 b1 v1 a b (H1.out.below hb1 (Nat.le_refl _)) (by omega) hb0 (by omega)).mono ?_
  rintro e w2 ⟨q, r, rfl, hq, hr, hap, hb2⟩
  have HQ := Lib.hid hq; have HR := Lib.hid hr; have HA := Lib.hid hap
  clear hq hr hap
  go_wp2
  go_ret2
  exact retSS (HQ.out.mono hb1.size) (HR.out.mono hb1.size) rfl rfl HA.out (hb1.trans (hb2.mono hb1.size))

set_option maxRecDepth 100000 in
set_option maxHeartbeats 4000000 in
theorem natDiv_long (w : World) (b1 b2 : Nat) (v1 v2 : Value) (a b : Nat) (h1 : Own w b1 v1 (limbs a)) (h2 : Own w b2 v2 (limbs b)) (hs1 : (limbs a).length ≤ 1000) (hab : b ≤ a) (hl : 2 ≤ (limbs b).length) :
    Calls Try.prog 103 #[v1, v2] w (RetSS w (limbs (a / b)) (limbs (a % b))) := by
  have hlb := limbs_len_mono hab
  have HC := Lib.hid (natCmp_n w b1 b2 v1 v2 a b h1 h2)
  have hc : 0 ≤ cmp3 a b := by
    rcases cmp3_cases a b with ⟨h, e⟩ | ⟨h, e⟩ | ⟨h, e⟩ <;> omega
  generalize cmp3 a b = c at *
  obtain ⟨a1, c1, rfl, -, -, -, -, -⟩ := h1.form
  obtain ⟨a2, c2, rfl, -, -, -, -, -⟩ := h2.form
  obtain ⟨g, rfl, -, -⟩ := h2.addr (i := 0) (by omega)
  obtain ⟨ff1, ff2, ff3⟩ := factor_ok hl
  obtain ⟨ft1, ft2⟩ := (limbs_inR b).lat ((limbs b).length - 1)
  have hft : lat (limbs b) ((limbs b).length - 1) ≠ 0 := (limbs_norm b).2.resolve_left (by intro e; rw [e] at hl; simp at hl)
  have hft1 : 1 ≤ lat (limbs b) ((limbs b).length - 1) := by omega
  clear hft
  obtain ⟨f, hf⟩ : ∃ f : Nat, (f : Int) = 1000000000 / (lat (limbs b) ((limbs b).length - 1) + 1) := ⟨_, Int.toNat_of_nonneg (by omega)⟩
  obtain ⟨hyl, hf0⟩ := ff3 f hf
  have hf1 : f < 1000000000 := by omega
  have HF := Lib.hid hf; have HYL := Lib.hid hyl
  have H1 := Lib.hid h1
  have H2 := Lib.hid h2
  clear h1 h2 hf hyl ff1 ff2 ff3
  have hle1 : ((limbs b).length == 1) = false := by simp; omega
  go_enter Try.func103, Try.ntmps103
  go_wp2_with fail
  refine HC.out.mono ?_
  rintro e w1 ⟨rfl, hb1⟩
  have k1 := (H2.out.below hb1 (Nat.le_refl _)).cell ((limbs b).length - 1) (by omega)
  go_wp2_with fail
  rw [← HF.out]
  have hs2 : w.heap.size ≤ w1.heap.size := hb1.size
  refine (natMul_c _ b1 w1.heap.size _ _ a f ((H1.out.below hb1 (Nat.le_refl _)).alloc _) (by rw [limbs_small hf0 hf1]; exact Own.lit1 _ _) hs1 (by rw [limbs_small hf0 hf1]; simp)).mono ?_
  rintro e w2 ⟨vx, rfl, hox, hb2⟩
  have hb12 : Below w.heap.size w w2 := (hb1.alloc hs2 _).trans (hb2.mono (by simp; omega))
  have hs3 : w.heap.size ≤ w2.heap.size := hb12.size
  have HOX := Lib.hid (hox.mono (by simp; omega : w.heap.size ≤ _))
  clear hox hb2
  go_wp2_with fail
  refine (natMul_c _ b2 w2.heap.size _ _ b f ((H2.out.below hb12 (Nat.le_refl _)).alloc _) (by rw [limbs_small hf0 hf1]; exact Own.lit1 _ _) (by omega) (by rw [limbs_small hf0 hf1]; simp)).mono ?_
  rintro e w3 ⟨vy, rfl, hoy, hb3⟩
  have hb13 : Below w.heap.size w w3 := (hb12.alloc hs3 _).trans (hb3.mono (by simp; omega))
  have hs4 : w.heap.size ≤ w3.heap.size := hb13.size
  have HAP : Hid (Apart vx vy) := apart_new (HOX.out.alloc _) (.inr rfl) hoy
  have HOX3 := Lib.hid ((HOX.out.alloc (.cells #[.int .i64 f] 3)).below hb3 (Nat.le_refl _))
  have HOY := Lib.hid (hoy.mono (by simp; omega : w.heap.size ≤ _))
  clear hoy hb3 HOX hb12 hs3
  obtain ⟨ay, cy, rfl, -, -, -, -, -⟩ := HOY.out.form
  obtain ⟨gy, rfl, hgy, hgy2⟩ := HOY.out.addr (i := 0) (by rw [HYL.out]; omega)
  have hyl2 : 2 ≤ (limbs (b * f)).length := by rw [HYL.out]; exact hl
  have hxl : (limbs (a * f)).length ≤ (limbs a).length + 1 := by
    rw [limbs_len_le, pw_succ, Int.natCast_mul]
    have h1 := (limbs_inR a).lt
    rw [nv_limbs] at h1
    have h2 : (a : Int) * f ≤ a * 1000000000 := Int.mul_le_mul_of_nonneg_left (by omega) (by omega)
    omega
  have hyx : (limbs (b * f)).length = (limbs b).length := HYL.out
  have HYX := Lib.hid hyx
  clear hyx HYL
  have hyl3 : (limbs (b * f)).length ≤ (limbs a).length := by rw [HYX.out]; exact hlb
  have HEX : Hid (nv (limbs (a * f)) = (a * f : Nat)) := nv_limbs _
  have HIX : Hid (InR (limbs (a * f))) := limbs_inR _
  go_wp2_with fail
  go_loopw [7] (fun v wr => ∃ (ao : Option Addr) (cap : Nat) (xs : List Int), v = .slice ao xs.length cap ∧ xs.length ≤ (limbs a).length + 1 ∧ Hid (InR xs) ∧ Hid (nv xs = (a * f : Nat)) ∧ Hid (Own wr w.heap.size (.slice ao xs.length cap) xs) ∧ Hid (Apart (.slice ao xs.length cap) (.slice (some ⟨gy, 0, none⟩) (limbs (b * f)).length cy)) ∧ Hid (Own wr w.heap.size (.slice (some ⟨gy, 0, none⟩) (limbs (b * f)).length cy) (limbs (b * f))) ∧ Below w.heap.size w wr) (fun v _ => (limbs a).length + 1 - lenOf v)
  case atStart =>
    obtain ⟨ax, cx, rfl, -, -, -, -, -⟩ := HOX3.out.form
    exact ⟨ax, cx, _, rfl, hxl, HIX.out, HEX.out, HOX3.out, HAP.out, HOY.out, hb13⟩
  case round =>
    obtain ⟨ax, cx, xs, rfl, hxs, HI, HV, HOX4, HAP4, HOY4, hb⟩ := hrel
    have hsz := hb.size
    by_cases hlt : xs.length ≤ (limbs a).length
    · go_wp2_with (at_builtin; refine app_own rfl _ _ rfl _ _ w.heap.size wr.heap.size xs [0] rfl rfl (HOX4.out.alloc _) (Own.lit1 _ _) (by simp; omega) (by simp; omega) ?_)
      intro v' w' ho hg hat
      have hb' := (HOX4.out.alloc _).grownBelow (hb.alloc hsz _) hg (Nat.le_refl _) (by simp; omega)
      have hyk := HOY4.out.lt gy rfl
      have hap' : Apart v' (.slice (some ⟨gy, 0, none⟩) (limbs (b * f)).length cy) := by
        intro k hk hk2
        rcases hat with h | h
        · exact HAP4.out k (h ▸ hk) hk2
        · rw [h] at hk
          cases hk
          cases hk2
          simp at hyk
          omega
      have hoy' := (HOY4.out.alloc (.cells #[.int .i64 0] 3)).grown hg (.inr (fun h => HAP4.out gy h.symm rfl))
      obtain ⟨ao', cap', rfl, -, -, -, -, -⟩ := ho.form
      have HO' := Lib.hid ho; have HA' := Lib.hid hap'; have HY' := Lib.hid hoy'
      clear hg hat ho hap' hoy' hyk
      go_wp2
      go_roundw
      case rel => exact ⟨_, _, _, rfl, by simp; omega, HI.out.snoc (by omega) (by omega), pad_zero HV.out, HO'.out, HA'.out, HY'.out, hb'⟩
      case measure => simp [lenOf]; omega
    · have hxe : xs.length = (limbs a).length + 1 := by omega
      have HXE := Lib.hid hxe
      obtain ⟨gx, rfl, hgx, hgx2⟩ := HOX4.out.addr (i := 0) (by omega)
      have hne : gx ≠ gy := fun h => HAP4.out gx rfl (by rw [h]; rfl)
      clear hxe HOX3 HOY HAP
      go_wp2_with (at_make; refine make_ints rfl _ _ rfl _ _ _ _ (xs.length - (limbs (b * f)).length) rfl rfl (by omega) (by omega) (by omega) ?_)
      intro w4 hoo hb4 hs5
      have hb14 : Below w.heap.size w w4 := hb.trans (hb4.mono hsz)
      have HOO := Lib.hid (hoo.mono hsz)
      have HOX5 := Lib.hid (HOX4.out.below hb4 (Nat.le_refl _))
      have HOY5 := Lib.hid (HOY4.out.below hb4 (Nat.le_refl _))
      have hgx3 := hgx2
      have hgo1 : gx ≠ wr.heap.size := by omega
      have hgo2 : gy ≠ wr.heap.size := by have := (HOY4.out.lt gy rfl).2; omega
      have hgoB : w.heap.size ≤ wr.heap.size := hsz
      generalize wr.heap.size = go at *
      have hKI := KI.start (a := a) (b := b) (f := f) (x := xs) hab hf0 (limbs_len_pos.1 (by omega)) HYX.out HI.out HXE.out HV.out
      rw [show (limbs a).length + 1 - (limbs b).length = xs.length - (limbs (b * f)).length by rw [HXE.out, HYX.out]] at hKI
      have HKI := Lib.hid hKI
      clear hKI hoo hb4 HOX4 HOY4 hgx2 hgx3 HAP4 hb hs5 hgy2
      have HTN := Lib.hid (show (limbs (b * f)).length ≤ xs.length by have := HXE.out; omega)
      have HIY : Hid (InR (limbs (b * f))) := limbs_inR _
      have HNY : Hid (Norm (limbs (b * f))) := limbs_norm _
      have HY1 : Hid (nv (limbs (b * f)) = (b * f : Nat)) := nv_limbs _
      generalize hyy : limbs (b * f) = ys at *
      have HYY := Lib.hid hyy
      clear hyy
      have k2 := HOY5.out.cell (ys.length - 1) (by omega)
      have hxa : (limbs a).length < xs.length := by omega
      have hxb : xs.length ≤ 1001 := by omega
      obtain ⟨tp1, tp2⟩ := HIY.out.lat (ys.length - 1)
      have tp0 : lat ys (ys.length - 1) ≠ 0 := HNY.out.2.resolve_left (by intro e; rw [e] at hyl2; simp at hyl2)
      have tp3 : 1 ≤ lat ys (ys.length - 1) := by omega
      clear tp0 hlt hxs hyl3 hxl
      have tN := HTN.out
      obtain ⟨top, htp⟩ : ∃ t, lat ys (ys.length - 1) = t := ⟨_, rfl⟩
      have HTOP := Lib.hid htp
      rw [htp] at k2 tp1 tp2 tp3
      clear htp
      go_wp2_with fail
      go_loopw [12] (fun k wr => ∃ (K : Nat) (X O : List Int), K ≤ xs.length - ys.length ∧ k = .int .i64 ((K : Int) - 1) ∧ X.length = xs.length ∧ O.length = xs.length - ys.length ∧ Hid (Own wr w.heap.size (.slice (some ⟨gx, 0, none⟩) xs.length cx) X) ∧ Hid (Own wr w.heap.size (.slice (some ⟨gy, 0, none⟩) ys.length cy) ys) ∧ Hid (Own wr w.heap.size (.slice (some ⟨go, 0, none⟩) (xs.length - ys.length) (xs.length - ys.length)) O) ∧ Hid (KI ys (a * f : Nat) K X O) ∧ Below w.heap.size w wr) (fun k _ => (intOf k + 1).toNat)
      case atStart => exact ⟨xs.length - ys.length, xs, _, Nat.le_refl _, by congr 1; omega, rfl, by simp, HOX5.out, HOY5.out, HOO.out, HKI.out, hb14⟩
      case round =>
        obtain ⟨K, X, O, hK, rfl, hXl, hOl, HX, HY, HO, HK, hb⟩ := hrel
        clear HOX5 HOY5 HOO HKI hb14 k2
        by_cases h0 : 0 < K
        · obtain ⟨k, rfl⟩ : ∃ k, K = k + 1 := ⟨K - 1, by omega⟩
          have hkO : k < O.length := by omega
          have hkn : k + ys.length < xs.length := by omega
          have c0 := HX.out.cell (k + ys.length) (by omega)
          have c1' := HX.out.cell (k + ys.length - 1) (by omega)
          have c2' := HX.out.cell (k + ys.length - 2) (by omega)
          have d2 := HY.out.cell (ys.length - 2) (by omega)
          obtain ⟨x01, x02⟩ := HK.out.ix.lat (k + ys.length)
          obtain ⟨x11, x12⟩ := HK.out.ix.lat (k + ys.length - 1)
          obtain ⟨x21, x22⟩ := HK.out.ix.lat (k + ys.length - 2)
          obtain ⟨y21, y22⟩ := HIY.out.lat (ys.length - 2)
          have htop := HK.out.topLe HIY.out hyl2 hkO
          have HQ0 := Lib.hid (QI.start HK.out HIY.out hyl2 hkO (by rw [HTOP.out]; omega))
          rw [HTOP.out] at HQ0 htop
          have hkn' : (k : Int) + ys.length < xs.length := by omega
          have hyl2' : (2 : Int) ≤ ys.length := by omega
          have hz1 : (top == 0) = false := beq_eq_false_iff_ne.2 (by omega)
          have e1 : IntKind.i64.wrap ((k : Int) + ys.length) = (k : Int) + ys.length := IntWalk.i64_in _ (by omega)
          have e2 : IntKind.i64.wrap ((k : Int) + ys.length - 1) = (k : Int) + ys.length - 1 := IntWalk.i64_in _ (by omega)
          have e3 : IntKind.i64.wrap ((k : Int) + ys.length - 2) = (k : Int) + ys.length - 2 := IntWalk.i64_in _ (by omega)
          rw [show ((k + 1 : Nat) : Int) - 1 = (k : Int) by omega]
          go_wp2_with fail
          go_quiet (fail)
          go_wp2_with fail
          have htwo0 : 0 ≤ lat X (k + ys.length) * 1000000000 + lat X (k + ys.length - 1) := by omega
          have htwo1 : lat X (k + ys.length) * 1000000000 + lat X (k + ys.length - 1) < (top + 1) * 1000000000 := by omega
          have QH := fun q r (h : QI _ _ _ _ q r) => QI.high (q := q) (r := r) HK.out HIY.out hyl2 hkO h
          have QL := fun q r (h : QI _ _ _ _ q r) => QI.low (q := q) (r := r) HK.out HIY.out hyl2 hkO (by rw [HTOP.out]; omega) h
          rw [HTOP.out] at QH QL
          clear htop x01 x02 x11 x12 c0 c1'
          generalize lat X (k + ys.length) * 1000000000 + lat X (k + ys.length - 1) = two at *
          generalize lat ys (ys.length - 2) = ysec at *
          generalize lat X (k + ys.length - 2) = xsec at *
          have QHH := Lib.hid QH; have QLH := Lib.hid QL
          clear QH QL
          go_quiet (fail)
          go_upto_block 4 with (fail)
          go_cut [14, 15] (fun q r wc => ∃ (qi ri : Int) (m : Nat), q = .int .i64 qi ∧ r = .int .i64 ri ∧ 0 ≤ qi ∧ qi < 1000000000 ∧ Hid (nv (X.drop k) < (qi + 1) * nv ys) ∧ Hid ((qi - 1) * nv ys ≤ nv (X.drop k)) ∧ wc = wr.drewN m)
          case first =>
            go_wp2_with fail
            go_loopw [14, 15] (fun q r wc => ∃ (qi ri : Int) (m : Nat), q = .int .i64 qi ∧ r = .int .i64 ri ∧ 0 ≤ qi ∧ qi < 2000000000 ∧ 0 ≤ ri ∧ ri < 1000000000 ∧ Hid (QI (nv (X.drop k)) (nv ys) two top qi ri) ∧ wc = wr.drewN m) (fun q _ _ => (intOf q).toNat)
            case atStart => exact ⟨_, _, _, rfl, rfl, HQ0.out.q0, HQ0.out.bound (by omega) htwo1, HQ0.out.r0, by have := Int.emod_lt_of_pos two (show 0 < top by omega); omega, HQ0.out, World.drewN_drewN _ _ _⟩
            case round =>
              obtain ⟨qi, ri, m, rfl, rfl, q0, q1, r0, r1, HQ, rfl⟩ := hrel
              clear HQ0
              by_cases hqb : 1000000000 ≤ qi
              · have hd1 : decide ((1000000000 : Int) ≤ qi) = true := by simpa using hqb
                obtain ⟨hq1, hDlt⟩ := (QHH.out qi ri HQ.out (.inl hqb) : 1 ≤ qi ∧ _)
                have HDN := Lib.hid (HQ.out.down (by omega) hq1 hDlt)
                clear hDlt
                by_cases hbr : 1000000000 ≤ ri + top
                · have hql := HDN.out.broke htwo1 (by omega) hbr
                  go_wp2_with fail
                  go_quiet (fail)
                  go_wp2_with fail
                  go_meet
                  exact ⟨qi - 1, ri + top, _, rfl, rfl, by omega, by omega, HDN.out.hi, QLH.out _ _ HDN.out (by omega) (.inl hbr), rfl⟩
                · go_wp2_with fail
                  go_quiet (fail)
                  go_wp2_with fail
                  go_roundw
                  case rel => exact ⟨qi - 1, ri + top, _, rfl, rfl, by omega, by omega, by omega, by omega, HDN.out, rfl⟩
                  case measure => (simp [intOf]) <;> omega
              · have hd1 : decide ((1000000000 : Int) ≤ qi) = false := by simpa using hqb
                obtain ⟨m1, m2⟩ := mul_bound q0 (by omega) y21 y22
                by_cases hcm : ri * 1000000000 + xsec < qi * ysec
                · have hd2 : decide (ri * 1000000000 + xsec < qi * ysec) = true := by simpa using hcm
                  obtain ⟨hq1, hDlt⟩ := (QHH.out qi ri HQ.out (.inr hcm) : 1 ≤ qi ∧ _)
                  have HDN := Lib.hid (HQ.out.down (by omega) hq1 hDlt)
                  clear hDlt
                  by_cases hbr : 1000000000 ≤ ri + top
                  · have hql := HDN.out.broke htwo1 (by omega) hbr
                    go_wp2_with fail
                    go_quiet (fail)
                    go_wp2_with fail
                    go_meet
                    exact ⟨qi - 1, ri + top, _, rfl, rfl, by omega, by omega, HDN.out.hi, QLH.out _ _ HDN.out (by omega) (.inl hbr), rfl⟩
                  · go_wp2_with fail
                    go_quiet (fail)
                    go_wp2_with fail
                    go_roundw
                    case rel => exact ⟨qi - 1, ri + top, _, rfl, rfl, by omega, by omega, by omega, by omega, HDN.out, rfl⟩
                    case measure => (simp [intOf]) <;> omega
                · have hd2 : decide (ri * 1000000000 + xsec < qi * ysec) = false := by simpa using hcm
                  go_wp2_with fail
                  go_quiet (fail)
                  go_wp2_with fail
                  go_meet
                  exact ⟨qi, ri, _, rfl, rfl, by omega, by omega, HQ.out.hi, QLH.out _ _ HQ.out (by omega) (.inr (by omega)), World.drewN_drewN _ _ _⟩
          case rest =>
            obtain ⟨qi, ri, m, rfl, rfl, q0, q1, HHI, HLO, hwc⟩ := hcut
            have hbc : Below w.heap.size w wc := by rw [hwc]; exact ⟨hb.os, hb.tape, hb.output, hb.size, hb.block⟩
            have HXc : Hid (Own wc w.heap.size (.slice (some ⟨gx, 0, none⟩) xs.length cx) X) := by rw [hwc]; exact HX.out
            have HYc : Hid (Own wc w.heap.size (.slice (some ⟨gy, 0, none⟩) ys.length cy) ys) := by rw [hwc]; exact HY.out
            have HOc : Hid (Own wc w.heap.size (.slice (some ⟨go, 0, none⟩) (xs.length - ys.length) (xs.length - ys.length)) O) := by rw [hwc]; exact HO.out
            clear hwc HX HY HO hb c2' d2 HQ0 QHH QLH htwo0 htwo1 y21 y22 x21 x22
            go_wp2_with fail
            obtain ⟨wo, hwo⟩ : ∃ wo : World, wo = wc := ⟨_, rfl⟩
            subst hwo
            go_loopw [16, 136] (fun c i wr => ∃ (j : Nat) (X' : List Int) (br : Int), j ≤ ys.length ∧ i = .int .i64 j ∧ c = .int .i64 br ∧ 0 ≤ br ∧ br < 1000000000 ∧ Hid (Own wr w.heap.size (.slice (some ⟨gx, 0, none⟩) xs.length cx) X') ∧ Hid (Own wr w.heap.size (.slice (some ⟨gy, 0, none⟩) ys.length cy) ys) ∧ Hid (Own wr w.heap.size (.slice (some ⟨go, 0, none⟩) (xs.length - ys.length) (xs.length - ys.length)) O) ∧ Hid (SubMul X ys qi k j X' br) ∧ Below w.heap.size w wr) (fun _ i _ => ys.length - (intOf i).toNat)
            case atStart => exact ⟨0, X, 0, by omega, rfl, rfl, by omega, by omega, HXc.out, HYc.out, HOc.out, SubMul.start _ _ _ HK.out.ix, hbc⟩
            case round =>
              obtain ⟨j, X', br, hj, rfl, rfl, hb0, hb1, HX, HY, HO, HS, hb⟩ := hrel
              have hxl' := HS.out.len
              rw [hXl] at hxl'
              by_cases hjl : j < ys.length
              · have c1' := HX.out.cell (k + j) (by omega)
                have c2' := HY.out.cell j hjl
                have z1 := HX.out.frozen (k + j)
                obtain ⟨x11, x12⟩ := HS.out.inr.lat (k + j)
                obtain ⟨y11, y12⟩ := HIY.out.lat j
                obtain ⟨m1, m2⟩ := mul_bound q0 q1 y11 y12
                have HBS := Lib.hid (borrow_step (s := lat X' (k + j) - qi * lat ys j - br) rfl ⟨x11, x12⟩ ⟨q0, q1⟩ ⟨y11, y12⟩ ⟨hb0, hb1⟩)
                have hkj : (k : Int) + j < xs.length := by omega
                have hjl' : (j : Int) < ys.length := by omega
                have e1 : IntKind.i64.wrap ((k : Int) + j) = (k : Int) + j := IntWalk.i64_in _ (by omega)
                by_cases hneg : lat X' (k + j) - qi * lat ys j - br < 0
                · obtain ⟨s1, s2, s3⟩ := HBS.out
                  obtain ⟨t1, t2, t3, t4⟩ := s3 hneg
                  clear s3 HBS
                  go_wp2_with fail
                  go_quiet (fail)
                  go_wp2_with fail
                  go_roundw
                  case rel => exact ⟨j + 1, _, _, by omega, by go_num, rfl, t1, t2, ((HX.out.drawn nq).store (k + j) _).1, (HY.out.drawn nq).other hne.symm _ _, (HO.out.drawn nq).other hgo1.symm _ _, HS.out.step (by omega) t3 t4 t1 t2 (by omega), (below_dr hb nq).setCell (by exact hgx) _⟩
                  case measure => (simp [intOf]) <;> omega
                · obtain ⟨s1, s2, s3⟩ := HBS.out
                  clear s3 HBS
                  go_wp2_with fail
                  go_quiet (fail)
                  go_wp2_with fail
                  go_roundw
                  case rel => exact ⟨j + 1, _, 0, by omega, by go_num, rfl, by omega, by omega, ((HX.out.drawn nq).store (k + j) _).1, (HY.out.drawn nq).other hne.symm _ _, (HO.out.drawn nq).other hgo1.symm _ _, HS.out.step (by omega) (by omega) (by omega) (by omega) (by omega) (by omega), (below_dr hb nq).setCell (by exact hgx) _⟩
                  case measure => (simp [intOf]) <;> omega
              · obtain rfl : j = ys.length := by omega
                have c1' := HX.out.cell (k + ys.length) (by omega)
                have z1 := HX.out.frozen (k + ys.length)
                obtain ⟨x11, x12⟩ := HS.out.inr.lat (k + ys.length)
                by_cases hneg : lat X' (k + ys.length) - br < 0
                · have HXS := Lib.hid ((HX.out.store (k + ys.length) (lat X' (k + ys.length) - br)).1)
                  have HYS := Lib.hid (HY.out.other hne.symm (k + ys.length) (.int .i64 (lat X' (k + ys.length) - br)))
                  have HOS := Lib.hid (HO.out.other hgo1.symm (k + ys.length) (.int .i64 (lat X' (k + ys.length) - br)))
                  have HBS := Lib.hid (hb.setCell (p := ⟨gx, k + ys.length, none⟩) hgx (.int .i64 (lat X' (k + ys.length) - br)))
                  have HIB : Hid (InB (X'.set (k + ys.length) (lat X' (k + ys.length) - br)) (k + ys.length)) := by
                    intro i hi
                    rw [lat_set_other (by omega)]
                    exact HS.out.inr.lat i
                  go_wp2_with fail
                  clear c1' z1
                  obtain ⟨wo, hwo⟩ : ∃ wo : World, wo = wr := ⟨_, rfl⟩
                  subst hwo
                  go_loopw [19, 189] (fun c i wr => ∃ (j : Nat) (X3 : List Int) (cr : Int), j ≤ ys.length ∧ i = .int .i64 j ∧ c = .int .i64 cr ∧ 0 ≤ cr ∧ cr ≤ 1 ∧ Hid (Own wr w.heap.size (.slice (some ⟨gx, 0, none⟩) xs.length cx) X3) ∧ Hid (Own wr w.heap.size (.slice (some ⟨gy, 0, none⟩) ys.length cy) ys) ∧ Hid (Own wr w.heap.size (.slice (some ⟨go, 0, none⟩) (xs.length - ys.length) (xs.length - ys.length)) O) ∧ Hid (AddB (X'.set (k + ys.length) (lat X' (k + ys.length) - br)) ys k j X3 cr) ∧ Below w.heap.size w wr) (fun _ i _ => ys.length - (intOf i).toNat)
                  case atStart => exact ⟨0, _, 0, by omega, rfl, rfl, by omega, by omega, HXS.out, HYS.out, HOS.out, AddB.start HIB.out, HBS.out⟩
                  case round =>
                    obtain ⟨j, X3, cr, hj, rfl, rfl, hc0, hc1, HX, HY, HO, HR, hb⟩ := hrel
                    have hxl3 := HR.out.len
                    rw [List.length_set, hxl'] at hxl3
                    by_cases hjl : j < ys.length
                    · have c1' := HX.out.cell (k + j) (by omega)
                      have c2' := HY.out.cell j hjl
                      have z1 := HX.out.frozen (k + j)
                      obtain ⟨x31, x32⟩ := HR.out.inb (k + j) (by omega)
                      obtain ⟨y11, y12⟩ := HIY.out.lat j
                      have hkj : (k : Int) + j < xs.length := by omega
                      have hjl' : (j : Int) < ys.length := by omega
                      have e1 : IntKind.i64.wrap ((k : Int) + j) = (k : Int) + j := IntWalk.i64_in _ (by omega)
                      by_cases hbig : 1000000000 ≤ lat X3 (k + j) + lat ys j + cr
                      · go_wp2_with fail
                        go_quiet (fail)
                        go_wp2_with fail
                        go_roundw
                        case rel => exact ⟨j + 1, _, 1, by omega, by go_num, rfl, by omega, by omega, ((HX.out.drawn nq).store (k + j) _).1, (HY.out.drawn nq).other hne.symm _ _, (HO.out.drawn nq).other hgo1.symm _ _, HR.out.step hjl (by rw [List.length_set]; omega) (by omega) (by omega) (by omega) (by omega), (below_dr hb nq).setCell (by exact hgx) _⟩
                        case measure => (simp [intOf]) <;> omega
                      · go_wp2_with fail
                        go_quiet (fail)
                        go_wp2_with fail
                        go_roundw
                        case rel => exact ⟨j + 1, _, 0, by omega, by go_num, rfl, by omega, by omega, ((HX.out.drawn nq).store (k + j) _).1, (HY.out.drawn nq).other hne.symm _ _, (HO.out.drawn nq).other hgo1.symm _ _, HR.out.step hjl (by rw [List.length_set]; omega) (by omega) (by omega) (by omega) (by omega), (below_dr hb nq).setCell (by exact hgx) _⟩
                        case measure => (simp [intOf]) <;> omega
                    · obtain rfl : j = ys.length := by omega
                      obtain ⟨hq1, hX3, hKI⟩ := digit_back HK.out HIY.out hkO q0 q1 HLO.out HS.out hneg rfl HR.out
                      have HKS := Lib.hid hKI
                      have HX3 := Lib.hid hX3
                      have c1' := HX.out.cell (k + ys.length) (by omega)
                      have z1 := HX.out.frozen (k + ys.length)
                      have x31 : -1000000001 ≤ lat X3 (k + ys.length) := by omega
                      have x32 : lat X3 (k + ys.length) < 1000000000 := by omega
                      have c3 := HO.out.cell k hkO
                      have z3 := HO.out.frozen k
                      have hgo3 := hgo1.symm
                      clear hX3 hKI
                      go_wp2_with fail
                      go_roundw
                      case rel => exact ⟨k, _, _, by omega, by go_num, by simp; omega, by simp; omega, (HX.out.store (k + ys.length) _).1.other hgo1 _ _, (HY.out.other hne.symm _ _).other hgo2 _ _, ((HO.out.other hgo1.symm _ _).store k _).1, HKS.out, (hb.setCell (by exact hgx) _).setCell (by exact hgoB) _⟩
                      case measure => (simp [intOf]) <;> omega
                · have HKS := Lib.hid (digit_done HK.out HIY.out hkO q0 q1 HHI.out HS.out (by omega))
                  have c3 := HO.out.cell k hkO
                  have z3 := HO.out.frozen k
                  have hgo3 := hgo1.symm
                  go_wp2_with fail
                  go_roundw
                  case rel => exact ⟨k, _, _, by omega, by go_num, by simp; omega, by simp; omega, (HX.out.store (k + ys.length) _).1.other hgo1 _ _, (HY.out.other hne.symm _ _).other hgo2 _ _, ((HO.out.other hgo1.symm _ _).store k _).1, HKS.out, (hb.setCell (by exact hgx) _).setCell (by exact hgoB) _⟩
                  case measure => (simp [intOf]) <;> omega
        · obtain rfl : K = 0 := by omega
          have hke := HK.out
          rw [← HYY.out] at hke
          have HRS := Lib.hid (KI.result hf0 (limbs_len_pos.1 (by omega)) hke)
          clear hke
          have HIX' : Hid (InR X) := HK.out.ix
          have HIO' : Hid (InR O) := HK.out.io
          go_wp2_with fail
          refine (trim_c wr w.heap.size _ X (a % b * f) HX.out HIX'.out HRS.out.2).mono ?_
          rintro e w5 ⟨v, rfl, ho, hob, hb2⟩
          have HO3 := Lib.hid ho
          clear ho hob
          go_wp2_with fail
          have hb15 := hb.trans (hb2.mono hb.size)
          have HO5 := Lib.hid (HO.out.below hb2 (Nat.le_refl _))
          have hgo5 := (HO5.out.lt go rfl).2
          refine (divSmall_c w5 w.heap.size v (a % b * f) f HO3.out ?_ hf0 hf1).mono ?_
          · have h1 : (limbs (a % b * f)).length ≤ (limbs (b * f)).length := limbs_len_mono (Nat.mul_le_mul_right _ (Nat.le_of_lt (Nat.mod_lt _ (limbs_len_pos.1 (by omega)))))
            rw [HYY.out] at h1
            have h2 := HYX.out
            omega
          rintro e w6 ⟨q, r, rfl, hq, hr, hap, hb3⟩
          have HQ := Lib.hid hq
          have hb16 := hb15.trans (hb3.mono hb15.size)
          have HO6 := Lib.hid (HO5.out.below hb3 (Nat.le_refl _))
          clear hq hr hap
          go_wp2_with fail
          refine (trim_c w6 w.heap.size _ O (a / b) HO6.out HIO'.out HRS.out.1).mono ?_
          rintro e w7 ⟨v', rfl, ho, hob, hb4⟩
          have HO7 := Lib.hid ho
          have HOB := Lib.hid hob
          clear ho hob
          go_wp2_with fail
          go_ret2
          have e1 : a % b * f / f = a % b := Nat.mul_div_cancel _ hf0
          have hqq := HQ.out
          rw [e1] at hqq
          have ha : Apart v' q := by
            intro j hj hq'
            have h2 := (hqq.lt j hq').1
            rcases HOB.out with h | h
            · rw [h] at hj; cases hj
            · rw [h] at hj
              have : go = j := Option.some.inj hj
              omega
          exact retSS HO7.out ((hqq.below hb4 (Nat.le_refl _)).mono hb15.size) rfl rfl ha (hb16.trans (hb4.mono hb16.size))

theorem natDiv_c (w : World) (b1 b2 : Nat) (v1 v2 : Value) (a b : Nat) (h1 : Own w b1 v1 (limbs a)) (h2 : Own w b2 v2 (limbs b)) (hs1 : (limbs a).length ≤ 1000) (hb : 0 < b) :
    Calls Try.prog 103 #[v1, v2] w (RetSS w (limbs (a / b)) (limbs (a % b))) := by
  by_cases hab : a < b
  · exact natDiv_small w b1 b2 v1 v2 a b h1 h2 hs1 hab
  · by_cases hl : (limbs b).length = 1
    · exact natDiv_one w b1 b2 v1 v2 a b h1 h2 hs1 (by omega) hl
    · have := limbs_len_pos.2 hb
      exact natDiv_long w b1 b2 v1 v2 a b h1 h2 hs1 (by omega) (by omega)

end Go.Proofs.Ytcmhpdhcpkhejaa
