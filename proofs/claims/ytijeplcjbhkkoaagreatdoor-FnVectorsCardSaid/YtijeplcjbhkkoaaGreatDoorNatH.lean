/- Merged texts. -/
import Derived.Test.YtijeplcjbhkkoaaGreatDoorLawI
import Derived.Test.YtijeplcjbhkkoaaGreatDoorSpecM
import Derived.Test.YtijeplcjbhkkoaaGreatDoorNatG

/- Which lists are natural numbers: spec.NatOk and impl.NatOk. -/
namespace Go.Proofs.YtijeplcjbhkkoaaGreatDoor
open Go.RowKit Lm

/-- A list of at most 60 limbs in range, without a zero limb at its end. -/
def OkP (xs : List Int) : Prop := xs.length ≤ 60 ∧ Norm xs
open Classical in
noncomputable def okB (xs : List Int) : Bool := decide (OkP xs)
theorem okB_true {xs : List Int} (h : OkP xs) : okB xs = true := by simp [okB, h]
theorem okB_false {xs : List Int} (h : ¬ OkP xs) : okB xs = false := by simp [okB, h]
theorem okB_iff {xs : List Int} : okB xs = true ↔ OkP xs := by simp [okB]

set_option maxHeartbeats 400000 in
theorem l01In_c (w : World) (n lo hi : Int) : Calls Tryz.prog 137 #[.int .i64 n, .int .i64 lo, .int .i64 hi] w (RetB w (decide (lo ≤ n ∧ n ≤ hi))) := by
  by_cases h1 : lo ≤ n
  · by_cases h2 : n ≤ hi
    · have e : decide (lo ≤ n ∧ n ≤ hi) = true := by simp [h1, h2]
      rw [e]
      clear e
      go_enter Tryz.func137, Tryz.ntmps137
      go_wp2
      go_ret
      exact retB (by simp) (Below.refl _ _)
    · have e : decide (lo ≤ n ∧ n ≤ hi) = false := by simp [h2]
      rw [e]
      clear e
      go_enter Tryz.func137, Tryz.ntmps137
      go_wp2
      go_ret
      exact retB (by simp) (Below.refl _ _)
  · have e : decide (lo ≤ n ∧ n ≤ hi) = false := by simp [h1]
    have e1 : decide (lo ≤ n) = false := by simp [h1]
    rw [e]
    clear e
    go_enter Tryz.func137, Tryz.ntmps137
    go_wp2
    go_ret
    exact retB (by simp) (Below.refl _ _)

set_option maxHeartbeats 1000000 in
theorem specNatOk_c (w : World) (b1 : Nat) (v1 : Value) (xs : List Int) (h1 : Own w b1 v1 xs) :
    Calls Tryz.prog 120 #[v1] w (RetB w (okB xs)) := by
  obtain ⟨ao, cap, rfl, -, f2, f3, -, -⟩ := h1.form
  unfold maxLen at f3
  have H1 := Lib.hid h1
  clear h1
  go_enter Tryz.func120, Tryz.ntmps120
  go_wp2
  go_loopw [7] (fun k wr => ∃ (i : Nat), i ≤ xs.length ∧ k = .int .i64 i ∧ Hid (∀ j, j < i → 0 ≤ lat xs j ∧ lat xs j < 1000000000) ∧ Below w.heap.size w wr) (fun k _ => xs.length - (intOf k).toNat)
  case atStart => exact ⟨0, by omega, rfl, fun j hj => by omega, Below.refl _ _⟩
  case round =>
    obtain ⟨i, hi, rfl, HR, hb⟩ := hrel
    by_cases hlt : i < xs.length
    · obtain ⟨g, rfl, -, -⟩ := H1.out.addr hlt
      have k1 := (H1.out.below hb (Nat.le_refl _)).cell i hlt
      have t1 : (i : Int) < xs.length := by omega
      by_cases hr : 0 ≤ lat xs i ∧ lat xs i ≤ 999999999
      · go_wp2_with fail
        refine (l01In_c wr (lat xs i) 0 999999999).mono ?_
        rintro e w2 ⟨rfl, hb2⟩
        rw [show decide ((0 : Int) ≤ lat xs i ∧ lat xs i ≤ 999999999) = true by simp [hr]]
        go_wp2_with fail
        go_roundw
        case rel => exact ⟨i + 1, by omega, by go_num, (fun j hj => by
          by_cases hji : j < i
          · exact HR.out j hji
          · obtain rfl : j = i := by omega
            omega : ∀ j, j < i + 1 → 0 ≤ lat xs j ∧ lat xs j < 1000000000), hb.trans (hb2.mono hb.size)⟩
        case measure => (simp [intOf]) <;> omega
      · have HN : Hid (¬ OkP xs) := fun h => hr ⟨(h.2.1.lat i).1, by have := (h.2.1.lat i).2; omega⟩
        go_wp2_with fail
        refine (l01In_c wr (lat xs i) 0 999999999).mono ?_
        rintro e w2 ⟨rfl, hb2⟩
        rw [show decide ((0 : Int) ≤ lat xs i ∧ lat xs i ≤ 999999999) = false by simp [hr]]
        clear hr
        go_wp2_with fail
        go_ret
        exact retB (okB_false HN.out).symm (hb.trans (hb2.mono hb.size))
    · obtain rfl : i = xs.length := by omega
      have HI : Hid (InR xs) := inR_of_lat fun j => by
        by_cases hj : j < xs.length
        · exact HR.out j hj
        · rw [lat_ge (by omega)]; omega
      by_cases hl : xs.length ≤ 60
      · have t1 : (xs.length : Int) ≤ 60 := by omega
        by_cases h0 : xs.length = 0
        · have t0 : ((xs.length : Int) == 0) = true := beq_iff_eq.2 (by omega)
          have t0' : (xs.length == 0) = true := beq_iff_eq.2 (by omega)
          have HK : Hid (OkP xs) := ⟨hl, HI.out, .inl (List.length_eq_zero_iff.1 h0)⟩
          clear h0
          go_wp2
          go_ret
          exact retB (by rw [okB_true HK.out]) hb
        · have t0 : ((xs.length : Int) == 0) = false := beq_eq_false_iff_ne.2 (by omega)
          have t3 : (1 : Int) ≤ xs.length := by omega
          have t4 : 1 ≤ xs.length := by omega
          have t0' : (xs.length == 0) = false := beq_eq_false_iff_ne.2 (by omega)
          obtain ⟨g, rfl, -, -⟩ := H1.out.addr (i := xs.length - 1) (by omega)
          have k1 := (H1.out.below hb (Nat.le_refl _)).cell (xs.length - 1) (by omega)
          by_cases hz : lat xs (xs.length - 1) = 0
          · have HK : Hid (¬ OkP xs) := fun h => by
              rcases h.2.2 with h2 | h2
              · exact h0 (by rw [h2]; rfl)
              · exact h2 hz
            rw [hz] at k1
            clear hz h0
            go_wp2
            go_ret
            exact retB (by rw [okB_false HK.out]) hb
          · have HK : Hid (OkP xs) := ⟨hl, HI.out, .inr hz⟩
            have hz' : (lat xs (xs.length - 1) != 0) = true := by simpa using hz
            clear hz h0
            go_wp2
            go_ret
            exact retB (by rw [okB_true HK.out]) hb
      · have t1 : ¬ ((xs.length : Int) ≤ 60) := by omega
        have t2 : decide ((xs.length : Int) ≤ 60) = false := by simp; omega
        have HK : Hid (¬ OkP xs) := fun h => hl h.1
        clear hl
        go_wp2
        go_ret
        exact retB (by rw [okB_false HK.out]) hb

set_option maxHeartbeats 1000000 in
theorem natOk_c (w : World) (b1 : Nat) (v1 : Value) (xs : List Int) (h1 : Own w b1 v1 xs) :
    Calls Tryz.prog 38 #[v1] w (RetB w (okB xs)) := by
  obtain ⟨ao, cap, rfl, -, f2, f3, -, -⟩ := h1.form
  unfold maxLen at f3
  have H1 := Lib.hid h1
  clear h1
  by_cases hl : xs.length ≤ 60
  · have hbad : ¬ (0 < xs.length ∧ lat xs (xs.length - 1) = 0) ∨ (0 < xs.length ∧ lat xs (xs.length - 1) = 0) := by
      by_cases h : 0 < xs.length ∧ lat xs (xs.length - 1) = 0
      · exact .inr h
      · exact .inl h
    rcases hbad with hg | ⟨hp, hz⟩
    · have HG : Hid (xs = [] ∨ lat xs (xs.length - 1) ≠ 0) := by
        by_cases h : 0 < xs.length
        · exact .inr fun e => hg ⟨h, e⟩
        · exact .inl (List.length_eq_zero_iff.1 (by omega))
      have HX : Hid (∀ K : Prop, (xs.length = 0 → K) → (∀ g, ao = some ⟨g, 0, none⟩ → 0 < xs.length → lat xs (xs.length - 1) ≠ 0 → K) → K) := by
        intro K k1 k2
        by_cases h : 0 < xs.length
        · obtain ⟨g, e, -, -⟩ := H1.out.addr (i := xs.length - 1) (by omega)
          exact k2 g e h fun e => hg ⟨h, e⟩
        · exact k1 (by omega)
      have t1 : (xs.length : Int) ≤ 60 := by omega
      have HL := Lib.hid hl
      clear hg hl
      refine HX.out _ (fun h0 => ?_) (fun g hao h0 hz => ?_)
      · have HK : Hid (OkP xs) := ⟨HL.out, by rw [List.length_eq_zero_iff.1 h0]; exact Norm.nil⟩
        have t0 : decide (0 < xs.length) = false := decide_eq_false (by omega)
        have t0' : decide ((0 : Int) < xs.length) = false := decide_eq_false (by omega)
        have H0 := Lib.hid h0
        clear h0
        go_enter Tryz.func38, Tryz.ntmps38
        go_wp2
        go_loopw [24] (fun k wr => k = .int .i64 0 ∧ wr = w) (fun _ _ => 0)
        case atStart => exact ⟨rfl, rfl⟩
        case round =>
          obtain ⟨rfl, rfl⟩ := hrel
          go_wp2
          go_ret
          exact retB (by rw [okB_true HK.out]) (Below.refl _ _)
      · subst hao
        have k0 := H1.out.cell (xs.length - 1) (by omega)
        have t3 : (1 : Int) ≤ xs.length := by omega
        have tz : (lat xs (xs.length - 1) == 0) = false := beq_eq_false_iff_ne.2 hz
        clear hz
        go_enter Tryz.func38, Tryz.ntmps38
        go_wp2
        clear k0
        go_loopw [24] (fun k wr => ∃ (i : Nat), i ≤ xs.length ∧ k = .int .i64 i ∧ Hid (∀ j, j < i → 0 ≤ lat xs j ∧ lat xs j < 1000000000) ∧ wr = w) (fun k _ => xs.length - (intOf k).toNat)
        case atStart => exact ⟨0, by omega, rfl, fun j hj => by omega, rfl⟩
        case round =>
          obtain ⟨i, hi, rfl, HR, rfl⟩ := hrel
          by_cases hlt : i < xs.length
          · have k1 := H1.out.cell i hlt
            have t1 : (i : Int) < xs.length := by omega
            by_cases hr : lat xs i < 0
            · have HN : Hid (¬ OkP xs) := fun h => by have := (h.2.1.lat i).1; omega
              go_wp2
              go_ret
              exact retB (by rw [okB_false HN.out]) (Below.refl _ _)
            · have hd : decide (lat xs i < 0) = false := by simp; omega
              by_cases hr2 : 1000000000 ≤ lat xs i
              · have HN : Hid (¬ OkP xs) := fun h => by have := (h.2.1.lat i).2; omega
                go_wp2
                go_ret
                exact retB (by rw [okB_false HN.out]) (Below.refl _ _)
              · have hd2 : decide (1000000000 ≤ lat xs i) = false := by simp; omega
                go_wp2
                go_roundw
                case rel => exact ⟨i + 1, by omega, by go_num, (fun j hj => by
                  by_cases hji : j < i
                  · exact HR.out j hji
                  · obtain rfl : j = i := by omega
                    omega : ∀ j, j < i + 1 → 0 ≤ lat xs j ∧ lat xs j < 1000000000), (by first | rfl | trivial)⟩
                case measure => (simp [intOf]) <;> omega
          · obtain rfl : i = xs.length := by omega
            have HK : Hid (OkP xs) := ⟨HL.out, inR_of_lat fun j => by
              by_cases hj : j < xs.length
              · exact HR.out j hj
              · rw [lat_ge (by omega)]; omega, HG.out⟩
            go_wp2
            go_ret
            exact retB (by rw [okB_true HK.out]) (Below.refl _ _)
    · have HN : Hid (¬ OkP xs) := fun h => by
        rcases h.2.2 with h2 | h2
        · rw [h2] at hp; simp at hp
        · exact h2 hz
      obtain ⟨g, rfl, -, -⟩ := H1.out.addr (i := xs.length - 1) (by omega)
      have k1 := H1.out.cell (xs.length - 1) (by omega)
      rw [hz] at k1
      have t1 : (xs.length : Int) ≤ 60 := by omega
      have t3 : (1 : Int) ≤ xs.length := by omega
      clear hz
      go_enter Tryz.func38, Tryz.ntmps38
      go_wp2
      go_ret
      exact retB (by rw [okB_false HN.out]) (Below.refl _ _)
  · have HN : Hid (¬ OkP xs) := fun h => hl h.1
    have t1 : (60 : Int) < xs.length := by omega
    have t2 : decide ((60 : Int) < xs.length) = true := by simp; omega
    clear hl
    go_enter Tryz.func38, Tryz.ntmps38
    go_wp2
    go_ret
    exact retB (by rw [okB_false HN.out]) (Below.refl _ _)

end Go.Proofs.YtijeplcjbhkkoaaGreatDoor

/- NatToInt: the reference's and the program's. -/
namespace Go.Proofs.YtijeplcjbhkkoaaGreatDoor
open Go.RowKit Lm

/-- An int and a bool. -/
def RetIB (w : World) (n : Int) (b : Bool) (e : Ending) (w' : World) : Prop := e = .returned (.tuple #[.int .i64 n, .bool b]) ∧ Below w.heap.size w w'
theorem retIB {w w' : World} {n m : Int} {b c : Bool} (h : m = n) (k : c = b) (hb : Below w.heap.size w w') : RetIB w n b (.returned (.tuple #[.int .i64 m, .bool c])) w' := ⟨by rw [h, k], hb⟩

theorem maxLimbs : [(854775807 : Int), 223372036, 9] = limbs 9223372036854775807 := by
  refine Norm.limbs ⟨InR.cons (by omega) (by omega) (InR.cons (by omega) (by omega) (InR.cons (by omega) (by omega) InR.nil)), .inr ?_⟩ ?_
  · decide
  · decide
theorem Own.lit3 (w : World) (x y z : Int) : Own (w.alloc (.cells #[.int .i64 x, .int .i64 y, .int .i64 z] 3)) w.heap.size (.slice (some ⟨w.heap.size, 0, none⟩) 3 3) [x, y, z] :=
  World.ownsRow_lit w #[.int .i64 x, .int .i64 y, .int .i64 z] 3 (Nat.le_refl _) (by unfold maxLen; omega) rfl

set_option maxHeartbeats 1000000 in
theorem specNatToInt_bad (w : World) (b1 : Nat) (v1 : Value) (xs : List Int) (h1 : Own w b1 v1 xs) (hn : ¬ OkP xs) :
    Calls Tryz.prog 138 #[v1] w (RetIB w 0 false) := by
  have HC := Lib.hid (specNatOk_c w b1 v1 xs h1)
  rw [okB_false hn] at HC
  clear h1 hn
  go_enter Tryz.func138, Tryz.ntmps138
  go_wp2_with fail
  refine HC.out.mono ?_
  rintro e w1 ⟨rfl, hb1⟩
  go_wp2
  go_ret2
  exact retIB rfl rfl hb1

set_option maxHeartbeats 1000000 in
theorem specNatToInt_big (w : World) (b1 : Nat) (v1 : Value) (n : Nat) (h1 : Own w b1 v1 (limbs n)) (hl : (limbs n).length ≤ 60) (hn : 9223372036854775807 < n) :
    Calls Tryz.prog 138 #[v1] w (RetIB w 0 false) := by
  have HC := Lib.hid (specNatOk_c w b1 v1 _ h1)
  rw [okB_true ⟨hl, limbs_norm n⟩] at HC
  have hcc : 0 < cmp3 (n : Int) ((9223372036854775807 : Nat) : Int) := by
    rcases cmp3_cases (n : Int) ((9223372036854775807 : Nat) : Int) with ⟨h, e⟩ | ⟨h, e⟩ | ⟨h, e⟩ <;> omega
  have H1 := Lib.hid h1
  have HCM := fun (w' : World) (b2 : Nat) (v2 : Value) (h : Own w' b1 v1 (limbs n)) (k : Own w' b2 v2 (limbs 9223372036854775807)) => l02Cmp_n w' b1 b2 v1 v2 n 9223372036854775807 h k
  generalize cmp3 (n : Int) ((9223372036854775807 : Nat) : Int) = c at *
  have HCMH := Lib.hid HCM
  clear h1 hl hn HCM
  go_enter Tryz.func138, Tryz.ntmps138
  go_wp2_with fail
  refine HC.out.mono ?_
  rintro e w1 ⟨rfl, hb1⟩
  go_wp2_with fail
  refine (HCMH.out _ w1.heap.size _ ((H1.out.below hb1 (Nat.le_refl _)).alloc _) (by rw [← maxLimbs]; exact Own.lit3 _ _ _ _)).mono ?_
  rintro e w2 ⟨rfl, hb2⟩
  go_wp2
  go_ret2
  exact retIB rfl rfl ((hb1.alloc hb1.size _).trans (hb2.mono (by simp; have := hb1.size; omega)))

set_option maxHeartbeats 1000000 in
theorem specNatToInt_ok (w : World) (b1 : Nat) (v1 : Value) (n : Nat) (h1 : Own w b1 v1 (limbs n)) (hn : n ≤ 9223372036854775807) :
    Calls Tryz.prog 138 #[v1] w (RetIB w n true) := by
  have hl : (limbs n).length ≤ 3 := limbs_len_le.2 (by simp only [pw]; omega)
  have HC := Lib.hid (specNatOk_c w b1 v1 _ h1)
  rw [okB_true ⟨by omega, limbs_norm n⟩] at HC
  have hcc : cmp3 (n : Int) ((9223372036854775807 : Nat) : Int) ≤ 0 := by
    rcases cmp3_cases (n : Int) ((9223372036854775807 : Nat) : Int) with ⟨h, e⟩ | ⟨h, e⟩ | ⟨h, e⟩ <;> omega
  have HCM := fun (w' : World) (b2 : Nat) (v2 : Value) (h : Own w' b1 v1 (limbs n)) (k : Own w' b2 v2 (limbs 9223372036854775807)) => l02Cmp_n w' b1 b2 v1 v2 n 9223372036854775807 h k
  generalize cmp3 (n : Int) ((9223372036854775807 : Nat) : Int) = c at *
  have HCMH := Lib.hid HCM
  obtain ⟨a1, c1, rfl, -, f2, f3, -, -⟩ := h1.form
  unfold maxLen at f3
  have H1 := Lib.hid h1
  have i1 := limbs_inR n
  have ev := nv_limbs n
  have hdr := fun k => drop_le (limbs_inR n) k
  rw [ev] at hdr
  clear h1 HCM
  generalize limbs n = xs at *
  have I1 := Lib.hid i1; have EV := Lib.hid ev; have HDR := Lib.hid hdr
  clear i1 ev hdr
  go_enter Tryz.func138, Tryz.ntmps138
  go_wp2_with fail
  refine HC.out.mono ?_
  rintro e w1 ⟨rfl, hb1⟩
  go_wp2_with fail
  refine (HCMH.out _ w1.heap.size _ ((H1.out.below hb1 (Nat.le_refl _)).alloc _) (by rw [← maxLimbs]; exact Own.lit3 _ _ _ _)).mono ?_
  rintro e w2 ⟨rfl, hb2⟩
  have hb3 := (hb1.alloc hb1.size _).trans (hb2.mono (by simp; have := hb1.size; omega))
  clear hb1 hb2
  go_wp2_with fail
  go_loopw [4, 5] (fun s k wr => ∃ (K : Nat) (m : Int), K ≤ xs.length ∧ k = .int .i64 ((K : Int) - 1) ∧ s = .int .i64 m ∧ 0 ≤ m ∧ m ≤ 9223372036854775807 ∧ Hid (m = nv (xs.drop K)) ∧ wr = w2) (fun _ k _ => (intOf k + 1).toNat)
  case atStart => exact ⟨xs.length, 0, by omega, rfl, rfl, by omega, by omega, by unfold Hid; rw [nv_drop_all (Nat.le_refl _)], rfl⟩
  case round =>
    obtain ⟨K, m, hK, rfl, rfl, m0, m1, HM, rfl⟩ := hrel
    by_cases h0 : 0 < K
    · obtain ⟨i, rfl⟩ : ∃ i, K = i + 1 := ⟨K - 1, by omega⟩
      have hlt : i < xs.length := by omega
      obtain ⟨g, rfl, -, -⟩ := H1.out.addr hlt
      have k1 := (H1.out.below hb3 (Nat.le_refl _)).cell i hlt
      obtain ⟨r11, r12⟩ := I1.out.lat i
      have t1 : (i : Int) < xs.length := by omega
      have hnx : m * 1000000000 + lat xs i ≤ 9223372036854775807 := by
        have h1 := HDR.out i
        have h2 := nv_drop xs i hlt
        have h3 := HM.out
        omega
      have HN : Hid (m * 1000000000 + lat xs i = nv (xs.drop i)) := by
        unfold Hid
        have h2 := nv_drop xs i hlt
        have h3 := HM.out
        omega
      rw [show ((i + 1 : Nat) : Int) - 1 = (i : Int) by omega]
      go_wp2
      go_roundw
      case rel => exact ⟨i, _, by omega, by go_num, rfl, by omega, by omega, HN.out, (by first | rfl | trivial)⟩
      case measure => (simp [intOf]) <;> omega
    · obtain rfl : K = 0 := by omega
      go_wp2
      go_ret2
      exact retIB (by have := HM.out; rw [List.drop_zero, EV.out] at this; exact this) rfl hb3

end Go.Proofs.YtijeplcjbhkkoaaGreatDoor

/- The reference's greatest common divisor: l02Gcd. -/
namespace Go.Proofs.YtijeplcjbhkkoaaGreatDoor
open Go.RowKit Lm

set_option maxHeartbeats 1000000 in
theorem l02Gcd_c (w : World) (b1 b2 : Nat) (v1 v2 : Value) (a b : Nat) (h1 : Own w b1 v1 (limbs a)) (h2 : Own w b2 v2 (limbs b)) (hs1 : (limbs a).length ≤ 900) (hs2 : (limbs b).length ≤ 900) :
    Calls Tryz.prog 123 #[v1, v2] w (RetS w (limbs (Nat.gcd a b))) := by
  have H1 := Lib.hid h1; have H2 := Lib.hid h2
  have HL := Lib.hid (Own.lit0 w)
  clear h1 h2
  go_enter Tryz.func123, Tryz.ntmps123
  go_wp2_with (at_builtin; refine app_own rfl _ _ rfl _ _ w.heap.size b1 [] (limbs a) rfl rfl HL.out (H1.out.alloc _) (by simp; omega) (by simp) ?_)
  intro vx w1 hx hg1 _
  try rw [List.nil_append] at hx
  have B1 := HL.out.grownBelow ((Below.refl _ _).alloc (Nat.le_refl _) _) hg1 (Nat.le_refl _) (by simp)
  have HX := Lib.hid hx
  have hsz1 := B1.size
  have HL2 := Lib.hid (Own.lit0 w1)
  clear hx hg1
  go_wp2_with (at_builtin; refine app_own rfl _ _ rfl _ _ w1.heap.size b2 [] (limbs b) rfl rfl HL2.out ((H2.out.below B1 (Nat.le_refl _)).alloc _) (by simp; omega) (by simp) ?_)
  intro vy w2 hy hg2 _
  try rw [List.nil_append] at hy
  have hb2 := HL2.out.grownBelow ((Below.refl _ _).alloc (Nat.le_refl _) _) hg2 (Nat.le_refl _) (by simp)
  have B2 := B1.trans (hb2.mono hsz1)
  have HX2 := Lib.hid (HX.out.below hb2 (Nat.le_refl _))
  have HY2 := Lib.hid (hy.mono hsz1)
  clear hy hg2 HX hb2
  go_wp2_with fail
  go_loopg [5, 6] b (fun y v0 v1 wr => ∃ (x : Nat) (a1 a2 : Option Addr) (c1 c2 : Nat), v0 = .slice a1 (limbs x).length c1 ∧ v1 = .slice a2 (limbs y).length c2 ∧ (limbs x).length ≤ 900 ∧ (limbs y).length ≤ 900 ∧ Hid (Own wr w.heap.size (.slice a1 (limbs x).length c1) (limbs x)) ∧ Hid (Own wr w.heap.size (.slice a2 (limbs y).length c2) (limbs y)) ∧ Hid (Nat.gcd x y = Nat.gcd a b) ∧ Below w.heap.size w wr)
  case atStart =>
    obtain ⟨a1, c1, rfl, -, -, -, -, -⟩ := HX2.out.form
    obtain ⟨a2, c2, rfl, -, -, -, -, -⟩ := HY2.out.form
    exact ⟨a, a1, a2, c1, c2, rfl, rfl, hs1, hs2, HX2.out, HY2.out, rfl, B2⟩
  case round =>
    clear HX2 HY2 B2
    obtain ⟨x, a1, a2, c1, c2, rfl, rfl, hl1, hl2, HX, HY, HG, hb⟩ := hrel
    have hsz := hb.size
    by_cases hy0 : gk = 0
    · subst hy0
      have HE : Hid (x = Nat.gcd a b) := by have := HG.out; rw [Nat.gcd_zero_right] at this; exact this
      have d1 : decide ((0 : Int) < (limbs 0).length) = false := rfl
      have d2 : decide (0 < (limbs 0).length) = false := rfl
      go_wp2
      go_ret
      exact retS HX.out (by rw [← HE.out]) hb
    · have hy : 0 < gk := by omega
      have hlp := limbs_len_pos.2 hy
      have d1 : decide ((0 : Int) < (limbs gk).length) = true := decide_eq_true (by omega)
      have d2 : decide (0 < (limbs gk).length) = true := decide_eq_true (by omega)
      by_cases hsm : (limbs x).length < 3 ∧ (limbs gk).length < 3
      · have d3 : decide (((limbs x).length : Int) < 3) = true := decide_eq_true (by omega)
        have d4 : decide (((limbs gk).length : Int) < 3) = true := decide_eq_true (by omega)
        have hx2 : x ≤ 9223372036854775807 := by
          have := (limbs_len_le (n := x) (k := 2)).1 (by omega)
          simp only [pw] at this; omega
        have hg2 : gk ≤ 9223372036854775807 := by
          have := (limbs_len_le (n := gk) (k := 2)).1 (by omega)
          simp only [pw] at this; omega
        clear hsm hy0
        go_wp2_with fail
        refine (specNatToInt_ok wr _ _ x HX.out hx2).mono ?_
        rintro e w3 ⟨rfl, hb3⟩
        go_wp2_with fail
        refine (specNatToInt_ok w3 _ _ gk (HY.out.below hb3 (Nat.le_refl _)) hg2).mono ?_
        rintro e w4 ⟨rfl, hb4⟩
        have B4 := (hb.trans (hb3.mono hb.size)).trans (hb4.mono (Nat.le_trans hb.size hb3.size))
        go_wp2_with fail
        refine (l02Plain_c w4 x gk (.inr hy) hx2 hg2).mono ?_
        rintro e w5 ⟨v, rfl, ho, hb5⟩
        have HO := Lib.hid ho
        clear ho
        go_wp2
        go_ret
        exact retS (HO.out.mono B4.size) (by rw [HG.out]) (B4.trans (hb5.mono B4.size))
      · have hl3 : (limbs (x % gk)).length ≤ 900 := Nat.le_trans (limbs_len_mono (Nat.le_of_lt (Nat.mod_lt _ hy))) hl2
        have HD := Lib.hid (l02Div_c wr _ _ _ _ x gk HX.out HY.out (by omega) hl2 hy)
        by_cases hx3 : (limbs x).length < 3
        · have d3 : decide (((limbs x).length : Int) < 3) = true := decide_eq_true (by omega)
          have d4 : decide (((limbs gk).length : Int) < 3) = false := decide_eq_false (by omega)
          clear hsm hy0
          go_wp2_with fail
          refine HD.out.mono ?_
          rintro e w3 ⟨q, r, rfl, hq, hr, -, hb3⟩
          obtain ⟨ar, cr, rfl, -, -, -, -, -⟩ := hr.form
          have HR := Lib.hid (hr.mono hsz)
          clear hq hr
          go_wp2_with fail
          go_roundg (x % gk)
          case rel => exact ⟨gk, a2, ar, c2, cr, rfl, rfl, hl2, hl3, HY.out.below hb3 (Nat.le_refl _), HR.out, by have := HG.out; unfold Hid; rw [← this, Nat.gcd_comm x gk, Nat.gcd_comm gk (x % gk)]; exact (Nat.gcd_rec gk x).symm, hb.trans (hb3.mono hsz)⟩
          case measure => exact Nat.mod_lt _ hy
        · have d3 : decide (((limbs x).length : Int) < 3) = false := decide_eq_false (by omega)
          clear hsm hy0
          go_wp2_with fail
          refine HD.out.mono ?_
          rintro e w3 ⟨q, r, rfl, hq, hr, -, hb3⟩
          obtain ⟨ar, cr, rfl, -, -, -, -, -⟩ := hr.form
          have HR := Lib.hid (hr.mono hsz)
          clear hq hr
          go_wp2_with fail
          go_roundg (x % gk)
          case rel => exact ⟨gk, a2, ar, c2, cr, rfl, rfl, hl2, hl3, HY.out.below hb3 (Nat.le_refl _), HR.out, by have := HG.out; unfold Hid; rw [← this, Nat.gcd_comm x gk, Nat.gcd_comm gk (x % gk)]; exact (Nat.gcd_rec gk x).symm, hb.trans (hb3.mono hsz)⟩
          case measure => exact Nat.mod_lt _ hy

end Go.Proofs.YtijeplcjbhkkoaaGreatDoor

/- The exported functions on natural numbers, the program's and the reference's: NatCmp, NatAdd, NatSub, NatMul, NatDiv, NatGcd. -/
namespace Go.Proofs.YtijeplcjbhkkoaaGreatDoor
open Go.RowKit Lm

theorem alloc_below {w w' : World} {o : Obj} (h : Below (w.alloc o).heap.size (w.alloc o) w') : Below w.heap.size w w' :=
  ((Below.refl _ _).alloc (Nat.le_refl _) o).trans (h.mono (by simp))
theorem apart_nil {u : Value} : Apart (.slice none 0 0) u := fun k h => by cases h
theorem heap_le_alloc (w : World) (o : Obj) : w.heap.size ≤ (w.alloc o).heap.size := by simp

theorem ok_limbs {xs : List Int} (h : OkP xs) : ∃ a : Nat, xs = limbs a ∧ (limbs a).length ≤ 60 := by
  refine ⟨(nv xs).toNat, h.2.limbs', ?_⟩
  rw [← h.2.limbs']; exact h.1
theorem limbs_ok {a : Nat} (h : (limbs a).length ≤ 60) : OkP (limbs a) := ⟨h, limbs_norm a⟩
theorem nv_toNat (a : Nat) : (nv (limbs a)).toNat = a := by rw [nv_limbs]; omega

/-- A number, if it has no more than 60 limbs. -/
noncomputable def fitV (n : Nat) : List Int := if (limbs n).length ≤ 60 then limbs n else []
theorem fitV_len (n : Nat) : (fitV n).length ≤ 60 := by unfold fitV; split <;> simp_all
open Classical in
noncomputable def cmpV (xs ys : List Int) : Int := if OkP xs ∧ OkP ys then cmp3 (nv xs) (nv ys) else 0
open Classical in
noncomputable def addV (xs ys : List Int) : List Int := if OkP xs ∧ OkP ys then fitV ((nv xs).toNat + (nv ys).toNat) else []
open Classical in
noncomputable def subV (xs ys : List Int) : List Int := if OkP xs ∧ OkP ys ∧ nv ys ≤ nv xs then limbs ((nv xs).toNat - (nv ys).toNat) else []
open Classical in
noncomputable def mulV (xs ys : List Int) : List Int := if OkP xs ∧ OkP ys then fitV ((nv xs).toNat * (nv ys).toNat) else []
open Classical in
noncomputable def divQ (xs ys : List Int) : List Int := if OkP xs ∧ OkP ys ∧ ys ≠ [] then limbs ((nv xs).toNat / (nv ys).toNat) else []
open Classical in
noncomputable def divR (xs ys : List Int) : List Int := if OkP xs ∧ OkP ys ∧ ys ≠ [] then limbs ((nv xs).toNat % (nv ys).toNat) else []
open Classical in
noncomputable def gcdV (xs ys : List Int) : List Int := if OkP xs ∧ OkP ys then limbs (Nat.gcd (nv xs).toNat (nv ys).toNat) else []

theorem natOk_t (w : World) (b1 : Nat) (v1 : Value) (xs : List Int) (h1 : Own w b1 v1 xs) (h : OkP xs) : Calls Tryz.prog 38 #[v1] w (RetB w true) := by
  have := natOk_c w b1 v1 xs h1
  rwa [okB_true h] at this
theorem natOk_f (w : World) (b1 : Nat) (v1 : Value) (xs : List Int) (h1 : Own w b1 v1 xs) (h : ¬ OkP xs) : Calls Tryz.prog 38 #[v1] w (RetB w false) := by
  have := natOk_c w b1 v1 xs h1
  rwa [okB_false h] at this
theorem specNatOk_t (w : World) (b1 : Nat) (v1 : Value) (xs : List Int) (h1 : Own w b1 v1 xs) (h : OkP xs) : Calls Tryz.prog 120 #[v1] w (RetB w true) := by
  have := specNatOk_c w b1 v1 xs h1
  rwa [okB_true h] at this
theorem specNatOk_f (w : World) (b1 : Nat) (v1 : Value) (xs : List Int) (h1 : Own w b1 v1 xs) (h : ¬ OkP xs) : Calls Tryz.prog 120 #[v1] w (RetB w false) := by
  have := specNatOk_c w b1 v1 xs h1
  rwa [okB_false h] at this

/-- An int that is not negative. -/
def RetGe (w : World) (e : Ending) (w' : World) : Prop := ∃ c : Int, 0 ≤ c ∧ e = .returned (.int .i64 c) ∧ Below w.heap.size w w'

theorem natCmp_lt (w : World) (b1 b2 : Nat) (v1 v2 : Value) (a b : Nat) (h1 : Own w b1 v1 (limbs a)) (h2 : Own w b2 v2 (limbs b)) (h : a < b) : Calls Tryz.prog 84 #[v1, v2] w (RetI w (-1)) := by
  have := natCmp_n w b1 b2 v1 v2 a b h1 h2
  rwa [show cmp3 (a : Int) b = -1 by rcases cmp3_cases a b with ⟨h1, e⟩ | ⟨h1, e⟩ | ⟨h1, e⟩ <;> omega] at this
theorem natCmp_ge (w : World) (b1 b2 : Nat) (v1 v2 : Value) (a b : Nat) (h1 : Own w b1 v1 (limbs a)) (h2 : Own w b2 v2 (limbs b)) (h : b ≤ a) : Calls Tryz.prog 84 #[v1, v2] w (RetGe w) := by
  refine (natCmp_n w b1 b2 v1 v2 a b h1 h2).mono ?_
  rintro e w1 ⟨rfl, hb⟩
  exact ⟨_, by rcases cmp3_cases a b with ⟨h1, e⟩ | ⟨h1, e⟩ | ⟨h1, e⟩ <;> omega, rfl, hb⟩
theorem l02Cmp_lt (w : World) (b1 b2 : Nat) (v1 v2 : Value) (a b : Nat) (h1 : Own w b1 v1 (limbs a)) (h2 : Own w b2 v2 (limbs b)) (h : a < b) : Calls Tryz.prog 141 #[v1, v2] w (RetI w (-1)) := by
  have := l02Cmp_n w b1 b2 v1 v2 a b h1 h2
  rwa [show cmp3 (a : Int) b = -1 by rcases cmp3_cases a b with ⟨h1, e⟩ | ⟨h1, e⟩ | ⟨h1, e⟩ <;> omega] at this
theorem l02Cmp_ge (w : World) (b1 b2 : Nat) (v1 v2 : Value) (a b : Nat) (h1 : Own w b1 v1 (limbs a)) (h2 : Own w b2 v2 (limbs b)) (h : b ≤ a) : Calls Tryz.prog 141 #[v1, v2] w (RetGe w) := by
  refine (l02Cmp_n w b1 b2 v1 v2 a b h1 h2).mono ?_
  rintro e w1 ⟨rfl, hb⟩
  exact ⟨_, by rcases cmp3_cases a b with ⟨h1, e⟩ | ⟨h1, e⟩ | ⟨h1, e⟩ <;> omega, rfl, hb⟩

theorem addV_len (xs ys : List Int) : (addV xs ys).length ≤ 1000 := by
  unfold addV; split
  · have := fitV_len ((nv xs).toNat + (nv ys).toNat); omega
  · simp
theorem mulV_len (xs ys : List Int) : (mulV xs ys).length ≤ 1000 := by
  unfold mulV; split
  · have := fitV_len ((nv xs).toNat * (nv ys).toNat); omega
  · simp
theorem len_of_le {xs : List Int} (h : OkP xs) {n : Nat} (hn : n ≤ (nv xs).toNat) : (limbs n).length ≤ 1000 := by
  have h1 := limbs_len_mono hn
  rw [← h.2.limbs'] at h1
  have := h.1
  omega
theorem subV_len (xs ys : List Int) : (subV xs ys).length ≤ 1000 := by
  unfold subV; split
  · next h => exact len_of_le h.1 (Nat.sub_le _ _)
  · simp
theorem divQ_len (xs ys : List Int) : (divQ xs ys).length ≤ 1000 := by
  unfold divQ; split
  · next h => exact len_of_le h.1 (Nat.div_le_self _ _)
  · simp
theorem divR_len (xs ys : List Int) : (divR xs ys).length ≤ 1000 := by
  unfold divR; split
  · next h => exact len_of_le h.1 (Nat.mod_le _ _)
  · simp
theorem gcdV_len (xs ys : List Int) : (gcdV xs ys).length ≤ 1000 := by
  unfold gcdV; split
  · next h =>
    rcases Nat.eq_zero_or_pos (nv xs).toNat with h0 | h0
    · rw [h0, Nat.gcd_zero_left]; exact len_of_le h.2 (Nat.le_refl _)
    · exact len_of_le h.1 (Nat.gcd_le_left _ h0)
  · simp

end Go.Proofs.YtijeplcjbhkkoaaGreatDoor

/- NatToInt, the program's and the reference's: one contract each. -/
namespace Go.Proofs.YtijeplcjbhkkoaaGreatDoor
open Go.RowKit Lm

open Classical in
noncomputable def toIntN (xs : List Int) : Int := if OkP xs ∧ nv xs ≤ 9223372036854775807 then nv xs else 0
open Classical in
noncomputable def toIntB (xs : List Int) : Bool := decide (OkP xs ∧ nv xs ≤ 9223372036854775807)
open Classical in
theorem toInt_no {xs : List Int} (h : ¬ (OkP xs ∧ nv xs ≤ 9223372036854775807)) : toIntN xs = 0 ∧ toIntB xs = false := ⟨if_neg h, decide_eq_false h⟩
open Classical in
theorem toInt_yes {xs : List Int} (h : OkP xs ∧ nv xs ≤ 9223372036854775807) : toIntN xs = nv xs ∧ toIntB xs = true := ⟨if_pos h, decide_eq_true h⟩

theorem specNatToInt_c (w : World) (b1 : Nat) (v1 : Value) (xs : List Int) (h1 : Own w b1 v1 xs) : Calls Tryz.prog 138 #[v1] w (RetIB w (toIntN xs) (toIntB xs)) := by
  by_cases hx : OkP xs
  · by_cases hc : nv xs ≤ 9223372036854775807
    · obtain ⟨e1, e2⟩ := toInt_yes ⟨hx, hc⟩
      rw [e1, e2]
      obtain ⟨a, rfl, hl1⟩ := ok_limbs hx
      rw [nv_limbs] at hc ⊢
      exact specNatToInt_ok w b1 v1 a h1 (by omega)
    · obtain ⟨e1, e2⟩ := toInt_no (fun h => hc h.2)
      rw [e1, e2]
      obtain ⟨a, rfl, hl1⟩ := ok_limbs hx
      rw [nv_limbs] at hc
      exact specNatToInt_big w b1 v1 a h1 hl1 (by omega)
  · obtain ⟨e1, e2⟩ := toInt_no (fun h => hx h.1)
    rw [e1, e2]
    exact specNatToInt_bad w b1 v1 xs h1 hx
end Go.Proofs.YtijeplcjbhkkoaaGreatDoor
