/- The reference's drawn arguments: MakeNat. -/
import Derived.Test.YtijeplcjbhkkoaaDoorMake
import Derived.Test.YtijeplcjbhkkoaaDoorSpecM
import Derived.Test.YtijeplcjbhkkoaaDoorMathG
namespace Go.Proofs.YtijeplcjbhkkoaaDoor
open Go.RowKit Lm

/-- A number of three limbs at most, in new memory. -/
def RetW3 (w : World) (e : Ending) (w' : World) : Prop := ∃ u : Nat, (limbs u).length ≤ 3 ∧ RetS w (limbs u) e w'
theorem lenlt {u n : Nat} (h : (u : Int) < pw n) (hn : n ≤ 3) : (limbs u).length ≤ 3 := limbs_len_le.2 (Int.lt_of_lt_of_le h (pw_mono hn))
set_option maxHeartbeats 2000000 in
set_option maxRecDepth 100000 in
theorem makeNat_c (w : World) (v : Value) (x : List UInt8) (n : Int) (hr : RdY w w.heap.size v x) (hn : n ≤ 1000000) : Calls Tryd.prog 13 #[v, .int .i64 n] w (RetW3 w) := by
  have HR := Lib.hid hr
  clear hr
  go_enter Tryd.func13, Tryd.ntmps13
  go_wp2_with fail
  refine (l30New_c _ v x n HR.out hn).mono ?_
  rintro e w1 ⟨g, rfl, hg0, hg1, hc, hb⟩
  have hz := hb.size
  have HC := Lib.hid (hc.bel (alloc_bel w1 (.cells #[] 3)))
  have HL := Lib.hid ((Own.lit0 w1).mono (show g + 1 ≤ w1.heap.size by omega))
  have B1 := hb.alloc hz (.cells #[] 3)
  clear hc hb
  go_wp2_with fail
  refine (l01Below_c _ g 4 HC.out (by omega) (by omega)).mono ?_
  rintro e w2 ⟨k, rfl, k0, k1, hc, hg⟩
  have HC2 := Lib.hid hc
  have HL2 := Lib.hid (HL.out.grown hg (by right; intro e; have := HL.out.lt g e; omega))
  have B2 := B1.grown hg B1.size (fun k hk => by injection hk with hk; omega)
  clear hc hg HC HL B1
  go_wp2_with fail
  go_loopw [6, 7] (fun av kv wr => ∃ (k : Int) (o : List Int), 0 ≤ k ∧ k + o.length ≤ 3 ∧ kv = .int .i64 k ∧ Hid (Own wr (g + 1) av o) ∧ Hid (InR o) ∧ Hid (Cur wr g) ∧ Below w.heap.size w wr) (fun _ k _ => (RowKit.intOf k).toNat)
  case atStart => exact ⟨k, [], k0, by simp; omega, rfl, HL2.out, InR.nil, HC2.out, B2⟩
  case round =>
    clear HC2 HL2 B2
    obtain ⟨k, o, h0, hko, rfl, HO, HI, HC, hb⟩ := hrel
    have hgl := HC.out.lt
    by_cases hk : 0 < k
    · have d1 : decide (0 < k) = true := decide_eq_true hk
      go_wp2_with fail
      refine (l01Below_c _ g 1000 HC.out (by omega) (by omega)).mono ?_
      rintro e w3 ⟨y, rfl, y0, y1, hc, hg⟩
      have HC3 := Lib.hid hc
      have HO3 := Lib.hid (HO.out.grown hg (by right; intro e; have := HO.out.lt g e; omega))
      have B3 := hb.grown hg hb.size (fun k hk => by injection hk with hk; omega)
      clear hc hg HC HO hb
      go_wp2_with fail
      refine (l01Below_c _ g 1000 HC3.out (by omega) (by omega)).mono ?_
      rintro e w4 ⟨z, rfl, z0, z1, hc, hg⟩
      have HC4 := Lib.hid hc
      have HO4 := Lib.hid (HO3.out.grown hg (by right; intro e; have := HO3.out.lt g e; omega))
      have B4 := B3.grown hg B3.size (fun k hk => by injection hk with hk; omega)
      have hgl4 := hc.lt
      have hws := B4.size
      clear hc hg HC3 HO3 B3
      have HI2 := Lib.hid (Tx.inR_snoc HI.out (x := y * 1000000 + z) (by omega) (by omega))
      go_wp2_with (at_builtin; refine app_own rfl _ _ rfl _ _ (g + 1) w4.heap.size o [y * 1000000 + z] rfl rfl (HO4.out.alloc _) (Own.lit1 _ _) (by simp; omega) (by simp; omega) ?_)
      intro v' w5 ho hgb _
      have hb5 := (HO4.out.alloc _).grownBelow (B4.alloc hws _) hgb (by omega) (by simp; omega)
      have HC5 := Lib.hid ((HC4.out.bel (alloc_bel w4 _)).same hgb.size fun k hk => hgb.block k (by simp; omega) fun e => by have := (HO4.out.lt k e.symm).1; omega)
      have HO5 := Lib.hid ho
      clear ho hgb HC4 HO4 B4
      go_wp2
      go_roundw
      case rel => exact ⟨k - 1, _, by omega, by simp; omega, by go_num, HO5.out, HI2.out, HC5.out, hb5⟩
      case measure => (simp [RowKit.intOf]) <;> omega
    · obtain rfl : k = 0 := by omega
      obtain ⟨u, hu⟩ := Int.eq_ofNat_of_zero_le (HI.out.nonneg)
      have hu3 : (limbs u).length ≤ 3 := lenlt (n := o.length) (by rw [← hu]; exact HI.out.lt) (by omega)
      have HU := Lib.hid hu
      clear hu
      go_wp2_with fail
      refine (l02Trim_c _ _ _ o u (HO.out.alloc _) HI.out HU.out).mono ?_
      rintro e w5 ⟨v2, rfl, ho2, _, hb2⟩
      have HLIT := Lib.hid (((Own.lit0 wr).below hb2 (Nat.le_refl _)).mono hb.size)
      have B5 := (hb.alloc hb.size (.cells #[] 3)).trans (hb2.mono (by have := hb.size; simp; omega))
      have HO2 := Lib.hid ho2
      have hz5 := B5.size
      clear ho2 hb2 HO HC
      go_wp2_with (at_builtin; refine app_own rfl _ _ rfl _ _ w.heap.size (g + 1) [] (limbs u) rfl rfl HLIT.out HO2.out (by simp; omega) hz5 ?_)
      intro v' w6 ho hgb _
      have B6 := HLIT.out.grownBelow B5 hgb (Nat.le_refl _) hz5
      have HO3 := Lib.hid ho
      clear ho hgb B5 HLIT HO2
      go_wp2
      go_ret
      exact ⟨u, hu3, retS HO3.out (List.nil_append _) B6⟩

end Go.Proofs.YtijeplcjbhkkoaaDoor
