/- The laws' own helpers on fractions: toRat, szRat, eqRat, markRat, heldRat; a fraction that came in, opened. -/
import Derived.Test.YtcmhpdhcpkhejaaDoorRatA
namespace Go.Proofs.YtcmhpdhcpkhejaaDoor
open Go.ChangeShapes Go.WideShapes Go.ChangeAt Go.RowKit Lm

/-- Two slices that came in. -/
def Rd2 (w : World) (v u : Value) (xs ys : List Int) : Prop := Rd w v xs ∧ Rd w u ys
theorem Rd2.below {w w' : World} {v u : Value} {xs ys : List Int} (h : Rd2 w v u xs ys) (hb : Below w.heap.size w w') : Rd2 w' v u xs ys := ⟨h.1.below hb, h.2.below hb⟩

theorem retR_fin {w wk : World} {g base : Nat} {s : Bool} {u v : Value} {xs ys : List Int} (hB : Below w.heap.size w wk) (hg : w.heap.size ≤ g) (hb : w.heap.size ≤ base)
    (hu : Own wk base u xs) (hv : Own wk base v ys) (nu : u.ownBlock ≠ some g) (nv : v.ownBlock ≠ some g) (ha : Apart u v) :
    RetR w s xs ys (.returned (.agg #[.bool s, u, v])) (((wk.setCell ⟨g, 0, none⟩ (.bool s)).setCell ⟨g, 1, none⟩ u).setCell ⟨g, 2, none⟩ v) :=
  ⟨u, v, rfl, (set3_own hu nu).mono hb, (set3_own hv nv).mono hb, ha, set3_below hB hg⟩

set_option maxHeartbeats 1000000 in
theorem toRat_c (w : World) (v1 u1 : Value) (s : Bool) (xs ys : List Int) (h : Rd2 w v1 u1 xs ys) (hl1 : xs.length ≤ 17592186044415) (hl2 : ys.length ≤ 17592186044415) :
    Calls Tryd.prog 13 #[.agg #[.bool s, v1, u1]] w (RetR w s xs ys) := by
  have BW : Below w.heap.size w (((w.alloc (.cells #[.bool s, v1, u1] 34)).alloc (.cells #[.bool false, .slice none 0 0, .slice none 0 0] 39)).alloc (.cells #[.bool false, .slice none 0 0, .slice none 0 0] 39)) := ((((Below.refl w.heap.size w).alloc (Nat.le_refl _) _).alloc (by simp) _).alloc (by simp; omega) _)
  obtain ⟨c0_0, c0_1, c0_2, c1_0, c1_1, c1_2, q0, q1, q2, c2_0, c2_1, c2_2, q2_0, q2_1, q2_2⟩ : World.cell? (((w.alloc (.cells #[.bool s, v1, u1] 34)).alloc (.cells #[.bool false, .slice none 0 0, .slice none 0 0] 39)).alloc (.cells #[.bool false, .slice none 0 0, .slice none 0 0] 39)) ⟨w.heap.size, 0, none⟩ = some (.bool s) ∧ World.cell? (((w.alloc (.cells #[.bool s, v1, u1] 34)).alloc (.cells #[.bool false, .slice none 0 0, .slice none 0 0] 39)).alloc (.cells #[.bool false, .slice none 0 0, .slice none 0 0] 39)) ⟨w.heap.size, 1, none⟩ = some (v1) ∧ World.cell? (((w.alloc (.cells #[.bool s, v1, u1] 34)).alloc (.cells #[.bool false, .slice none 0 0, .slice none 0 0] 39)).alloc (.cells #[.bool false, .slice none 0 0, .slice none 0 0] 39)) ⟨w.heap.size, 2, none⟩ = some (u1) ∧ World.cell? (((w.alloc (.cells #[.bool s, v1, u1] 34)).alloc (.cells #[.bool false, .slice none 0 0, .slice none 0 0] 39)).alloc (.cells #[.bool false, .slice none 0 0, .slice none 0 0] 39)) ⟨w.heap.size + 1, 0, none⟩ = some (.bool false) ∧ World.cell? (((w.alloc (.cells #[.bool s, v1, u1] 34)).alloc (.cells #[.bool false, .slice none 0 0, .slice none 0 0] 39)).alloc (.cells #[.bool false, .slice none 0 0, .slice none 0 0] 39)) ⟨w.heap.size + 1, 1, none⟩ = some (.slice none 0 0) ∧ World.cell? (((w.alloc (.cells #[.bool s, v1, u1] 34)).alloc (.cells #[.bool false, .slice none 0 0, .slice none 0 0] 39)).alloc (.cells #[.bool false, .slice none 0 0, .slice none 0 0] 39)) ⟨w.heap.size + 1, 2, none⟩ = some (.slice none 0 0) ∧ World.frozen? (((w.alloc (.cells #[.bool s, v1, u1] 34)).alloc (.cells #[.bool false, .slice none 0 0, .slice none 0 0] 39)).alloc (.cells #[.bool false, .slice none 0 0, .slice none 0 0] 39)) ⟨w.heap.size + 1, 0, none⟩ = false ∧ World.frozen? (((w.alloc (.cells #[.bool s, v1, u1] 34)).alloc (.cells #[.bool false, .slice none 0 0, .slice none 0 0] 39)).alloc (.cells #[.bool false, .slice none 0 0, .slice none 0 0] 39)) ⟨w.heap.size + 1, 1, none⟩ = false ∧ World.frozen? (((w.alloc (.cells #[.bool s, v1, u1] 34)).alloc (.cells #[.bool false, .slice none 0 0, .slice none 0 0] 39)).alloc (.cells #[.bool false, .slice none 0 0, .slice none 0 0] 39)) ⟨w.heap.size + 1, 2, none⟩ = false ∧ World.cell? (((w.alloc (.cells #[.bool s, v1, u1] 34)).alloc (.cells #[.bool false, .slice none 0 0, .slice none 0 0] 39)).alloc (.cells #[.bool false, .slice none 0 0, .slice none 0 0] 39)) ⟨w.heap.size + 1 + 1, 0, none⟩ = some (.bool false) ∧ World.cell? (((w.alloc (.cells #[.bool s, v1, u1] 34)).alloc (.cells #[.bool false, .slice none 0 0, .slice none 0 0] 39)).alloc (.cells #[.bool false, .slice none 0 0, .slice none 0 0] 39)) ⟨w.heap.size + 1 + 1, 1, none⟩ = some (.slice none 0 0) ∧ World.cell? (((w.alloc (.cells #[.bool s, v1, u1] 34)).alloc (.cells #[.bool false, .slice none 0 0, .slice none 0 0] 39)).alloc (.cells #[.bool false, .slice none 0 0, .slice none 0 0] 39)) ⟨w.heap.size + 1 + 1, 2, none⟩ = some (.slice none 0 0) ∧ World.frozen? (((w.alloc (.cells #[.bool s, v1, u1] 34)).alloc (.cells #[.bool false, .slice none 0 0, .slice none 0 0] 39)).alloc (.cells #[.bool false, .slice none 0 0, .slice none 0 0] 39)) ⟨w.heap.size + 1 + 1, 0, none⟩ = false ∧ World.frozen? (((w.alloc (.cells #[.bool s, v1, u1] 34)).alloc (.cells #[.bool false, .slice none 0 0, .slice none 0 0] 39)).alloc (.cells #[.bool false, .slice none 0 0, .slice none 0 0] 39)) ⟨w.heap.size + 1 + 1, 1, none⟩ = false ∧ World.frozen? (((w.alloc (.cells #[.bool s, v1, u1] 34)).alloc (.cells #[.bool false, .slice none 0 0, .slice none 0 0] 39)).alloc (.cells #[.bool false, .slice none 0 0, .slice none 0 0] 39)) ⟨w.heap.size + 1 + 1, 2, none⟩ = false := by simp [go_sem]
  have hg0 : w.heap.size + 1 < ((((w.alloc (.cells #[.bool s, v1, u1] 34)).alloc (.cells #[.bool false, .slice none 0 0, .slice none 0 0] 39)).alloc (.cells #[.bool false, .slice none 0 0, .slice none 0 0] 39))).heap.size := World.block_lt_of_cell? _ _ c1_0
  have hg2 : w.heap.size + 1 + 1 < ((((w.alloc (.cells #[.bool s, v1, u1] 34)).alloc (.cells #[.bool false, .slice none 0 0, .slice none 0 0] 39)).alloc (.cells #[.bool false, .slice none 0 0, .slice none 0 0] 39))).heap.size := World.block_lt_of_cell? _ _ c2_0
  have HX := Lib.hid h
  clear h
  go_enter Tryd.func13, Tryd.ntmps13
  go_wp2_with fail
  generalize (((w.alloc (.cells #[.bool s, v1, u1] 34)).alloc (.cells #[.bool false, .slice none 0 0, .slice none 0 0] 39)).alloc (.cells #[.bool false, .slice none 0 0, .slice none 0 0] 39)) = w0 at *
  have B0 := Below.refl w0.heap.size w0
  refine (toBigInt_c _ _ s xs (HX.out.1.below (BW.trans (B0.mono BW.size))) hl1).mono ?_
  rintro e w1 ⟨vn, rfl, ho1, hb⟩
  replace c0_0 := keep_cell hb c0_0
  replace c0_1 := keep_cell hb c0_1
  replace c0_2 := keep_cell hb c0_2
  replace q0 := keep_frozen (w1 := w1) hb c1_0 q0
  replace c1_0 := keep_cell (w1 := w1) hb c1_0
  replace q1 := keep_frozen (w1 := w1) hb c1_1 q1
  replace c1_1 := keep_cell (w1 := w1) hb c1_1
  replace q2 := keep_frozen (w1 := w1) hb c1_2 q2
  replace c1_2 := keep_cell (w1 := w1) hb c1_2
  replace q2_0 := keep_frozen (w1 := w1) hb c2_0 q2_0
  replace c2_0 := keep_cell (w1 := w1) hb c2_0
  replace q2_1 := keep_frozen (w1 := w1) hb c2_1 q2_1
  replace c2_1 := keep_cell (w1 := w1) hb c2_1
  replace q2_2 := keep_frozen (w1 := w1) hb c2_2 q2_2
  replace c2_2 := keep_cell (w1 := w1) hb c2_2
  have Hn := Lib.hid (ho1.mono B0.size)
  clear ho1
  obtain ⟨an, cn, rfl, -, -, -, -, -⟩ := Hn.out.form
  replace B0 := B0.trans (hb.mono B0.size)
  clear hb
  have ne1 : ¬ w.heap.size = w.heap.size + 1 + 1 := by omega
  have BS : Below w.heap.size w ((w1.setCell ⟨w.heap.size + 1 + 1, 0, none⟩ (.bool s)).setCell ⟨w.heap.size + 1 + 1, 1, none⟩ (.slice an xs.length cn)) := ((BW.trans (B0.mono BW.size)).setCell (by dsimp only; omega) _).setCell (by dsimp only; omega) _
  have Hn2 := Lib.hid ((Hn.out.setOther (g := w.heap.size + 1 + 1) (i := 0) (ne_of_base Hn.out hg2) (.bool s)).setOther (g := w.heap.size + 1 + 1) (i := 1) (ne_of_base Hn.out hg2) (.slice an xs.length cn))
  obtain ⟨d0_2, d1_0, d1_1, d1_2, d2_0, d2_1, d2_2⟩ : World.cell? ((w1.setCell ⟨w.heap.size + 1 + 1, 0, none⟩ (.bool s)).setCell ⟨w.heap.size + 1 + 1, 1, none⟩ (.slice an xs.length cn)) ⟨w.heap.size, 2, none⟩ = some u1 ∧ World.cell? ((w1.setCell ⟨w.heap.size + 1 + 1, 0, none⟩ (.bool s)).setCell ⟨w.heap.size + 1 + 1, 1, none⟩ (.slice an xs.length cn)) ⟨w.heap.size + 1, 0, none⟩ = some (.bool false) ∧ World.cell? ((w1.setCell ⟨w.heap.size + 1 + 1, 0, none⟩ (.bool s)).setCell ⟨w.heap.size + 1 + 1, 1, none⟩ (.slice an xs.length cn)) ⟨w.heap.size + 1, 1, none⟩ = some (.slice none 0 0) ∧ World.cell? ((w1.setCell ⟨w.heap.size + 1 + 1, 0, none⟩ (.bool s)).setCell ⟨w.heap.size + 1 + 1, 1, none⟩ (.slice an xs.length cn)) ⟨w.heap.size + 1, 2, none⟩ = some (.slice none 0 0) ∧ World.cell? ((w1.setCell ⟨w.heap.size + 1 + 1, 0, none⟩ (.bool s)).setCell ⟨w.heap.size + 1 + 1, 1, none⟩ (.slice an xs.length cn)) ⟨w.heap.size + 1 + 1, 0, none⟩ = some (.bool s) ∧ World.cell? ((w1.setCell ⟨w.heap.size + 1 + 1, 0, none⟩ (.bool s)).setCell ⟨w.heap.size + 1 + 1, 1, none⟩ (.slice an xs.length cn)) ⟨w.heap.size + 1 + 1, 1, none⟩ = some (.slice an xs.length cn) ∧ World.cell? ((w1.setCell ⟨w.heap.size + 1 + 1, 0, none⟩ (.bool s)).setCell ⟨w.heap.size + 1 + 1, 1, none⟩ (.slice an xs.length cn)) ⟨w.heap.size + 1 + 1, 2, none⟩ = some (.slice none 0 0) := by simp [go_sem, c0_2, c1_0, c1_1, c1_2, c2_0, c2_1, c2_2]
  obtain ⟨f0, f1, f2, f3⟩ : World.frozen? ((w1.setCell ⟨w.heap.size + 1 + 1, 0, none⟩ (.bool s)).setCell ⟨w.heap.size + 1 + 1, 1, none⟩ (.slice an xs.length cn)) ⟨w.heap.size + 1, 0, none⟩ = false ∧ World.frozen? ((w1.setCell ⟨w.heap.size + 1 + 1, 0, none⟩ (.bool s)).setCell ⟨w.heap.size + 1 + 1, 1, none⟩ (.slice an xs.length cn)) ⟨w.heap.size + 1, 1, none⟩ = false ∧ World.frozen? ((w1.setCell ⟨w.heap.size + 1 + 1, 0, none⟩ (.bool s)).setCell ⟨w.heap.size + 1 + 1, 1, none⟩ (.slice an xs.length cn)) ⟨w.heap.size + 1, 2, none⟩ = false ∧ World.frozen? ((w1.setCell ⟨w.heap.size + 1 + 1, 0, none⟩ (.bool s)).setCell ⟨w.heap.size + 1 + 1, 1, none⟩ (.slice an xs.length cn)) ⟨w.heap.size + 1 + 1, 2, none⟩ = false := by simp [go_sem, q0, q1, q2, q2_2]
  have hsz : w0.heap.size ≤ w1.heap.size := B0.size
  go_wp2_with fail
  have hws : (((w1.setCell ⟨w.heap.size + 1 + 1, 0, none⟩ (.bool s)).setCell ⟨w.heap.size + 1 + 1, 1, none⟩ (.slice an xs.length cn))).heap.size = w1.heap.size := by simp [World.setCell]
  have HWS := Lib.hid hws
  clear hws
  generalize ((w1.setCell ⟨w.heap.size + 1 + 1, 0, none⟩ (.bool s)).setCell ⟨w.heap.size + 1 + 1, 1, none⟩ (.slice an xs.length cn)) = w2 at *
  refine (toIntS_c _ _ _ (HX.out.2.below BS) hl2).mono ?_
  rintro e w3 ⟨vd, rfl, ho1, hb⟩
  have HAP := apart_new Hn2.out (.inr rfl) ho1
  have hsz2 : w0.heap.size ≤ w2.heap.size := by rw [HWS.out]; exact hsz
  have Hd := Lib.hid (ho1.mono hsz2)
  have Hn3 := Lib.hid (Hn2.out.below hb (Nat.le_refl _))
  have B3 := BS.trans (hb.mono BS.size)
  clear ho1 Hn Hn2
  obtain ⟨ad, cd, rfl, -, -, -, -, -⟩ := Hd.out.form
  replace f0 := keep_frozen hb d1_0 f0
  replace f1 := keep_frozen hb d1_1 f1
  replace f2 := keep_frozen hb d1_2 f2
  replace f3 := keep_frozen hb d2_2 f3
  replace d1_0 := keep_cell hb d1_0
  replace d1_1 := keep_cell hb d1_1
  replace d1_2 := keep_cell hb d1_2
  replace d2_0 := keep_cell hb d2_0
  replace d2_1 := keep_cell hb d2_1
  replace d2_2 := keep_cell hb d2_2
  clear hb
  go_wp2
  exact bodyPost_ret (v := .agg #[.bool s, .slice an xs.length cn, .slice ad ys.length cd]) (by simp [results, Tryd.results13, go_sem, d1_0, d1_1, d1_2]) rfl (retR_fin (B3.setCell (p := ⟨w.heap.size + 1 + 1, 2, none⟩) (by dsimp only; omega) _) (by omega) BW.size (Hn3.out.setOther (ne_of_base Hn3.out hg2) _) (Hd.out.setOther (ne_of_base Hd.out hg2) _) (ne_of_base Hn3.out hg0) (ne_of_base Hd.out hg0) HAP)

set_option maxHeartbeats 1000000 in
theorem szRat_ok (w : World) (s : Bool) (n m c : Nat) (a : Option Addr) (e : Nat) (b : Option Addr) (l : Int) (h : 0 ≤ l - (n : Int)) (h2 : 0 ≤ l - (n : Int) - (m : Int)) (h3 : l ≤ 1048576) :
    Calls Tryd.prog 9 #[.agg #[.bool s, .slice a n c, .slice b m e], .int .i64 l] w (RetI w (l - (n : Int) - (m : Int))) := by
  have BW : Below w.heap.size w (w.alloc (.cells #[.bool s, (.slice a n c), (.slice b m e)] 34)) := ((Below.refl w.heap.size w).alloc (Nat.le_refl _) _)
  obtain ⟨c0_0, c0_1, c0_2⟩ : World.cell? (w.alloc (.cells #[.bool s, (.slice a n c), (.slice b m e)] 34)) ⟨w.heap.size, 0, none⟩ = some (.bool s) ∧ World.cell? (w.alloc (.cells #[.bool s, (.slice a n c), (.slice b m e)] 34)) ⟨w.heap.size, 1, none⟩ = some ((.slice a n c)) ∧ World.cell? (w.alloc (.cells #[.bool s, (.slice a n c), (.slice b m e)] 34)) ⟨w.heap.size, 2, none⟩ = some ((.slice b m e)) := by simp [go_sem]
  have d1 : decide (l - (n : Int) < 0) = false := decide_eq_false (by omega)
  have d2 : decide (l - (n : Int) - (m : Int) < 0) = false := decide_eq_false (by omega)
  go_enter Tryd.func9, Tryd.ntmps9
  go_wp2_with fail
  generalize (w.alloc (.cells #[.bool s, (.slice a n c), (.slice b m e)] 34)) = w0 at *
  have B0 := Below.refl w0.heap.size w0
  refine (szBigInt_ok _ s n c a l h h3).mono ?_
  rintro e w1 ⟨rfl, hb⟩
  replace c0_0 := keep_cell hb c0_0
  replace c0_1 := keep_cell hb c0_1
  replace c0_2 := keep_cell hb c0_2
  replace B0 := B0.trans (hb.mono B0.size)
  clear hb
  go_wp2_with fail
  refine (szIntS_ok _ m e b (l - (n : Int)) h2 (by omega) (by omega)).mono ?_
  rintro e w2 ⟨rfl, hb⟩
  replace c0_0 := keep_cell hb c0_0
  replace c0_1 := keep_cell hb c0_1
  replace c0_2 := keep_cell hb c0_2
  replace B0 := B0.trans (hb.mono B0.size)
  clear hb
  go_wp2
  go_ret
  exact retI rfl (BW.trans (B0.mono BW.size))

set_option maxHeartbeats 1000000 in
theorem szRat_y1 (w : World) (s : Bool) (n m c : Nat) (a : Option Addr) (e : Nat) (b : Option Addr) (l : Int) (h : l - (n : Int) < 0) (h2 : 0 ≤ l) (h3 : n ≤ 9223372036854775807) (h4 : l ≤ 1048576) :
    Calls Tryd.prog 9 #[.agg #[.bool s, .slice a n c, .slice b m e], .int .i64 l] w (RetI w (-1)) := by
  have BW : Below w.heap.size w (w.alloc (.cells #[.bool s, (.slice a n c), (.slice b m e)] 34)) := ((Below.refl w.heap.size w).alloc (Nat.le_refl _) _)
  obtain ⟨c0_0, c0_1, c0_2⟩ : World.cell? (w.alloc (.cells #[.bool s, (.slice a n c), (.slice b m e)] 34)) ⟨w.heap.size, 0, none⟩ = some (.bool s) ∧ World.cell? (w.alloc (.cells #[.bool s, (.slice a n c), (.slice b m e)] 34)) ⟨w.heap.size, 1, none⟩ = some ((.slice a n c)) ∧ World.cell? (w.alloc (.cells #[.bool s, (.slice a n c), (.slice b m e)] 34)) ⟨w.heap.size, 2, none⟩ = some ((.slice b m e)) := by simp [go_sem]
  go_enter Tryd.func9, Tryd.ntmps9
  go_wp2_with fail
  generalize (w.alloc (.cells #[.bool s, (.slice a n c), (.slice b m e)] 34)) = w0 at *
  have B0 := Below.refl w0.heap.size w0
  refine (szBigInt_x _ s n c a l h h2 h3 h4).mono ?_
  rintro e w1 ⟨rfl, hb⟩
  replace c0_0 := keep_cell hb c0_0
  replace c0_1 := keep_cell hb c0_1
  replace c0_2 := keep_cell hb c0_2
  replace B0 := B0.trans (hb.mono B0.size)
  clear hb
  go_wp2
  go_ret
  exact retI rfl (BW.trans (B0.mono BW.size))

set_option maxHeartbeats 1000000 in
theorem szRat_y2 (w : World) (s : Bool) (n m c : Nat) (a : Option Addr) (e : Nat) (b : Option Addr) (l : Int) (h : 0 ≤ l - (n : Int)) (h2 : l - (n : Int) - (m : Int) < 0) (h3 : m ≤ 9223372036854775807) (h4 : l ≤ 1048576) :
    Calls Tryd.prog 9 #[.agg #[.bool s, .slice a n c, .slice b m e], .int .i64 l] w (RetI w (-1)) := by
  have BW : Below w.heap.size w (w.alloc (.cells #[.bool s, (.slice a n c), (.slice b m e)] 34)) := ((Below.refl w.heap.size w).alloc (Nat.le_refl _) _)
  obtain ⟨c0_0, c0_1, c0_2⟩ : World.cell? (w.alloc (.cells #[.bool s, (.slice a n c), (.slice b m e)] 34)) ⟨w.heap.size, 0, none⟩ = some (.bool s) ∧ World.cell? (w.alloc (.cells #[.bool s, (.slice a n c), (.slice b m e)] 34)) ⟨w.heap.size, 1, none⟩ = some ((.slice a n c)) ∧ World.cell? (w.alloc (.cells #[.bool s, (.slice a n c), (.slice b m e)] 34)) ⟨w.heap.size, 2, none⟩ = some ((.slice b m e)) := by simp [go_sem]
  have d1 : decide (l - (n : Int) < 0) = false := decide_eq_false (by omega)
  go_enter Tryd.func9, Tryd.ntmps9
  go_wp2_with fail
  generalize (w.alloc (.cells #[.bool s, (.slice a n c), (.slice b m e)] 34)) = w0 at *
  have B0 := Below.refl w0.heap.size w0
  refine (szBigInt_ok _ s n c a l h h4).mono ?_
  rintro e w1 ⟨rfl, hb⟩
  replace c0_0 := keep_cell hb c0_0
  replace c0_1 := keep_cell hb c0_1
  replace c0_2 := keep_cell hb c0_2
  replace B0 := B0.trans (hb.mono B0.size)
  clear hb
  go_wp2_with fail
  refine (szIntS_no _ m e b (l - (n : Int)) h2 h h3 (by omega)).mono ?_
  rintro e w2 ⟨rfl, hb⟩
  replace c0_0 := keep_cell hb c0_0
  replace c0_1 := keep_cell hb c0_1
  replace c0_2 := keep_cell hb c0_2
  replace B0 := B0.trans (hb.mono B0.size)
  clear hb
  go_wp2
  go_ret
  exact retI rfl (BW.trans (B0.mono BW.size))

theorem szRat_x1 (w : World) (s : Bool) (n m c : Nat) (a : Option Addr) (e : Nat) (b : Option Addr) (l : Int) (h : l - (n : Int) < 0) (h2 : 0 ≤ l) (h3 : n ≤ 9223372036854775807) (h4 : l ≤ 1048576) :
    Calls Tryd.prog 9 #[.agg #[.bool s, .slice a n c, .slice b m e], .int .i64 l] w (RetI w (-1)) := szRat_y1 w s n m c a e b l h h2 h3 h4
theorem szRat_x2 (w : World) (s : Bool) (n m c : Nat) (a : Option Addr) (e : Nat) (b : Option Addr) (l : Int) (h : 0 ≤ l - (n : Int)) (h2 : l - (n : Int) - (m : Int) < 0) (_h5 : 0 ≤ l) (h3 : m ≤ 9223372036854775807) (h4 : l ≤ 1048576) :
    Calls Tryd.prog 9 #[.agg #[.bool s, .slice a n c, .slice b m e], .int .i64 l] w (RetI w (-1)) := szRat_y2 w s n m c a e b l h h2 h3 h4

set_option maxHeartbeats 1000000 in
theorem eqRat_k (w : World) (s : Bool) (xs ys : List Int) (b1 e1 b2 e2 : Nat) (v1 u1 v2 u2 : Value) (h1 : Own w b1 v1 xs) (k1 : Own w e1 u1 ys) (h2 : Own w b2 v2 xs) (k2 : Own w e2 u2 ys) :
    Calls Tryd.prog 17 #[.agg #[.bool s, v1, u1], .agg #[.bool s, v2, u2]] w (RetB w true) := by
  have BW : Below w.heap.size w ((w.alloc (.cells #[.bool s, v1, u1] 39)).alloc (.cells #[.bool s, v2, u2] 39)) := (((Below.refl w.heap.size w).alloc (Nat.le_refl _) _).alloc (by simp) _)
  obtain ⟨c0_0, c0_1, c0_2, c1_0, c1_1, c1_2⟩ : World.cell? ((w.alloc (.cells #[.bool s, v1, u1] 39)).alloc (.cells #[.bool s, v2, u2] 39)) ⟨w.heap.size, 0, none⟩ = some (.bool s) ∧ World.cell? ((w.alloc (.cells #[.bool s, v1, u1] 39)).alloc (.cells #[.bool s, v2, u2] 39)) ⟨w.heap.size, 1, none⟩ = some (v1) ∧ World.cell? ((w.alloc (.cells #[.bool s, v1, u1] 39)).alloc (.cells #[.bool s, v2, u2] 39)) ⟨w.heap.size, 2, none⟩ = some (u1) ∧ World.cell? ((w.alloc (.cells #[.bool s, v1, u1] 39)).alloc (.cells #[.bool s, v2, u2] 39)) ⟨w.heap.size + 1, 0, none⟩ = some (.bool s) ∧ World.cell? ((w.alloc (.cells #[.bool s, v1, u1] 39)).alloc (.cells #[.bool s, v2, u2] 39)) ⟨w.heap.size + 1, 1, none⟩ = some (v2) ∧ World.cell? ((w.alloc (.cells #[.bool s, v1, u1] 39)).alloc (.cells #[.bool s, v2, u2] 39)) ⟨w.heap.size + 1, 2, none⟩ = some (u2) := by simp [go_sem]
  have Ha := Lib.hid (h1.below BW (Nat.le_refl _))
  have Hb := Lib.hid (k1.below BW (Nat.le_refl _))
  have Hc := Lib.hid (h2.below BW (Nat.le_refl _))
  have Hd := Lib.hid (k2.below BW (Nat.le_refl _))
  clear h1 k1 h2 k2
  go_enter Tryd.func17, Tryd.ntmps17
  go_wp2_with fail
  generalize ((w.alloc (.cells #[.bool s, v1, u1] 39)).alloc (.cells #[.bool s, v2, u2] 39)) = w0 at *
  have B0 := Below.refl w0.heap.size w0
  refine (eqBigInt_c _ _ _ s _ _ xs Ha.out Hc.out).mono ?_
  rintro e w1 ⟨rfl, hb⟩
  replace c0_0 := keep_cell hb c0_0
  replace c0_1 := keep_cell hb c0_1
  replace c0_2 := keep_cell hb c0_2
  replace c1_0 := keep_cell hb c1_0
  replace c1_1 := keep_cell hb c1_1
  replace c1_2 := keep_cell hb c1_2
  replace Ha := Lib.hid (Ha.out.below hb (Nat.le_refl _))
  replace Hb := Lib.hid (Hb.out.below hb (Nat.le_refl _))
  replace Hc := Lib.hid (Hc.out.below hb (Nat.le_refl _))
  replace Hd := Lib.hid (Hd.out.below hb (Nat.le_refl _))
  replace B0 := B0.trans (hb.mono B0.size)
  clear hb
  go_wp2_with fail
  refine (eqIntS_c _ _ _ _ _ ys Hb.out Hd.out).mono ?_
  rintro e w2 ⟨rfl, hb⟩
  replace c0_0 := keep_cell hb c0_0
  replace c0_1 := keep_cell hb c0_1
  replace c0_2 := keep_cell hb c0_2
  replace c1_0 := keep_cell hb c1_0
  replace c1_1 := keep_cell hb c1_1
  replace c1_2 := keep_cell hb c1_2
  replace Ha := Lib.hid (Ha.out.below hb (Nat.le_refl _))
  replace Hb := Lib.hid (Hb.out.below hb (Nat.le_refl _))
  replace Hc := Lib.hid (Hc.out.below hb (Nat.le_refl _))
  replace Hd := Lib.hid (Hd.out.below hb (Nat.le_refl _))
  replace B0 := B0.trans (hb.mono B0.size)
  clear hb
  go_wp2
  go_ret
  exact retB rfl (BW.trans (B0.mono BW.size))

theorem eqRat_c (w : World) (s : Bool) (xs ys : List Int) {b1 e1 b2 e2 : Nat} {v1 u1 v2 u2 : Value} (h1 : Own w b1 v1 xs) (k1 : Own w e1 u1 ys) (h2 : Own w b2 v2 xs) (k2 : Own w e2 u2 ys) :
    Calls Tryd.prog 17 #[.agg #[.bool s, v1, u1], .agg #[.bool s, v2, u2]] w (RetB w true) := eqRat_k w s xs ys b1 e1 b2 e2 v1 u1 v2 u2 h1 k1 h2 k2
/-- Both rows of a fraction are marked. -/
def RetMk2 (w : World) (b c : Nat) (v u : Value) (k : Int) (n m : Nat) (e : Ending) (w' : World) : Prop :=
  ∃ r : Int, k + n + m = r ∧ e = .returned (.int .i64 r) ∧ Own w' b v (iota k n) ∧ Own w' c u (iota (k + n) m) ∧ ∃ wm : World, w.grownBy wm v.ownBlock ∧ wm.grownBy w' u.ownBlock

theorem mark2Below {w0 w wm w' : World} {v u : Value} {xs ys : List Int} {b c : Nat} (h : Own w b v xs) (k : Own w c u ys) (hB : Below w0.heap.size w0 w) (hg : w.grownBy wm v.ownBlock) (hg2 : wm.grownBy w' u.ownBlock) (h1 : w0.heap.size ≤ b) (h2 : w0.heap.size ≤ c) : Below w0.heap.size w0 w' := by
  have B1 := h.grownBelow hB hg h1 hB.size
  exact B1.grown hg2 B1.size (fun j hj => Nat.le_trans h2 (k.lt j hj).1)

set_option maxRecDepth 100000 in
/-- A fraction that came in. -/
theorem rat_of_trod {H : Type} {enc : TypeId × Value → H} {W : World} {v : Value} {d : DataW H} {ps : List MemPlace} {base : Nat} (hv : Value.okWide Tryd.prog W .any base 34 v)
    (h : DataW.Trod enc Tryd.prog W 0 (fun _ => true) true 34 v d ps) : ∃ (s : Bool) (u e : Value) (xs ys : List Int), v = .agg #[.bool s, u, e] ∧ Rd2 W u e xs ys ∧ (xs.length ≤ 9223372036854775807 ∧ ys.length ≤ 9223372036854775807) := by
  obtain ⟨cs, rfl, hsz⟩ := okWide_struct Tryd.underlying34 hv
  obtain ⟨fuel, hf⟩ := h
  have hC : Tryd.prog.cellsOf 34 = 3 := by kernel_rfl
  rw [hC] at hsz
  obtain ⟨l⟩ := cs
  match l, hsz with
  | [c0, c1, c2], _ =>
    obtain ⟨ys, n, hn, hy, hlen, hyl, hg⟩ := DataW.trod_struct Tryd.underlying34 hf
    have hC1 : Tryd.prog.cellsOf 32 = 2 := by kernel_rfl
    have hC2 : Tryd.prog.cellsOf 30 = 1 := by kernel_rfl
    have hC3 : Tryd.prog.cellsOf 4 = 1 := by kernel_rfl
    have g0 : DataW.trod enc Tryd.prog W 0 (fun _ => true) true n 32 (List.take (Tryd.prog.cellsOf 32) (List.drop 0 [c0, c1, c2])) = ys[0]? := hg 0 _ rfl
    have g1 : DataW.trod enc Tryd.prog W 0 (fun _ => true) true n 30 (List.take (Tryd.prog.cellsOf 30) (List.drop 2 [c0, c1, c2])) = ys[1]? := hg 1 _ rfl
    rw [hC1] at g0
    rw [hC2] at g1
    match ys, hyl with
    | [y0, y1], _ =>
      have g0' : DataW.trod enc Tryd.prog W 0 (fun _ => true) true n 32 [c0, c1] = some y0 := g0
      have g1' : DataW.trod enc Tryd.prog W 0 (fun _ => true) true n 30 [c2] = some y1 := g1
      obtain ⟨zs, m, _, _, _, hzl, hk⟩ := DataW.trod_struct Tryd.underlying32 g0'
      have k0 : DataW.trod enc Tryd.prog W 0 (fun _ => true) true m 4 (List.take (Tryd.prog.cellsOf 4) (List.drop 0 [c0, c1])) = zs[0]? := hk 0 _ rfl
      have k1 : DataW.trod enc Tryd.prog W 0 (fun _ => true) true m 30 (List.take (Tryd.prog.cellsOf 30) (List.drop 1 [c0, c1])) = zs[1]? := hk 1 _ rfl
      rw [hC3] at k0
      rw [hC2] at k1
      match zs, hzl with
      | [z0, z1], _ =>
        have k0' : DataW.trod enc Tryd.prog W 0 (fun _ => true) true m 4 [c0] = some z0 := k0
        have k1' : DataW.trod enc Tryd.prog W 0 (fun _ => true) true m 30 [c1] = some z1 := k1
        obtain ⟨s, hs, _⟩ := DataW.trod_bool Tryd.underlying4 k0'
        obtain ⟨xs, hx, hxl⟩ := rd_of_cells k1'
        obtain ⟨es, he, hel⟩ := rd_of_cells g1'
        simp only [List.cons.injEq, and_true] at hs
        subst hs
        exact ⟨s, c1, c2, xs, es, rfl, ⟨hx, he⟩, hxl, hel⟩

end Go.Proofs.YtcmhpdhcpkhejaaDoor
