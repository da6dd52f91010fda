/- The laws' own helpers on signed numbers: toBigInt, szIntS, szBigInt, eqBigInt, markBigInt, heldBigInt; a signed number that came in, opened. -/
import Derived.Test.YtcmhpdhcpkhejaaDoorBigA
import Derived.Test.YtcmhpdhcpkhejaaDoorLawK
import Derived.Test.YtcmhpdhcpkhejaaDoorOpen
import Derived.Lib.SmallJoins
namespace Go.Proofs.YtcmhpdhcpkhejaaDoor
open Go.ChangeShapes Go.WideShapes Go.ChangeAt Go.RowKit Lm

theorem retG_fin {w wk : World} {g base : Nat} {s : Bool} {u : Value} {xs : List Int} (hB : Below w.heap.size w wk) (hg : w.heap.size ≤ g) (hgb : g < base) (hb : w.heap.size ≤ base) (ho : Own wk base u xs) :
    RetG w s xs (.returned (.agg #[.bool s, u])) ((wk.setCell ⟨g, 0, none⟩ (.bool s)).setCell ⟨g, 1, none⟩ u) :=
  ⟨u, rfl, ((ho.setBelow2 (a := ⟨g, 0, none⟩) hgb _).setBelow2 (a := ⟨g, 1, none⟩) hgb _).mono hb, (hB.setCell hg _).setCell hg _⟩

set_option maxHeartbeats 1000000 in
theorem toBigInt_c (w : World) (v1 : Value) (s : Bool) (xs : List Int) (h1 : Rd w v1 xs) (hl : xs.length ≤ 17592186044415) :
    Calls Tryd.prog 24 #[.agg #[.bool s, v1]] w (RetG w s xs) := by
  have BW : Below w.heap.size w (((w.alloc (.cells #[.bool s, v1] 32)).alloc (.cells #[.bool false, .slice none 0 0] 37)).alloc (.cells #[.bool s, .slice none 0 0] 37)) := ((((Below.refl w.heap.size w).alloc (Nat.le_refl _) _).alloc (by simp) _).alloc (by simp; omega) _)
  obtain ⟨c0_0, c0_1, c1_0, c1_1, q0, q1, c2_0, c2_1, q2_0, q2_1⟩ : World.cell? (((w.alloc (.cells #[.bool s, v1] 32)).alloc (.cells #[.bool false, .slice none 0 0] 37)).alloc (.cells #[.bool s, .slice none 0 0] 37)) ⟨w.heap.size, 0, none⟩ = some (.bool s) ∧ World.cell? (((w.alloc (.cells #[.bool s, v1] 32)).alloc (.cells #[.bool false, .slice none 0 0] 37)).alloc (.cells #[.bool s, .slice none 0 0] 37)) ⟨w.heap.size, 1, none⟩ = some (v1) ∧ World.cell? (((w.alloc (.cells #[.bool s, v1] 32)).alloc (.cells #[.bool false, .slice none 0 0] 37)).alloc (.cells #[.bool s, .slice none 0 0] 37)) ⟨w.heap.size + 1, 0, none⟩ = some (.bool false) ∧ World.cell? (((w.alloc (.cells #[.bool s, v1] 32)).alloc (.cells #[.bool false, .slice none 0 0] 37)).alloc (.cells #[.bool s, .slice none 0 0] 37)) ⟨w.heap.size + 1, 1, none⟩ = some (.slice none 0 0) ∧ World.frozen? (((w.alloc (.cells #[.bool s, v1] 32)).alloc (.cells #[.bool false, .slice none 0 0] 37)).alloc (.cells #[.bool s, .slice none 0 0] 37)) ⟨w.heap.size + 1, 0, none⟩ = false ∧ World.frozen? (((w.alloc (.cells #[.bool s, v1] 32)).alloc (.cells #[.bool false, .slice none 0 0] 37)).alloc (.cells #[.bool s, .slice none 0 0] 37)) ⟨w.heap.size + 1, 1, none⟩ = false ∧ World.cell? (((w.alloc (.cells #[.bool s, v1] 32)).alloc (.cells #[.bool false, .slice none 0 0] 37)).alloc (.cells #[.bool s, .slice none 0 0] 37)) ⟨w.heap.size + 1 + 1, 0, none⟩ = some (.bool s) ∧ World.cell? (((w.alloc (.cells #[.bool s, v1] 32)).alloc (.cells #[.bool false, .slice none 0 0] 37)).alloc (.cells #[.bool s, .slice none 0 0] 37)) ⟨w.heap.size + 1 + 1, 1, none⟩ = some (.slice none 0 0) ∧ World.frozen? (((w.alloc (.cells #[.bool s, v1] 32)).alloc (.cells #[.bool false, .slice none 0 0] 37)).alloc (.cells #[.bool s, .slice none 0 0] 37)) ⟨w.heap.size + 1 + 1, 0, none⟩ = false ∧ World.frozen? (((w.alloc (.cells #[.bool s, v1] 32)).alloc (.cells #[.bool false, .slice none 0 0] 37)).alloc (.cells #[.bool s, .slice none 0 0] 37)) ⟨w.heap.size + 1 + 1, 1, none⟩ = false := by simp [go_sem]
  have hg0 : w.heap.size + 1 < ((((w.alloc (.cells #[.bool s, v1] 32)).alloc (.cells #[.bool false, .slice none 0 0] 37)).alloc (.cells #[.bool s, .slice none 0 0] 37))).heap.size := World.block_lt_of_cell? _ _ c1_0
  have hg2 : w.heap.size + 1 + 1 < ((((w.alloc (.cells #[.bool s, v1] 32)).alloc (.cells #[.bool false, .slice none 0 0] 37)).alloc (.cells #[.bool s, .slice none 0 0] 37))).heap.size := World.block_lt_of_cell? _ _ c2_0
  have Hx := Lib.hid (h1.below BW)
  clear h1
  go_enter Tryd.func24, Tryd.ntmps24
  go_wp2_with fail
  generalize (((w.alloc (.cells #[.bool s, v1] 32)).alloc (.cells #[.bool false, .slice none 0 0] 37)).alloc (.cells #[.bool s, .slice none 0 0] 37)) = w0 at *
  have B0 := Below.refl w0.heap.size w0
  refine (toIntS_c _ _ _ Hx.out hl).mono ?_
  rintro e w1 ⟨vr, rfl, ho1, hb⟩
  replace c0_0 := keep_cell hb c0_0
  replace c0_1 := keep_cell hb c0_1
  replace q0 := keep_frozen (w1 := w1) hb c1_0 q0
  replace c1_0 := keep_cell (w1 := w1) hb c1_0
  replace q1 := keep_frozen (w1 := w1) hb c1_1 q1
  replace c1_1 := keep_cell (w1 := w1) hb c1_1
  replace q2_0 := keep_frozen (w1 := w1) hb c2_0 q2_0
  replace c2_0 := keep_cell (w1 := w1) hb c2_0
  replace q2_1 := keep_frozen (w1 := w1) hb c2_1 q2_1
  replace c2_1 := keep_cell (w1 := w1) hb c2_1
  replace Hx := Lib.hid (Hx.out.below hb)
  have Hr := Lib.hid (ho1.mono B0.size)
  clear ho1
  obtain ⟨ar, cr, rfl, -, -, -, -, -⟩ := Hr.out.form
  replace B0 := B0.trans (hb.mono B0.size)
  clear hb
  have hlt : w.heap.size + 1 + 1 < w0.heap.size := hg2
  go_wp2
  exact bodyPost_ret (v := .agg #[.bool s, .slice ar xs.length cr]) (by simp [results, Tryd.results24, go_sem, c1_0, c1_1]) rfl (retG_fin ((BW.trans (B0.mono BW.size)).setCell (p := ⟨w.heap.size + 1 + 1, 1, none⟩) (by dsimp only; omega) _) (by omega) hg0 BW.size (Hr.out.setBelow2 (a := ⟨w.heap.size + 1 + 1, 1, none⟩) hlt _))

theorem szIntS_ok (w : World) (n c : Nat) (a : Option Addr) (l : Int) (h : 0 ≤ l - (n : Int)) (h2 : l ≤ 1048576) (h3 : n ≤ 9223372036854775807) : Calls Tryd.prog 19 #[.slice a n c, .int .i64 l] w (RetI w (l - (n : Int))) := by
  have d1 : decide (l - (n : Int) < 0) = false := decide_eq_false (by omega)
  have e1 : IntKind.i64.wrap (l - (n : Int)) = l - (n : Int) := IntWalk.i64_in _ (by omega)
  go_enter Tryd.func19, Tryd.ntmps19
  go_wp2
  go_ret
  exact retI rfl (Below.refl _ _)
theorem szIntS_no (w : World) (n c : Nat) (a : Option Addr) (l : Int) (h : l - (n : Int) < 0) (h2 : 0 ≤ l) (h3 : n ≤ 9223372036854775807) (h4 : l ≤ 1048576) : Calls Tryd.prog 19 #[.slice a n c, .int .i64 l] w (RetI w (-1)) := by
  have d1 : decide (l - (n : Int) < 0) = true := decide_eq_true (by omega)
  have e1 : IntKind.i64.wrap (l - (n : Int)) = l - (n : Int) := IntWalk.i64_in _ (by omega)
  go_enter Tryd.func19, Tryd.ntmps19
  go_wp2
  go_ret
  exact retI rfl (Below.refl _ _)

set_option maxHeartbeats 1000000 in
theorem szBigInt_k (w : World) (s : Bool) (n c : Nat) (a : Option Addr) (l : Int) (h : 0 ≤ l - (n : Int)) (h2 : l ≤ 1048576) (h3 : n ≤ 9223372036854775807) :
    Calls Tryd.prog 18 #[.agg #[.bool s, .slice a n c], .int .i64 l] w (RetI w (l - (n : Int))) := by
  have BW : Below w.heap.size w (w.alloc (.cells #[.bool s, (.slice a n c)] 32)) := ((Below.refl w.heap.size w).alloc (Nat.le_refl _) _)
  obtain ⟨c0_0, c0_1⟩ : World.cell? (w.alloc (.cells #[.bool s, (.slice a n c)] 32)) ⟨w.heap.size, 0, none⟩ = some (.bool s) ∧ World.cell? (w.alloc (.cells #[.bool s, (.slice a n c)] 32)) ⟨w.heap.size, 1, none⟩ = some ((.slice a n c)) := by simp [go_sem]
  have d1 : decide (l - (n : Int) < 0) = false := decide_eq_false (by omega)
  go_enter Tryd.func18, Tryd.ntmps18
  go_wp2_with fail
  generalize (w.alloc (.cells #[.bool s, (.slice a n c)] 32)) = w0 at *
  have B0 := Below.refl w0.heap.size w0
  refine (szIntS_ok _ n c a l h h2 h3).mono ?_
  rintro e w1 ⟨rfl, hb⟩
  replace c0_0 := keep_cell hb c0_0
  replace c0_1 := keep_cell hb c0_1
  replace B0 := B0.trans (hb.mono B0.size)
  clear hb
  go_wp2
  go_ret
  exact retI rfl (BW.trans (B0.mono BW.size))

set_option maxHeartbeats 1000000 in
theorem szBigInt_x (w : World) (s : Bool) (n c : Nat) (a : Option Addr) (l : Int) (h : l - (n : Int) < 0) (h2 : 0 ≤ l) (h3 : n ≤ 9223372036854775807) (h4 : l ≤ 1048576) :
    Calls Tryd.prog 18 #[.agg #[.bool s, .slice a n c], .int .i64 l] w (RetI w (-1)) := by
  have BW : Below w.heap.size w (w.alloc (.cells #[.bool s, (.slice a n c)] 32)) := ((Below.refl w.heap.size w).alloc (Nat.le_refl _) _)
  obtain ⟨c0_0, c0_1⟩ : World.cell? (w.alloc (.cells #[.bool s, (.slice a n c)] 32)) ⟨w.heap.size, 0, none⟩ = some (.bool s) ∧ World.cell? (w.alloc (.cells #[.bool s, (.slice a n c)] 32)) ⟨w.heap.size, 1, none⟩ = some ((.slice a n c)) := by simp [go_sem]
  have HNO := Lib.hid h
  clear h
  go_enter Tryd.func18, Tryd.ntmps18
  go_wp2_with fail
  generalize (w.alloc (.cells #[.bool s, (.slice a n c)] 32)) = w0 at *
  have B0 := Below.refl w0.heap.size w0
  refine (szIntS_no _ n c a l HNO.out h2 h3 h4).mono ?_
  rintro e w1 ⟨rfl, hb⟩
  replace c0_0 := keep_cell hb c0_0
  replace c0_1 := keep_cell hb c0_1
  replace B0 := B0.trans (hb.mono B0.size)
  clear hb
  go_wp2
  go_ret
  exact retI rfl (BW.trans (B0.mono BW.size))

set_option maxHeartbeats 1000000 in
theorem eqBigInt_c (w : World) (b1 b2 : Nat) (s : Bool) (v1 v2 : Value) (xs : List Int) (h1 : Own w b1 v1 xs) (h2 : Own w b2 v2 xs) :
    Calls Tryd.prog 31 #[.agg #[.bool s, v1], .agg #[.bool s, v2]] w (RetB w true) := by
  have BW : Below w.heap.size w ((w.alloc (.cells #[.bool s, v1] 37)).alloc (.cells #[.bool s, v2] 37)) := (((Below.refl w.heap.size w).alloc (Nat.le_refl _) _).alloc (by simp) _)
  obtain ⟨c0_0, c0_1, c1_0, c1_1⟩ : World.cell? ((w.alloc (.cells #[.bool s, v1] 37)).alloc (.cells #[.bool s, v2] 37)) ⟨w.heap.size, 0, none⟩ = some (.bool s) ∧ World.cell? ((w.alloc (.cells #[.bool s, v1] 37)).alloc (.cells #[.bool s, v2] 37)) ⟨w.heap.size, 1, none⟩ = some (v1) ∧ World.cell? ((w.alloc (.cells #[.bool s, v1] 37)).alloc (.cells #[.bool s, v2] 37)) ⟨w.heap.size + 1, 0, none⟩ = some (.bool s) ∧ World.cell? ((w.alloc (.cells #[.bool s, v1] 37)).alloc (.cells #[.bool s, v2] 37)) ⟨w.heap.size + 1, 1, none⟩ = some (v2) := by simp [go_sem]
  have Hv := Lib.hid (h1.below BW (Nat.le_refl _))
  have Hu := Lib.hid (h2.below BW (Nat.le_refl _))
  clear h1 h2
  go_enter Tryd.func31, Tryd.ntmps31
  go_wp2_with fail
  generalize ((w.alloc (.cells #[.bool s, v1] 37)).alloc (.cells #[.bool s, v2] 37)) = w0 at *
  have B0 := Below.refl w0.heap.size w0
  refine (eqIntS_c _ _ _ _ _ xs Hv.out Hu.out).mono ?_
  rintro e w1 ⟨rfl, hb⟩
  replace c0_0 := keep_cell hb c0_0
  replace c0_1 := keep_cell hb c0_1
  replace c1_0 := keep_cell hb c1_0
  replace c1_1 := keep_cell hb c1_1
  replace Hv := Lib.hid (Hv.out.below hb (Nat.le_refl _))
  replace Hu := Lib.hid (Hu.out.below hb (Nat.le_refl _))
  replace B0 := B0.trans (hb.mono B0.size)
  clear hb
  go_wp2
  go_ret
  exact retB rfl (BW.trans (B0.mono BW.size))

theorem grown_below {w w0 w1 : World} {row : Option Nat} (h : Below w.heap.size w w0) (hg : w0.grownBy w1 row) : w.grownBy w1 row :=
  ⟨hg.os.trans h.os, hg.tape.trans h.tape, hg.output.trans h.output, Nat.le_trans h.size hg.size, fun i hi hr => (hg.block i (Nat.lt_of_lt_of_le hi h.size) hr).trans (h.block i hi)⟩

theorem szBigInt_ok (w : World) (s : Bool) (n c : Nat) (a : Option Addr) (l : Int) (h : 0 ≤ l - (n : Int)) (h2 : l ≤ 1048576) : Calls Tryd.prog 18 #[.agg #[.bool s, .slice a n c], .int .i64 l] w (RetI w (l - (n : Int))) := szBigInt_k w s n c a l h h2 (by omega)
theorem szBigInt_no (w : World) (s : Bool) (n c : Nat) (a : Option Addr) (l : Int) (h : ¬ 0 ≤ l - (n : Int)) (h2 : 0 ≤ l) (h3 : n ≤ 9223372036854775807) (h4 : l ≤ 1048576) : Calls Tryd.prog 18 #[.agg #[.bool s, .slice a n c], .int .i64 l] w (RetI w (-1)) := szBigInt_x w s n c a l (by omega) h2 h3 h4
set_option maxRecDepth 100000 in
theorem Tryd.cellsBig : Tryd.prog.cellsOf 32 = 2 := by kernel_rfl
set_option maxRecDepth 100000 in
theorem rd_of_cells {H : Type} {enc : TypeId × Value → H} {W : World} {v : Value} {y : DataW H × List MemPlace} {fuel : Nat}
    (hf : DataW.trod enc Tryd.prog W 0 (fun _ => true) true fuel 30 [v] = some y) : ∃ xs, Rd W v xs ∧ xs.length ≤ 9223372036854775807 := by
  rcases open_ints Tryd.underlying30 Tryd.underlying3 Tryd.cellsInt hf with ⟨hcs, _⟩ | ⟨x, l, c, zs, hcs, _, hl, hm, hz, _, hcell, hwz⟩
  · simp only [List.cons.injEq, and_true] at hcs
    subst hcs
    exact ⟨[], ⟨none, 0, rfl, fun i hi => by simp at hi⟩, by simp⟩
  · simp only [List.cons.injEq, and_true] at hcs
    subst hcs
    have hzl : zs.length = c := by simpa using hz
    have htl : (zs.take l).length = l := by rw [List.length_take]; omega
    unfold maxLen at hm
    refine ⟨zs.take l, ⟨some x, c, by rw [htl], fun i hi => ?_⟩, by omega⟩
    rw [htl] at hi
    have hc := hcell i (by omega)
    rw [show zs.getD i 0 = lat (zs.take l) i by rw [lat_take hi]; rfl] at hc
    obtain ⟨b, off, spot⟩ := x
    have hlt := World.block_lt_of_cell? W _ hc
    cases spot with
    | none =>
      rw [Addr.add_lit] at hc hlt
      exact ⟨b, off, rfl, hlt, hc⟩
    | some s =>
      exfalso
      have h0 := hcell 0 (by omega)
      unfold Addr.add World.cell? at h0
      simp at h0
      split at h0 <;> simp at h0
theorem own_ne_new {w : World} {b : Nat} {u : Value} {xs : List Int} (h : Own w b u xs) : u.ownBlock ≠ some w.heap.size := fun e => by
  have := (h.lt _ e).2; omega
theorem own_ne_old {w w' : World} {g i : Nat} {v u : Value} {xs : List Int} (hc : w.cell? ⟨g, i, none⟩ = some v) (h : Own w' w.heap.size u xs) : u.ownBlock ≠ some g := fun e => by
  have h1 := (h.lt _ e).1
  have h2 := World.block_lt_of_cell? w _ hc
  simp only at h2
  omega
theorem own_ne_alloc {w w' : World} {o : Obj} {u : Value} {xs : List Int} (h : Own w' (w.alloc o).heap.size u xs) : u.ownBlock ≠ some w.heap.size := fun e => by
  have := (h.lt _ e).1; simp at this; omega
theorem own_ne_allocd {w w' : World} {o : Obj} {u : Value} {xs : List Int} (h : Own w' (w.alloc o).drew.heap.size u xs) : u.ownBlock ≠ some w.heap.size := own_ne_alloc h
theorem below_undrew {B : Nat} {a w : World} (h : Below B a w.drew) : Below B a w := ⟨h.os, h.tape, h.output, h.size, h.block⟩
theorem undrew_below {w w' : World} (h : Below w.drew.heap.size w.drew w') : Below w.heap.size w w' := ⟨h.os, h.tape, h.output, h.size, h.block⟩
theorem drew_below {w w' : World} (h : Below w.heap.size w w') : Below w.drew.heap.size w.drew w' := ⟨h.os, h.tape, h.output, h.size, h.block⟩
theorem alloc_belowd {w w' : World} {o : Obj} (h : Below (w.alloc o).drew.heap.size (w.alloc o).drew w') : Below w.drew.heap.size w.drew w' := drew_below (alloc_below (undrew_below h))
theorem Own.unalloc {w w' : World} {o : Obj} {u : Value} {xs : List Int} (h : Own w' (w.alloc o).heap.size u xs) : Own w' w.heap.size u xs := h.mono (heap_le_alloc _ _)
theorem Own.unallocd {w w' : World} {o : Obj} {u : Value} {xs : List Int} (h : Own w' (w.alloc o).drew.heap.size u xs) : Own w' w.drew.heap.size u xs := h.mono (heap_le_alloc _ _)
theorem Own.setOther {w : World} {base g i : Nat} {v : Value} {xs : List Int} (h : Own w base v xs) (hne : v.ownBlock ≠ some g) (u : Value) : Own (w.setCell ⟨g, i, none⟩ u) base v xs := by
  obtain ⟨ao, cap, rfl, -, -, -, h6, h7⟩ := h.form
  cases ao with
  | none => exact ⟨h.1, .inl ⟨by rw [(h6 rfl).1, (h6 rfl).2]; rfl, by rw [(h6 rfl).1]; rfl⟩⟩
  | some p =>
    obtain ⟨e1, e2, e3, e4⟩ := h7 p rfl
    obtain ⟨b, off, spot⟩ := p
    simp only at e1 e2
    subst e1; subst e2
    exact h.other (fun e => hne (by rw [← e]; rfl)) i u
theorem new_box2 {w w' : World} {t : TypeId} {x y : Value} (h : Below (w.alloc (.cells #[x, y] t)).heap.size (w.alloc (.cells #[x, y] t)) w') :
    w'.cell? ⟨w.heap.size, 0, none⟩ = some x ∧ w'.cell? ⟨w.heap.size, 1, none⟩ = some y ∧ w'.frozen? ⟨w.heap.size, 0, none⟩ = false ∧ w'.frozen? ⟨w.heap.size, 1, none⟩ = false := by
  obtain ⟨h0, h1, h2, h3⟩ : (w.alloc (.cells #[x, y] t)).cell? ⟨w.heap.size, 0, none⟩ = some x ∧ (w.alloc (.cells #[x, y] t)).cell? ⟨w.heap.size, 1, none⟩ = some y ∧ (w.alloc (.cells #[x, y] t)).frozen? ⟨w.heap.size, 0, none⟩ = false ∧ (w.alloc (.cells #[x, y] t)).frozen? ⟨w.heap.size, 1, none⟩ = false := by simp [go_sem]
  exact ⟨keep_cell h h0, keep_cell h h1, keep_frozen h h0 h2, keep_frozen h h1 h3⟩
theorem new_box2d {w w' : World} {t : TypeId} {x y : Value} (h : Below (w.alloc (.cells #[x, y] t)).drew.heap.size (w.alloc (.cells #[x, y] t)).drew w') :
    w'.cell? ⟨w.heap.size, 0, none⟩ = some x ∧ w'.cell? ⟨w.heap.size, 1, none⟩ = some y ∧ w'.frozen? ⟨w.heap.size, 0, none⟩ = false ∧ w'.frozen? ⟨w.heap.size, 1, none⟩ = false := new_box2 (undrew_below h)
theorem set_box2 {w : World} {g : Nat} {a b x y : Value} (h0 : w.cell? ⟨g, 0, none⟩ = some x) (h1 : w.cell? ⟨g, 1, none⟩ = some y) :
    ((w.setCell ⟨g, 0, none⟩ a).setCell ⟨g, 1, none⟩ b).cell? ⟨g, 0, none⟩ = some a ∧ ((w.setCell ⟨g, 0, none⟩ a).setCell ⟨g, 1, none⟩ b).cell? ⟨g, 1, none⟩ = some b := by
  simp [go_sem, h0, h1]
theorem keep_grown {w w' : World} {row : Option Nat} {g i : Nat} {v : Value} (hg : w.grownBy w' row) (hc : w.cell? ⟨g, i, none⟩ = some v) (hne : row ≠ some g) : w'.cell? ⟨g, i, none⟩ = some v :=
  (World.cell?_of_block (hg.block g (World.block_lt_of_cell? w _ hc) (fun e => hne e.symm))).trans hc
set_option maxRecDepth 100000 in
/-- A signed number that came in. -/
theorem big_of_trod {H : Type} {enc : TypeId × Value → H} {W : World} {v : Value} {d : DataW H} {ps : List MemPlace} {base : Nat} (hv : Value.okWide Tryd.prog W .any base 32 v)
    (h : DataW.Trod enc Tryd.prog W 0 (fun _ => true) true 32 v d ps) : ∃ (s : Bool) (u : Value) (xs : List Int), v = .agg #[.bool s, u] ∧ Rd W u xs ∧ xs.length ≤ 9223372036854775807 := by
  obtain ⟨v0, v1, y0, y1, n, rfl, _, _, h0, h1⟩ := Go.Joins.open_agg2 Tryd.underlying32 (by kernel_rfl) Tryd.cellsBig hv h
  obtain ⟨s, hs, _⟩ := DataW.trod_bool Tryd.underlying4 h0
  obtain ⟨xs, hx, hxl⟩ := rd_of_cells h1
  simp only [List.cons.injEq, and_true] at hs
  subst hs
  exact ⟨s, v1, xs, rfl, hx, hxl⟩

end Go.Proofs.YtcmhpdhcpkhejaaDoor
