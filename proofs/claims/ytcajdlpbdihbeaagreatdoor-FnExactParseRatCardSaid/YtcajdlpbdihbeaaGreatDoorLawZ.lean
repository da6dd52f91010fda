/- The laws' own helpers on signed numbers: toBigInt, szIntS, szBigInt, eqBigInt, markBigInt, heldBigInt; a signed number that came in, opened. -/
import Derived.Test.YtcajdlpbdihbeaaGreatDoorBigA
import Derived.Test.YtcajdlpbdihbeaaGreatDoorLawK
import Derived.Test.YtcajdlpbdihbeaaGreatDoorOpen
import Derived.Lib.SmallJoins
namespace Go.Proofs.YtcajdlpbdihbeaaGreatDoor
open Go.ChangeShapes Go.WideShapes Go.ChangeAt Go.RowKit Lm

theorem retG_fin {w wk : World} {g base : Nat} {s : Bool} {u : Value} {xs : List Int} (hB : Below w.heap.size w wk) (hg : w.heap.size ≤ g) (hgb : g < base) (hb : w.heap.size ≤ base) (ho : Own wk base u xs) :
    RetG w s xs (.returned (.agg #[.bool s, u])) ((wk.setCell ⟨g, 0, none⟩ (.bool s)).setCell ⟨g, 1, none⟩ u) :=
  ⟨u, rfl, ((ho.setBelow2 (a := ⟨g, 0, none⟩) hgb _).setBelow2 (a := ⟨g, 1, none⟩) hgb _).mono hb, (hB.setCell hg _).setCell hg _⟩

set_option maxHeartbeats 1000000 in
theorem eqBigInt_c (w : World) (b1 b2 : Nat) (s : Bool) (v1 v2 : Value) (xs : List Int) (h1 : Own w b1 v1 xs) (h2 : Own w b2 v2 xs) :
    Calls Tryz.prog 18 #[.agg #[.bool s, v1], .agg #[.bool s, v2]] w (RetB w true) := by
  have BW : Below w.heap.size w ((w.alloc (.cells #[.bool s, v1] 24)).alloc (.cells #[.bool s, v2] 24)) := (((Below.refl w.heap.size w).alloc (Nat.le_refl _) _).alloc (by simp) _)
  obtain ⟨c0_0, c0_1, c1_0, c1_1⟩ : World.cell? ((w.alloc (.cells #[.bool s, v1] 24)).alloc (.cells #[.bool s, v2] 24)) ⟨w.heap.size, 0, none⟩ = some (.bool s) ∧ World.cell? ((w.alloc (.cells #[.bool s, v1] 24)).alloc (.cells #[.bool s, v2] 24)) ⟨w.heap.size, 1, none⟩ = some (v1) ∧ World.cell? ((w.alloc (.cells #[.bool s, v1] 24)).alloc (.cells #[.bool s, v2] 24)) ⟨w.heap.size + 1, 0, none⟩ = some (.bool s) ∧ World.cell? ((w.alloc (.cells #[.bool s, v1] 24)).alloc (.cells #[.bool s, v2] 24)) ⟨w.heap.size + 1, 1, none⟩ = some (v2) := by simp [go_sem]
  have Hv := Lib.hid (h1.below BW (Nat.le_refl _))
  have Hu := Lib.hid (h2.below BW (Nat.le_refl _))
  clear h1 h2
  go_enter Tryz.func18, Tryz.ntmps18
  go_wp2_with fail
  generalize ((w.alloc (.cells #[.bool s, v1] 24)).alloc (.cells #[.bool s, v2] 24)) = w0 at *
  have B0 := Below.refl w0.heap.size w0
  refine (eqIntS_c _ _ _ _ _ xs Hv.out Hu.out).mono ?_
  rintro e w1 ⟨rfl, hb⟩
  replace c0_0 := keep_cell hb c0_0
  replace c0_1 := keep_cell hb c0_1
  replace c1_0 := keep_cell hb c1_0
  replace c1_1 := keep_cell hb c1_1
  replace Hv := Lib.hid (Hv.out.below hb (Nat.le_refl _))
  replace Hu := Lib.hid (Hu.out.below hb (Nat.le_refl _))
  replace B0 := B0.trans (hb.mono B0.size)
  clear hb
  go_wp2
  go_ret
  exact retB rfl (BW.trans (B0.mono BW.size))

theorem grown_below {w w0 w1 : World} {row : Option Nat} (h : Below w.heap.size w w0) (hg : w0.grownBy w1 row) : w.grownBy w1 row :=
  ⟨hg.os.trans h.os, hg.tape.trans h.tape, hg.output.trans h.output, Nat.le_trans h.size hg.size, fun i hi hr => (hg.block i (Nat.lt_of_lt_of_le hi h.size) hr).trans (h.block i hi)⟩

set_option maxHeartbeats 1000000 in
theorem markZ_c (w : World) (b1 : Nat) (v1 : Value) (s : Bool) (xs : List Int) (k : Int) (h1 : Own w b1 v1 xs) (hl : xs.length ≤ 17592186044415) (hk0 : 0 ≤ k) (hk1 : k ≤ 17592186044415) :
    Calls Tryz.prog 20 #[.agg #[.bool s, v1], .int .i64 k] w (RetMk w b1 v1 k xs.length) := by
  have BW : Below w.heap.size w (w.alloc (.cells #[.bool s, v1] 24)) := ((Below.refl w.heap.size w).alloc (Nat.le_refl _) _)
  obtain ⟨c0_0, c0_1⟩ : World.cell? (w.alloc (.cells #[.bool s, v1] 24)) ⟨w.heap.size, 0, none⟩ = some (.bool s) ∧ World.cell? (w.alloc (.cells #[.bool s, v1] 24)) ⟨w.heap.size, 1, none⟩ = some (v1) := by simp [go_sem]
  have Hv := Lib.hid (h1.below BW (Nat.le_refl _))
  clear h1
  go_enter Tryz.func20, Tryz.ntmps20
  go_wp2_with fail
  generalize (w.alloc (.cells #[.bool s, v1] 24)) = w0 at *
  have B0 := Below.refl w0.heap.size w0
  refine (markI_c _ _ _ xs k Hv.out hl hk0 hk1).mono ?_
  rintro e w1 ⟨m, hm, rfl, ho1, hg⟩
  have HM := Lib.hid hm
  have HO := Lib.hid ho1
  have HG := Lib.hid hg
  clear hm ho1 hg
  go_wp2
  go_ret
  exact ⟨m, HM.out, rfl, HO.out, grown_below BW HG.out⟩

set_option maxHeartbeats 1000000 in
theorem heldZ_c (w : World) (b1 : Nat) (s : Bool) (v1 : Value) (n : Nat) (k m : Int) (h1 : Own w b1 v1 (iota k n)) (hl : n ≤ 17592186044415) (hk0 : 0 ≤ k) (hk1 : k ≤ 17592186044415) (hm : k + n = m) :
    Calls Tryz.prog 22 #[.agg #[.bool s, v1], .int .i64 k] w (RetI w m) := by
  have BW : Below w.heap.size w (w.alloc (.cells #[.bool s, v1] 24)) := ((Below.refl w.heap.size w).alloc (Nat.le_refl _) _)
  obtain ⟨c0_0, c0_1⟩ : World.cell? (w.alloc (.cells #[.bool s, v1] 24)) ⟨w.heap.size, 0, none⟩ = some (.bool s) ∧ World.cell? (w.alloc (.cells #[.bool s, v1] 24)) ⟨w.heap.size, 1, none⟩ = some (v1) := by simp [go_sem]
  have Hv := Lib.hid (h1.below BW (Nat.le_refl _))
  clear h1
  have d1 : decide (m < 0) = false := decide_eq_false (by omega)
  have HM := Lib.hid hm
  clear hm
  go_enter Tryz.func22, Tryz.ntmps22
  go_wp2_with fail
  generalize (w.alloc (.cells #[.bool s, v1] 24)) = w0 at *
  have B0 := Below.refl w0.heap.size w0
  refine (heldI_c _ _ _ n k m Hv.out hl hk0 hk1 HM.out).mono ?_
  rintro e w1 ⟨rfl, hb⟩
  replace c0_0 := keep_cell hb c0_0
  replace c0_1 := keep_cell hb c0_1
  replace Hv := Lib.hid (Hv.out.below hb (Nat.le_refl _))
  replace B0 := B0.trans (hb.mono B0.size)
  clear hb
  go_wp2
  go_ret
  exact retI rfl (BW.trans (B0.mono BW.size))

set_option maxRecDepth 100000 in
theorem rd_of_cells {H : Type} {enc : TypeId × Value → H} {W : World} {v : Value} {y : DataW H × List MemPlace} {fuel : Nat}
    (hf : DataW.trod enc Tryz.prog W 0 (fun _ => true) true fuel 22 [v] = some y) : ∃ xs, Rd W v xs ∧ xs.length ≤ 9223372036854775807 := by
  rcases open_ints Tryz.underlying22 Tryz.underlying3 Tryz.cellsInt hf with ⟨hcs, _⟩ | ⟨x, l, c, zs, hcs, _, hl, hm, hz, _, hcell, hwz⟩
  · simp only [List.cons.injEq, and_true] at hcs
    subst hcs
    exact ⟨[], ⟨none, 0, rfl, fun i hi => by simp at hi⟩, by simp⟩
  · simp only [List.cons.injEq, and_true] at hcs
    subst hcs
    have hzl : zs.length = c := by simpa using hz
    have htl : (zs.take l).length = l := by rw [List.length_take]; omega
    unfold maxLen at hm
    refine ⟨zs.take l, ⟨some x, c, by rw [htl], fun i hi => ?_⟩, by omega⟩
    rw [htl] at hi
    have hc := hcell i (by omega)
    rw [show zs.getD i 0 = lat (zs.take l) i by rw [lat_take hi]; rfl] at hc
    obtain ⟨b, off, spot⟩ := x
    have hlt := World.block_lt_of_cell? W _ hc
    cases spot with
    | none =>
      rw [Addr.add_lit] at hc hlt
      exact ⟨b, off, rfl, hlt, hc⟩
    | some s =>
      exfalso
      have h0 := hcell 0 (by omega)
      unfold Addr.add World.cell? at h0
      simp at h0
      split at h0 <;> simp at h0
theorem own_ne_new {w : World} {b : Nat} {u : Value} {xs : List Int} (h : Own w b u xs) : u.ownBlock ≠ some w.heap.size := fun e => by
  have := (h.lt _ e).2; omega
theorem own_ne_old {w w' : World} {g i : Nat} {v u : Value} {xs : List Int} (hc : w.cell? ⟨g, i, none⟩ = some v) (h : Own w' w.heap.size u xs) : u.ownBlock ≠ some g := fun e => by
  have h1 := (h.lt _ e).1
  have h2 := World.block_lt_of_cell? w _ hc
  simp only at h2
  omega
theorem own_ne_alloc {w w' : World} {o : Obj} {u : Value} {xs : List Int} (h : Own w' (w.alloc o).heap.size u xs) : u.ownBlock ≠ some w.heap.size := fun e => by
  have := (h.lt _ e).1; simp at this; omega
theorem own_ne_allocd {w w' : World} {o : Obj} {u : Value} {xs : List Int} (h : Own w' (w.alloc o).drew.heap.size u xs) : u.ownBlock ≠ some w.heap.size := own_ne_alloc h
theorem below_undrew {B : Nat} {a w : World} (h : Below B a w.drew) : Below B a w := ⟨h.os, h.tape, h.output, h.size, h.block⟩
theorem undrew_below {w w' : World} (h : Below w.drew.heap.size w.drew w') : Below w.heap.size w w' := ⟨h.os, h.tape, h.output, h.size, h.block⟩
theorem drew_below {w w' : World} (h : Below w.heap.size w w') : Below w.drew.heap.size w.drew w' := ⟨h.os, h.tape, h.output, h.size, h.block⟩
theorem alloc_belowd {w w' : World} {o : Obj} (h : Below (w.alloc o).drew.heap.size (w.alloc o).drew w') : Below w.drew.heap.size w.drew w' := drew_below (alloc_below (undrew_below h))
theorem Own.unalloc {w w' : World} {o : Obj} {u : Value} {xs : List Int} (h : Own w' (w.alloc o).heap.size u xs) : Own w' w.heap.size u xs := h.mono (heap_le_alloc _ _)
theorem Own.unallocd {w w' : World} {o : Obj} {u : Value} {xs : List Int} (h : Own w' (w.alloc o).drew.heap.size u xs) : Own w' w.drew.heap.size u xs := h.mono (heap_le_alloc _ _)
theorem Own.setOther {w : World} {base g i : Nat} {v : Value} {xs : List Int} (h : Own w base v xs) (hne : v.ownBlock ≠ some g) (u : Value) : Own (w.setCell ⟨g, i, none⟩ u) base v xs := by
  obtain ⟨ao, cap, rfl, -, -, -, h6, h7⟩ := h.form
  cases ao with
  | none => exact ⟨h.1, .inl ⟨by rw [(h6 rfl).1, (h6 rfl).2]; rfl, by rw [(h6 rfl).1]; rfl⟩⟩
  | some p =>
    obtain ⟨e1, e2, e3, e4⟩ := h7 p rfl
    obtain ⟨b, off, spot⟩ := p
    simp only at e1 e2
    subst e1; subst e2
    exact h.other (fun e => hne (by rw [← e]; rfl)) i u
theorem new_box2 {w w' : World} {t : TypeId} {x y : Value} (h : Below (w.alloc (.cells #[x, y] t)).heap.size (w.alloc (.cells #[x, y] t)) w') :
    w'.cell? ⟨w.heap.size, 0, none⟩ = some x ∧ w'.cell? ⟨w.heap.size, 1, none⟩ = some y ∧ w'.frozen? ⟨w.heap.size, 0, none⟩ = false ∧ w'.frozen? ⟨w.heap.size, 1, none⟩ = false := by
  obtain ⟨h0, h1, h2, h3⟩ : (w.alloc (.cells #[x, y] t)).cell? ⟨w.heap.size, 0, none⟩ = some x ∧ (w.alloc (.cells #[x, y] t)).cell? ⟨w.heap.size, 1, none⟩ = some y ∧ (w.alloc (.cells #[x, y] t)).frozen? ⟨w.heap.size, 0, none⟩ = false ∧ (w.alloc (.cells #[x, y] t)).frozen? ⟨w.heap.size, 1, none⟩ = false := by simp [go_sem]
  exact ⟨keep_cell h h0, keep_cell h h1, keep_frozen h h0 h2, keep_frozen h h1 h3⟩
theorem new_box2d {w w' : World} {t : TypeId} {x y : Value} (h : Below (w.alloc (.cells #[x, y] t)).drew.heap.size (w.alloc (.cells #[x, y] t)).drew w') :
    w'.cell? ⟨w.heap.size, 0, none⟩ = some x ∧ w'.cell? ⟨w.heap.size, 1, none⟩ = some y ∧ w'.frozen? ⟨w.heap.size, 0, none⟩ = false ∧ w'.frozen? ⟨w.heap.size, 1, none⟩ = false := new_box2 (undrew_below h)
theorem set_box2 {w : World} {g : Nat} {a b x y : Value} (h0 : w.cell? ⟨g, 0, none⟩ = some x) (h1 : w.cell? ⟨g, 1, none⟩ = some y) :
    ((w.setCell ⟨g, 0, none⟩ a).setCell ⟨g, 1, none⟩ b).cell? ⟨g, 0, none⟩ = some a ∧ ((w.setCell ⟨g, 0, none⟩ a).setCell ⟨g, 1, none⟩ b).cell? ⟨g, 1, none⟩ = some b := by
  simp [go_sem, h0, h1]
theorem keep_grown {w w' : World} {row : Option Nat} {g i : Nat} {v : Value} (hg : w.grownBy w' row) (hc : w.cell? ⟨g, i, none⟩ = some v) (hne : row ≠ some g) : w'.cell? ⟨g, i, none⟩ = some v :=
  (World.cell?_of_block (hg.block g (World.block_lt_of_cell? w _ hc) (fun e => hne e.symm))).trans hc
end Go.Proofs.YtcajdlpbdihbeaaGreatDoor
