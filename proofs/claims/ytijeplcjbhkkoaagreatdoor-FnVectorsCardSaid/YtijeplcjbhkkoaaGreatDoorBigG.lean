/- Merged texts. -/
import Derived.Test.YtijeplcjbhkkoaaGreatDoorNatH
import Derived.Deep.RegionHeld3

/- Signed numbers: what they read as; laws on cells that are kept. -/
namespace Go.Proofs.YtijeplcjbhkkoaaGreatDoor
open Go.RowKit Lm

/-- The sign, as the program keeps it. -/
def ng (z : Int) : Bool := decide (z < 0)
theorem ng_zero : ng 0 = false := rfl
theorem ng_neg {z : Int} (h : z < 0) : ng z = true := by simp [ng, h]
theorem ng_nonneg {z : Int} (h : 0 ≤ z) : ng z = false := by simp [ng]; omega
theorem ng_nat (n : Nat) : ng (n : Int) = false := ng_nonneg (by omega)

/-- A signed number in new memory. -/
def RetG (w : World) (s : Bool) (xs : List Int) (e : Ending) (w' : World) : Prop := ∃ u, e = .returned (.agg #[.bool s, u]) ∧ Own w' w.heap.size u xs ∧ Below w.heap.size w w'
/-- A signed number whose limbs lie in the row of v0, or nil. -/
def RetGV (w : World) (base : Nat) (v0 : Value) (s : Bool) (xs : List Int) (e : Ending) (w' : World) : Prop := ∃ u, e = .returned (.agg #[.bool s, u]) ∧ Own w' base u xs ∧ (u.ownBlock = none ∨ u.ownBlock = v0.ownBlock) ∧ Below w.heap.size w w'
/-- A signed number and a natural number in new memory. -/
def RetGS (w : World) (s : Bool) (xs ys : List Int) (e : Ending) (w' : World) : Prop := ∃ v u, e = .returned (.tuple #[.agg #[.bool s, v], u]) ∧ Own w' w.heap.size v xs ∧ Own w' w.heap.size u ys ∧ Apart v u ∧ Below w.heap.size w w'
def RetZ (w : World) (z : Int) (e : Ending) (w' : World) : Prop := RetG w (ng z) (limbs z.natAbs) e w'
def RetZV (w : World) (base : Nat) (v0 : Value) (z : Int) (e : Ending) (w' : World) : Prop := RetGV w base v0 (ng z) (limbs z.natAbs) e w'
def RetZS (w : World) (z : Int) (n : Nat) (e : Ending) (w' : World) : Prop := RetGS w (ng z) (limbs z.natAbs) (limbs n) e w'

theorem bcell {W w1 : World} (hb : Below W.heap.size W w1) : (∀ b o, b < W.heap.size → w1.cell? ⟨b, o, none⟩ = W.cell? ⟨b, o, none⟩) ∧ (∀ b o, b < W.heap.size → w1.frozen? ⟨b, o, none⟩ = W.frozen? ⟨b, o, none⟩) :=
  ⟨fun b o h => hb.cell (p := ⟨b, o, none⟩) h, fun b o h => hb.frozen (p := ⟨b, o, none⟩) h⟩
theorem keep_cell {W w1 : World} {p : Addr} {v : Value} (hb : Below W.heap.size W w1) (h : W.cell? p = some v) : w1.cell? p = some v := (hb.cell (World.block_lt_of_cell? W _ h)).trans h
theorem keep_frozen {W w1 : World} {p : Addr} {v : Value} (hb : Below W.heap.size W w1) (hc : W.cell? p = some v) (h : W.frozen? p = false) : w1.frozen? p = false := (hb.frozen (World.block_lt_of_cell? W _ hc)).trans h
theorem set_far {w : World} {p q : Addr} {v u : Value} (h : w.cell? p = some v) (hne : p.block ≠ q.block) : (w.setCell q u).cell? p = some v := (World.cell?_setCell_other w q p u (fun e => hne (by rw [e]))).trans h
theorem alloc_bel (w : World) (o : Obj) : Below w.heap.size w (w.alloc o) := (Below.refl _ _).alloc (Nat.le_refl _) o
theorem cell_drew {w : World} {p : Addr} {v : Value} (h : w.cell? p = some v) : w.drew.cell? p = some v := h
theorem frozen_drew {w : World} {p : Addr} (h : w.frozen? p = false) : w.drew.frozen? p = false := h
theorem below_drew {B : Nat} {a w : World} (h : Below B a w) : Below B a w.drew := ⟨h.os, h.tape, h.output, h.size, h.block⟩
theorem Own.drew {w : World} {base : Nat} {v : Value} {xs : List Int} (h : Own w base v xs) : Own w.drew base v xs := h

/-- A store into a block below the slice's base. -/
theorem Own.setBelow2 {w : World} {base : Nat} {v : Value} {xs : List Int} (h : Own w base v xs) {a : Addr} (ha : a.block < base) (u : Value) : Own (w.setCell a u) base v xs := by
  refine ⟨h.1, ?_⟩
  rcases h.2 with hn | ⟨g, cap, cur, rfl, hg, hgg, rest⟩
  · exact .inl hn
  · exact .inr ⟨g, cap, cur, rfl, hg, by rw [heap_setCell_other _ _ _ _ (by omega)]; exact hgg, rest⟩

/-- The end of a function that gives a struct in a cell of its own. -/
theorem retG_end {w w0 wk : World} {g : Nat} {s : Bool} {u : Value} {xs : List Int} (BW : Below w.heap.size w w0) (hg : w.heap.size ≤ g) (hg0 : g < w0.heap.size) (B0 : Below w0.heap.size w0 wk) (ho : Own wk w0.heap.size u xs) :
    RetG w s xs (.returned (.agg #[.bool s, u])) ((wk.setCell ⟨g, 0, none⟩ (.bool s)).setCell ⟨g, 1, none⟩ u) :=
  ⟨u, rfl, ((ho.setBelow2 (a := ⟨g, 0, none⟩) hg0 _).setBelow2 (a := ⟨g, 1, none⟩) hg0 _).mono BW.size, ((BW.trans (B0.mono BW.size)).setCell hg _).setCell hg _⟩
theorem retGV_end {w w0 wk : World} {g base : Nat} {s : Bool} {u v0 : Value} {xs : List Int} (BW : Below w.heap.size w w0) (hg : w.heap.size ≤ g) (_hg0 : g < w0.heap.size) (B0 : Below w0.heap.size w0 wk) (ho : Own w base u xs) (hv : u.ownBlock = none ∨ u.ownBlock = v0.ownBlock) :
    RetGV w base v0 s xs (.returned (.agg #[.bool s, u])) ((wk.setCell ⟨g, 0, none⟩ (.bool s)).setCell ⟨g, 1, none⟩ u) :=
  have B := ((BW.trans (B0.mono BW.size)).setCell (p := ⟨g, 0, none⟩) hg (.bool s)).setCell (p := ⟨g, 1, none⟩) hg u
  ⟨u, rfl, ho.below B (Nat.le_refl _), hv, B⟩
theorem retZ_of {w w' : World} {z : Int} {s : Bool} {xs : List Int} {e : Ending} (h : RetG w s xs e w') (h1 : s = ng z) (h2 : xs = limbs z.natAbs) : RetZ w z e w' := by
  subst h1; subst h2; exact h

/-- A valid signed number. -/
def OkG (s : Bool) (xs : List Int) : Prop := OkP xs ∧ (xs = [] → s = false)
/-- What it stands for. -/
def zv (s : Bool) (xs : List Int) : Int := if s then -(nv xs) else nv xs
theorem okG_z {s : Bool} {xs : List Int} (h : OkG s xs) : ∃ z : Int, s = ng z ∧ xs = limbs z.natAbs ∧ (limbs z.natAbs).length ≤ 60 ∧ zv s xs = z := by
  obtain ⟨a, rfl, hl⟩ := ok_limbs h.1
  have hz : zv s (limbs a) = if s then -(a : Int) else a := by unfold zv; rw [nv_limbs]
  cases s with
  | true =>
    have ha : 0 < a := by
      rcases Nat.eq_zero_or_pos a with h0 | h0
      · subst h0; exact absurd (h.2 rfl) (by simp)
      · exact h0
    refine ⟨-(a : Int), (ng_neg (by omega)).symm, by rw [Int.natAbs_neg, Int.natAbs_natCast], by rw [Int.natAbs_neg, Int.natAbs_natCast]; exact hl, by rw [hz]; rfl⟩
  | false => exact ⟨(a : Int), (ng_nat a).symm, by rw [Int.natAbs_natCast], by rw [Int.natAbs_natCast]; exact hl, by rw [hz]; rfl⟩
theorem okG_of (z : Int) (h : (limbs z.natAbs).length ≤ 60) : OkG (ng z) (limbs z.natAbs) := by
  refine ⟨limbs_ok h, fun e => ?_⟩
  rw [limbs_nil] at e
  exact ng_nonneg (by omega)
/-- A number, if it has no more than 60 limbs. -/
noncomputable def fitZ (z : Int) : Int := if (limbs z.natAbs).length ≤ 60 then z else 0
theorem fitZ_yes {z : Int} (h : (limbs z.natAbs).length ≤ 60) : fitZ z = z := if_pos h
theorem fitZ_no {z : Int} (h : ¬ (limbs z.natAbs).length ≤ 60) : fitZ z = 0 := if_neg h
theorem fitZ_len (z : Int) : (limbs (fitZ z).natAbs).length ≤ 60 := by
  unfold fitZ; split
  · assumption
  · simp [limbs_zero]

end Go.Proofs.YtijeplcjbhkkoaaGreatDoor

/- The program's signed numbers. -/
namespace Go.Proofs.YtijeplcjbhkkoaaGreatDoor
open Go.RowKit Lm

theorem signed_some (w : World) (b1 : Nat) (s : Bool) (v1 : Value) (xs : List Int) (h1 : Own w b1 v1 xs) (hx : xs ≠ []) :
    Calls Tryz.prog 67 #[.bool s, v1] w (RetGV w b1 v1 s xs) := by
  have hl : 0 < xs.length := List.length_pos_iff.2 hx
  obtain ⟨a1, c1, rfl, -, -, -, -, -⟩ := h1.form
  have d1 : (xs.length == 0) = false := beq_eq_false_iff_ne.2 (by omega)
  have d2 : ((xs.length : Int) == 0) = false := beq_eq_false_iff_ne.2 (by omega)
  have H1 := Lib.hid h1
  clear h1 hx
  go_enter Tryz.func67, Tryz.ntmps67
  go_wp2
  exact bodyPost_ret (v := .agg #[.bool s, .slice a1 xs.length c1]) (by simp [results, Tryz.results67, go_sem]) rfl ⟨_, rfl, H1.out.alloc _, .inr rfl, (Below.refl _ _).alloc (Nat.le_refl _) _⟩
theorem signed_nil (w : World) (b1 : Nat) (s : Bool) (v1 : Value) (h1 : Own w b1 v1 []) :
    Calls Tryz.prog 67 #[.bool s, v1] w (RetGV w b1 v1 false []) := by
  obtain ⟨a1, c1, rfl, -, -, -, -, -⟩ := h1.form
  have d1 : (([] : List Int).length == 0) = true := rfl
  have d2 : ((([] : List Int).length : Int) == 0) = true := rfl
  clear h1
  go_enter Tryz.func67, Tryz.ntmps67
  go_wp2
  exact bodyPost_ret (v := .agg #[.bool false, .slice none 0 0]) (by simp [results, Tryz.results67, go_sem]) rfl ⟨_, rfl, Own.nil _ _, .inl rfl, (Below.refl _ _).alloc (Nat.le_refl _) _⟩
theorem signed_z (w : World) (b1 : Nat) (s : Bool) (v1 : Value) (z : Int) (h1 : Own w b1 v1 (limbs z.natAbs)) (hs : z ≠ 0 → s = ng z) :
    Calls Tryz.prog 67 #[.bool s, v1] w (RetZV w b1 v1 z) := by
  by_cases h : z = 0
  · subst h
    exact signed_nil w b1 s v1 h1
  · rw [hs h]
    exact signed_some w b1 _ v1 _ h1 (fun e => by rw [limbs_nil] at e; omega)

set_option maxHeartbeats 1000000 in
theorem bigIntOk_bad (w : World) (b1 : Nat) (s : Bool) (v1 : Value) (xs : List Int) (h1 : Own w b1 v1 xs) (hx : ¬ OkP xs) :
    Calls Tryz.prog 37 #[.agg #[.bool s, v1]] w (RetB w false) := by
  have BW : Below w.heap.size w (w.alloc (.cells #[.bool s, v1] 25)) := ((Below.refl w.heap.size w).alloc (Nat.le_refl _) _)
  obtain ⟨c0_0, c0_1⟩ : World.cell? (w.alloc (.cells #[.bool s, v1] 25)) ⟨w.heap.size, 0, none⟩ = some (.bool s) ∧ World.cell? (w.alloc (.cells #[.bool s, v1] 25)) ⟨w.heap.size, 1, none⟩ = some (v1) := by simp [go_sem]
  have Hv := Lib.hid (h1.below BW (Nat.le_refl _))
  clear h1
  have HX := Lib.hid hx
  clear hx
  go_enter Tryz.func37, Tryz.ntmps37
  go_wp2_with fail
  generalize (w.alloc (.cells #[.bool s, v1] 25)) = w0 at *
  have B0 := Below.refl w0.heap.size w0
  refine (natOk_f _ _ _ _ Hv.out HX.out).mono ?_
  rintro e w1 ⟨rfl, hb⟩
  replace c0_0 := keep_cell hb c0_0
  replace c0_1 := keep_cell hb c0_1
  replace Hv := Lib.hid (Hv.out.below hb (Nat.le_refl _))
  replace B0 := B0.trans (hb.mono B0.size)
  clear hb
  go_wp2
  go_ret
  exact retB rfl (BW.trans (B0.mono BW.size))

set_option maxHeartbeats 1000000 in
theorem bigIntOk_some (w : World) (b1 : Nat) (s : Bool) (v1 : Value) (xs : List Int) (h1 : Own w b1 v1 xs) (hx : OkP xs) (hl : xs ≠ []) :
    Calls Tryz.prog 37 #[.agg #[.bool s, v1]] w (RetB w true) := by
  obtain ⟨a1, c1, rfl, -, -, -, -, -⟩ := h1.form
  have BW : Below w.heap.size w (w.alloc (.cells #[.bool s, (.slice a1 xs.length c1)] 25)) := ((Below.refl w.heap.size w).alloc (Nat.le_refl _) _)
  obtain ⟨c0_0, c0_1⟩ : World.cell? (w.alloc (.cells #[.bool s, (.slice a1 xs.length c1)] 25)) ⟨w.heap.size, 0, none⟩ = some (.bool s) ∧ World.cell? (w.alloc (.cells #[.bool s, (.slice a1 xs.length c1)] 25)) ⟨w.heap.size, 1, none⟩ = some ((.slice a1 xs.length c1)) := by simp [go_sem]
  have Hv := Lib.hid (h1.below BW (Nat.le_refl _))
  clear h1
  have HX := Lib.hid hx
  clear hx
  have hl2 := List.length_pos_iff.2 hl
  have d1 : decide (0 < xs.length) = true := decide_eq_true hl2
  have d2 : decide ((0 : Int) < xs.length) = true := decide_eq_true (by omega)
  clear hl
  go_enter Tryz.func37, Tryz.ntmps37
  go_wp2_with fail
  generalize (w.alloc (.cells #[.bool s, (.slice a1 xs.length c1)] 25)) = w0 at *
  have B0 := Below.refl w0.heap.size w0
  refine (natOk_t _ _ _ _ Hv.out HX.out).mono ?_
  rintro e w1 ⟨rfl, hb⟩
  replace c0_0 := keep_cell hb c0_0
  replace c0_1 := keep_cell hb c0_1
  replace Hv := Lib.hid (Hv.out.below hb (Nat.le_refl _))
  replace B0 := B0.trans (hb.mono B0.size)
  clear hb
  go_wp2
  go_ret
  exact retB rfl (BW.trans (B0.mono BW.size))

set_option maxHeartbeats 1000000 in
theorem bigIntOk_none (w : World) (b1 : Nat) (s : Bool) (v1 : Value) (xs : List Int) (h1 : Own w b1 v1 xs) (hx : OkP xs) (hl : xs = []) :
    Calls Tryz.prog 37 #[.agg #[.bool s, v1]] w (RetB w (!s)) := by
  subst hl
  obtain ⟨a1, c1, rfl, -, -, -, -, -⟩ := h1.form
  have BW : Below w.heap.size w (w.alloc (.cells #[.bool s, (.slice a1 ([] : List Int).length c1)] 25)) := ((Below.refl w.heap.size w).alloc (Nat.le_refl _) _)
  obtain ⟨c0_0, c0_1⟩ : World.cell? (w.alloc (.cells #[.bool s, (.slice a1 ([] : List Int).length c1)] 25)) ⟨w.heap.size, 0, none⟩ = some (.bool s) ∧ World.cell? (w.alloc (.cells #[.bool s, (.slice a1 ([] : List Int).length c1)] 25)) ⟨w.heap.size, 1, none⟩ = some ((.slice a1 ([] : List Int).length c1)) := by simp [go_sem]
  have Hv := Lib.hid (h1.below BW (Nat.le_refl _))
  clear h1
  have HX := Lib.hid hx
  clear hx
  have d1 : decide (0 < ([] : List Int).length) = false := rfl
  have d2 : decide ((0 : Int) < ([] : List Int).length) = false := rfl
  go_enter Tryz.func37, Tryz.ntmps37
  go_wp2_with fail
  generalize (w.alloc (.cells #[.bool s, (.slice a1 ([] : List Int).length c1)] 25)) = w0 at *
  have B0 := Below.refl w0.heap.size w0
  refine (natOk_t _ _ _ _ Hv.out HX.out).mono ?_
  rintro e w1 ⟨rfl, hb⟩
  replace c0_0 := keep_cell hb c0_0
  replace c0_1 := keep_cell hb c0_1
  replace Hv := Lib.hid (Hv.out.below hb (Nat.le_refl _))
  replace B0 := B0.trans (hb.mono B0.size)
  clear hb
  go_wp2
  go_ret
  exact retB rfl (BW.trans (B0.mono BW.size))

theorem bigIntOk_t (w : World) (b1 : Nat) (s : Bool) (v1 : Value) (xs : List Int) (h1 : Own w b1 v1 xs) (h : OkG s xs) : Calls Tryz.prog 37 #[.agg #[.bool s, v1]] w (RetB w true) := by
  by_cases hl : xs = []
  · obtain rfl := h.2 hl
    exact bigIntOk_none w b1 false v1 xs h1 h.1 hl
  · exact bigIntOk_some w b1 s v1 xs h1 h.1 hl
theorem bigIntOk_f (w : World) (b1 : Nat) (s : Bool) (v1 : Value) (xs : List Int) (h1 : Own w b1 v1 xs) (h : ¬ OkG s xs) : Calls Tryz.prog 37 #[.agg #[.bool s, v1]] w (RetB w false) := by
  by_cases hx : OkP xs
  · by_cases hl : xs = []
    · obtain rfl : s = true := by
        cases s with
        | true => rfl
        | false => exact absurd ⟨hx, fun _ => rfl⟩ h
      exact bigIntOk_none w b1 true v1 xs h1 hx hl
    · exact absurd ⟨hx, fun e => absurd e hl⟩ h
  · exact bigIntOk_bad w b1 s v1 xs h1 hx
theorem bigIntOk_z (w : World) (b1 : Nat) (v1 : Value) (z : Int) (h1 : Own w b1 v1 (limbs z.natAbs)) (h : (limbs z.natAbs).length ≤ 60) : Calls Tryz.prog 37 #[.agg #[.bool (ng z), v1]] w (RetB w true) :=
  bigIntOk_t w b1 _ v1 _ h1 (okG_of z h)

theorem signed_zz (w : World) (b1 : Nat) (s : Bool) (v1 : Value) (n : Nat) (z : Int) (h1 : Own w b1 v1 (limbs n)) (hn : Hid (n = z.natAbs)) (hs : Hid (z ≠ 0 → s = ng z)) :
    Calls Tryz.prog 67 #[.bool s, v1] w (RetZV w b1 v1 z) := by
  have h := hn.out
  subst h
  exact signed_z w b1 s v1 z h1 hs.out
theorem neg_ng {x z : Int} (h : z = -x) : z ≠ 0 → (!(ng x)) = ng z := by
  subst h
  intro h
  by_cases h1 : x < 0
  · rw [ng_neg h1, ng_nonneg (by omega)]; rfl
  · rw [ng_nonneg (by omega), ng_neg (by omega)]; rfl

set_option maxHeartbeats 1000000 in
theorem bigNeg_c (w : World) (b1 : Nat) (v1 : Value) (x : Int) (h1 : Own w b1 v1 (limbs x.natAbs)) (hs1 : (limbs x.natAbs).length ≤ 900) (z : Int) (hz : z = -x) :
    Calls Tryz.prog 93 #[.agg #[.bool (ng x), v1]] w (RetZ w z) := by
  have BW : Below w.heap.size w ((w.alloc (.cells #[.bool (ng x), v1] 25)).alloc (.cells #[.bool false, .slice none 0 0] 25)) := (((Below.refl w.heap.size w).alloc (Nat.le_refl _) _).alloc (by simp) _)
  obtain ⟨c0_0, c0_1, c1_0, c1_1, q0, q1⟩ : World.cell? ((w.alloc (.cells #[.bool (ng x), v1] 25)).alloc (.cells #[.bool false, .slice none 0 0] 25)) ⟨w.heap.size, 0, none⟩ = some (.bool (ng x)) ∧ World.cell? ((w.alloc (.cells #[.bool (ng x), v1] 25)).alloc (.cells #[.bool false, .slice none 0 0] 25)) ⟨w.heap.size, 1, none⟩ = some (v1) ∧ World.cell? ((w.alloc (.cells #[.bool (ng x), v1] 25)).alloc (.cells #[.bool false, .slice none 0 0] 25)) ⟨w.heap.size + 1, 0, none⟩ = some (.bool false) ∧ World.cell? ((w.alloc (.cells #[.bool (ng x), v1] 25)).alloc (.cells #[.bool false, .slice none 0 0] 25)) ⟨w.heap.size + 1, 1, none⟩ = some (.slice none 0 0) ∧ World.frozen? ((w.alloc (.cells #[.bool (ng x), v1] 25)).alloc (.cells #[.bool false, .slice none 0 0] 25)) ⟨w.heap.size + 1, 0, none⟩ = false ∧ World.frozen? ((w.alloc (.cells #[.bool (ng x), v1] 25)).alloc (.cells #[.bool false, .slice none 0 0] 25)) ⟨w.heap.size + 1, 1, none⟩ = false := by simp [go_sem]
  have hg0 : w.heap.size + 1 < (((w.alloc (.cells #[.bool (ng x), v1] 25)).alloc (.cells #[.bool false, .slice none 0 0] 25))).heap.size := World.block_lt_of_cell? _ _ c1_0
  have Hv := Lib.hid (h1.below BW (Nat.le_refl _))
  clear h1
  have HN : Hid (x.natAbs = z.natAbs) := by unfold Hid; rw [hz]; omega
  have HSG := Lib.hid (neg_ng hz)
  clear hz
  go_enter Tryz.func93, Tryz.ntmps93
  go_wp2_with fail
  generalize ((w.alloc (.cells #[.bool (ng x), v1] 25)).alloc (.cells #[.bool false, .slice none 0 0] 25)) = w0 at *
  have B0 := Below.refl w0.heap.size w0
  replace Hv := Lib.hid Hv.out.drew
  replace B0 := below_drew B0
  replace q0 := frozen_drew q0
  replace c1_0 := cell_drew c1_0
  replace q1 := frozen_drew q1
  replace c1_1 := cell_drew c1_1
  go_region_held3 (fun w' => w'.cell? ⟨w.heap.size, 0, none⟩ = some (.bool (ng x)) ∧ w'.cell? ⟨w.heap.size, 1, none⟩ = some (v1)) (first | exact ⟨c0_0, c0_1⟩ | (go_split_ands; exact ⟨keep_cell hb2 ‹_›, keep_cell hb2 ‹_›⟩) | (go_split_ands; exact ⟨keep_cell hb1 ‹_›, keep_cell hb1 ‹_›⟩) | (go_split_ands; exact ⟨(set_far (set_far ‹_› (by dsimp only; omega)) (by dsimp only; omega)), (set_far (set_far ‹_› (by dsimp only; omega)) (by dsimp only; omega))⟩) | (go_split_ands; exact ⟨(set_far (set_far (set_far ‹_› (by dsimp only; omega)) (by dsimp only; omega)) (by dsimp only; omega)), (set_far (set_far (set_far ‹_› (by dsimp only; omega)) (by dsimp only; omega)) (by dsimp only; omega))⟩) | (go_split_ands; exact ⟨(set_far ‹_› (by dsimp only; omega)), (set_far ‹_› (by dsimp only; omega))⟩) | go_keep)
    (first | (go_at_call 64; refine (copyInts_c _ _ _ _ Hv.out (by omega)).mono ?_; rintro e w1 ⟨vu, rfl, ho1, hb1⟩; have q0 := keep_frozen (w1 := w1) hb1 c1_0 q0; have c1_0 := keep_cell (w1 := w1) hb1 c1_0; have q1 := keep_frozen (w1 := w1) hb1 c1_1 q1; have c1_1 := keep_cell (w1 := w1) hb1 c1_1; have Hv := Lib.hid (Hv.out.below hb1 (Nat.le_refl _)); (try (have Hr := Lib.hid (Hr.out.below hb1 (Nat.le_refl _)))); have Hu := Lib.hid (ho1.mono B0.size); clear ho1; have B0 := B0.trans (hb1.mono B0.size)) | (go_at_call 67; refine (signed_zz _ _ _ _ x.natAbs z Hu.out HN HSG).mono ?_; rintro e w2 ⟨vr, rfl, ho2, hp, hb2⟩; have q0 := keep_frozen (w1 := w2) hb2 c1_0 q0; have c1_0 := keep_cell (w1 := w2) hb2 c1_0; have q1 := keep_frozen (w1 := w2) hb2 c1_1 q1; have c1_1 := keep_cell (w1 := w2) hb2 c1_1; have Hv := Lib.hid (Hv.out.below hb2 (Nat.le_refl _)); (try (have Hu := Lib.hid (Hu.out.below hb2 (Nat.le_refl _)))); have Hr := Lib.hid ho2; clear ho2; obtain ⟨ar, cr, rfl, -, -, -, -, -⟩ := Hr.out.form; have B0 := B0.trans (hb2.mono B0.size)))
  go_wp2
  exact bodyPost_ret (v := .agg #[.bool (ng z), .slice ar (limbs z.natAbs).length cr]) (by simp [results, Tryz.results93, go_sem, c1_0, c1_1]) rfl (retG_end BW (by omega) hg0 B0 Hr.out)

theorem ng_iff {x : Int} : ng x = true ↔ x < 0 := by simp [ng]
theorem ng_iff' {x : Int} : ng x = false ↔ 0 ≤ x := by simp [ng]
theorem ng_cases (x : Int) : (x < 0 ∧ ng x = true) ∨ (0 ≤ x ∧ ng x = false) := by
  by_cases h : x < 0
  · exact .inl ⟨h, ng_neg h⟩
  · exact .inr ⟨by omega, ng_nonneg (by omega)⟩
theorem add_same_n {x y z : Int} (hz : z = x + y) (hs : ng y = ng x) : x.natAbs + y.natAbs = z.natAbs := by
  rcases ng_cases x with ⟨h1, e1⟩ | ⟨h1, e1⟩ <;> rcases ng_cases y with ⟨h2, e2⟩ | ⟨h2, e2⟩ <;> rw [e1, e2] at hs <;> first | exact Bool.noConfusion hs | rfl | (exfalso; omega) | omega
theorem add_same_s {x y z : Int} (hz : z = x + y) (hs : ng y = ng x) (_h0 : z ≠ 0) : ng x = ng z := by
  rcases ng_cases x with ⟨h1, e1⟩ | ⟨h1, e1⟩ <;> rcases ng_cases y with ⟨h2, e2⟩ | ⟨h2, e2⟩ <;> rcases ng_cases z with ⟨h3, e3⟩ | ⟨h3, e3⟩ <;> rw [e1, e2] at hs <;> rw [e1, e3] <;> first | exact Bool.noConfusion hs | rfl | (exfalso; omega) | omega
theorem add_ge_n {x y z : Int} (hz : z = x + y) (hs : ng x ≠ ng y) (hc : y.natAbs ≤ x.natAbs) : x.natAbs - y.natAbs = z.natAbs := by
  rcases ng_cases x with ⟨h1, e1⟩ | ⟨h1, e1⟩ <;> rcases ng_cases y with ⟨h2, e2⟩ | ⟨h2, e2⟩ <;> rw [e1, e2] at hs <;> first | exact absurd rfl hs | rfl | (exfalso; omega) | omega
theorem add_ge_s {x y z : Int} (hz : z = x + y) (hs : ng x ≠ ng y) (hc : y.natAbs ≤ x.natAbs) (h0 : z ≠ 0) : ng x = ng z := by
  rcases ng_cases x with ⟨h1, e1⟩ | ⟨h1, e1⟩ <;> rcases ng_cases y with ⟨h2, e2⟩ | ⟨h2, e2⟩ <;> rcases ng_cases z with ⟨h3, e3⟩ | ⟨h3, e3⟩ <;> rw [e1, e2] at hs <;> rw [e1, e3] <;> first | exact absurd rfl hs | rfl | (exfalso; omega) | omega
theorem add_lt_n {x y z : Int} (hz : z = x + y) (hs : ng x ≠ ng y) (hc : x.natAbs < y.natAbs) : y.natAbs - x.natAbs = z.natAbs := by
  rcases ng_cases x with ⟨h1, e1⟩ | ⟨h1, e1⟩ <;> rcases ng_cases y with ⟨h2, e2⟩ | ⟨h2, e2⟩ <;> rw [e1, e2] at hs <;> first | exact absurd rfl hs | rfl | (exfalso; omega) | omega
theorem add_lt_s {x y z : Int} (hz : z = x + y) (hs : ng x ≠ ng y) (hc : x.natAbs < y.natAbs) (h0 : z ≠ 0) : ng y = ng z := by
  rcases ng_cases x with ⟨h1, e1⟩ | ⟨h1, e1⟩ <;> rcases ng_cases y with ⟨h2, e2⟩ | ⟨h2, e2⟩ <;> rcases ng_cases z with ⟨h3, e3⟩ | ⟨h3, e3⟩ <;> rw [e1, e2] at hs <;> rw [e2, e3] <;> first | exact absurd rfl hs | rfl | (exfalso; omega) | omega
theorem ne_xor {x y : Int} : (ng x != ng y) = (ng x ^^ ng y) := by cases ng x <;> cases ng y <;> rfl
theorem mul_s {x y z : Int} (hz : z = x * y) (h0 : z ≠ 0) : (ng x != ng y) = ng z := by
  subst hz
  have hx : x ≠ 0 := fun h => h0 (by rw [h, Int.zero_mul])
  have hy : y ≠ 0 := fun h => h0 (by rw [h, Int.mul_zero])
  rcases ng_cases x with ⟨h1, e1⟩ | ⟨h1, e1⟩ <;> rcases ng_cases y with ⟨h2, e2⟩ | ⟨h2, e2⟩ <;> rw [e1, e2]
  · rw [ng_nonneg (Int.le_of_lt (Int.mul_pos_of_neg_of_neg h1 h2))]; rfl
  · rw [ng_neg (Int.mul_neg_of_neg_of_pos h1 (by omega))]; rfl
  · rw [ng_neg (Int.mul_neg_of_pos_of_neg (by omega) h2)]; rfl
  · rw [ng_nonneg (Int.mul_nonneg h1 h2)]; rfl

set_option maxHeartbeats 1000000 in
theorem bigAdd_same (w : World) (b1 b2 : Nat) (v1 v2 : Value) (x y : Int) (h1 : Own w b1 v1 (limbs x.natAbs)) (h2 : Own w b2 v2 (limbs y.natAbs)) (hs1 : (limbs x.natAbs).length ≤ 900) (hs2 : (limbs y.natAbs).length ≤ 900) (z : Int) (hz : z = x + y) (hs : ng y = ng x) :
    Calls Tryz.prog 63 #[.agg #[.bool (ng x), v1], .agg #[.bool (ng y), v2]] w (RetZ w z) := by
  rw [hs]
  have BW : Below w.heap.size w (((w.alloc (.cells #[.bool (ng x), v1] 25)).alloc (.cells #[.bool (ng x), v2] 25)).alloc (.cells #[.bool false, .slice none 0 0] 25)) := ((((Below.refl w.heap.size w).alloc (Nat.le_refl _) _).alloc (by simp) _).alloc (by simp; omega) _)
  obtain ⟨c0_0, c0_1, c1_0, c1_1, c2_0, c2_1, q0, q1⟩ : World.cell? (((w.alloc (.cells #[.bool (ng x), v1] 25)).alloc (.cells #[.bool (ng x), v2] 25)).alloc (.cells #[.bool false, .slice none 0 0] 25)) ⟨w.heap.size, 0, none⟩ = some (.bool (ng x)) ∧ World.cell? (((w.alloc (.cells #[.bool (ng x), v1] 25)).alloc (.cells #[.bool (ng x), v2] 25)).alloc (.cells #[.bool false, .slice none 0 0] 25)) ⟨w.heap.size, 1, none⟩ = some (v1) ∧ World.cell? (((w.alloc (.cells #[.bool (ng x), v1] 25)).alloc (.cells #[.bool (ng x), v2] 25)).alloc (.cells #[.bool false, .slice none 0 0] 25)) ⟨w.heap.size + 1, 0, none⟩ = some (.bool (ng x)) ∧ World.cell? (((w.alloc (.cells #[.bool (ng x), v1] 25)).alloc (.cells #[.bool (ng x), v2] 25)).alloc (.cells #[.bool false, .slice none 0 0] 25)) ⟨w.heap.size + 1, 1, none⟩ = some (v2) ∧ World.cell? (((w.alloc (.cells #[.bool (ng x), v1] 25)).alloc (.cells #[.bool (ng x), v2] 25)).alloc (.cells #[.bool false, .slice none 0 0] 25)) ⟨w.heap.size + 1 + 1, 0, none⟩ = some (.bool false) ∧ World.cell? (((w.alloc (.cells #[.bool (ng x), v1] 25)).alloc (.cells #[.bool (ng x), v2] 25)).alloc (.cells #[.bool false, .slice none 0 0] 25)) ⟨w.heap.size + 1 + 1, 1, none⟩ = some (.slice none 0 0) ∧ World.frozen? (((w.alloc (.cells #[.bool (ng x), v1] 25)).alloc (.cells #[.bool (ng x), v2] 25)).alloc (.cells #[.bool false, .slice none 0 0] 25)) ⟨w.heap.size + 1 + 1, 0, none⟩ = false ∧ World.frozen? (((w.alloc (.cells #[.bool (ng x), v1] 25)).alloc (.cells #[.bool (ng x), v2] 25)).alloc (.cells #[.bool false, .slice none 0 0] 25)) ⟨w.heap.size + 1 + 1, 1, none⟩ = false := by simp [go_sem]
  have hg0 : w.heap.size + 1 + 1 < ((((w.alloc (.cells #[.bool (ng x), v1] 25)).alloc (.cells #[.bool (ng x), v2] 25)).alloc (.cells #[.bool false, .slice none 0 0] 25))).heap.size := World.block_lt_of_cell? _ _ c2_0
  have Hv := Lib.hid (h1.below BW (Nat.le_refl _))
  have Hu := Lib.hid (h2.below BW (Nat.le_refl _))
  clear h1 h2
  have HN : Hid (x.natAbs + y.natAbs = z.natAbs) := add_same_n hz hs
  have HSG : Hid (z ≠ 0 → ng x = ng z) := add_same_s hz hs
  clear hz
  go_enter Tryz.func63, Tryz.ntmps63
  go_wp2_with fail
  generalize (((w.alloc (.cells #[.bool (ng x), v1] 25)).alloc (.cells #[.bool (ng x), v2] 25)).alloc (.cells #[.bool false, .slice none 0 0] 25)) = w0 at *
  have B0 := Below.refl w0.heap.size w0
  replace Hv := Lib.hid Hv.out.drew
  replace Hu := Lib.hid Hu.out.drew
  replace B0 := below_drew B0
  replace q0 := frozen_drew q0
  replace c2_0 := cell_drew c2_0
  replace q1 := frozen_drew q1
  replace c2_1 := cell_drew c2_1
  go_region_held3 (fun w' => w'.cell? ⟨w.heap.size, 0, none⟩ = some (.bool (ng x)) ∧ w'.cell? ⟨w.heap.size, 1, none⟩ = some (v1) ∧ w'.cell? ⟨w.heap.size + 1, 1, none⟩ = some (v2)) (first | exact ⟨c0_0, c0_1, c1_1⟩ | (go_split_ands; exact ⟨keep_cell hb2 ‹_›, keep_cell hb2 ‹_›, keep_cell hb2 ‹_›⟩) | (go_split_ands; exact ⟨keep_cell hb1 ‹_›, keep_cell hb1 ‹_›, keep_cell hb1 ‹_›⟩) | (go_split_ands; exact ⟨(set_far (set_far ‹_› (by dsimp only; omega)) (by dsimp only; omega)), (set_far (set_far ‹_› (by dsimp only; omega)) (by dsimp only; omega)), (set_far (set_far ‹_› (by dsimp only; omega)) (by dsimp only; omega))⟩) | (go_split_ands; exact ⟨(set_far (set_far (set_far ‹_› (by dsimp only; omega)) (by dsimp only; omega)) (by dsimp only; omega)), (set_far (set_far (set_far ‹_› (by dsimp only; omega)) (by dsimp only; omega)) (by dsimp only; omega)), (set_far (set_far (set_far ‹_› (by dsimp only; omega)) (by dsimp only; omega)) (by dsimp only; omega))⟩) | (go_split_ands; exact ⟨(set_far ‹_› (by dsimp only; omega)), (set_far ‹_› (by dsimp only; omega)), (set_far ‹_› (by dsimp only; omega))⟩) | go_keep)
    (first | (go_at_call 83; refine (natAdd_c _ _ _ _ _ x.natAbs y.natAbs Hv.out Hu.out (by omega) (by omega)).mono ?_; rintro e w1 ⟨vo, rfl, ho1, hb1⟩; have q0 := keep_frozen (w1 := w1) hb1 c2_0 q0; have c2_0 := keep_cell (w1 := w1) hb1 c2_0; have q1 := keep_frozen (w1 := w1) hb1 c2_1 q1; have c2_1 := keep_cell (w1 := w1) hb1 c2_1; have Hv := Lib.hid (Hv.out.below hb1 (Nat.le_refl _)); have Hu := Lib.hid (Hu.out.below hb1 (Nat.le_refl _)); (try (have Hr := Lib.hid (Hr.out.below hb1 (Nat.le_refl _)))); have Ho := Lib.hid (ho1.mono B0.size); clear ho1; have B0 := B0.trans (hb1.mono B0.size)) | (go_at_call 67; refine (signed_zz _ _ _ _ _ z Ho.out HN HSG).mono ?_; rintro e w2 ⟨vr, rfl, ho2, hp, hb2⟩; have q0 := keep_frozen (w1 := w2) hb2 c2_0 q0; have c2_0 := keep_cell (w1 := w2) hb2 c2_0; have q1 := keep_frozen (w1 := w2) hb2 c2_1 q1; have c2_1 := keep_cell (w1 := w2) hb2 c2_1; have Hv := Lib.hid (Hv.out.below hb2 (Nat.le_refl _)); have Hu := Lib.hid (Hu.out.below hb2 (Nat.le_refl _)); (try (have Ho := Lib.hid (Ho.out.below hb2 (Nat.le_refl _)))); have Hr := Lib.hid ho2; clear ho2; obtain ⟨ar, cr, rfl, -, -, -, -, -⟩ := Hr.out.form; have B0 := B0.trans (hb2.mono B0.size)))
  go_wp2
  exact bodyPost_ret (v := .agg #[.bool (ng z), .slice ar (limbs z.natAbs).length cr]) (by simp [results, Tryz.results63, go_sem, c2_0, c2_1]) rfl (retG_end BW (by omega) hg0 B0 Hr.out)

set_option maxHeartbeats 1000000 in
theorem bigAdd_ge (w : World) (b1 b2 : Nat) (v1 v2 : Value) (x y : Int) (h1 : Own w b1 v1 (limbs x.natAbs)) (h2 : Own w b2 v2 (limbs y.natAbs)) (hs1 : (limbs x.natAbs).length ≤ 900) (_hs2 : (limbs y.natAbs).length ≤ 900) (z : Int) (hz : z = x + y) (hs : ng x ≠ ng y) (hc : y.natAbs ≤ x.natAbs) :
    Calls Tryz.prog 63 #[.agg #[.bool (ng x), v1], .agg #[.bool (ng y), v2]] w (RetZ w z) := by
  have BW : Below w.heap.size w (((w.alloc (.cells #[.bool (ng x), v1] 25)).alloc (.cells #[.bool (ng y), v2] 25)).alloc (.cells #[.bool false, .slice none 0 0] 25)) := ((((Below.refl w.heap.size w).alloc (Nat.le_refl _) _).alloc (by simp) _).alloc (by simp; omega) _)
  obtain ⟨c0_0, c0_1, c1_0, c1_1, c2_0, c2_1, q0, q1⟩ : World.cell? (((w.alloc (.cells #[.bool (ng x), v1] 25)).alloc (.cells #[.bool (ng y), v2] 25)).alloc (.cells #[.bool false, .slice none 0 0] 25)) ⟨w.heap.size, 0, none⟩ = some (.bool (ng x)) ∧ World.cell? (((w.alloc (.cells #[.bool (ng x), v1] 25)).alloc (.cells #[.bool (ng y), v2] 25)).alloc (.cells #[.bool false, .slice none 0 0] 25)) ⟨w.heap.size, 1, none⟩ = some (v1) ∧ World.cell? (((w.alloc (.cells #[.bool (ng x), v1] 25)).alloc (.cells #[.bool (ng y), v2] 25)).alloc (.cells #[.bool false, .slice none 0 0] 25)) ⟨w.heap.size + 1, 0, none⟩ = some (.bool (ng y)) ∧ World.cell? (((w.alloc (.cells #[.bool (ng x), v1] 25)).alloc (.cells #[.bool (ng y), v2] 25)).alloc (.cells #[.bool false, .slice none 0 0] 25)) ⟨w.heap.size + 1, 1, none⟩ = some (v2) ∧ World.cell? (((w.alloc (.cells #[.bool (ng x), v1] 25)).alloc (.cells #[.bool (ng y), v2] 25)).alloc (.cells #[.bool false, .slice none 0 0] 25)) ⟨w.heap.size + 1 + 1, 0, none⟩ = some (.bool false) ∧ World.cell? (((w.alloc (.cells #[.bool (ng x), v1] 25)).alloc (.cells #[.bool (ng y), v2] 25)).alloc (.cells #[.bool false, .slice none 0 0] 25)) ⟨w.heap.size + 1 + 1, 1, none⟩ = some (.slice none 0 0) ∧ World.frozen? (((w.alloc (.cells #[.bool (ng x), v1] 25)).alloc (.cells #[.bool (ng y), v2] 25)).alloc (.cells #[.bool false, .slice none 0 0] 25)) ⟨w.heap.size + 1 + 1, 0, none⟩ = false ∧ World.frozen? (((w.alloc (.cells #[.bool (ng x), v1] 25)).alloc (.cells #[.bool (ng y), v2] 25)).alloc (.cells #[.bool false, .slice none 0 0] 25)) ⟨w.heap.size + 1 + 1, 1, none⟩ = false := by simp [go_sem]
  have hg0 : w.heap.size + 1 + 1 < ((((w.alloc (.cells #[.bool (ng x), v1] 25)).alloc (.cells #[.bool (ng y), v2] 25)).alloc (.cells #[.bool false, .slice none 0 0] 25))).heap.size := World.block_lt_of_cell? _ _ c2_0
  have Hv := Lib.hid (h1.below BW (Nat.le_refl _))
  have Hu := Lib.hid (h2.below BW (Nat.le_refl _))
  clear h1 h2
  have HN : Hid (x.natAbs - y.natAbs = z.natAbs) := add_ge_n hz hs hc
  have HSG : Hid (z ≠ 0 → ng x = ng z) := add_ge_s hz hs hc
  have HC := Lib.hid hc
  clear hz hc
  have d1 : (ng x == ng y) = false := by simpa using hs
  clear hs
  go_enter Tryz.func63, Tryz.ntmps63
  go_wp2_with fail
  generalize (((w.alloc (.cells #[.bool (ng x), v1] 25)).alloc (.cells #[.bool (ng y), v2] 25)).alloc (.cells #[.bool false, .slice none 0 0] 25)) = w0 at *
  have B0 := Below.refl w0.heap.size w0
  refine (natCmp_ge _ _ _ _ _ x.natAbs y.natAbs Hv.out Hu.out HC.out).mono ?_
  rintro e w1 ⟨c, hc, rfl, hb⟩
  replace c0_0 := keep_cell hb c0_0
  replace c0_1 := keep_cell hb c0_1
  replace c1_0 := keep_cell hb c1_0
  replace c1_1 := keep_cell hb c1_1
  replace q0 := keep_frozen (w1 := w1) hb c2_0 q0
  replace c2_0 := keep_cell (w1 := w1) hb c2_0
  replace q1 := keep_frozen (w1 := w1) hb c2_1 q1
  replace c2_1 := keep_cell (w1 := w1) hb c2_1
  replace Hv := Lib.hid (Hv.out.below hb (Nat.le_refl _))
  replace Hu := Lib.hid (Hu.out.below hb (Nat.le_refl _))
  replace B0 := B0.trans (hb.mono B0.size)
  clear hb
  go_wp2_with fail
  replace Hv := Lib.hid Hv.out.drew
  replace Hu := Lib.hid Hu.out.drew
  replace B0 := below_drew B0
  replace q0 := frozen_drew q0
  replace c2_0 := cell_drew c2_0
  replace q1 := frozen_drew q1
  replace c2_1 := cell_drew c2_1
  go_region_held3 (fun w' => w'.cell? ⟨w.heap.size, 0, none⟩ = some (.bool (ng x)) ∧ w'.cell? ⟨w.heap.size, 1, none⟩ = some (v1) ∧ w'.cell? ⟨w.heap.size + 1, 1, none⟩ = some (v2)) (first | exact ⟨c0_0, c0_1, c1_1⟩ | (go_split_ands; exact ⟨keep_cell hb3 ‹_›, keep_cell hb3 ‹_›, keep_cell hb3 ‹_›⟩) | (go_split_ands; exact ⟨keep_cell hb2 ‹_›, keep_cell hb2 ‹_›, keep_cell hb2 ‹_›⟩) | (go_split_ands; exact ⟨(set_far (set_far ‹_› (by dsimp only; omega)) (by dsimp only; omega)), (set_far (set_far ‹_› (by dsimp only; omega)) (by dsimp only; omega)), (set_far (set_far ‹_› (by dsimp only; omega)) (by dsimp only; omega))⟩) | (go_split_ands; exact ⟨(set_far (set_far (set_far ‹_› (by dsimp only; omega)) (by dsimp only; omega)) (by dsimp only; omega)), (set_far (set_far (set_far ‹_› (by dsimp only; omega)) (by dsimp only; omega)) (by dsimp only; omega)), (set_far (set_far (set_far ‹_› (by dsimp only; omega)) (by dsimp only; omega)) (by dsimp only; omega))⟩) | (go_split_ands; exact ⟨(set_far ‹_› (by dsimp only; omega)), (set_far ‹_› (by dsimp only; omega)), (set_far ‹_› (by dsimp only; omega))⟩) | go_keep)
    (first | (go_at_call 85; refine (natSub_c _ _ _ _ _ x.natAbs y.natAbs Hv.out Hu.out (by omega) HC.out).mono ?_; rintro e w2 ⟨vo, rfl, ho1, hb2⟩; have q0 := keep_frozen (w1 := w2) hb2 c2_0 q0; have c2_0 := keep_cell (w1 := w2) hb2 c2_0; have q1 := keep_frozen (w1 := w2) hb2 c2_1 q1; have c2_1 := keep_cell (w1 := w2) hb2 c2_1; have Hv := Lib.hid (Hv.out.below hb2 (Nat.le_refl _)); have Hu := Lib.hid (Hu.out.below hb2 (Nat.le_refl _)); (try (have Hr := Lib.hid (Hr.out.below hb2 (Nat.le_refl _)))); have Ho := Lib.hid (ho1.mono B0.size); clear ho1; have B0 := B0.trans (hb2.mono B0.size)) | (go_at_call 67; refine (signed_zz _ _ _ _ _ z Ho.out HN HSG).mono ?_; rintro e w3 ⟨vr, rfl, ho2, hp, hb3⟩; have q0 := keep_frozen (w1 := w3) hb3 c2_0 q0; have c2_0 := keep_cell (w1 := w3) hb3 c2_0; have q1 := keep_frozen (w1 := w3) hb3 c2_1 q1; have c2_1 := keep_cell (w1 := w3) hb3 c2_1; have Hv := Lib.hid (Hv.out.below hb3 (Nat.le_refl _)); have Hu := Lib.hid (Hu.out.below hb3 (Nat.le_refl _)); (try (have Ho := Lib.hid (Ho.out.below hb3 (Nat.le_refl _)))); have Hr := Lib.hid ho2; clear ho2; obtain ⟨ar, cr, rfl, -, -, -, -, -⟩ := Hr.out.form; have B0 := B0.trans (hb3.mono B0.size)))
  go_wp2
  exact bodyPost_ret (v := .agg #[.bool (ng z), .slice ar (limbs z.natAbs).length cr]) (by simp [results, Tryz.results63, go_sem, c2_0, c2_1]) rfl (retG_end BW (by omega) hg0 B0 Hr.out)

set_option maxHeartbeats 1000000 in
theorem bigAdd_lt (w : World) (b1 b2 : Nat) (v1 v2 : Value) (x y : Int) (h1 : Own w b1 v1 (limbs x.natAbs)) (h2 : Own w b2 v2 (limbs y.natAbs)) (_hs1 : (limbs x.natAbs).length ≤ 900) (hs2 : (limbs y.natAbs).length ≤ 900) (z : Int) (hz : z = x + y) (hs : ng x ≠ ng y) (hc : x.natAbs < y.natAbs) :
    Calls Tryz.prog 63 #[.agg #[.bool (ng x), v1], .agg #[.bool (ng y), v2]] w (RetZ w z) := by
  have BW : Below w.heap.size w (((w.alloc (.cells #[.bool (ng x), v1] 25)).alloc (.cells #[.bool (ng y), v2] 25)).alloc (.cells #[.bool false, .slice none 0 0] 25)) := ((((Below.refl w.heap.size w).alloc (Nat.le_refl _) _).alloc (by simp) _).alloc (by simp; omega) _)
  obtain ⟨c0_0, c0_1, c1_0, c1_1, c2_0, c2_1, q0, q1⟩ : World.cell? (((w.alloc (.cells #[.bool (ng x), v1] 25)).alloc (.cells #[.bool (ng y), v2] 25)).alloc (.cells #[.bool false, .slice none 0 0] 25)) ⟨w.heap.size, 0, none⟩ = some (.bool (ng x)) ∧ World.cell? (((w.alloc (.cells #[.bool (ng x), v1] 25)).alloc (.cells #[.bool (ng y), v2] 25)).alloc (.cells #[.bool false, .slice none 0 0] 25)) ⟨w.heap.size, 1, none⟩ = some (v1) ∧ World.cell? (((w.alloc (.cells #[.bool (ng x), v1] 25)).alloc (.cells #[.bool (ng y), v2] 25)).alloc (.cells #[.bool false, .slice none 0 0] 25)) ⟨w.heap.size + 1, 0, none⟩ = some (.bool (ng y)) ∧ World.cell? (((w.alloc (.cells #[.bool (ng x), v1] 25)).alloc (.cells #[.bool (ng y), v2] 25)).alloc (.cells #[.bool false, .slice none 0 0] 25)) ⟨w.heap.size + 1, 1, none⟩ = some (v2) ∧ World.cell? (((w.alloc (.cells #[.bool (ng x), v1] 25)).alloc (.cells #[.bool (ng y), v2] 25)).alloc (.cells #[.bool false, .slice none 0 0] 25)) ⟨w.heap.size + 1 + 1, 0, none⟩ = some (.bool false) ∧ World.cell? (((w.alloc (.cells #[.bool (ng x), v1] 25)).alloc (.cells #[.bool (ng y), v2] 25)).alloc (.cells #[.bool false, .slice none 0 0] 25)) ⟨w.heap.size + 1 + 1, 1, none⟩ = some (.slice none 0 0) ∧ World.frozen? (((w.alloc (.cells #[.bool (ng x), v1] 25)).alloc (.cells #[.bool (ng y), v2] 25)).alloc (.cells #[.bool false, .slice none 0 0] 25)) ⟨w.heap.size + 1 + 1, 0, none⟩ = false ∧ World.frozen? (((w.alloc (.cells #[.bool (ng x), v1] 25)).alloc (.cells #[.bool (ng y), v2] 25)).alloc (.cells #[.bool false, .slice none 0 0] 25)) ⟨w.heap.size + 1 + 1, 1, none⟩ = false := by simp [go_sem]
  have hg0 : w.heap.size + 1 + 1 < ((((w.alloc (.cells #[.bool (ng x), v1] 25)).alloc (.cells #[.bool (ng y), v2] 25)).alloc (.cells #[.bool false, .slice none 0 0] 25))).heap.size := World.block_lt_of_cell? _ _ c2_0
  have Hv := Lib.hid (h1.below BW (Nat.le_refl _))
  have Hu := Lib.hid (h2.below BW (Nat.le_refl _))
  clear h1 h2
  have HN : Hid (y.natAbs - x.natAbs = z.natAbs) := add_lt_n hz hs hc
  have HSG : Hid (z ≠ 0 → ng y = ng z) := add_lt_s hz hs hc
  have HC := Lib.hid hc
  clear hz hc
  have d1 : (ng x == ng y) = false := by simpa using hs
  clear hs
  go_enter Tryz.func63, Tryz.ntmps63
  go_wp2_with fail
  generalize (((w.alloc (.cells #[.bool (ng x), v1] 25)).alloc (.cells #[.bool (ng y), v2] 25)).alloc (.cells #[.bool false, .slice none 0 0] 25)) = w0 at *
  have B0 := Below.refl w0.heap.size w0
  refine (natCmp_lt _ _ _ _ _ x.natAbs y.natAbs Hv.out Hu.out HC.out).mono ?_
  rintro e w1 ⟨rfl, hb⟩
  replace c0_0 := keep_cell hb c0_0
  replace c0_1 := keep_cell hb c0_1
  replace c1_0 := keep_cell hb c1_0
  replace c1_1 := keep_cell hb c1_1
  replace q0 := keep_frozen (w1 := w1) hb c2_0 q0
  replace c2_0 := keep_cell (w1 := w1) hb c2_0
  replace q1 := keep_frozen (w1 := w1) hb c2_1 q1
  replace c2_1 := keep_cell (w1 := w1) hb c2_1
  replace Hv := Lib.hid (Hv.out.below hb (Nat.le_refl _))
  replace Hu := Lib.hid (Hu.out.below hb (Nat.le_refl _))
  replace B0 := B0.trans (hb.mono B0.size)
  clear hb
  go_wp2_with fail
  replace Hv := Lib.hid Hv.out.drew
  replace Hu := Lib.hid Hu.out.drew
  replace B0 := below_drew B0
  replace q0 := frozen_drew q0
  replace c2_0 := cell_drew c2_0
  replace q1 := frozen_drew q1
  replace c2_1 := cell_drew c2_1
  go_region_held3 (fun w' => w'.cell? ⟨w.heap.size, 1, none⟩ = some (v1) ∧ w'.cell? ⟨w.heap.size + 1, 0, none⟩ = some (.bool (ng y)) ∧ w'.cell? ⟨w.heap.size + 1, 1, none⟩ = some (v2)) (first | exact ⟨c0_1, c1_0, c1_1⟩ | (go_split_ands; exact ⟨keep_cell hb3 ‹_›, keep_cell hb3 ‹_›, keep_cell hb3 ‹_›⟩) | (go_split_ands; exact ⟨keep_cell hb2 ‹_›, keep_cell hb2 ‹_›, keep_cell hb2 ‹_›⟩) | (go_split_ands; exact ⟨(set_far (set_far ‹_› (by dsimp only; omega)) (by dsimp only; omega)), (set_far (set_far ‹_› (by dsimp only; omega)) (by dsimp only; omega)), (set_far (set_far ‹_› (by dsimp only; omega)) (by dsimp only; omega))⟩) | (go_split_ands; exact ⟨(set_far (set_far (set_far ‹_› (by dsimp only; omega)) (by dsimp only; omega)) (by dsimp only; omega)), (set_far (set_far (set_far ‹_› (by dsimp only; omega)) (by dsimp only; omega)) (by dsimp only; omega)), (set_far (set_far (set_far ‹_› (by dsimp only; omega)) (by dsimp only; omega)) (by dsimp only; omega))⟩) | (go_split_ands; exact ⟨(set_far ‹_› (by dsimp only; omega)), (set_far ‹_› (by dsimp only; omega)), (set_far ‹_› (by dsimp only; omega))⟩) | go_keep)
    (first | (go_at_call 85; refine (natSub_c _ _ _ _ _ y.natAbs x.natAbs Hu.out Hv.out (by omega) (Nat.le_of_lt HC.out)).mono ?_; rintro e w2 ⟨vo, rfl, ho1, hb2⟩; have q0 := keep_frozen (w1 := w2) hb2 c2_0 q0; have c2_0 := keep_cell (w1 := w2) hb2 c2_0; have q1 := keep_frozen (w1 := w2) hb2 c2_1 q1; have c2_1 := keep_cell (w1 := w2) hb2 c2_1; have Hv := Lib.hid (Hv.out.below hb2 (Nat.le_refl _)); have Hu := Lib.hid (Hu.out.below hb2 (Nat.le_refl _)); (try (have Hr := Lib.hid (Hr.out.below hb2 (Nat.le_refl _)))); have Ho := Lib.hid (ho1.mono B0.size); clear ho1; have B0 := B0.trans (hb2.mono B0.size)) | (go_at_call 67; refine (signed_zz _ _ _ _ _ z Ho.out HN HSG).mono ?_; rintro e w3 ⟨vr, rfl, ho2, hp, hb3⟩; have q0 := keep_frozen (w1 := w3) hb3 c2_0 q0; have c2_0 := keep_cell (w1 := w3) hb3 c2_0; have q1 := keep_frozen (w1 := w3) hb3 c2_1 q1; have c2_1 := keep_cell (w1 := w3) hb3 c2_1; have Hv := Lib.hid (Hv.out.below hb3 (Nat.le_refl _)); have Hu := Lib.hid (Hu.out.below hb3 (Nat.le_refl _)); (try (have Ho := Lib.hid (Ho.out.below hb3 (Nat.le_refl _)))); have Hr := Lib.hid ho2; clear ho2; obtain ⟨ar, cr, rfl, -, -, -, -, -⟩ := Hr.out.form; have B0 := B0.trans (hb3.mono B0.size)))
  go_wp2
  exact bodyPost_ret (v := .agg #[.bool (ng z), .slice ar (limbs z.natAbs).length cr]) (by simp [results, Tryz.results63, go_sem, c2_0, c2_1]) rfl (retG_end BW (by omega) hg0 B0 Hr.out)

theorem bigAdd_c (w : World) (b1 b2 : Nat) (v1 v2 : Value) (x y : Int) (h1 : Own w b1 v1 (limbs x.natAbs)) (h2 : Own w b2 v2 (limbs y.natAbs)) (hs1 : (limbs x.natAbs).length ≤ 900) (hs2 : (limbs y.natAbs).length ≤ 900) (z : Int) (hz : z = x + y) :
    Calls Tryz.prog 63 #[.agg #[.bool (ng x), v1], .agg #[.bool (ng y), v2]] w (RetZ w z) := by
  by_cases hs : ng y = ng x
  · exact bigAdd_same w b1 b2 v1 v2 x y h1 h2 hs1 hs2 z hz hs
  · by_cases hc : y.natAbs ≤ x.natAbs
    · exact bigAdd_ge w b1 b2 v1 v2 x y h1 h2 hs1 hs2 z hz (fun e => hs e.symm) hc
    · exact bigAdd_lt w b1 b2 v1 v2 x y h1 h2 hs1 hs2 z hz (fun e => hs e.symm) (by omega)

set_option maxHeartbeats 1000000 in
theorem bigMul_c (w : World) (b1 b2 : Nat) (v1 v2 : Value) (x y : Int) (h1 : Own w b1 v1 (limbs x.natAbs)) (h2 : Own w b2 v2 (limbs y.natAbs)) (hs1 : (limbs x.natAbs).length ≤ 900) (hs2 : (limbs y.natAbs).length ≤ 900) (z : Int) (hz : z = x * y) :
    Calls Tryz.prog 61 #[.agg #[.bool (ng x), v1], .agg #[.bool (ng y), v2]] w (RetZ w z) := by
  have BW : Below w.heap.size w (((w.alloc (.cells #[.bool (ng x), v1] 25)).alloc (.cells #[.bool (ng y), v2] 25)).alloc (.cells #[.bool false, .slice none 0 0] 25)) := ((((Below.refl w.heap.size w).alloc (Nat.le_refl _) _).alloc (by simp) _).alloc (by simp; omega) _)
  obtain ⟨c0_0, c0_1, c1_0, c1_1, c2_0, c2_1, q0, q1⟩ : World.cell? (((w.alloc (.cells #[.bool (ng x), v1] 25)).alloc (.cells #[.bool (ng y), v2] 25)).alloc (.cells #[.bool false, .slice none 0 0] 25)) ⟨w.heap.size, 0, none⟩ = some (.bool (ng x)) ∧ World.cell? (((w.alloc (.cells #[.bool (ng x), v1] 25)).alloc (.cells #[.bool (ng y), v2] 25)).alloc (.cells #[.bool false, .slice none 0 0] 25)) ⟨w.heap.size, 1, none⟩ = some (v1) ∧ World.cell? (((w.alloc (.cells #[.bool (ng x), v1] 25)).alloc (.cells #[.bool (ng y), v2] 25)).alloc (.cells #[.bool false, .slice none 0 0] 25)) ⟨w.heap.size + 1, 0, none⟩ = some (.bool (ng y)) ∧ World.cell? (((w.alloc (.cells #[.bool (ng x), v1] 25)).alloc (.cells #[.bool (ng y), v2] 25)).alloc (.cells #[.bool false, .slice none 0 0] 25)) ⟨w.heap.size + 1, 1, none⟩ = some (v2) ∧ World.cell? (((w.alloc (.cells #[.bool (ng x), v1] 25)).alloc (.cells #[.bool (ng y), v2] 25)).alloc (.cells #[.bool false, .slice none 0 0] 25)) ⟨w.heap.size + 1 + 1, 0, none⟩ = some (.bool false) ∧ World.cell? (((w.alloc (.cells #[.bool (ng x), v1] 25)).alloc (.cells #[.bool (ng y), v2] 25)).alloc (.cells #[.bool false, .slice none 0 0] 25)) ⟨w.heap.size + 1 + 1, 1, none⟩ = some (.slice none 0 0) ∧ World.frozen? (((w.alloc (.cells #[.bool (ng x), v1] 25)).alloc (.cells #[.bool (ng y), v2] 25)).alloc (.cells #[.bool false, .slice none 0 0] 25)) ⟨w.heap.size + 1 + 1, 0, none⟩ = false ∧ World.frozen? (((w.alloc (.cells #[.bool (ng x), v1] 25)).alloc (.cells #[.bool (ng y), v2] 25)).alloc (.cells #[.bool false, .slice none 0 0] 25)) ⟨w.heap.size + 1 + 1, 1, none⟩ = false := by simp [go_sem]
  have hg0 : w.heap.size + 1 + 1 < ((((w.alloc (.cells #[.bool (ng x), v1] 25)).alloc (.cells #[.bool (ng y), v2] 25)).alloc (.cells #[.bool false, .slice none 0 0] 25))).heap.size := World.block_lt_of_cell? _ _ c2_0
  have Hv := Lib.hid (h1.below BW (Nat.le_refl _))
  have Hu := Lib.hid (h2.below BW (Nat.le_refl _))
  clear h1 h2
  have HN : Hid (x.natAbs * y.natAbs = z.natAbs) := by unfold Hid; rw [hz, Int.natAbs_mul]
  have HSG : Hid (z ≠ 0 → (ng x != ng y) = ng z) := mul_s hz
  clear hz
  go_enter Tryz.func61, Tryz.ntmps61
  go_wp2_with fail
  generalize (((w.alloc (.cells #[.bool (ng x), v1] 25)).alloc (.cells #[.bool (ng y), v2] 25)).alloc (.cells #[.bool false, .slice none 0 0] 25)) = w0 at *
  have B0 := Below.refl w0.heap.size w0
  replace Hv := Lib.hid Hv.out.drew
  replace Hu := Lib.hid Hu.out.drew
  replace B0 := below_drew B0
  replace q0 := frozen_drew q0
  replace c2_0 := cell_drew c2_0
  replace q1 := frozen_drew q1
  replace c2_1 := cell_drew c2_1
  go_region_held3 (fun w' => w'.cell? ⟨w.heap.size, 0, none⟩ = some (.bool (ng x)) ∧ w'.cell? ⟨w.heap.size, 1, none⟩ = some (v1) ∧ w'.cell? ⟨w.heap.size + 1, 0, none⟩ = some (.bool (ng y)) ∧ w'.cell? ⟨w.heap.size + 1, 1, none⟩ = some (v2)) (first | exact ⟨c0_0, c0_1, c1_0, c1_1⟩ | (go_split_ands; exact ⟨keep_cell hb2 ‹_›, keep_cell hb2 ‹_›, keep_cell hb2 ‹_›, keep_cell hb2 ‹_›⟩) | (go_split_ands; exact ⟨keep_cell hb1 ‹_›, keep_cell hb1 ‹_›, keep_cell hb1 ‹_›, keep_cell hb1 ‹_›⟩) | (go_split_ands; exact ⟨(set_far (set_far ‹_› (by dsimp only; omega)) (by dsimp only; omega)), (set_far (set_far ‹_› (by dsimp only; omega)) (by dsimp only; omega)), (set_far (set_far ‹_› (by dsimp only; omega)) (by dsimp only; omega)), (set_far (set_far ‹_› (by dsimp only; omega)) (by dsimp only; omega))⟩) | (go_split_ands; exact ⟨(set_far (set_far (set_far ‹_› (by dsimp only; omega)) (by dsimp only; omega)) (by dsimp only; omega)), (set_far (set_far (set_far ‹_› (by dsimp only; omega)) (by dsimp only; omega)) (by dsimp only; omega)), (set_far (set_far (set_far ‹_› (by dsimp only; omega)) (by dsimp only; omega)) (by dsimp only; omega)), (set_far (set_far (set_far ‹_› (by dsimp only; omega)) (by dsimp only; omega)) (by dsimp only; omega))⟩) | (go_split_ands; exact ⟨(set_far ‹_› (by dsimp only; omega)), (set_far ‹_› (by dsimp only; omega)), (set_far ‹_› (by dsimp only; omega)), (set_far ‹_› (by dsimp only; omega))⟩) | go_keep)
    (first | (go_at_call 62; refine (natMul_c _ _ _ _ _ x.natAbs y.natAbs Hv.out Hu.out (by omega) (by omega)).mono ?_; rintro e w1 ⟨vo, rfl, ho1, hb1⟩; have q0 := keep_frozen (w1 := w1) hb1 c2_0 q0; have c2_0 := keep_cell (w1 := w1) hb1 c2_0; have q1 := keep_frozen (w1 := w1) hb1 c2_1 q1; have c2_1 := keep_cell (w1 := w1) hb1 c2_1; have Hv := Lib.hid (Hv.out.below hb1 (Nat.le_refl _)); have Hu := Lib.hid (Hu.out.below hb1 (Nat.le_refl _)); (try (have Hr := Lib.hid (Hr.out.below hb1 (Nat.le_refl _)))); have Ho := Lib.hid (ho1.mono B0.size); clear ho1; have B0 := B0.trans (hb1.mono B0.size)) | (go_at_call 67; refine (signed_zz _ _ _ _ _ z Ho.out HN HSG).mono ?_; rintro e w2 ⟨vr, rfl, ho2, hp, hb2⟩; have q0 := keep_frozen (w1 := w2) hb2 c2_0 q0; have c2_0 := keep_cell (w1 := w2) hb2 c2_0; have q1 := keep_frozen (w1 := w2) hb2 c2_1 q1; have c2_1 := keep_cell (w1 := w2) hb2 c2_1; have Hv := Lib.hid (Hv.out.below hb2 (Nat.le_refl _)); have Hu := Lib.hid (Hu.out.below hb2 (Nat.le_refl _)); (try (have Ho := Lib.hid (Ho.out.below hb2 (Nat.le_refl _)))); have Hr := Lib.hid ho2; clear ho2; obtain ⟨ar, cr, rfl, -, -, -, -, -⟩ := Hr.out.form; have B0 := B0.trans (hb2.mono B0.size)))
  go_wp2
  exact bodyPost_ret (v := .agg #[.bool (ng z), .slice ar (limbs z.natAbs).length cr]) (by simp [results, Tryz.results61, go_sem, c2_0, c2_1]) rfl (retG_end BW (by omega) hg0 B0 Hr.out)

end Go.Proofs.YtijeplcjbhkkoaaGreatDoor

/- What the functions on signed numbers answer, in plain numbers. -/
namespace Go.Proofs.YtijeplcjbhkkoaaGreatDoor
open Go.RowKit Lm

open Classical in
noncomputable def zaddV (s : Bool) (xs : List Int) (t : Bool) (ys : List Int) : Int := if OkG s xs ∧ OkG t ys then fitZ (zv s xs + zv t ys) else 0
open Classical in
noncomputable def zsubV (s : Bool) (xs : List Int) (t : Bool) (ys : List Int) : Int := if OkG s xs ∧ OkG t ys then fitZ (zv s xs - zv t ys) else 0
open Classical in
noncomputable def zmulV (s : Bool) (xs : List Int) (t : Bool) (ys : List Int) : Int := if OkG s xs ∧ OkG t ys then fitZ (zv s xs * zv t ys) else 0
open Classical in
noncomputable def zcmpV (s : Bool) (xs : List Int) (t : Bool) (ys : List Int) : Int := if OkG s xs ∧ OkG t ys then cmp3 (zv s xs) (zv t ys) else 0
open Classical in
noncomputable def znegV (s : Bool) (xs : List Int) : Int := if OkG s xs then -(zv s xs) else 0
open Classical in
noncomputable def okGB (s : Bool) (xs : List Int) : Bool := decide (OkG s xs)

theorem limbs_len0 : (limbs (0 : Int).natAbs).length ≤ 1000 := by rw [show (0 : Int).natAbs = 0 from rfl, limbs_zero]; simp
theorem fitZ_len2 (z : Int) : (limbs (fitZ z).natAbs).length ≤ 1000 := Nat.le_trans (fitZ_len z) (by omega)
theorem zaddV_len (s : Bool) (xs : List Int) (t : Bool) (ys : List Int) : (limbs (zaddV s xs t ys).natAbs).length ≤ 1000 := by
  unfold zaddV; split
  · exact fitZ_len2 _
  · exact limbs_len0
theorem zsubV_len (s : Bool) (xs : List Int) (t : Bool) (ys : List Int) : (limbs (zsubV s xs t ys).natAbs).length ≤ 1000 := by
  unfold zsubV; split
  · exact fitZ_len2 _
  · exact limbs_len0
theorem zmulV_len (s : Bool) (xs : List Int) (t : Bool) (ys : List Int) : (limbs (zmulV s xs t ys).natAbs).length ≤ 1000 := by
  unfold zmulV; split
  · exact fitZ_len2 _
  · exact limbs_len0
theorem znegV_len (s : Bool) (xs : List Int) : (limbs (znegV s xs).natAbs).length ≤ 1000 := by
  unfold znegV; split
  · next h =>
    obtain ⟨x, rfl, rfl, hl1, e1⟩ := okG_z h
    rw [e1, Int.natAbs_neg]; omega
  · exact limbs_len0
theorem cmp3_lt {a b : Int} (h : a < b) : cmp3 a b = -1 := by
  rcases cmp3_cases a b with ⟨h1, e⟩ | ⟨h1, e⟩ | ⟨h1, e⟩ <;> omega
theorem cmp3_gt {a b : Int} (h : b < a) : cmp3 a b = 1 := by
  rcases cmp3_cases a b with ⟨h1, e⟩ | ⟨h1, e⟩ | ⟨h1, e⟩ <;> omega
theorem cmp3_neg {x y : Int} (h1 : x < 0) (h2 : y < 0) : cmp3 (y.natAbs : Int) (x.natAbs : Int) = cmp3 x y := by
  rcases cmp3_cases (y.natAbs : Int) (x.natAbs : Int) with ⟨h3, e⟩ | ⟨h3, e⟩ | ⟨h3, e⟩ <;> rcases cmp3_cases x y with ⟨h4, e4⟩ | ⟨h4, e4⟩ | ⟨h4, e4⟩ <;> omega
theorem cmp3_pos {x y : Int} (h1 : 0 ≤ x) (h2 : 0 ≤ y) : cmp3 (x.natAbs : Int) (y.natAbs : Int) = cmp3 x y := by
  rcases cmp3_cases (x.natAbs : Int) (y.natAbs : Int) with ⟨h3, e⟩ | ⟨h3, e⟩ | ⟨h3, e⟩ <;> rcases cmp3_cases x y with ⟨h4, e4⟩ | ⟨h4, e4⟩ | ⟨h4, e4⟩ <;> omega

end Go.Proofs.YtijeplcjbhkkoaaGreatDoor

/- The program's exported functions on signed numbers. -/
namespace Go.Proofs.YtijeplcjbhkkoaaGreatDoor
open Go.RowKit Lm

set_option maxHeartbeats 1000000 in
theorem bigCmp_np (w : World) (v1 v2 : Value) :
    Calls Tryz.prog 75 #[.agg #[.bool true, v1], .agg #[.bool false, v2]] w (RetI w (-1)) := by
  go_enter Tryz.func75, Tryz.ntmps75
  go_wp2
  go_ret
  exact retI rfl (((Below.refl _ _).alloc (Nat.le_refl _) _).alloc (by simp) _)

set_option maxHeartbeats 1000000 in
theorem bigCmp_pn (w : World) (v1 v2 : Value) :
    Calls Tryz.prog 75 #[.agg #[.bool false, v1], .agg #[.bool true, v2]] w (RetI w (1)) := by
  go_enter Tryz.func75, Tryz.ntmps75
  go_wp2
  go_ret
  exact retI rfl (((Below.refl _ _).alloc (Nat.le_refl _) _).alloc (by simp) _)

set_option maxHeartbeats 1000000 in
theorem bigCmp_nn (w : World) (b1 b2 : Nat) (v1 v2 : Value) (x y : Int) (h1 : Own w b1 v1 (limbs x.natAbs)) (h2 : Own w b2 v2 (limbs y.natAbs)) (c : Int) (hc : cmp3 (y.natAbs : Int) (x.natAbs : Int) = c) :
    Calls Tryz.prog 75 #[.agg #[.bool true, v1], .agg #[.bool true, v2]] w (RetI w c) := by
  have BW : Below w.heap.size w ((w.alloc (.cells #[.bool true, v1] 25)).alloc (.cells #[.bool true, v2] 25)) := (((Below.refl w.heap.size w).alloc (Nat.le_refl _) _).alloc (by simp) _)
  obtain ⟨c0_0, c0_1, c1_0, c1_1⟩ : World.cell? ((w.alloc (.cells #[.bool true, v1] 25)).alloc (.cells #[.bool true, v2] 25)) ⟨w.heap.size, 0, none⟩ = some (.bool true) ∧ World.cell? ((w.alloc (.cells #[.bool true, v1] 25)).alloc (.cells #[.bool true, v2] 25)) ⟨w.heap.size, 1, none⟩ = some (v1) ∧ World.cell? ((w.alloc (.cells #[.bool true, v1] 25)).alloc (.cells #[.bool true, v2] 25)) ⟨w.heap.size + 1, 0, none⟩ = some (.bool true) ∧ World.cell? ((w.alloc (.cells #[.bool true, v1] 25)).alloc (.cells #[.bool true, v2] 25)) ⟨w.heap.size + 1, 1, none⟩ = some (v2) := by simp [go_sem]
  have Hv := Lib.hid (h1.below BW (Nat.le_refl _))
  have Hu := Lib.hid (h2.below BW (Nat.le_refl _))
  clear h1 h2
  have HC := Lib.hid hc
  clear hc
  go_enter Tryz.func75, Tryz.ntmps75
  go_wp2_with fail
  generalize ((w.alloc (.cells #[.bool true, v1] 25)).alloc (.cells #[.bool true, v2] 25)) = w0 at *
  have B0 := Below.refl w0.heap.size w0
  refine (natCmp_n _ _ _ _ _ y.natAbs x.natAbs Hu.out Hv.out).mono ?_
  rintro e w1 ⟨rfl, hb⟩
  replace c0_0 := keep_cell hb c0_0
  replace c0_1 := keep_cell hb c0_1
  replace c1_0 := keep_cell hb c1_0
  replace c1_1 := keep_cell hb c1_1
  replace Hv := Lib.hid (Hv.out.below hb (Nat.le_refl _))
  replace Hu := Lib.hid (Hu.out.below hb (Nat.le_refl _))
  replace B0 := B0.trans (hb.mono B0.size)
  clear hb
  go_wp2
  go_ret
  exact retI HC.out (BW.trans (B0.mono BW.size))

set_option maxHeartbeats 1000000 in
theorem bigCmp_pp (w : World) (b1 b2 : Nat) (v1 v2 : Value) (x y : Int) (h1 : Own w b1 v1 (limbs x.natAbs)) (h2 : Own w b2 v2 (limbs y.natAbs)) (c : Int) (hc : cmp3 (x.natAbs : Int) (y.natAbs : Int) = c) :
    Calls Tryz.prog 75 #[.agg #[.bool false, v1], .agg #[.bool false, v2]] w (RetI w c) := by
  have BW : Below w.heap.size w ((w.alloc (.cells #[.bool false, v1] 25)).alloc (.cells #[.bool false, v2] 25)) := (((Below.refl w.heap.size w).alloc (Nat.le_refl _) _).alloc (by simp) _)
  obtain ⟨c0_0, c0_1, c1_0, c1_1⟩ : World.cell? ((w.alloc (.cells #[.bool false, v1] 25)).alloc (.cells #[.bool false, v2] 25)) ⟨w.heap.size, 0, none⟩ = some (.bool false) ∧ World.cell? ((w.alloc (.cells #[.bool false, v1] 25)).alloc (.cells #[.bool false, v2] 25)) ⟨w.heap.size, 1, none⟩ = some (v1) ∧ World.cell? ((w.alloc (.cells #[.bool false, v1] 25)).alloc (.cells #[.bool false, v2] 25)) ⟨w.heap.size + 1, 0, none⟩ = some (.bool false) ∧ World.cell? ((w.alloc (.cells #[.bool false, v1] 25)).alloc (.cells #[.bool false, v2] 25)) ⟨w.heap.size + 1, 1, none⟩ = some (v2) := by simp [go_sem]
  have Hv := Lib.hid (h1.below BW (Nat.le_refl _))
  have Hu := Lib.hid (h2.below BW (Nat.le_refl _))
  clear h1 h2
  have HC := Lib.hid hc
  clear hc
  go_enter Tryz.func75, Tryz.ntmps75
  go_wp2_with fail
  generalize ((w.alloc (.cells #[.bool false, v1] 25)).alloc (.cells #[.bool false, v2] 25)) = w0 at *
  have B0 := Below.refl w0.heap.size w0
  refine (natCmp_n _ _ _ _ _ x.natAbs y.natAbs Hv.out Hu.out).mono ?_
  rintro e w1 ⟨rfl, hb⟩
  replace c0_0 := keep_cell hb c0_0
  replace c0_1 := keep_cell hb c0_1
  replace c1_0 := keep_cell hb c1_0
  replace c1_1 := keep_cell hb c1_1
  replace Hv := Lib.hid (Hv.out.below hb (Nat.le_refl _))
  replace Hu := Lib.hid (Hu.out.below hb (Nat.le_refl _))
  replace B0 := B0.trans (hb.mono B0.size)
  clear hb
  go_wp2
  go_ret
  exact retI HC.out (BW.trans (B0.mono BW.size))

theorem bigCmp_c (w : World) (b1 b2 : Nat) (v1 v2 : Value) (x y : Int) (h1 : Own w b1 v1 (limbs x.natAbs)) (h2 : Own w b2 v2 (limbs y.natAbs)) :
    Calls Tryz.prog 75 #[.agg #[.bool (ng x), v1], .agg #[.bool (ng y), v2]] w (RetI w (cmp3 x y)) := by
  rcases ng_cases x with ⟨h3, e1⟩ | ⟨h3, e1⟩ <;> rcases ng_cases y with ⟨h4, e2⟩ | ⟨h4, e2⟩ <;> rw [e1, e2]
  · exact bigCmp_nn w b1 b2 v1 v2 x y h1 h2 _ (cmp3_neg h3 h4)
  · rw [cmp3_lt (by omega : x < y)]; exact bigCmp_np w v1 v2
  · rw [cmp3_gt (by omega : y < x)]; exact bigCmp_pn w v1 v2
  · exact bigCmp_pp w b1 b2 v1 v2 x y h1 h2 _ (cmp3_pos h3 h4)

end Go.Proofs.YtijeplcjbhkkoaaGreatDoor

/- The program's signed numbers: BigIntOf, BigIntToInt, floor division. -/
namespace Go.Proofs.YtijeplcjbhkkoaaGreatDoor
open Go.RowKit Lm

theorem limbs_one : limbs 1 = [1] := by rw [limbs_small (by omega) (by omega)]; rfl
theorem own_one (w : World) : Own (w.alloc (.cells #[.int .i64 1] 3)) w.heap.size (.slice (some ⟨w.heap.size, 0, none⟩) 1 1) (limbs 1) := by
  rw [limbs_one]; exact Own.lit1 w 1

set_option maxHeartbeats 1000000 in
theorem BigIntOf_pos (w : World) (n z : Int) (hz : z = n) (h0 : 0 ≤ n) (hn : n ≤ 9223372036854775807) :
    Calls Tryz.prog 119 #[.int .i64 n] w (RetZ w z) := by
  have BW : Below w.heap.size w (w.alloc (.cells #[.bool false, .slice none 0 0] 25)) := ((Below.refl w.heap.size w).alloc (Nat.le_refl _) _)
  obtain ⟨c0_0, c0_1, q0, q1⟩ : World.cell? (w.alloc (.cells #[.bool false, .slice none 0 0] 25)) ⟨w.heap.size, 0, none⟩ = some (.bool false) ∧ World.cell? (w.alloc (.cells #[.bool false, .slice none 0 0] 25)) ⟨w.heap.size, 1, none⟩ = some (.slice none 0 0) ∧ World.frozen? (w.alloc (.cells #[.bool false, .slice none 0 0] 25)) ⟨w.heap.size, 0, none⟩ = false ∧ World.frozen? (w.alloc (.cells #[.bool false, .slice none 0 0] 25)) ⟨w.heap.size, 1, none⟩ = false := by simp [go_sem]
  have hg0 : w.heap.size < ((w.alloc (.cells #[.bool false, .slice none 0 0] 25))).heap.size := World.block_lt_of_cell? _ _ c0_0
  have HN : Hid (n.toNat = z.natAbs) := by unfold Hid; omega
  have HSG : Hid (z ≠ 0 → false = ng z) := fun _ => (ng_nonneg (by omega)).symm
  clear hz
  go_enter Tryz.func119, Tryz.ntmps119
  go_wp2_with fail
  generalize (w.alloc (.cells #[.bool false, .slice none 0 0] 25)) = w0 at *
  have B0 := Below.refl w0.heap.size w0
  refine (natOf_c _ n (by omega)).mono ?_
  rintro e w1 ⟨vo, rfl, ho1, hb⟩
  replace q0 := keep_frozen (w1 := w1) hb c0_0 q0
  replace c0_0 := keep_cell (w1 := w1) hb c0_0
  replace q1 := keep_frozen (w1 := w1) hb c0_1 q1
  replace c0_1 := keep_cell (w1 := w1) hb c0_1
  have Ho := Lib.hid (ho1.mono B0.size)
  clear ho1
  replace B0 := B0.trans (hb.mono B0.size)
  clear hb
  go_wp2_with fail
  refine (signed_zz _ _ _ _ _ z Ho.out HN HSG).mono ?_
  rintro e w2 ⟨vr, rfl, ho2, hp, hb⟩
  replace q0 := keep_frozen (w1 := w2) hb c0_0 q0
  replace c0_0 := keep_cell (w1 := w2) hb c0_0
  replace q1 := keep_frozen (w1 := w2) hb c0_1 q1
  replace c0_1 := keep_cell (w1 := w2) hb c0_1
  replace Ho := Lib.hid (Ho.out.below hb (Nat.le_refl _))
  have Hr := Lib.hid ho2
  clear ho2
  obtain ⟨ar, cr, rfl, -, -, -, -, -⟩ := Hr.out.form
  replace B0 := B0.trans (hb.mono B0.size)
  clear hb
  go_wp2
  exact bodyPost_ret (v := .agg #[.bool (ng z), .slice ar (limbs z.natAbs).length cr]) (by simp [results, Tryz.results119, go_sem, c0_0, c0_1]) rfl (retG_end BW (by omega) hg0 B0 Hr.out)

theorem limbs_len_le2 (n : Nat) (h : n ≤ 9223372036854775807) : (limbs n).length ≤ 1000 := by
  have := limbs_len_le (n := n) (k := 3)
  have h := this.2 (by simp only [pw]; omega)
  omega
theorem natOf_m (w : World) (m k : Int) (hm : m ≤ 9223372036854775807) (hk : Hid (k = m)) : Calls Tryz.prog 114 #[.int .i64 k] w (RetS w (limbs m.toNat)) := by
  rw [hk.out]; exact natOf_c w m hm

set_option maxHeartbeats 1000000 in
theorem BigIntOf_neg (w : World) (n z m : Int) (hz : z = n) (hm : m = -(n + 1)) (h0 : n < 0) (hn : -9223372036854775808 ≤ n) :
    Calls Tryz.prog 119 #[.int .i64 n] w (RetZ w z) := by
  have BW : Below w.heap.size w (w.alloc (.cells #[.bool false, .slice none 0 0] 25)) := ((Below.refl w.heap.size w).alloc (Nat.le_refl _) _)
  obtain ⟨c0_0, c0_1, q0, q1⟩ : World.cell? (w.alloc (.cells #[.bool false, .slice none 0 0] 25)) ⟨w.heap.size, 0, none⟩ = some (.bool false) ∧ World.cell? (w.alloc (.cells #[.bool false, .slice none 0 0] 25)) ⟨w.heap.size, 1, none⟩ = some (.slice none 0 0) ∧ World.frozen? (w.alloc (.cells #[.bool false, .slice none 0 0] 25)) ⟨w.heap.size, 0, none⟩ = false ∧ World.frozen? (w.alloc (.cells #[.bool false, .slice none 0 0] 25)) ⟨w.heap.size, 1, none⟩ = false := by simp [go_sem]
  have hg0 : w.heap.size < ((w.alloc (.cells #[.bool false, .slice none 0 0] 25))).heap.size := World.block_lt_of_cell? _ _ c0_0
  have HN : Hid (m.toNat + 1 = z.natAbs) := by unfold Hid; omega
  have HSG : Hid (z ≠ 0 → true = ng z) := fun _ => (ng_neg (by omega)).symm
  have e1 : IntKind.i64.wrap (n + 1) = n + 1 := IntWalk.i64_in _ (by omega)
  have e2 : IntKind.i64.wrap (-(n + 1)) = -(n + 1) := IntWalk.i64_in _ (by omega)
  have HM : Hid (-(n + 1) = m) := by unfold Hid; omega
  have hm1 : m ≤ 9223372036854775807 := by omega
  have M1 := limbs_len_le2 m.toNat (by omega)
  have M0 : (limbs 1).length ≤ 1000 := by rw [limbs_one]; simp
  clear hz hm
  go_enter Tryz.func119, Tryz.ntmps119
  go_wp2_with fail
  generalize (w.alloc (.cells #[.bool false, .slice none 0 0] 25)) = w0 at *
  have B0 := Below.refl w0.heap.size w0
  refine (natOf_m _ m _ hm1 HM).mono ?_
  rintro e w1 ⟨vo, rfl, ho1, hb⟩
  replace q0 := keep_frozen (w1 := w1) hb c0_0 q0
  replace c0_0 := keep_cell (w1 := w1) hb c0_0
  replace q1 := keep_frozen (w1 := w1) hb c0_1 q1
  replace c0_1 := keep_cell (w1 := w1) hb c0_1
  have Ho := Lib.hid (ho1.mono B0.size)
  clear ho1
  replace B0 := B0.trans (hb.mono B0.size)
  clear hb
  go_wp2_with fail
  refine (natAdd_c _ _ _ _ _ m.toNat 1 (Ho.out.alloc _) (own_one _) M1 M0).mono ?_
  rintro e w2 ⟨vp, rfl, ho1, hb⟩
  replace hb := alloc_below hb
  replace q0 := keep_frozen (w1 := w2) hb c0_0 q0
  replace c0_0 := keep_cell (w1 := w2) hb c0_0
  replace q1 := keep_frozen (w1 := w2) hb c0_1 q1
  replace c0_1 := keep_cell (w1 := w2) hb c0_1
  replace Ho := Lib.hid (Ho.out.below hb (Nat.le_refl _))
  have Hp := Lib.hid (ho1.mono (Nat.le_trans B0.size (heap_le_alloc _ _)))
  clear ho1
  replace B0 := B0.trans (hb.mono B0.size)
  clear hb
  go_wp2_with fail
  refine (signed_zz _ _ _ _ _ z Hp.out HN HSG).mono ?_
  rintro e w3 ⟨vr, rfl, ho2, hp, hb⟩
  replace q0 := keep_frozen (w1 := w3) hb c0_0 q0
  replace c0_0 := keep_cell (w1 := w3) hb c0_0
  replace q1 := keep_frozen (w1 := w3) hb c0_1 q1
  replace c0_1 := keep_cell (w1 := w3) hb c0_1
  replace Ho := Lib.hid (Ho.out.below hb (Nat.le_refl _))
  replace Hp := Lib.hid (Hp.out.below hb (Nat.le_refl _))
  have Hr := Lib.hid ho2
  clear ho2
  obtain ⟨ar, cr, rfl, -, -, -, -, -⟩ := Hr.out.form
  replace B0 := B0.trans (hb.mono B0.size)
  clear hb
  go_wp2
  exact bodyPost_ret (v := .agg #[.bool (ng z), .slice ar (limbs z.natAbs).length cr]) (by simp [results, Tryz.results119, go_sem, c0_0, c0_1]) rfl (retG_end BW (by omega) hg0 B0 Hr.out)

theorem BigIntOf_c (w : World) (n : Int) (h1 : -9223372036854775808 ≤ n) (h2 : n ≤ 9223372036854775807) : Calls Tryz.prog 119 #[.int .i64 n] w (RetZ w n) := by
  by_cases h : 0 ≤ n
  · exact BigIntOf_pos w n n rfl h h2
  · exact BigIntOf_neg w n n _ rfl rfl (by omega) h1

open Classical in
noncomputable def ztoIntN (s : Bool) (xs : List Int) : Int := if OkG s xs ∧ nv xs ≤ 9223372036854775807 then zv s xs else 0
open Classical in
noncomputable def ztoIntB (s : Bool) (xs : List Int) : Bool := decide (OkG s xs ∧ nv xs ≤ 9223372036854775807)
open Classical in
theorem ztoInt_no {s : Bool} {xs : List Int} (h : ¬ (OkG s xs ∧ nv xs ≤ 9223372036854775807)) : ztoIntN s xs = 0 ∧ ztoIntB s xs = false := ⟨if_neg h, decide_eq_false h⟩
open Classical in
theorem ztoInt_yes {s : Bool} {xs : List Int} (h : OkG s xs ∧ nv xs ≤ 9223372036854775807) : ztoIntN s xs = zv s xs ∧ ztoIntB s xs = true := ⟨if_pos h, decide_eq_true h⟩
theorem retGS_end {w w0 wk : World} {g : Nat} {s : Bool} {u v : Value} {xs ys : List Int} (BW : Below w.heap.size w w0) (hg : w.heap.size ≤ g) (hg0 : g < w0.heap.size) (B0 : Below w0.heap.size w0 wk) (ho : Own wk w0.heap.size u xs) (hv : Own wk w0.heap.size v ys) (ha : Apart u v) :
    RetGS w s xs ys (.returned (.tuple #[.agg #[.bool s, u], v])) ((wk.setCell ⟨g, 0, none⟩ (.bool s)).setCell ⟨g, 1, none⟩ u) :=
  ⟨u, v, rfl, ((ho.setBelow2 (a := ⟨g, 0, none⟩) hg0 _).setBelow2 (a := ⟨g, 1, none⟩) hg0 _).mono BW.size, ((hv.setBelow2 (a := ⟨g, 0, none⟩) hg0 _).setBelow2 (a := ⟨g, 1, none⟩) hg0 _).mono BW.size, ha, ((BW.trans (B0.mono BW.size)).setCell hg _).setCell hg _⟩
theorem apart_part {v u v0 : Value} (h : Apart v0 u) (hv : v.ownBlock = none ∨ v.ownBlock = v0.ownBlock) : Apart v u := by
  intro k hk hu
  rcases hv with hv | hv
  · rw [hv] at hk; cases hk
  · exact h k (hv ▸ hk) hu

theorem natDiv_r (w : World) (b1 b2 : Nat) (v1 v2 : Value) (a b r : Nat) (h1 : Own w b1 v1 (limbs a)) (h2 : Own w b2 v2 (limbs b)) (hs1 : (limbs a).length ≤ 1000) (hb : 0 < b) (hr : Hid (r = a % b)) :
    Calls Tryz.prog 73 #[v1, v2] w (RetSS w (limbs (a / b)) (limbs r)) := by
  rw [hr.out]; exact natDiv_c w b1 b2 v1 v2 a b h1 h2 hs1 hb

theorem ediv_neg_aux {n m q r : Nat} (hm : 0 < m) (h : n = m * q + r) (hr : r < m) : -(n : Int) / (m : Int) = -(q : Int) - (if r = 0 then 0 else 1) := by
  have h1 : (n : Int) = m * q + r := by exact_mod_cast h
  split
  · next h0 =>
    subst h0
    have : -(n : Int) = m * (-(q : Int)) := by rw [h1, Int.mul_neg]; simp
    rw [this, Int.mul_ediv_cancel_left _ (by omega)]; omega
  · next h0 =>
    have : -(n : Int) = (m - r : Int) + m * (-(q : Int) - 1) := by rw [h1, Int.mul_sub, Int.mul_neg]; omega
    rw [this, Int.add_mul_ediv_left _ _ (by omega), Int.ediv_eq_zero_of_lt (by omega) (by omega)]; omega
theorem ediv_natAbs_neg {x : Int} {m : Nat} (hx : x < 0) (hm : 0 < m) : x / (m : Int) = -((x.natAbs / m : Nat) : Int) - (if x.natAbs % m = 0 then 0 else 1) := by
  have h := ediv_neg_aux (n := x.natAbs) (q := x.natAbs / m) (r := x.natAbs % m) hm (Nat.div_add_mod _ _).symm (Nat.mod_lt _ hm)
  rwa [show -(x.natAbs : Int) = x by omega] at h
theorem natAbs_div {x : Int} {m q r : Nat} (hm : 0 < m) (hq : q = x.natAbs / m) (hr : r = x.natAbs % m) (hx : x < 0) : 0 < q ∨ 0 < r := by
  rcases Nat.eq_zero_or_pos q with h | h
  · right
    rw [hr]
    rw [hq, Nat.div_eq_zero_iff] at h
    rw [Nat.mod_eq_of_lt (by omega)]; omega
  · exact .inl h
theorem floor_pos_q {x z : Int} {m : Nat} (hx : 0 ≤ x) (_hm : 0 < m) (hz : z = x / (m : Int)) : x.natAbs / m = z.natAbs := by
  obtain ⟨n, rfl⟩ : ∃ n : Nat, x = n := ⟨x.natAbs, by omega⟩
  rw [hz, Int.natAbs_natCast, ← Int.natCast_ediv, Int.natAbs_natCast]
theorem floor_pos_s {x z : Int} {m : Nat} (hx : 0 ≤ x) (_hm : 0 < m) (hz : z = x / (m : Int)) (_h : z ≠ 0) : false = ng z := by
  obtain ⟨n, rfl⟩ : ∃ n : Nat, x = n := ⟨x.natAbs, by omega⟩
  rw [hz, ← Int.natCast_ediv, ng_nat]
theorem floor_neg_s {x z : Int} {m : Nat} (hx : x < 0) (hm : 0 < m) (hz : z = x / (m : Int)) (h0 : z ≠ 0) : true = ng z := by
  rw [ediv_natAbs_neg hx hm] at hz
  generalize x.natAbs / m = q at hz
  generalize x.natAbs % m = r at hz
  refine (ng_neg ?_).symm
  split at hz <;> omega
theorem floor_zero_q {x z : Int} {m : Nat} (hx : x < 0) (hm : 0 < m) (hz : z = x / (m : Int)) (h0 : x.natAbs % m = 0) : x.natAbs / m = z.natAbs := by
  rw [ediv_natAbs_neg hx hm, if_pos h0] at hz
  generalize x.natAbs / m = q at *
  omega
theorem floor_rest_q {x z : Int} {m r : Nat} (hx : x < 0) (hm : 0 < m) (hz : z = x / (m : Int)) (hr : r = x.natAbs % m) (h0 : 0 < r) : x.natAbs / m + 1 = z.natAbs := by
  rw [ediv_natAbs_neg hx hm, if_neg (by omega)] at hz
  generalize x.natAbs / m = q at *
  omega
/-- The rest of the floor division. -/
def flR (x : Int) (m : Nat) : Nat := (x % (m : Int)).toNat
theorem flR_pos {x : Int} {m : Nat} (hx : 0 ≤ x) : flR x m = x.natAbs % m := by
  obtain ⟨n, rfl⟩ : ∃ n : Nat, x = n := ⟨x.natAbs, by omega⟩
  unfold flR
  rw [Int.natAbs_natCast, ← Int.natCast_emod]; omega
theorem flR_neg {x : Int} {m : Nat} (hx : x < 0) (hm : 0 < m) : flR x m = if x.natAbs % m = 0 then 0 else m - x.natAbs % m := by
  unfold flR
  have h := ediv_natAbs_neg hx hm
  have h1 := Int.mul_ediv_add_emod x m
  have h2 : (x.natAbs : Int) = m * (x.natAbs / m : Nat) + (x.natAbs % m : Nat) := by exact_mod_cast (Nat.div_add_mod x.natAbs m).symm
  have h3 : (x.natAbs % m : Nat) < m := Nat.mod_lt _ hm
  rw [h] at h1
  generalize x.natAbs / m = q at *
  generalize x.natAbs % m = r at *
  split
  · next h0 => rw [if_pos h0, Int.sub_zero, Int.mul_neg] at h1; omega
  · next h0 => rw [if_neg h0, Int.mul_sub, Int.mul_neg] at h1; omega

theorem retZS_nil {w w' : World} {e : Ending} (h : RetGS w false [] [] e w') : RetZS w 0 0 e w' := h

theorem retGS_alloc {w w' : World} {s : Bool} {xs ys : List Int} {e : Ending} (h : RetGS w s xs ys e w') (o : Obj) : RetGS w s xs ys e (w'.alloc o) := by
  obtain ⟨v, u, rfl, h1, h2, h3, h4⟩ := h
  exact ⟨v, u, rfl, h1.alloc _, h2.alloc _, h3, h4.alloc h4.size _⟩
theorem set_two {w : World} {g : Nat} {a b x y : Value} (h0 : w.cell? ⟨g, 0, none⟩ = some x) (h1 : w.cell? ⟨g, 1, none⟩ = some y) :
    ((w.setCell ⟨g, 0, none⟩ a).setCell ⟨g, 1, none⟩ b).cell? ⟨g, 0, none⟩ = some a ∧ ((w.setCell ⟨g, 0, none⟩ a).setCell ⟨g, 1, none⟩ b).cell? ⟨g, 1, none⟩ = some b := by
  simp [go_sem, h0, h1]
theorem floor_le {x : Int} {m : Nat} (hm : 0 < m) : (x / (m : Int)).natAbs ≤ x.natAbs := by
  rcases ng_cases x with ⟨h3, -⟩ | ⟨h3, -⟩
  · have h := ediv_natAbs_neg h3 hm
    have h1 := Nat.div_add_mod x.natAbs m
    have h2 : x.natAbs / m ≤ m * (x.natAbs / m) := Nat.le_mul_of_pos_left _ hm
    generalize x.natAbs / m = q at *
    generalize x.natAbs % m = r at *
    split at h <;> omega
  · have h := floor_pos_q h3 hm (z := x / (m : Int)) rfl
    rw [← h]; exact Nat.div_le_self _ _
theorem floor_len {x : Int} {m : Nat} (hl : (limbs x.natAbs).length ≤ 60) (hm : 0 < m) : (limbs (x / (m : Int)).natAbs).length ≤ 60 := Nat.le_trans (limbs_len_mono (floor_le hm)) hl
theorem flR_lt {x : Int} {m : Nat} (hm : 0 < m) : flR x m < m := by
  unfold flR
  have h1 := Int.emod_nonneg x (b := (m : Int)) (by omega)
  have h2 := Int.emod_lt_of_pos x (b := (m : Int)) (by omega)
  omega

open Classical in
noncomputable def fdivQ (s : Bool) (xs ys : List Int) : Int := if OkG s xs ∧ OkP ys ∧ ys ≠ [] then zv s xs / nv ys else 0
open Classical in
noncomputable def fdivR (s : Bool) (xs ys : List Int) : Nat := if OkG s xs ∧ OkP ys ∧ ys ≠ [] then flR (zv s xs) (nv ys).toNat else 0
theorem fdiv_no {s : Bool} {xs ys : List Int} (h : ¬ (OkG s xs ∧ OkP ys ∧ ys ≠ [])) : fdivQ s xs ys = 0 ∧ fdivR s xs ys = 0 := ⟨if_neg h, if_neg h⟩
theorem fdiv_yes {s : Bool} {xs ys : List Int} (h : OkG s xs ∧ OkP ys ∧ ys ≠ []) : fdivQ s xs ys = zv s xs / nv ys ∧ fdivR s xs ys = flR (zv s xs) (nv ys).toNat := ⟨if_pos h, if_pos h⟩
/-- The four cases. -/
theorem fdiv_cases (s : Bool) (xs ys : List Int) : (¬ OkG s xs ∧ fdivQ s xs ys = 0 ∧ fdivR s xs ys = 0) ∨ (OkG s xs ∧ ¬ OkP ys ∧ fdivQ s xs ys = 0 ∧ fdivR s xs ys = 0) ∨ (OkG s xs ∧ OkP ys ∧ ys = [] ∧ fdivQ s xs ys = 0 ∧ fdivR s xs ys = 0) ∨
    (∃ (x : Int) (m : Nat), s = ng x ∧ xs = limbs x.natAbs ∧ ys = limbs m ∧ (limbs x.natAbs).length ≤ 60 ∧ (limbs m).length ≤ 60 ∧ 0 < m ∧ fdivQ s xs ys = x / (m : Int) ∧ fdivR s xs ys = flR x m) := by
  by_cases hx : OkG s xs
  · by_cases hy : OkP ys
    · by_cases h0 : ys = []
      · exact .inr (.inr (.inl ⟨hx, hy, h0, fdiv_no fun h => h.2.2 h0⟩))
      · obtain ⟨e1, e2⟩ := fdiv_yes ⟨hx, hy, h0⟩
        rw [e1, e2]
        obtain ⟨x, rfl, rfl, hl1, e3⟩ := okG_z hx
        obtain ⟨m, rfl, hl2⟩ := ok_limbs hy
        rw [e3, nv_toNat, nv_limbs]
        refine .inr (.inr (.inr ⟨x, m, rfl, rfl, rfl, hl1, hl2, ?_, rfl, rfl⟩))
        rcases Nat.eq_zero_or_pos m with h | h
        · subst h; exact absurd limbs_zero h0
        · exact h
    · exact .inr (.inl ⟨hx, hy, fdiv_no fun h => hy h.2.1⟩)
  · exact .inl ⟨hx, fdiv_no fun h => hx h.1⟩
theorem fdivQ_len (s : Bool) (xs ys : List Int) : (limbs (fdivQ s xs ys).natAbs).length ≤ 1000 := by
  rcases fdiv_cases s xs ys with ⟨_, e1, _⟩ | ⟨_, _, e1, _⟩ | ⟨_, _, _, e1, _⟩ | ⟨x, m, rfl, rfl, rfl, hl1, hl2, hm, e1, e2⟩ <;> rw [e1]
  · exact limbs_len0
  · exact limbs_len0
  · exact limbs_len0
  · exact Nat.le_trans (floor_len hl1 hm) (by omega)
theorem fdivR_len (s : Bool) (xs ys : List Int) : (limbs (fdivR s xs ys)).length ≤ 1000 := by
  rcases fdiv_cases s xs ys with ⟨_, _, e1⟩ | ⟨_, _, _, e1⟩ | ⟨_, _, _, _, e1⟩ | ⟨x, m, rfl, rfl, rfl, hl1, hl2, hm, e1, e2⟩
  · rw [e1]; exact limbs_len0
  · rw [e1]; exact limbs_len0
  · rw [e1]; exact limbs_len0
  · rw [e2]; exact Nat.le_trans (limbs_len_mono (Nat.le_of_lt (flR_lt hm))) (by omega)

end Go.Proofs.YtijeplcjbhkkoaaGreatDoor

/- The reference's signed numbers. -/
namespace Go.Proofs.YtijeplcjbhkkoaaGreatDoor
open Go.RowKit Lm

set_option maxHeartbeats 1000000 in
theorem sBigIntOk_bad (w : World) (b1 : Nat) (s : Bool) (v1 : Value) (xs : List Int) (h1 : Own w b1 v1 xs) (hx : ¬ OkP xs) :
    Calls Tryz.prog 99 #[.agg #[.bool s, v1]] w (RetB w false) := by
  have BW : Below w.heap.size w (w.alloc (.cells #[.bool s, v1] 25)) := ((Below.refl w.heap.size w).alloc (Nat.le_refl _) _)
  obtain ⟨c0_0, c0_1⟩ : World.cell? (w.alloc (.cells #[.bool s, v1] 25)) ⟨w.heap.size, 0, none⟩ = some (.bool s) ∧ World.cell? (w.alloc (.cells #[.bool s, v1] 25)) ⟨w.heap.size, 1, none⟩ = some (v1) := by simp [go_sem]
  have Hv := Lib.hid (h1.below BW (Nat.le_refl _))
  clear h1
  have HX := Lib.hid hx
  clear hx
  go_enter Tryz.func99, Tryz.ntmps99
  go_wp2_with fail
  generalize (w.alloc (.cells #[.bool s, v1] 25)) = w0 at *
  have B0 := Below.refl w0.heap.size w0
  refine (specNatOk_f _ _ _ _ Hv.out HX.out).mono ?_
  rintro e w1 ⟨rfl, hb⟩
  replace c0_0 := keep_cell hb c0_0
  replace c0_1 := keep_cell hb c0_1
  replace Hv := Lib.hid (Hv.out.below hb (Nat.le_refl _))
  replace B0 := B0.trans (hb.mono B0.size)
  clear hb
  go_wp2
  go_ret
  exact retB rfl (BW.trans (B0.mono BW.size))

set_option maxHeartbeats 1000000 in
theorem sBigIntOk_pos (w : World) (b1 : Nat) (v1 : Value) (xs : List Int) (h1 : Own w b1 v1 xs) (hx : OkP xs) :
    Calls Tryz.prog 99 #[.agg #[.bool false, v1]] w (RetB w true) := by
  have BW : Below w.heap.size w (w.alloc (.cells #[.bool false, v1] 25)) := ((Below.refl w.heap.size w).alloc (Nat.le_refl _) _)
  obtain ⟨c0_0, c0_1⟩ : World.cell? (w.alloc (.cells #[.bool false, v1] 25)) ⟨w.heap.size, 0, none⟩ = some (.bool false) ∧ World.cell? (w.alloc (.cells #[.bool false, v1] 25)) ⟨w.heap.size, 1, none⟩ = some (v1) := by simp [go_sem]
  have Hv := Lib.hid (h1.below BW (Nat.le_refl _))
  clear h1
  have HX := Lib.hid hx
  clear hx
  go_enter Tryz.func99, Tryz.ntmps99
  go_wp2_with fail
  generalize (w.alloc (.cells #[.bool false, v1] 25)) = w0 at *
  have B0 := Below.refl w0.heap.size w0
  refine (specNatOk_t _ _ _ _ Hv.out HX.out).mono ?_
  rintro e w1 ⟨rfl, hb⟩
  replace c0_0 := keep_cell hb c0_0
  replace c0_1 := keep_cell hb c0_1
  replace Hv := Lib.hid (Hv.out.below hb (Nat.le_refl _))
  replace B0 := B0.trans (hb.mono B0.size)
  clear hb
  go_wp2
  go_ret
  exact retB rfl (BW.trans (B0.mono BW.size))

set_option maxHeartbeats 1000000 in
theorem sBigIntOk_some (w : World) (b1 : Nat) (v1 : Value) (xs : List Int) (h1 : Own w b1 v1 xs) (hx : OkP xs) (hl : xs ≠ []) :
    Calls Tryz.prog 99 #[.agg #[.bool true, v1]] w (RetB w true) := by
  obtain ⟨a1, c1, rfl, -, -, -, -, -⟩ := h1.form
  have BW : Below w.heap.size w (w.alloc (.cells #[.bool true, (.slice a1 xs.length c1)] 25)) := ((Below.refl w.heap.size w).alloc (Nat.le_refl _) _)
  obtain ⟨c0_0, c0_1⟩ : World.cell? (w.alloc (.cells #[.bool true, (.slice a1 xs.length c1)] 25)) ⟨w.heap.size, 0, none⟩ = some (.bool true) ∧ World.cell? (w.alloc (.cells #[.bool true, (.slice a1 xs.length c1)] 25)) ⟨w.heap.size, 1, none⟩ = some ((.slice a1 xs.length c1)) := by simp [go_sem]
  have Hv := Lib.hid (h1.below BW (Nat.le_refl _))
  clear h1
  have HX := Lib.hid hx
  clear hx
  have hl2 := List.length_pos_iff.2 hl
  have d1 : decide (0 < xs.length) = true := decide_eq_true hl2
  have d2 : decide ((0 : Int) < xs.length) = true := decide_eq_true (by omega)
  clear hl
  go_enter Tryz.func99, Tryz.ntmps99
  go_wp2_with fail
  generalize (w.alloc (.cells #[.bool true, (.slice a1 xs.length c1)] 25)) = w0 at *
  have B0 := Below.refl w0.heap.size w0
  refine (specNatOk_t _ _ _ _ Hv.out HX.out).mono ?_
  rintro e w1 ⟨rfl, hb⟩
  replace c0_0 := keep_cell hb c0_0
  replace c0_1 := keep_cell hb c0_1
  replace Hv := Lib.hid (Hv.out.below hb (Nat.le_refl _))
  replace B0 := B0.trans (hb.mono B0.size)
  clear hb
  go_wp2
  go_ret
  exact retB rfl (BW.trans (B0.mono BW.size))

set_option maxHeartbeats 1000000 in
theorem sBigIntOk_none (w : World) (b1 : Nat) (v1 : Value) (xs : List Int) (h1 : Own w b1 v1 xs) (hx : OkP xs) (hl : xs = []) :
    Calls Tryz.prog 99 #[.agg #[.bool true, v1]] w (RetB w false) := by
  subst hl
  obtain ⟨a1, c1, rfl, -, -, -, -, -⟩ := h1.form
  have BW : Below w.heap.size w (w.alloc (.cells #[.bool true, (.slice a1 ([] : List Int).length c1)] 25)) := ((Below.refl w.heap.size w).alloc (Nat.le_refl _) _)
  obtain ⟨c0_0, c0_1⟩ : World.cell? (w.alloc (.cells #[.bool true, (.slice a1 ([] : List Int).length c1)] 25)) ⟨w.heap.size, 0, none⟩ = some (.bool true) ∧ World.cell? (w.alloc (.cells #[.bool true, (.slice a1 ([] : List Int).length c1)] 25)) ⟨w.heap.size, 1, none⟩ = some ((.slice a1 ([] : List Int).length c1)) := by simp [go_sem]
  have Hv := Lib.hid (h1.below BW (Nat.le_refl _))
  clear h1
  have HX := Lib.hid hx
  clear hx
  have d1 : decide (0 < ([] : List Int).length) = false := rfl
  have d2 : decide ((0 : Int) < ([] : List Int).length) = false := rfl
  go_enter Tryz.func99, Tryz.ntmps99
  go_wp2_with fail
  generalize (w.alloc (.cells #[.bool true, (.slice a1 ([] : List Int).length c1)] 25)) = w0 at *
  have B0 := Below.refl w0.heap.size w0
  refine (specNatOk_t _ _ _ _ Hv.out HX.out).mono ?_
  rintro e w1 ⟨rfl, hb⟩
  replace c0_0 := keep_cell hb c0_0
  replace c0_1 := keep_cell hb c0_1
  replace Hv := Lib.hid (Hv.out.below hb (Nat.le_refl _))
  replace B0 := B0.trans (hb.mono B0.size)
  clear hb
  go_wp2
  go_ret
  exact retB rfl (BW.trans (B0.mono BW.size))

theorem sBigIntOk_t (w : World) (b1 : Nat) (s : Bool) (v1 : Value) (xs : List Int) (h1 : Own w b1 v1 xs) (h : OkG s xs) : Calls Tryz.prog 99 #[.agg #[.bool s, v1]] w (RetB w true) := by
  cases s with
  | false => exact sBigIntOk_pos w b1 v1 xs h1 h.1
  | true => exact sBigIntOk_some w b1 v1 xs h1 h.1 (fun e => by have := h.2 e; cases this)
theorem sBigIntOk_f (w : World) (b1 : Nat) (s : Bool) (v1 : Value) (xs : List Int) (h1 : Own w b1 v1 xs) (h : ¬ OkG s xs) : Calls Tryz.prog 99 #[.agg #[.bool s, v1]] w (RetB w false) := by
  by_cases hx : OkP xs
  · by_cases hl : xs = []
    · obtain rfl : s = true := by
        cases s with
        | true => rfl
        | false => exact absurd ⟨hx, fun _ => rfl⟩ h
      exact sBigIntOk_none w b1 v1 xs h1 hx hl
    · exact absurd ⟨hx, fun e => absurd e hl⟩ h
  · exact sBigIntOk_bad w b1 s v1 xs h1 hx
theorem sBigIntOk_z (w : World) (b1 : Nat) (v1 : Value) (z : Int) (h1 : Own w b1 v1 (limbs z.natAbs)) (h : (limbs z.natAbs).length ≤ 60) : Calls Tryz.prog 99 #[.agg #[.bool (ng z), v1]] w (RetB w true) :=
  sBigIntOk_t w b1 _ v1 _ h1 (okG_of z h)
/-- One contract for both answers. -/
theorem sBigIntOk_c (w : World) (b1 : Nat) (s : Bool) (v1 : Value) (xs : List Int) (h1 : Own w b1 v1 xs) : Calls Tryz.prog 99 #[.agg #[.bool s, v1]] w (RetB w (okGB s xs)) := by
  by_cases h : OkG s xs
  · rw [show okGB s xs = true by simp [okGB, h]]; exact sBigIntOk_t w b1 s v1 xs h1 h
  · rw [show okGB s xs = false by simp [okGB, h]]; exact sBigIntOk_f w b1 s v1 xs h1 h
theorem bigIntOk_c (w : World) (b1 : Nat) (s : Bool) (v1 : Value) (xs : List Int) (h1 : Own w b1 v1 xs) : Calls Tryz.prog 37 #[.agg #[.bool s, v1]] w (RetB w (okGB s xs)) := by
  by_cases h : OkG s xs
  · rw [show okGB s xs = true by simp [okGB, h]]; exact bigIntOk_t w b1 s v1 xs h1 h
  · rw [show okGB s xs = false by simp [okGB, h]]; exact bigIntOk_f w b1 s v1 xs h1 h

theorem l02Cap_m (w : World) (b1 : Nat) (v1 : Value) (xs : List Int) (n : Nat) (m : List Int) (h1 : Own w b1 v1 xs) (hx : InR xs) (hn : nv xs = n) (hm : Hid (fitV n = m)) : Calls Tryz.prog 125 #[v1] w (RetV w b1 v1 m) := by
  rw [← hm.out]; exact l02Cap_c w b1 v1 xs n h1 hx hn

set_option maxHeartbeats 1000000 in
theorem l03Make_f (w : World) (b1 : Nat) (v1 : Value) (o m : List Int) (n : Nat) (h1 : Own w b1 v1 o) (hi : InR o) (hn : nv o = n) (hm : fitV n = m) :
    Calls Tryz.prog 101 #[.bool false, v1] w (RetG w false m) := by
  have BW : Below w.heap.size w (w.alloc (.cells #[.bool false, .slice none 0 0] 25)) := ((Below.refl w.heap.size w).alloc (Nat.le_refl _) _)
  obtain ⟨c0_0, c0_1, q0, q1⟩ : World.cell? (w.alloc (.cells #[.bool false, .slice none 0 0] 25)) ⟨w.heap.size, 0, none⟩ = some (.bool false) ∧ World.cell? (w.alloc (.cells #[.bool false, .slice none 0 0] 25)) ⟨w.heap.size, 1, none⟩ = some (.slice none 0 0) ∧ World.frozen? (w.alloc (.cells #[.bool false, .slice none 0 0] 25)) ⟨w.heap.size, 0, none⟩ = false ∧ World.frozen? (w.alloc (.cells #[.bool false, .slice none 0 0] 25)) ⟨w.heap.size, 1, none⟩ = false := by simp [go_sem]
  have hg0 : w.heap.size < ((w.alloc (.cells #[.bool false, .slice none 0 0] 25))).heap.size := World.block_lt_of_cell? _ _ c0_0
  have Hv := Lib.hid (h1.below BW (Nat.le_refl _))
  clear h1
  have HI := Lib.hid hi
  have HN := Lib.hid hn
  have HM := Lib.hid hm
  have hml : m.length ≤ 60 := by rw [← hm]; exact fitV_len n
  clear hi hn hm
  go_enter Tryz.func101, Tryz.ntmps101
  go_wp2_with fail
  generalize (w.alloc (.cells #[.bool false, .slice none 0 0] 25)) = w0 at *
  have B0 := Below.refl w0.heap.size w0
  refine (l02Cap_m _ _ _ _ n m Hv.out HI.out HN.out HM).mono ?_
  rintro e w1 ⟨vm, rfl, ho1, hp, hb⟩
  replace q0 := keep_frozen (w1 := w1) hb c0_0 q0
  replace c0_0 := keep_cell (w1 := w1) hb c0_0
  replace q1 := keep_frozen (w1 := w1) hb c0_1 q1
  replace c0_1 := keep_cell (w1 := w1) hb c0_1
  replace Hv := Lib.hid (Hv.out.below hb (Nat.le_refl _))
  have Hm := Lib.hid ho1
  clear ho1
  obtain ⟨am, cm, rfl, -, -, -, -, -⟩ := Hm.out.form
  replace B0 := B0.trans (hb.mono B0.size)
  clear hb
  have HL := Lib.hid (Own.lit0 w1)
  go_wp2_with (at_builtin; refine app_own rfl _ _ rfl _ _ w1.heap.size _ [] (m) rfl rfl HL.out (Hm.out.alloc _) (by simp; omega) (by simp) ?_)
  intro vr w2 hx hg hat
  try rw [List.nil_append] at hx
  have hb := HL.out.grownBelow ((Below.refl _ _).alloc (Nat.le_refl _) _) hg (Nat.le_refl _) (by simp)
  clear HL hg hat
  replace q0 := keep_frozen (w1 := w2) hb c0_0 q0
  replace c0_0 := keep_cell (w1 := w2) hb c0_0
  replace q1 := keep_frozen (w1 := w2) hb c0_1 q1
  replace c0_1 := keep_cell (w1 := w2) hb c0_1
  replace Hv := Lib.hid (Hv.out.below hb (Nat.le_refl _))
  replace Hm := Lib.hid (Hm.out.below hb (Nat.le_refl _))
  have Hr := Lib.hid (hx.mono B0.size)
  clear hx
  replace B0 := B0.trans (hb.mono B0.size)
  clear hb
  obtain ⟨ar, cr, rfl, -, -, -, -, -⟩ := Hr.out.form
  go_wp2
  exact bodyPost_ret (v := .agg #[.bool false, .slice ar m.length cr]) (by simp [results, Tryz.results101, go_sem, c0_0, c0_1]) rfl (retG_end BW (by omega) hg0 B0 Hr.out)

set_option maxHeartbeats 1000000 in
theorem l03Make_p (w : World) (b1 : Nat) (v1 : Value) (o m : List Int) (n : Nat) (h1 : Own w b1 v1 o) (hi : InR o) (hn : nv o = n) (hm : fitV n = m) (hp : 0 < m.length) :
    Calls Tryz.prog 101 #[.bool true, v1] w (RetG w true m) := by
  have BW : Below w.heap.size w (w.alloc (.cells #[.bool false, .slice none 0 0] 25)) := ((Below.refl w.heap.size w).alloc (Nat.le_refl _) _)
  obtain ⟨c0_0, c0_1, q0, q1⟩ : World.cell? (w.alloc (.cells #[.bool false, .slice none 0 0] 25)) ⟨w.heap.size, 0, none⟩ = some (.bool false) ∧ World.cell? (w.alloc (.cells #[.bool false, .slice none 0 0] 25)) ⟨w.heap.size, 1, none⟩ = some (.slice none 0 0) ∧ World.frozen? (w.alloc (.cells #[.bool false, .slice none 0 0] 25)) ⟨w.heap.size, 0, none⟩ = false ∧ World.frozen? (w.alloc (.cells #[.bool false, .slice none 0 0] 25)) ⟨w.heap.size, 1, none⟩ = false := by simp [go_sem]
  have hg0 : w.heap.size < ((w.alloc (.cells #[.bool false, .slice none 0 0] 25))).heap.size := World.block_lt_of_cell? _ _ c0_0
  have Hv := Lib.hid (h1.below BW (Nat.le_refl _))
  clear h1
  have HI := Lib.hid hi
  have HN := Lib.hid hn
  have HM := Lib.hid hm
  have hml : m.length ≤ 60 := by rw [← hm]; exact fitV_len n
  clear hi hn hm
  have d1 : decide (0 < m.length) = true := decide_eq_true hp
  have d2 : decide ((0 : Int) < m.length) = true := decide_eq_true (by omega)
  go_enter Tryz.func101, Tryz.ntmps101
  go_wp2_with fail
  generalize (w.alloc (.cells #[.bool false, .slice none 0 0] 25)) = w0 at *
  have B0 := Below.refl w0.heap.size w0
  refine (l02Cap_m _ _ _ _ n m Hv.out HI.out HN.out HM).mono ?_
  rintro e w1 ⟨vm, rfl, ho1, hp, hb⟩
  replace q0 := keep_frozen (w1 := w1) hb c0_0 q0
  replace c0_0 := keep_cell (w1 := w1) hb c0_0
  replace q1 := keep_frozen (w1 := w1) hb c0_1 q1
  replace c0_1 := keep_cell (w1 := w1) hb c0_1
  replace Hv := Lib.hid (Hv.out.below hb (Nat.le_refl _))
  have Hm := Lib.hid ho1
  clear ho1
  obtain ⟨am, cm, rfl, -, -, -, -, -⟩ := Hm.out.form
  replace B0 := B0.trans (hb.mono B0.size)
  clear hb
  have HL := Lib.hid (Own.lit0 w1)
  go_wp2_with (at_builtin; refine app_own rfl _ _ rfl _ _ w1.heap.size _ [] (m) rfl rfl HL.out (Hm.out.alloc _) (by simp; omega) (by simp) ?_)
  intro vr w2 hx hg hat
  try rw [List.nil_append] at hx
  have hb := HL.out.grownBelow ((Below.refl _ _).alloc (Nat.le_refl _) _) hg (Nat.le_refl _) (by simp)
  clear HL hg hat
  replace q0 := keep_frozen (w1 := w2) hb c0_0 q0
  replace c0_0 := keep_cell (w1 := w2) hb c0_0
  replace q1 := keep_frozen (w1 := w2) hb c0_1 q1
  replace c0_1 := keep_cell (w1 := w2) hb c0_1
  replace Hv := Lib.hid (Hv.out.below hb (Nat.le_refl _))
  replace Hm := Lib.hid (Hm.out.below hb (Nat.le_refl _))
  have Hr := Lib.hid (hx.mono B0.size)
  clear hx
  replace B0 := B0.trans (hb.mono B0.size)
  clear hb
  obtain ⟨ar, cr, rfl, -, -, -, -, -⟩ := Hr.out.form
  go_wp2
  exact bodyPost_ret (v := .agg #[.bool true, .slice ar m.length cr]) (by simp [results, Tryz.results101, go_sem, c0_0, c0_1]) rfl (retG_end BW (by omega) hg0 B0 Hr.out)

set_option maxHeartbeats 1000000 in
theorem l03Make_e (w : World) (b1 : Nat) (v1 : Value) (o m : List Int) (n : Nat) (h1 : Own w b1 v1 o) (hi : InR o) (hn : nv o = n) (hm : fitV n = m) (hp : m = []) :
    Calls Tryz.prog 101 #[.bool true, v1] w (RetG w false m) := by
  subst hp
  have BW : Below w.heap.size w (w.alloc (.cells #[.bool false, .slice none 0 0] 25)) := ((Below.refl w.heap.size w).alloc (Nat.le_refl _) _)
  obtain ⟨c0_0, c0_1, q0, q1⟩ : World.cell? (w.alloc (.cells #[.bool false, .slice none 0 0] 25)) ⟨w.heap.size, 0, none⟩ = some (.bool false) ∧ World.cell? (w.alloc (.cells #[.bool false, .slice none 0 0] 25)) ⟨w.heap.size, 1, none⟩ = some (.slice none 0 0) ∧ World.frozen? (w.alloc (.cells #[.bool false, .slice none 0 0] 25)) ⟨w.heap.size, 0, none⟩ = false ∧ World.frozen? (w.alloc (.cells #[.bool false, .slice none 0 0] 25)) ⟨w.heap.size, 1, none⟩ = false := by simp [go_sem]
  have hg0 : w.heap.size < ((w.alloc (.cells #[.bool false, .slice none 0 0] 25))).heap.size := World.block_lt_of_cell? _ _ c0_0
  have Hv := Lib.hid (h1.below BW (Nat.le_refl _))
  clear h1
  have HI := Lib.hid hi
  have HN := Lib.hid hn
  have HM := Lib.hid hm
  have hml : ([] : List Int).length ≤ 60 := by rw [← hm]; exact fitV_len n
  clear hi hn hm
  have d1 : decide (0 < ([] : List Int).length) = false := rfl
  have d2 : decide ((0 : Int) < ([] : List Int).length) = false := rfl
  go_enter Tryz.func101, Tryz.ntmps101
  go_wp2_with fail
  generalize (w.alloc (.cells #[.bool false, .slice none 0 0] 25)) = w0 at *
  have B0 := Below.refl w0.heap.size w0
  refine (l02Cap_m _ _ _ _ n ([] : List Int) Hv.out HI.out HN.out HM).mono ?_
  rintro e w1 ⟨vm, rfl, ho1, hp, hb⟩
  replace q0 := keep_frozen (w1 := w1) hb c0_0 q0
  replace c0_0 := keep_cell (w1 := w1) hb c0_0
  replace q1 := keep_frozen (w1 := w1) hb c0_1 q1
  replace c0_1 := keep_cell (w1 := w1) hb c0_1
  replace Hv := Lib.hid (Hv.out.below hb (Nat.le_refl _))
  have Hm := Lib.hid ho1
  clear ho1
  obtain ⟨am, cm, rfl, -, -, -, -, -⟩ := Hm.out.form
  replace B0 := B0.trans (hb.mono B0.size)
  clear hb
  have HL := Lib.hid (Own.lit0 w1)
  go_wp2_with (at_builtin; refine app_own rfl _ _ rfl _ _ w1.heap.size _ [] (([] : List Int)) rfl rfl HL.out (Hm.out.alloc _) (by simp) (by simp) ?_)
  intro vr w2 hx hg hat
  try rw [List.nil_append] at hx
  have hb := HL.out.grownBelow ((Below.refl _ _).alloc (Nat.le_refl _) _) hg (Nat.le_refl _) (by simp)
  clear HL hg hat
  replace q0 := keep_frozen (w1 := w2) hb c0_0 q0
  replace c0_0 := keep_cell (w1 := w2) hb c0_0
  replace q1 := keep_frozen (w1 := w2) hb c0_1 q1
  replace c0_1 := keep_cell (w1 := w2) hb c0_1
  replace Hv := Lib.hid (Hv.out.below hb (Nat.le_refl _))
  replace Hm := Lib.hid (Hm.out.below hb (Nat.le_refl _))
  have Hr := Lib.hid (hx.mono B0.size)
  clear hx
  replace B0 := B0.trans (hb.mono B0.size)
  clear hb
  obtain ⟨ar, cr, rfl, -, -, -, -, -⟩ := Hr.out.form
  go_wp2
  exact bodyPost_ret (v := .agg #[.bool false, .slice ar ([] : List Int).length cr]) (by simp [results, Tryz.results101, go_sem, c0_0, c0_1]) rfl (retG_end BW (by omega) hg0 B0 Hr.out)

theorem retZ_conv {w : World} {z : Int} {s : Bool} {f : FuncId} {args : Array Value} (e : ng z = s) (h : Calls Tryz.prog f args w (RetG w s (limbs z.natAbs))) : Calls Tryz.prog f args w (RetZ w z) := by
  subst e; exact h
theorem fit_hid {z x : Int} {n : Nat} (hz : z = fitZ x) (hn : n = x.natAbs) : z.natAbs = if (limbs n).length ≤ 60 then n else 0 := by
  subst hn; rw [hz]; unfold fitZ
  split
  · rfl
  · rfl
theorem fit_sg {z x : Int} {s : Bool} (hz : z = fitZ x) (hs : x ≠ 0 → s = ng x) (h0 : z ≠ 0) : s = ng z := by
  unfold fitZ at hz
  split at hz
  · subst hz; exact hs h0
  · exact absurd hz h0
theorem fit_len {z : Int} {n : Nat} (h : z.natAbs = n) (hl : (limbs n).length ≤ 60) : z.natAbs = if (limbs n).length ≤ 60 then n else 0 := by rw [if_pos hl]; exact h

theorem l03Make_zz (w : World) (b1 : Nat) (s : Bool) (v1 : Value) (o : List Int) (n : Nat) (z : Int) (h1 : Own w b1 v1 o) (hi : InR o) (hn : nv o = n) (hz : Hid (z.natAbs = if (limbs n).length ≤ 60 then n else 0)) (hs : Hid (z ≠ 0 → s = ng z)) :
    Calls Tryz.prog 101 #[.bool s, v1] w (RetZ w z) := by
  have hm : fitV n = limbs z.natAbs := by
    have h := hz.out
    unfold fitV
    split at h
    · next h1 => rw [if_pos h1, h]
    · next h1 => rw [if_neg h1, h]; exact limbs_zero.symm
  by_cases h0 : z = 0
  · subst h0
    cases s with
    | false => exact l03Make_f w b1 v1 o _ n h1 hi hn hm
    | true => exact l03Make_e w b1 v1 o _ n h1 hi hn hm limbs_zero
  · have h2 := hs.out h0
    have hp : 0 < (limbs z.natAbs).length := limbs_len_pos.2 (by omega)
    subst h2
    rcases ng_cases z with ⟨h3, e⟩ | ⟨h3, e⟩
    · rw [e]; exact retZ_conv e (l03Make_p w b1 v1 o _ n h1 hi hn hm hp)
    · rw [e]; exact retZ_conv e (l03Make_f w b1 v1 o _ n h1 hi hn hm)
/-- Of a number in normal form. -/
theorem l03Make_n (w : World) (b1 : Nat) (s : Bool) (v1 : Value) (n : Nat) (z : Int) (h1 : Own w b1 v1 (limbs n)) (hz : Hid (z.natAbs = if (limbs n).length ≤ 60 then n else 0)) (hs : Hid (z ≠ 0 → s = ng z)) :
    Calls Tryz.prog 101 #[.bool s, v1] w (RetZ w z) := l03Make_zz w b1 s v1 _ n z h1 (limbs_inR _) (nv_limbs _) hz hs

theorem limbs_len_small {n : Nat} (h : n ≤ 9223372036854775808) : (limbs n).length ≤ 60 := by
  have := limbs_len_le (n := n) (k := 3)
  have h := this.2 (by simp only [pw]; omega)
  omega
theorem minLimbs : [(854775808 : Int), 223372036, 9] = limbs 9223372036854775808 := by
  refine Norm.limbs ⟨InR.cons (by omega) (by omega) (InR.cons (by omega) (by omega) (InR.cons (by omega) (by omega) InR.nil)), .inr ?_⟩ ?_
  · decide
  · decide
theorem own_min (w : World) : Own (w.alloc (.cells #[.int .i64 854775808, .int .i64 223372036, .int .i64 9] 3)) w.heap.size (.slice (some ⟨w.heap.size, 0, none⟩) 3 3) (limbs 9223372036854775808) := by
  rw [← minLimbs]; exact Own.lit3 w _ _ _
theorem own_minN (w : World) (N g : Nat) (hN : Hid (N = 9223372036854775808)) (hg : Hid (w.heap.size = g)) : Own (w.alloc (.cells #[.int .i64 854775808, .int .i64 223372036, .int .i64 9] 3)) w.heap.size (.slice (some ⟨g, 0, none⟩) 3 3) (limbs N) := by
  rw [hN.out, ← hg.out]; exact own_min w

set_option maxHeartbeats 1000000 in
theorem sBigIntOf_pos (w : World) (n z : Int) (hz : z = n) (h0 : 0 ≤ n) (hn : n ≤ 9223372036854775807) :
    Calls Tryz.prog 82 #[.int .i64 n] w (RetZ w z) := by
  have BW : Below w.heap.size w (w.alloc (.cells #[.bool false, .slice none 0 0] 25)) := ((Below.refl w.heap.size w).alloc (Nat.le_refl _) _)
  obtain ⟨c0_0, c0_1, q0, q1⟩ : World.cell? (w.alloc (.cells #[.bool false, .slice none 0 0] 25)) ⟨w.heap.size, 0, none⟩ = some (.bool false) ∧ World.cell? (w.alloc (.cells #[.bool false, .slice none 0 0] 25)) ⟨w.heap.size, 1, none⟩ = some (.slice none 0 0) ∧ World.frozen? (w.alloc (.cells #[.bool false, .slice none 0 0] 25)) ⟨w.heap.size, 0, none⟩ = false ∧ World.frozen? (w.alloc (.cells #[.bool false, .slice none 0 0] 25)) ⟨w.heap.size, 1, none⟩ = false := by simp [go_sem]
  have hg0 : w.heap.size < ((w.alloc (.cells #[.bool false, .slice none 0 0] 25))).heap.size := World.block_lt_of_cell? _ _ c0_0
  have HN : Hid (z.natAbs = if (limbs n.toNat).length ≤ 60 then n.toNat else 0) := fit_len (by omega) (limbs_len_small (by omega))
  have HSG : Hid (z ≠ 0 → false = ng z) := fun _ => (ng_nonneg (by omega)).symm
  have t1 : ((n : Int) == -9223372036854775808) = false := beq_eq_false_iff_ne.2 (by omega)
  clear hz
  go_enter Tryz.func82, Tryz.ntmps82
  go_wp2_with fail
  generalize (w.alloc (.cells #[.bool false, .slice none 0 0] 25)) = w0 at *
  have B0 := Below.refl w0.heap.size w0
  refine (specNatOf_c _ n hn).mono ?_
  rintro e w1 ⟨vo, rfl, ho1, hb⟩
  replace q0 := keep_frozen (w1 := w1) hb c0_0 q0
  replace c0_0 := keep_cell (w1 := w1) hb c0_0
  replace q1 := keep_frozen (w1 := w1) hb c0_1 q1
  replace c0_1 := keep_cell (w1 := w1) hb c0_1
  have Ho := Lib.hid (ho1.mono B0.size)
  clear ho1
  replace B0 := B0.trans (hb.mono B0.size)
  clear hb
  go_wp2_with fail
  refine (l03Make_n _ _ _ _ n.toNat z Ho.out HN HSG).mono ?_
  rintro e w2 ⟨vr, rfl, ho2, hb⟩
  replace q0 := keep_frozen (w1 := w2) hb c0_0 q0
  replace c0_0 := keep_cell (w1 := w2) hb c0_0
  replace q1 := keep_frozen (w1 := w2) hb c0_1 q1
  replace c0_1 := keep_cell (w1 := w2) hb c0_1
  replace Ho := Lib.hid (Ho.out.below hb (Nat.le_refl _))
  have Hr := Lib.hid (ho2.mono B0.size)
  clear ho2
  obtain ⟨ar, cr, rfl, -, -, -, -, -⟩ := Hr.out.form
  replace B0 := B0.trans (hb.mono B0.size)
  clear hb
  go_wp2
  exact bodyPost_ret (v := .agg #[.bool (ng z), .slice ar (limbs z.natAbs).length cr]) (by simp [results, Tryz.results82, go_sem, c0_0, c0_1]) rfl (retG_end BW (by omega) hg0 B0 Hr.out)

theorem specNatOf_m (w : World) (m k : Int) (hm : m ≤ 9223372036854775807) (hk : Hid (k = m)) : Calls Tryz.prog 102 #[.int .i64 k] w (RetS w (limbs m.toNat)) := by
  rw [hk.out]; exact specNatOf_c w m hm

set_option maxHeartbeats 1000000 in
theorem sBigIntOf_neg (w : World) (n z m : Int) (hz : z = n) (hm : m = -n) (h0 : n < 0) (hn : -9223372036854775808 < n) :
    Calls Tryz.prog 82 #[.int .i64 n] w (RetZ w z) := by
  have BW : Below w.heap.size w (w.alloc (.cells #[.bool false, .slice none 0 0] 25)) := ((Below.refl w.heap.size w).alloc (Nat.le_refl _) _)
  obtain ⟨c0_0, c0_1, q0, q1⟩ : World.cell? (w.alloc (.cells #[.bool false, .slice none 0 0] 25)) ⟨w.heap.size, 0, none⟩ = some (.bool false) ∧ World.cell? (w.alloc (.cells #[.bool false, .slice none 0 0] 25)) ⟨w.heap.size, 1, none⟩ = some (.slice none 0 0) ∧ World.frozen? (w.alloc (.cells #[.bool false, .slice none 0 0] 25)) ⟨w.heap.size, 0, none⟩ = false ∧ World.frozen? (w.alloc (.cells #[.bool false, .slice none 0 0] 25)) ⟨w.heap.size, 1, none⟩ = false := by simp [go_sem]
  have hg0 : w.heap.size < ((w.alloc (.cells #[.bool false, .slice none 0 0] 25))).heap.size := World.block_lt_of_cell? _ _ c0_0
  have HN : Hid (z.natAbs = if (limbs m.toNat).length ≤ 60 then m.toNat else 0) := fit_len (by omega) (limbs_len_small (by omega))
  have HSG : Hid (z ≠ 0 → true = ng z) := fun _ => (ng_neg (by omega)).symm
  have t1 : ((n : Int) == -9223372036854775808) = false := beq_eq_false_iff_ne.2 (by omega)
  have HM : Hid (-n = m) := by unfold Hid; omega
  have hm1 : m ≤ 9223372036854775807 := by omega
  clear hz hm
  go_enter Tryz.func82, Tryz.ntmps82
  go_wp2_with fail
  generalize (w.alloc (.cells #[.bool false, .slice none 0 0] 25)) = w0 at *
  have B0 := Below.refl w0.heap.size w0
  refine (specNatOf_m _ m _ hm1 HM).mono ?_
  rintro e w1 ⟨vo, rfl, ho1, hb⟩
  replace q0 := keep_frozen (w1 := w1) hb c0_0 q0
  replace c0_0 := keep_cell (w1 := w1) hb c0_0
  replace q1 := keep_frozen (w1 := w1) hb c0_1 q1
  replace c0_1 := keep_cell (w1 := w1) hb c0_1
  have Ho := Lib.hid (ho1.mono B0.size)
  clear ho1
  replace B0 := B0.trans (hb.mono B0.size)
  clear hb
  go_wp2_with fail
  refine (l03Make_n _ _ _ _ m.toNat z Ho.out HN HSG).mono ?_
  rintro e w2 ⟨vr, rfl, ho2, hb⟩
  replace q0 := keep_frozen (w1 := w2) hb c0_0 q0
  replace c0_0 := keep_cell (w1 := w2) hb c0_0
  replace q1 := keep_frozen (w1 := w2) hb c0_1 q1
  replace c0_1 := keep_cell (w1 := w2) hb c0_1
  replace Ho := Lib.hid (Ho.out.below hb (Nat.le_refl _))
  have Hr := Lib.hid (ho2.mono B0.size)
  clear ho2
  obtain ⟨ar, cr, rfl, -, -, -, -, -⟩ := Hr.out.form
  replace B0 := B0.trans (hb.mono B0.size)
  clear hb
  go_wp2
  exact bodyPost_ret (v := .agg #[.bool (ng z), .slice ar (limbs z.natAbs).length cr]) (by simp [results, Tryz.results82, go_sem, c0_0, c0_1]) rfl (retG_end BW (by omega) hg0 B0 Hr.out)

set_option maxHeartbeats 1000000 in
theorem sBigIntOf_min (w : World) (z : Int) (hz : z = -9223372036854775808) (N : Nat) (hN : N = 9223372036854775808) :
    Calls Tryz.prog 82 #[.int .i64 (-9223372036854775808)] w (RetZ w z) := by
  have BW : Below w.heap.size w (w.alloc (.cells #[.bool false, .slice none 0 0] 25)) := ((Below.refl w.heap.size w).alloc (Nat.le_refl _) _)
  obtain ⟨c0_0, c0_1, q0, q1⟩ : World.cell? (w.alloc (.cells #[.bool false, .slice none 0 0] 25)) ⟨w.heap.size, 0, none⟩ = some (.bool false) ∧ World.cell? (w.alloc (.cells #[.bool false, .slice none 0 0] 25)) ⟨w.heap.size, 1, none⟩ = some (.slice none 0 0) ∧ World.frozen? (w.alloc (.cells #[.bool false, .slice none 0 0] 25)) ⟨w.heap.size, 0, none⟩ = false ∧ World.frozen? (w.alloc (.cells #[.bool false, .slice none 0 0] 25)) ⟨w.heap.size, 1, none⟩ = false := by simp [go_sem]
  have hg0 : w.heap.size < ((w.alloc (.cells #[.bool false, .slice none 0 0] 25))).heap.size := World.block_lt_of_cell? _ _ c0_0
  have HN : Hid (z.natAbs = if (limbs N).length ≤ 60 then N else 0) := fit_len (by omega) (limbs_len_small (by omega))
  have HSG : Hid (z ≠ 0 → true = ng z) := fun _ => (ng_neg (by omega)).symm
  have HK := Lib.hid hN
  have HS0 : Hid ((w.alloc (.cells #[.bool false, .slice none 0 0] 25)).heap.size = w.heap.size + 1) := by simp [Hid]
  clear hz hN
  go_enter Tryz.func82, Tryz.ntmps82
  go_wp2_with fail
  generalize (w.alloc (.cells #[.bool false, .slice none 0 0] 25)) = w0 at *
  have B0 := Below.refl w0.heap.size w0
  refine (l03Make_n _ _ _ _ N z (own_minN w0 N _ HK HS0) HN HSG).mono ?_
  rintro e w1 ⟨vr, rfl, ho2, hb⟩
  replace hb := alloc_below hb
  replace q0 := keep_frozen (w1 := w1) hb c0_0 q0
  replace c0_0 := keep_cell (w1 := w1) hb c0_0
  replace q1 := keep_frozen (w1 := w1) hb c0_1 q1
  replace c0_1 := keep_cell (w1 := w1) hb c0_1
  have Hr := Lib.hid (ho2.mono (Nat.le_trans B0.size (heap_le_alloc _ _)))
  clear ho2
  obtain ⟨ar, cr, rfl, -, -, -, -, -⟩ := Hr.out.form
  replace B0 := B0.trans (hb.mono B0.size)
  clear hb
  go_wp2
  exact bodyPost_ret (v := .agg #[.bool (ng z), .slice ar (limbs z.natAbs).length cr]) (by simp [results, Tryz.results82, go_sem, c0_0, c0_1]) rfl (retG_end BW (by omega) hg0 B0 Hr.out)

theorem sBigIntOf_c (w : World) (n : Int) (h1 : -9223372036854775808 ≤ n) (h2 : n ≤ 9223372036854775807) : Calls Tryz.prog 82 #[.int .i64 n] w (RetZ w n) := by
  by_cases h : 0 ≤ n
  · exact sBigIntOf_pos w n n rfl h h2
  · by_cases h3 : n = -9223372036854775808
    · subst h3; exact sBigIntOf_min w _ rfl _ rfl
    · exact sBigIntOf_neg w n n _ rfl rfl (by omega) (by omega)

theorem sToInt_no (w : World) (b1 : Nat) (v1 : Value) (xs : List Int) (h1 : Own w b1 v1 xs) (h : ¬ (OkP xs ∧ nv xs ≤ 9223372036854775807)) : Calls Tryz.prog 138 #[v1] w (RetIB w 0 false) := by
  obtain ⟨e1, e2⟩ := toInt_no h
  have h2 := specNatToInt_c w b1 v1 xs h1
  rw [e1, e2] at h2
  exact h2
theorem sToInt_nil (w : World) (b1 : Nat) (v1 : Value) (h1 : Own w b1 v1 []) : Calls Tryz.prog 138 #[v1] w (RetIB w 0 true) := by
  exact specNatToInt_ok w b1 v1 0 h1 (by omega)

theorem fit_mul {z x y : Int} (hz : z = fitZ (x * y)) : z.natAbs = if (limbs (x.natAbs * y.natAbs)).length ≤ 60 then x.natAbs * y.natAbs else 0 := fit_hid hz (Int.natAbs_mul x y).symm

theorem l02Div_r (w : World) (b1 b2 : Nat) (v1 v2 : Value) (a b r : Nat) (h1 : Own w b1 v1 (limbs a)) (h2 : Own w b2 v2 (limbs b)) (hs1 : (limbs a).length ≤ 1000) (hs2 : (limbs b).length ≤ 900) (hb : 0 < b) (hr : Hid (r = a % b)) :
    Calls Tryz.prog 124 #[v1, v2] w (RetSS w (limbs (a / b)) (limbs r)) := by
  rw [hr.out]; exact l02Div_c w b1 b2 v1 v2 a b h1 h2 hs1 hs2 hb

end Go.Proofs.YtijeplcjbhkkoaaGreatDoor
