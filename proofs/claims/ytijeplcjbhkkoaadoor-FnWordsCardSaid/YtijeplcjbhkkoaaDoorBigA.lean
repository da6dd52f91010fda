/- Signed numbers: what they read as; laws on cells that are kept. -/
import Derived.Test.YtijeplcjbhkkoaaDoorNatTop
import Derived.Deep.RegionHeld3
namespace Go.Proofs.YtijeplcjbhkkoaaDoor
open Go.RowKit Lm

/-- The sign, as the program keeps it. -/
def ng (z : Int) : Bool := decide (z < 0)
theorem ng_zero : ng 0 = false := rfl
theorem ng_neg {z : Int} (h : z < 0) : ng z = true := by simp [ng, h]
theorem ng_nonneg {z : Int} (h : 0 ≤ z) : ng z = false := by simp [ng]; omega
theorem ng_nat (n : Nat) : ng (n : Int) = false := ng_nonneg (by omega)

/-- A signed number in new memory. -/
def RetG (w : World) (s : Bool) (xs : List Int) (e : Ending) (w' : World) : Prop := ∃ u, e = .returned (.agg #[.bool s, u]) ∧ Own w' w.heap.size u xs ∧ Below w.heap.size w w'
/-- A signed number whose limbs lie in the row of v0, or nil. -/
def RetGV (w : World) (base : Nat) (v0 : Value) (s : Bool) (xs : List Int) (e : Ending) (w' : World) : Prop := ∃ u, e = .returned (.agg #[.bool s, u]) ∧ Own w' base u xs ∧ (u.ownBlock = none ∨ u.ownBlock = v0.ownBlock) ∧ Below w.heap.size w w'
/-- A signed number and a natural number in new memory. -/
def RetGS (w : World) (s : Bool) (xs ys : List Int) (e : Ending) (w' : World) : Prop := ∃ v u, e = .returned (.tuple #[.agg #[.bool s, v], u]) ∧ Own w' w.heap.size v xs ∧ Own w' w.heap.size u ys ∧ Apart v u ∧ Below w.heap.size w w'
def RetZ (w : World) (z : Int) (e : Ending) (w' : World) : Prop := RetG w (ng z) (limbs z.natAbs) e w'
def RetZV (w : World) (base : Nat) (v0 : Value) (z : Int) (e : Ending) (w' : World) : Prop := RetGV w base v0 (ng z) (limbs z.natAbs) e w'
def RetZS (w : World) (z : Int) (n : Nat) (e : Ending) (w' : World) : Prop := RetGS w (ng z) (limbs z.natAbs) (limbs n) e w'

theorem bcell {W w1 : World} (hb : Below W.heap.size W w1) : (∀ b o, b < W.heap.size → w1.cell? ⟨b, o, none⟩ = W.cell? ⟨b, o, none⟩) ∧ (∀ b o, b < W.heap.size → w1.frozen? ⟨b, o, none⟩ = W.frozen? ⟨b, o, none⟩) :=
  ⟨fun b o h => hb.cell (p := ⟨b, o, none⟩) h, fun b o h => hb.frozen (p := ⟨b, o, none⟩) h⟩
theorem keep_cell {W w1 : World} {p : Addr} {v : Value} (hb : Below W.heap.size W w1) (h : W.cell? p = some v) : w1.cell? p = some v := (hb.cell (World.block_lt_of_cell? W _ h)).trans h
theorem keep_frozen {W w1 : World} {p : Addr} {v : Value} (hb : Below W.heap.size W w1) (hc : W.cell? p = some v) (h : W.frozen? p = false) : w1.frozen? p = false := (hb.frozen (World.block_lt_of_cell? W _ hc)).trans h
theorem set_far {w : World} {p q : Addr} {v u : Value} (h : w.cell? p = some v) (hne : p.block ≠ q.block) : (w.setCell q u).cell? p = some v := (World.cell?_setCell_other w q p u (fun e => hne (by rw [e]))).trans h
theorem alloc_bel (w : World) (o : Obj) : Below w.heap.size w (w.alloc o) := (Below.refl _ _).alloc (Nat.le_refl _) o
theorem cell_drew {w : World} {p : Addr} {v : Value} (h : w.cell? p = some v) : w.drew.cell? p = some v := h
theorem frozen_drew {w : World} {p : Addr} (h : w.frozen? p = false) : w.drew.frozen? p = false := h
theorem below_drew {B : Nat} {a w : World} (h : Below B a w) : Below B a w.drew := ⟨h.os, h.tape, h.output, h.size, h.block⟩
theorem Own.drew {w : World} {base : Nat} {v : Value} {xs : List Int} (h : Own w base v xs) : Own w.drew base v xs := h

/-- A store into a block below the slice's base. -/
theorem Own.setBelow2 {w : World} {base : Nat} {v : Value} {xs : List Int} (h : Own w base v xs) {a : Addr} (ha : a.block < base) (u : Value) : Own (w.setCell a u) base v xs := by
  refine ⟨h.1, ?_⟩
  rcases h.2 with hn | ⟨g, cap, cur, rfl, hg, hgg, rest⟩
  · exact .inl hn
  · exact .inr ⟨g, cap, cur, rfl, hg, by rw [heap_setCell_other _ _ _ _ (by omega)]; exact hgg, rest⟩

/-- The end of a function that gives a struct in a cell of its own. -/
theorem retG_end {w w0 wk : World} {g : Nat} {s : Bool} {u : Value} {xs : List Int} (BW : Below w.heap.size w w0) (hg : w.heap.size ≤ g) (hg0 : g < w0.heap.size) (B0 : Below w0.heap.size w0 wk) (ho : Own wk w0.heap.size u xs) :
    RetG w s xs (.returned (.agg #[.bool s, u])) ((wk.setCell ⟨g, 0, none⟩ (.bool s)).setCell ⟨g, 1, none⟩ u) :=
  ⟨u, rfl, ((ho.setBelow2 (a := ⟨g, 0, none⟩) hg0 _).setBelow2 (a := ⟨g, 1, none⟩) hg0 _).mono BW.size, ((BW.trans (B0.mono BW.size)).setCell hg _).setCell hg _⟩
theorem retGV_end {w w0 wk : World} {g base : Nat} {s : Bool} {u v0 : Value} {xs : List Int} (BW : Below w.heap.size w w0) (hg : w.heap.size ≤ g) (_hg0 : g < w0.heap.size) (B0 : Below w0.heap.size w0 wk) (ho : Own w base u xs) (hv : u.ownBlock = none ∨ u.ownBlock = v0.ownBlock) :
    RetGV w base v0 s xs (.returned (.agg #[.bool s, u])) ((wk.setCell ⟨g, 0, none⟩ (.bool s)).setCell ⟨g, 1, none⟩ u) :=
  have B := ((BW.trans (B0.mono BW.size)).setCell (p := ⟨g, 0, none⟩) hg (.bool s)).setCell (p := ⟨g, 1, none⟩) hg u
  ⟨u, rfl, ho.below B (Nat.le_refl _), hv, B⟩
theorem retZ_of {w w' : World} {z : Int} {s : Bool} {xs : List Int} {e : Ending} (h : RetG w s xs e w') (h1 : s = ng z) (h2 : xs = limbs z.natAbs) : RetZ w z e w' := by
  subst h1; subst h2; exact h

/-- A valid signed number. -/
def OkG (s : Bool) (xs : List Int) : Prop := OkP xs ∧ (xs = [] → s = false)
/-- What it stands for. -/
def zv (s : Bool) (xs : List Int) : Int := if s then -(nv xs) else nv xs
theorem okG_z {s : Bool} {xs : List Int} (h : OkG s xs) : ∃ z : Int, s = ng z ∧ xs = limbs z.natAbs ∧ (limbs z.natAbs).length ≤ 60 ∧ zv s xs = z := by
  obtain ⟨a, rfl, hl⟩ := ok_limbs h.1
  have hz : zv s (limbs a) = if s then -(a : Int) else a := by unfold zv; rw [nv_limbs]
  cases s with
  | true =>
    have ha : 0 < a := by
      rcases Nat.eq_zero_or_pos a with h0 | h0
      · subst h0; exact absurd (h.2 rfl) (by simp)
      · exact h0
    refine ⟨-(a : Int), (ng_neg (by omega)).symm, by rw [Int.natAbs_neg, Int.natAbs_natCast], by rw [Int.natAbs_neg, Int.natAbs_natCast]; exact hl, by rw [hz]; rfl⟩
  | false => exact ⟨(a : Int), (ng_nat a).symm, by rw [Int.natAbs_natCast], by rw [Int.natAbs_natCast]; exact hl, by rw [hz]; rfl⟩
theorem okG_of (z : Int) (h : (limbs z.natAbs).length ≤ 60) : OkG (ng z) (limbs z.natAbs) := by
  refine ⟨limbs_ok h, fun e => ?_⟩
  rw [limbs_nil] at e
  exact ng_nonneg (by omega)
/-- A number, if it has no more than 60 limbs. -/
noncomputable def fitZ (z : Int) : Int := if (limbs z.natAbs).length ≤ 60 then z else 0
theorem fitZ_yes {z : Int} (h : (limbs z.natAbs).length ≤ 60) : fitZ z = z := if_pos h
theorem fitZ_no {z : Int} (h : ¬ (limbs z.natAbs).length ≤ 60) : fitZ z = 0 := if_neg h
theorem fitZ_len (z : Int) : (limbs (fitZ z).natAbs).length ≤ 60 := by
  unfold fitZ; split
  · assumption
  · simp [limbs_zero]

end Go.Proofs.YtijeplcjbhkkoaaDoor
