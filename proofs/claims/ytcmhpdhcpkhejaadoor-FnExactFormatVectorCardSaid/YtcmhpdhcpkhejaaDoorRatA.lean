/- Fractions: what a call comes to; ends of walks that give a fraction. -/
import Derived.Test.YtcmhpdhcpkhejaaDoorBigS
import Derived.Test.YtcmhpdhcpkhejaaDoorLawZ
import Derived.Test.YtcmhpdhcpkhejaaDoorMathG
namespace Go.Proofs.YtcmhpdhcpkhejaaDoor
open Go.RowKit Lm

/-- A fraction in new memory. -/
def RetR (w : World) (s : Bool) (xs ys : List Int) (e : Ending) (w' : World) : Prop := ∃ u v, e = .returned (.agg #[.bool s, u, v]) ∧ Own w' w.heap.size u xs ∧ Own w' w.heap.size v ys ∧ Apart u v ∧ Below w.heap.size w w'
def RetQ (w : World) (z : Int) (d : Nat) (e : Ending) (w' : World) : Prop := RetR w (ng z) (limbs z.natAbs) (limbs d) e w'
/-- A fraction in new memory, or in the rows of v1, v2, which lie from b on. -/
def RetL (w : World) (b : Nat) (v1 v2 : Value) (z : Int) (d : Nat) (e : Ending) (w' : World) : Prop :=
  ∃ u v, e = .returned (.agg #[.bool (ng z), u, v]) ∧ Own w' b u (limbs z.natAbs) ∧ Own w' b v (limbs d) ∧ (Apart v1 v2 → Apart u v) ∧ Below w.heap.size w w'

theorem set3_below {w wk : World} {g : Nat} {a b c : Value} (hB : Below w.heap.size w wk) (hg : w.heap.size ≤ g) : Below w.heap.size w (((wk.setCell ⟨g, 0, none⟩ a).setCell ⟨g, 1, none⟩ b).setCell ⟨g, 2, none⟩ c) :=
  ((hB.setCell hg _).setCell hg _).setCell hg _
theorem set3_own {wk : World} {g base : Nat} {a b c u : Value} {xs : List Int} (h : Own wk base u xs) (hne : u.ownBlock ≠ some g) : Own (((wk.setCell ⟨g, 0, none⟩ a).setCell ⟨g, 1, none⟩ b).setCell ⟨g, 2, none⟩ c) base u xs :=
  ((h.setOther hne _).setOther hne _).setOther hne _
theorem ne_of_base {w : World} {base g : Nat} {u : Value} {xs : List Int} (h : Own w base u xs) (hg : g < base) : u.ownBlock ≠ some g := fun e => by
  have := (h.lt _ e).1; omega
theorem ne_of_top {w : World} {base g : Nat} {u : Value} {xs : List Int} (h : Own w base u xs) (hg : w.heap.size ≤ g) : u.ownBlock ≠ some g := fun e => by
  have := (h.lt _ e).2; omega
/-- The end of a function that gives a fraction in a cell of its own. -/
theorem retR_end {w w0 wk : World} {g : Nat} {s : Bool} {u v : Value} {xs ys : List Int} (BW : Below w.heap.size w w0) (hg : w.heap.size ≤ g) (hg0 : g < w0.heap.size) (B0 : Below w0.heap.size w0 wk)
    (hu : Own wk w0.heap.size u xs) (hv : Own wk w0.heap.size v ys) (ha : Apart u v) :
    RetR w s xs ys (.returned (.agg #[.bool s, u, v])) (((wk.setCell ⟨g, 0, none⟩ (.bool s)).setCell ⟨g, 1, none⟩ u).setCell ⟨g, 2, none⟩ v) :=
  ⟨u, v, rfl, (set3_own hu (ne_of_base hu hg0)).mono BW.size, (set3_own hv (ne_of_base hv hg0)).mono BW.size, ha, set3_below (BW.trans (B0.mono BW.size)) hg⟩
/-- The same where the slices lie anywhere apart from the cell. -/
theorem retL_end {w wk : World} {g b : Nat} {z : Int} {d : Nat} {u v v1 v2 : Value} (hB : Below w.heap.size w wk) (hg : w.heap.size ≤ g)
    (hu : Own wk b u (limbs z.natAbs)) (hv : Own wk b v (limbs d)) (nu : u.ownBlock ≠ some g) (nv : v.ownBlock ≠ some g) (ha : Apart v1 v2 → Apart u v) :
    RetL w b v1 v2 z d (.returned (.agg #[.bool (ng z), u, v])) (((wk.setCell ⟨g, 0, none⟩ (.bool (ng z))).setCell ⟨g, 1, none⟩ u).setCell ⟨g, 2, none⟩ v) :=
  ⟨u, v, rfl, set3_own hu nu, set3_own hv nv, ha, set3_below hB hg⟩
theorem retL_nil {w w' : World} {b : Nat} {v1 v2 : Value} (hB : Below w.heap.size w w') : RetL w b v1 v2 0 0 (.returned (.agg #[.bool false, .slice none 0 0, .slice none 0 0])) w' :=
  ⟨_, _, rfl, Own.nil _ _, Own.nil _ _, fun _ => apart_nil, hB⟩
theorem retQ_nil {w w' : World} (hB : Below w.heap.size w w') : RetQ w 0 0 (.returned (.agg #[.bool false, .slice none 0 0, .slice none 0 0])) w' :=
  ⟨_, _, rfl, Own.nil _ _, Own.nil _ _, apart_nil, hB⟩
/-- Inside a function: a fraction that lies in new memory as the caller sees it. -/
theorem retL_new {w w' : World} {b : Nat} {v1 v2 : Value} {z : Int} {d : Nat} {e : Ending} (h : RetL w b v1 v2 z d e w') (ha : Apart v1 v2) (hb : w.heap.size ≤ b) : RetQ w z d e w' := by
  obtain ⟨u, v, rfl, h1, h2, h3, h4⟩ := h
  exact ⟨u, v, rfl, h1.mono hb, h2.mono hb, h3 ha, h4⟩
theorem new_box3 {w w' : World} {t : TypeId} {x y z : Value} (h : Below (w.alloc (.cells #[x, y, z] t)).heap.size (w.alloc (.cells #[x, y, z] t)) w') :
    w'.cell? ⟨w.heap.size, 0, none⟩ = some x ∧ w'.cell? ⟨w.heap.size, 1, none⟩ = some y ∧ w'.cell? ⟨w.heap.size, 2, none⟩ = some z ∧ w'.frozen? ⟨w.heap.size, 0, none⟩ = false ∧ w'.frozen? ⟨w.heap.size, 1, none⟩ = false ∧ w'.frozen? ⟨w.heap.size, 2, none⟩ = false := by
  obtain ⟨h0, h1, h2, h3, h4, h5⟩ : (w.alloc (.cells #[x, y, z] t)).cell? ⟨w.heap.size, 0, none⟩ = some x ∧ (w.alloc (.cells #[x, y, z] t)).cell? ⟨w.heap.size, 1, none⟩ = some y ∧ (w.alloc (.cells #[x, y, z] t)).cell? ⟨w.heap.size, 2, none⟩ = some z ∧
    (w.alloc (.cells #[x, y, z] t)).frozen? ⟨w.heap.size, 0, none⟩ = false ∧ (w.alloc (.cells #[x, y, z] t)).frozen? ⟨w.heap.size, 1, none⟩ = false ∧ (w.alloc (.cells #[x, y, z] t)).frozen? ⟨w.heap.size, 2, none⟩ = false := by simp [go_sem]
  exact ⟨keep_cell h h0, keep_cell h h1, keep_cell h h2, keep_frozen h h0 h3, keep_frozen h h1 h4, keep_frozen h h2 h5⟩
theorem new_box3d {w w' : World} {t : TypeId} {x y z : Value} (h : Below (w.alloc (.cells #[x, y, z] t)).drew.heap.size (w.alloc (.cells #[x, y, z] t)).drew w') :
    w'.cell? ⟨w.heap.size, 0, none⟩ = some x ∧ w'.cell? ⟨w.heap.size, 1, none⟩ = some y ∧ w'.cell? ⟨w.heap.size, 2, none⟩ = some z ∧ w'.frozen? ⟨w.heap.size, 0, none⟩ = false ∧ w'.frozen? ⟨w.heap.size, 1, none⟩ = false ∧ w'.frozen? ⟨w.heap.size, 2, none⟩ = false := new_box3 (undrew_below h)
theorem set_box3 {w : World} {g : Nat} {a b c x y z : Value} (h0 : w.cell? ⟨g, 0, none⟩ = some x) (h1 : w.cell? ⟨g, 1, none⟩ = some y) (h2 : w.cell? ⟨g, 2, none⟩ = some z) :
    (((w.setCell ⟨g, 0, none⟩ a).setCell ⟨g, 1, none⟩ b).setCell ⟨g, 2, none⟩ c).cell? ⟨g, 0, none⟩ = some a ∧ (((w.setCell ⟨g, 0, none⟩ a).setCell ⟨g, 1, none⟩ b).setCell ⟨g, 2, none⟩ c).cell? ⟨g, 1, none⟩ = some b ∧ (((w.setCell ⟨g, 0, none⟩ a).setCell ⟨g, 1, none⟩ b).setCell ⟨g, 2, none⟩ c).cell? ⟨g, 2, none⟩ = some c := by
  simp [go_sem, h0, h1, h2]

/-- A valid fraction, as it lies there. -/
def OkR (s : Bool) (xs ys : List Int) : Prop := OkG s xs ∧ OkP ys ∧ ys ≠ [] ∧ xs.length ≤ 24 ∧ ys.length ≤ 24 ∧ Nat.gcd (nv xs).toNat (nv ys).toNat = 1
theorem okR_q {s : Bool} {xs ys : List Int} (h : OkR s xs ys) : ∃ (z : Int) (d : Nat), s = ng z ∧ xs = limbs z.natAbs ∧ ys = limbs d ∧ IsQ z d ∧ zv s xs = z ∧ (nv ys).toNat = d := by
  obtain ⟨h1, h2, h3, h4, h5, h6⟩ := h
  obtain ⟨z, rfl, rfl, hl1, e1⟩ := okG_z h1
  obtain ⟨d, rfl, hl2⟩ := ok_limbs h2
  rw [nv_toNat, nv_toNat] at h6
  refine ⟨z, d, rfl, rfl, rfl, ⟨?_, h6, h4, h5⟩, e1, nv_toNat d⟩
  rcases Nat.eq_zero_or_pos d with h | h
  · subst h; exact absurd limbs_zero h3
  · exact h
theorem okR_of {z : Int} {d : Nat} (h : IsQ z d) : OkR (ng z) (limbs z.natAbs) (limbs d) := by
  obtain ⟨h1, h2, h3, h4⟩ := h
  unfold Fit at h3 h4
  refine ⟨okG_of z (by omega), limbs_ok (by omega), fun e => ?_, h3, h4, by rw [nv_toNat, nv_toNat]; exact h2⟩
  rw [limbs_nil] at e; omega
/-- 0 / 0 stands for what is too large. -/
def IsQ0 (z : Int) (d : Nat) : Prop := IsQ z d ∨ (z = 0 ∧ d = 0)
theorem low_isQ0 (z : Int) (d : Nat) : IsQ0 (lowZ z d) (lowD z d) := by
  by_cases h : FitQ z d
  · exact .inl (low_isQ h)
  · exact .inr (low_no h)
theorem IsQ0.len {z : Int} {d : Nat} (h : IsQ0 z d) : (limbs z.natAbs).length ≤ 24 ∧ (limbs d).length ≤ 24 := by
  rcases h with h | ⟨rfl, rfl⟩
  · exact ⟨h.2.2.1, h.2.2.2⟩
  · rw [show (0 : Int).natAbs = 0 from rfl, limbs_zero]; simp

end Go.Proofs.YtcmhpdhcpkhejaaDoor
