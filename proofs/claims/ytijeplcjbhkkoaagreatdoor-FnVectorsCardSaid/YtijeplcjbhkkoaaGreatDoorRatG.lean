/- Merged texts. -/
import Derived.Test.YtijeplcjbhkkoaaGreatDoorLawI
import Derived.Test.YtijeplcjbhkkoaaGreatDoorFrame
import Derived.Test.YtijeplcjbhkkoaaGreatDoorBigG
import Derived.Lib.SmallJoins
import Derived.Test.YtijeplcjbhkkoaaGreatDoorMathG

/- What the laws' walks share: marks and checks of marks, by name. -/
namespace Go.Proofs.YtijeplcjbhkkoaaGreatDoor
open Go.RowKit Lm

theorem Apart.ne {v u : Value} (h : Apart v u) : v.ownBlock = none ∨ v.ownBlock ≠ u.ownBlock := by
  rcases hv : v.ownBlock with _ | k
  · exact .inl rfl
  · exact .inr fun e => h k hv e.symm
theorem Own.marked {w w' : World} {base : Nat} {u v : Value} {xs : List Int} (h : Own w base u xs) (hg : w.grownBy w' v.ownBlock) (ha : Apart u v) : Own w' base u xs := h.grown hg ha.ne

/-- The row of v is marked from k on, up to m. -/
def RetMk (w : World) (base : Nat) (v : Value) (k : Int) (n : Nat) (e : Ending) (w' : World) : Prop := ∃ m : Int, k + n = m ∧ e = .returned (.int .i64 m) ∧ Own w' base v (iota k n) ∧ w.grownBy w' v.ownBlock
end Go.Proofs.YtijeplcjbhkkoaaGreatDoor

/- Arguments that came in, opened: an int. -/
namespace Go.Proofs.YtijeplcjbhkkoaaGreatDoor
open Go.ChangeShapes Go.WideShapes Go.ChangeAt Go.RowKit Lm

set_option maxRecDepth 100000 in
theorem int_of_trod {H : Type} {enc : TypeId × Value → H} {W : World} {v : Value} {d : DataW H} {ps : List MemPlace} {base : Nat} (hv : Value.okWide Tryz.prog W .any base 3 v)
    (h : DataW.Trod enc Tryz.prog W 0 (fun _ => true) true 3 v d ps) : ∃ n : Int, v = .int .i64 n ∧ -9223372036854775808 ≤ n ∧ n ≤ 9223372036854775807 := by
  obtain ⟨n, rfl, _, _, hw⟩ := open_int Tryz.underlying3 hv h
  have hw2 : -9223372036854775808 ≤ n ∧ n ≤ 9223372036854775807 := by
    simpa [Lit.wf, IntKind.min, IntKind.max, IntKind.signed, IntKind.bits] using hw
  exact ⟨n, rfl, hw2.1, hw2.2⟩

end Go.Proofs.YtijeplcjbhkkoaaGreatDoor

/- The laws' own helpers on signed numbers: toBigInt, szIntS, szBigInt, eqBigInt, markBigInt, heldBigInt; a signed number that came in, opened. -/
namespace Go.Proofs.YtijeplcjbhkkoaaGreatDoor
open Go.ChangeShapes Go.WideShapes Go.ChangeAt Go.RowKit Lm

theorem retG_fin {w wk : World} {g base : Nat} {s : Bool} {u : Value} {xs : List Int} (hB : Below w.heap.size w wk) (hg : w.heap.size ≤ g) (hgb : g < base) (hb : w.heap.size ≤ base) (ho : Own wk base u xs) :
    RetG w s xs (.returned (.agg #[.bool s, u])) ((wk.setCell ⟨g, 0, none⟩ (.bool s)).setCell ⟨g, 1, none⟩ u) :=
  ⟨u, rfl, ((ho.setBelow2 (a := ⟨g, 0, none⟩) hgb _).setBelow2 (a := ⟨g, 1, none⟩) hgb _).mono hb, (hB.setCell hg _).setCell hg _⟩

theorem grown_below {w w0 w1 : World} {row : Option Nat} (h : Below w.heap.size w w0) (hg : w0.grownBy w1 row) : w.grownBy w1 row :=
  ⟨hg.os.trans h.os, hg.tape.trans h.tape, hg.output.trans h.output, Nat.le_trans h.size hg.size, fun i hi hr => (hg.block i (Nat.lt_of_lt_of_le hi h.size) hr).trans (h.block i hi)⟩

set_option maxRecDepth 100000 in
theorem rd_of_cells {H : Type} {enc : TypeId × Value → H} {W : World} {v : Value} {y : DataW H × List MemPlace} {fuel : Nat}
    (hf : DataW.trod enc Tryz.prog W 0 (fun _ => true) true fuel 23 [v] = some y) : ∃ xs, Rd W v xs ∧ xs.length ≤ 9223372036854775807 := by
  rcases open_ints Tryz.underlying23 Tryz.underlying3 Tryz.cellsInt hf with ⟨hcs, _⟩ | ⟨x, l, c, zs, hcs, _, hl, hm, hz, _, hcell, hwz⟩
  · simp only [List.cons.injEq, and_true] at hcs
    subst hcs
    exact ⟨[], ⟨none, 0, rfl, fun i hi => by simp at hi⟩, by simp⟩
  · simp only [List.cons.injEq, and_true] at hcs
    subst hcs
    have hzl : zs.length = c := by simpa using hz
    have htl : (zs.take l).length = l := by rw [List.length_take]; omega
    unfold maxLen at hm
    refine ⟨zs.take l, ⟨some x, c, by rw [htl], fun i hi => ?_⟩, by omega⟩
    rw [htl] at hi
    have hc := hcell i (by omega)
    rw [show zs.getD i 0 = lat (zs.take l) i by rw [lat_take hi]; rfl] at hc
    obtain ⟨b, off, spot⟩ := x
    have hlt := World.block_lt_of_cell? W _ hc
    cases spot with
    | none =>
      rw [Addr.add_lit] at hc hlt
      exact ⟨b, off, rfl, hlt, hc⟩
    | some s =>
      exfalso
      have h0 := hcell 0 (by omega)
      unfold Addr.add World.cell? at h0
      simp at h0
      split at h0 <;> simp at h0
theorem own_ne_new {w : World} {b : Nat} {u : Value} {xs : List Int} (h : Own w b u xs) : u.ownBlock ≠ some w.heap.size := fun e => by
  have := (h.lt _ e).2; omega
theorem own_ne_old {w w' : World} {g i : Nat} {v u : Value} {xs : List Int} (hc : w.cell? ⟨g, i, none⟩ = some v) (h : Own w' w.heap.size u xs) : u.ownBlock ≠ some g := fun e => by
  have h1 := (h.lt _ e).1
  have h2 := World.block_lt_of_cell? w _ hc
  simp only at h2
  omega
theorem own_ne_alloc {w w' : World} {o : Obj} {u : Value} {xs : List Int} (h : Own w' (w.alloc o).heap.size u xs) : u.ownBlock ≠ some w.heap.size := fun e => by
  have := (h.lt _ e).1; simp at this; omega
theorem own_ne_allocd {w w' : World} {o : Obj} {u : Value} {xs : List Int} (h : Own w' (w.alloc o).drew.heap.size u xs) : u.ownBlock ≠ some w.heap.size := own_ne_alloc h
theorem below_undrew {B : Nat} {a w : World} (h : Below B a w.drew) : Below B a w := ⟨h.os, h.tape, h.output, h.size, h.block⟩
theorem undrew_below {w w' : World} (h : Below w.drew.heap.size w.drew w') : Below w.heap.size w w' := ⟨h.os, h.tape, h.output, h.size, h.block⟩
theorem drew_below {w w' : World} (h : Below w.heap.size w w') : Below w.drew.heap.size w.drew w' := ⟨h.os, h.tape, h.output, h.size, h.block⟩
theorem alloc_belowd {w w' : World} {o : Obj} (h : Below (w.alloc o).drew.heap.size (w.alloc o).drew w') : Below w.drew.heap.size w.drew w' := drew_below (alloc_below (undrew_below h))
theorem Own.unalloc {w w' : World} {o : Obj} {u : Value} {xs : List Int} (h : Own w' (w.alloc o).heap.size u xs) : Own w' w.heap.size u xs := h.mono (heap_le_alloc _ _)
theorem Own.unallocd {w w' : World} {o : Obj} {u : Value} {xs : List Int} (h : Own w' (w.alloc o).drew.heap.size u xs) : Own w' w.drew.heap.size u xs := h.mono (heap_le_alloc _ _)
theorem Own.setOther {w : World} {base g i : Nat} {v : Value} {xs : List Int} (h : Own w base v xs) (hne : v.ownBlock ≠ some g) (u : Value) : Own (w.setCell ⟨g, i, none⟩ u) base v xs := by
  obtain ⟨ao, cap, rfl, -, -, -, h6, h7⟩ := h.form
  cases ao with
  | none => exact ⟨h.1, .inl ⟨by rw [(h6 rfl).1, (h6 rfl).2]; rfl, by rw [(h6 rfl).1]; rfl⟩⟩
  | some p =>
    obtain ⟨e1, e2, e3, e4⟩ := h7 p rfl
    obtain ⟨b, off, spot⟩ := p
    simp only at e1 e2
    subst e1; subst e2
    exact h.other (fun e => hne (by rw [← e]; rfl)) i u
theorem new_box2 {w w' : World} {t : TypeId} {x y : Value} (h : Below (w.alloc (.cells #[x, y] t)).heap.size (w.alloc (.cells #[x, y] t)) w') :
    w'.cell? ⟨w.heap.size, 0, none⟩ = some x ∧ w'.cell? ⟨w.heap.size, 1, none⟩ = some y ∧ w'.frozen? ⟨w.heap.size, 0, none⟩ = false ∧ w'.frozen? ⟨w.heap.size, 1, none⟩ = false := by
  obtain ⟨h0, h1, h2, h3⟩ : (w.alloc (.cells #[x, y] t)).cell? ⟨w.heap.size, 0, none⟩ = some x ∧ (w.alloc (.cells #[x, y] t)).cell? ⟨w.heap.size, 1, none⟩ = some y ∧ (w.alloc (.cells #[x, y] t)).frozen? ⟨w.heap.size, 0, none⟩ = false ∧ (w.alloc (.cells #[x, y] t)).frozen? ⟨w.heap.size, 1, none⟩ = false := by simp [go_sem]
  exact ⟨keep_cell h h0, keep_cell h h1, keep_frozen h h0 h2, keep_frozen h h1 h3⟩
theorem new_box2d {w w' : World} {t : TypeId} {x y : Value} (h : Below (w.alloc (.cells #[x, y] t)).drew.heap.size (w.alloc (.cells #[x, y] t)).drew w') :
    w'.cell? ⟨w.heap.size, 0, none⟩ = some x ∧ w'.cell? ⟨w.heap.size, 1, none⟩ = some y ∧ w'.frozen? ⟨w.heap.size, 0, none⟩ = false ∧ w'.frozen? ⟨w.heap.size, 1, none⟩ = false := new_box2 (undrew_below h)
theorem set_box2 {w : World} {g : Nat} {a b x y : Value} (h0 : w.cell? ⟨g, 0, none⟩ = some x) (h1 : w.cell? ⟨g, 1, none⟩ = some y) :
    ((w.setCell ⟨g, 0, none⟩ a).setCell ⟨g, 1, none⟩ b).cell? ⟨g, 0, none⟩ = some a ∧ ((w.setCell ⟨g, 0, none⟩ a).setCell ⟨g, 1, none⟩ b).cell? ⟨g, 1, none⟩ = some b := by
  simp [go_sem, h0, h1]
theorem keep_grown {w w' : World} {row : Option Nat} {g i : Nat} {v : Value} (hg : w.grownBy w' row) (hc : w.cell? ⟨g, i, none⟩ = some v) (hne : row ≠ some g) : w'.cell? ⟨g, i, none⟩ = some v :=
  (World.cell?_of_block (hg.block g (World.block_lt_of_cell? w _ hc) (fun e => hne e.symm))).trans hc
end Go.Proofs.YtijeplcjbhkkoaaGreatDoor

/- Fractions: what a call comes to; ends of walks that give a fraction. -/
namespace Go.Proofs.YtijeplcjbhkkoaaGreatDoor
open Go.RowKit Lm

/-- A fraction in new memory. -/
def RetR (w : World) (s : Bool) (xs ys : List Int) (e : Ending) (w' : World) : Prop := ∃ u v, e = .returned (.agg #[.bool s, u, v]) ∧ Own w' w.heap.size u xs ∧ Own w' w.heap.size v ys ∧ Apart u v ∧ Below w.heap.size w w'
def RetQ (w : World) (z : Int) (d : Nat) (e : Ending) (w' : World) : Prop := RetR w (ng z) (limbs z.natAbs) (limbs d) e w'
/-- A fraction in new memory, or in the rows of v1, v2, which lie from b on. -/
def RetL (w : World) (b : Nat) (v1 v2 : Value) (z : Int) (d : Nat) (e : Ending) (w' : World) : Prop :=
  ∃ u v, e = .returned (.agg #[.bool (ng z), u, v]) ∧ Own w' b u (limbs z.natAbs) ∧ Own w' b v (limbs d) ∧ (Apart v1 v2 → Apart u v) ∧ Below w.heap.size w w'

theorem set3_below {w wk : World} {g : Nat} {a b c : Value} (hB : Below w.heap.size w wk) (hg : w.heap.size ≤ g) : Below w.heap.size w (((wk.setCell ⟨g, 0, none⟩ a).setCell ⟨g, 1, none⟩ b).setCell ⟨g, 2, none⟩ c) :=
  ((hB.setCell hg _).setCell hg _).setCell hg _
theorem set3_own {wk : World} {g base : Nat} {a b c u : Value} {xs : List Int} (h : Own wk base u xs) (hne : u.ownBlock ≠ some g) : Own (((wk.setCell ⟨g, 0, none⟩ a).setCell ⟨g, 1, none⟩ b).setCell ⟨g, 2, none⟩ c) base u xs :=
  ((h.setOther hne _).setOther hne _).setOther hne _
theorem ne_of_base {w : World} {base g : Nat} {u : Value} {xs : List Int} (h : Own w base u xs) (hg : g < base) : u.ownBlock ≠ some g := fun e => by
  have := (h.lt _ e).1; omega
theorem ne_of_top {w : World} {base g : Nat} {u : Value} {xs : List Int} (h : Own w base u xs) (hg : w.heap.size ≤ g) : u.ownBlock ≠ some g := fun e => by
  have := (h.lt _ e).2; omega
/-- The end of a function that gives a fraction in a cell of its own. -/
theorem retR_end {w w0 wk : World} {g : Nat} {s : Bool} {u v : Value} {xs ys : List Int} (BW : Below w.heap.size w w0) (hg : w.heap.size ≤ g) (hg0 : g < w0.heap.size) (B0 : Below w0.heap.size w0 wk)
    (hu : Own wk w0.heap.size u xs) (hv : Own wk w0.heap.size v ys) (ha : Apart u v) :
    RetR w s xs ys (.returned (.agg #[.bool s, u, v])) (((wk.setCell ⟨g, 0, none⟩ (.bool s)).setCell ⟨g, 1, none⟩ u).setCell ⟨g, 2, none⟩ v) :=
  ⟨u, v, rfl, (set3_own hu (ne_of_base hu hg0)).mono BW.size, (set3_own hv (ne_of_base hv hg0)).mono BW.size, ha, set3_below (BW.trans (B0.mono BW.size)) hg⟩
/-- The same where the slices lie anywhere apart from the cell. -/
theorem retL_end {w wk : World} {g b : Nat} {z : Int} {d : Nat} {u v v1 v2 : Value} (hB : Below w.heap.size w wk) (hg : w.heap.size ≤ g)
    (hu : Own wk b u (limbs z.natAbs)) (hv : Own wk b v (limbs d)) (nu : u.ownBlock ≠ some g) (nv : v.ownBlock ≠ some g) (ha : Apart v1 v2 → Apart u v) :
    RetL w b v1 v2 z d (.returned (.agg #[.bool (ng z), u, v])) (((wk.setCell ⟨g, 0, none⟩ (.bool (ng z))).setCell ⟨g, 1, none⟩ u).setCell ⟨g, 2, none⟩ v) :=
  ⟨u, v, rfl, set3_own hu nu, set3_own hv nv, ha, set3_below hB hg⟩
theorem retL_nil {w w' : World} {b : Nat} {v1 v2 : Value} (hB : Below w.heap.size w w') : RetL w b v1 v2 0 0 (.returned (.agg #[.bool false, .slice none 0 0, .slice none 0 0])) w' :=
  ⟨_, _, rfl, Own.nil _ _, Own.nil _ _, fun _ => apart_nil, hB⟩
theorem retQ_nil {w w' : World} (hB : Below w.heap.size w w') : RetQ w 0 0 (.returned (.agg #[.bool false, .slice none 0 0, .slice none 0 0])) w' :=
  ⟨_, _, rfl, Own.nil _ _, Own.nil _ _, apart_nil, hB⟩
/-- Inside a function: a fraction that lies in new memory as the caller sees it. -/
theorem retL_new {w w' : World} {b : Nat} {v1 v2 : Value} {z : Int} {d : Nat} {e : Ending} (h : RetL w b v1 v2 z d e w') (ha : Apart v1 v2) (hb : w.heap.size ≤ b) : RetQ w z d e w' := by
  obtain ⟨u, v, rfl, h1, h2, h3, h4⟩ := h
  exact ⟨u, v, rfl, h1.mono hb, h2.mono hb, h3 ha, h4⟩
theorem new_box3 {w w' : World} {t : TypeId} {x y z : Value} (h : Below (w.alloc (.cells #[x, y, z] t)).heap.size (w.alloc (.cells #[x, y, z] t)) w') :
    w'.cell? ⟨w.heap.size, 0, none⟩ = some x ∧ w'.cell? ⟨w.heap.size, 1, none⟩ = some y ∧ w'.cell? ⟨w.heap.size, 2, none⟩ = some z ∧ w'.frozen? ⟨w.heap.size, 0, none⟩ = false ∧ w'.frozen? ⟨w.heap.size, 1, none⟩ = false ∧ w'.frozen? ⟨w.heap.size, 2, none⟩ = false := by
  obtain ⟨h0, h1, h2, h3, h4, h5⟩ : (w.alloc (.cells #[x, y, z] t)).cell? ⟨w.heap.size, 0, none⟩ = some x ∧ (w.alloc (.cells #[x, y, z] t)).cell? ⟨w.heap.size, 1, none⟩ = some y ∧ (w.alloc (.cells #[x, y, z] t)).cell? ⟨w.heap.size, 2, none⟩ = some z ∧
    (w.alloc (.cells #[x, y, z] t)).frozen? ⟨w.heap.size, 0, none⟩ = false ∧ (w.alloc (.cells #[x, y, z] t)).frozen? ⟨w.heap.size, 1, none⟩ = false ∧ (w.alloc (.cells #[x, y, z] t)).frozen? ⟨w.heap.size, 2, none⟩ = false := by simp [go_sem]
  exact ⟨keep_cell h h0, keep_cell h h1, keep_cell h h2, keep_frozen h h0 h3, keep_frozen h h1 h4, keep_frozen h h2 h5⟩
theorem new_box3d {w w' : World} {t : TypeId} {x y z : Value} (h : Below (w.alloc (.cells #[x, y, z] t)).drew.heap.size (w.alloc (.cells #[x, y, z] t)).drew w') :
    w'.cell? ⟨w.heap.size, 0, none⟩ = some x ∧ w'.cell? ⟨w.heap.size, 1, none⟩ = some y ∧ w'.cell? ⟨w.heap.size, 2, none⟩ = some z ∧ w'.frozen? ⟨w.heap.size, 0, none⟩ = false ∧ w'.frozen? ⟨w.heap.size, 1, none⟩ = false ∧ w'.frozen? ⟨w.heap.size, 2, none⟩ = false := new_box3 (undrew_below h)
theorem set_box3 {w : World} {g : Nat} {a b c x y z : Value} (h0 : w.cell? ⟨g, 0, none⟩ = some x) (h1 : w.cell? ⟨g, 1, none⟩ = some y) (h2 : w.cell? ⟨g, 2, none⟩ = some z) :
    (((w.setCell ⟨g, 0, none⟩ a).setCell ⟨g, 1, none⟩ b).setCell ⟨g, 2, none⟩ c).cell? ⟨g, 0, none⟩ = some a ∧ (((w.setCell ⟨g, 0, none⟩ a).setCell ⟨g, 1, none⟩ b).setCell ⟨g, 2, none⟩ c).cell? ⟨g, 1, none⟩ = some b ∧ (((w.setCell ⟨g, 0, none⟩ a).setCell ⟨g, 1, none⟩ b).setCell ⟨g, 2, none⟩ c).cell? ⟨g, 2, none⟩ = some c := by
  simp [go_sem, h0, h1, h2]

/-- A valid fraction, as it lies there. -/
def OkR (s : Bool) (xs ys : List Int) : Prop := OkG s xs ∧ OkP ys ∧ ys ≠ [] ∧ xs.length ≤ 24 ∧ ys.length ≤ 24 ∧ Nat.gcd (nv xs).toNat (nv ys).toNat = 1
theorem okR_q {s : Bool} {xs ys : List Int} (h : OkR s xs ys) : ∃ (z : Int) (d : Nat), s = ng z ∧ xs = limbs z.natAbs ∧ ys = limbs d ∧ IsQ z d ∧ zv s xs = z ∧ (nv ys).toNat = d := by
  obtain ⟨h1, h2, h3, h4, h5, h6⟩ := h
  obtain ⟨z, rfl, rfl, hl1, e1⟩ := okG_z h1
  obtain ⟨d, rfl, hl2⟩ := ok_limbs h2
  rw [nv_toNat, nv_toNat] at h6
  refine ⟨z, d, rfl, rfl, rfl, ⟨?_, h6, h4, h5⟩, e1, nv_toNat d⟩
  rcases Nat.eq_zero_or_pos d with h | h
  · subst h; exact absurd limbs_zero h3
  · exact h
theorem okR_of {z : Int} {d : Nat} (h : IsQ z d) : OkR (ng z) (limbs z.natAbs) (limbs d) := by
  obtain ⟨h1, h2, h3, h4⟩ := h
  unfold Fit at h3 h4
  refine ⟨okG_of z (by omega), limbs_ok (by omega), fun e => ?_, h3, h4, by rw [nv_toNat, nv_toNat]; exact h2⟩
  rw [limbs_nil] at e; omega
/-- 0 / 0 stands for what is too large. -/
def IsQ0 (z : Int) (d : Nat) : Prop := IsQ z d ∨ (z = 0 ∧ d = 0)
theorem low_isQ0 (z : Int) (d : Nat) : IsQ0 (lowZ z d) (lowD z d) := by
  by_cases h : FitQ z d
  · exact .inl (low_isQ h)
  · exact .inr (low_no h)
theorem IsQ0.len {z : Int} {d : Nat} (h : IsQ0 z d) : (limbs z.natAbs).length ≤ 24 ∧ (limbs d).length ≤ 24 := by
  rcases h with h | ⟨rfl, rfl⟩
  · exact ⟨h.2.2.1, h.2.2.2⟩
  · rw [show (0 : Int).natAbs = 0 from rfl, limbs_zero]; simp

end Go.Proofs.YtijeplcjbhkkoaaGreatDoor

/- What the functions on fractions answer, in plain numbers. -/
namespace Go.Proofs.YtijeplcjbhkkoaaGreatDoor
open Go.RowKit Lm

noncomputable def qlow (z : Int) (d : Nat) : Int × Nat := (lowZ z d, lowD z d)
noncomputable def qadd (z : Int) (d : Nat) (y : Int) (f : Nat) : Int × Nat := qlow (z * f + y * d) (d * f)
noncomputable def qsub (z : Int) (d : Nat) (y : Int) (f : Nat) : Int × Nat := qadd z d (-y) f
noncomputable def qmul (z : Int) (d : Nat) (y : Int) (f : Nat) : Int × Nat := qlow (z * y) (d * f)
/-- With y's sign. -/
def sgnd (y : Int) (f : Nat) : Int := if y < 0 then -(f : Int) else f
noncomputable def qdiv (z : Int) (d : Nat) (y : Int) (f : Nat) : Int × Nat := qlow (z * sgnd y f) (d * y.natAbs)
open Classical in
/-- An operation on two fractions that are valid; else 0 / 0. -/
noncomputable def q2 (op : Int → Nat → Int → Nat → Int × Nat) (s : Bool) (xs ys : List Int) (t : Bool) (zs ws : List Int) : Int × Nat :=
  if OkR s xs ys ∧ OkR t zs ws then op (zv s xs) (nv ys).toNat (zv t zs) (nv ws).toNat else (0, 0)
open Classical in
noncomputable def q1 (op : Int → Nat → Int × Nat) (s : Bool) (xs ys : List Int) : Int × Nat := if OkR s xs ys then op (zv s xs) (nv ys).toNat else (0, 0)
open Classical in
noncomputable def qi2 (op : Int → Nat → Int → Nat → Int) (s : Bool) (xs ys : List Int) (t : Bool) (zs ws : List Int) : Int :=
  if OkR s xs ys ∧ OkR t zs ws then op (zv s xs) (nv ys).toNat (zv t zs) (nv ws).toNat else 0
def qcmp (z : Int) (d : Nat) (y : Int) (f : Nat) : Int := cmp3 (z * f) (y * d)
def qmin (z : Int) (d : Nat) (y : Int) (f : Nat) : Int × Nat := if qcmp z d y f ≤ 0 then (z, d) else (y, f)
def qmax (z : Int) (d : Nat) (y : Int) (f : Nat) : Int × Nat := if 0 ≤ qcmp z d y f then (z, d) else (y, f)
open Classical in
noncomputable def okRB (s : Bool) (xs ys : List Int) : Bool := decide (OkR s xs ys)
open Classical in
noncomputable def rsgn (s : Bool) (xs ys : List Int) : Int := if OkR s xs ys then (if zv s xs < 0 then -1 else if 0 < zv s xs then 1 else 0) else 0
open Classical in
/-- RatMake. -/
noncomputable def rmake (s : Bool) (xs : List Int) (t : Bool) (ys : List Int) : Int × Nat := if OkG s xs ∧ OkG t ys then qlow (if zv t ys < 0 then -(zv s xs) else zv s xs) (zv t ys).natAbs else (0, 0)
def reqB (s : Bool) (xs ys : List Int) (t : Bool) (zs ws : List Int) : Bool := s == t && decide (xs = zs) && decide (ys = ws)

theorem qlow_len (z : Int) (d : Nat) : (limbs (qlow z d).1.natAbs).length ≤ 1000 ∧ (limbs (qlow z d).2).length ≤ 1000 := by
  have := (low_isQ0 z d).len
  exact ⟨Nat.le_trans this.1 (by omega), Nat.le_trans this.2 (by omega)⟩
theorem qnil_len : (limbs ((0, 0) : Int × Nat).1.natAbs).length ≤ 1000 ∧ (limbs ((0, 0) : Int × Nat).2).length ≤ 1000 := ⟨limbs_len0, limbs_len0⟩
theorem q2_len {op : Int → Nat → Int → Nat → Int × Nat} (h : ∀ z d y f, IsQ z d → IsQ y f → (limbs (op z d y f).1.natAbs).length ≤ 1000 ∧ (limbs (op z d y f).2).length ≤ 1000) (s : Bool) (xs ys : List Int) (t : Bool) (zs ws : List Int) :
    (limbs (q2 op s xs ys t zs ws).1.natAbs).length ≤ 1000 ∧ (limbs (q2 op s xs ys t zs ws).2).length ≤ 1000 := by
  unfold q2; split
  · next hh =>
    obtain ⟨z, d, rfl, rfl, rfl, h1, e1, e2⟩ := okR_q hh.1
    obtain ⟨y, f, rfl, rfl, rfl, h2, e3, e4⟩ := okR_q hh.2
    rw [e1, e2, e3, e4]; exact h z d y f h1 h2
  · exact qnil_len
theorem isQ_len {z : Int} {d : Nat} (h : IsQ z d) : (limbs (z, d).1.natAbs).length ≤ 1000 ∧ (limbs (z, d).2).length ≤ 1000 :=
  ⟨Nat.le_trans h.2.2.1 (by omega), Nat.le_trans h.2.2.2 (by omega)⟩
theorem qmin_len (z : Int) (d : Nat) (y : Int) (f : Nat) (h : IsQ z d) (k : IsQ y f) : (limbs (qmin z d y f).1.natAbs).length ≤ 1000 ∧ (limbs (qmin z d y f).2).length ≤ 1000 := by
  unfold qmin; split
  · exact isQ_len h
  · exact isQ_len k
theorem qmax_len (z : Int) (d : Nat) (y : Int) (f : Nat) (h : IsQ z d) (k : IsQ y f) : (limbs (qmax z d y f).1.natAbs).length ≤ 1000 ∧ (limbs (qmax z d y f).2).length ≤ 1000 := by
  unfold qmax; split
  · exact isQ_len h
  · exact isQ_len k
theorem q1_len {op : Int → Nat → Int × Nat} (h : ∀ z d, IsQ z d → (limbs (op z d).1.natAbs).length ≤ 1000 ∧ (limbs (op z d).2).length ≤ 1000) (s : Bool) (xs ys : List Int) :
    (limbs (q1 op s xs ys).1.natAbs).length ≤ 1000 ∧ (limbs (q1 op s xs ys).2).length ≤ 1000 := by
  unfold q1; split
  · next hh =>
    obtain ⟨z, d, rfl, rfl, rfl, h1, e1, e2⟩ := okR_q hh
    rw [e1, e2]; exact h z d h1
  · exact qnil_len
theorem rmake_len (s : Bool) (xs : List Int) (t : Bool) (ys : List Int) : (limbs (rmake s xs t ys).1.natAbs).length ≤ 1000 ∧ (limbs (rmake s xs t ys).2).length ≤ 1000 := by
  unfold rmake; split
  · exact qlow_len _ _
  · exact qnil_len

theorem isQ_neg {z : Int} {d : Nat} (h : IsQ z d) : IsQ (-z) d := by
  unfold IsQ; rw [Int.natAbs_neg]; exact h
theorem isQ0_neg {z : Int} {d : Nat} (h : IsQ0 z d) : IsQ0 (-z) d := by
  rcases h with h | ⟨rfl, rfl⟩
  · exact .inl (isQ_neg h)
  · exact .inr ⟨rfl, rfl⟩
theorem sgnd_abs (y : Int) (f : Nat) : (sgnd y f).natAbs = f := by unfold sgnd; split <;> simp
theorem sgnd_ng {y : Int} {f : Nat} (hf : 0 < f) : ng (sgnd y f) = ng y := by
  unfold sgnd; split
  · next h => rw [ng_neg (by omega), ng_neg h]
  · next h => rw [ng_nonneg (by omega), ng_nonneg (by omega)]
/-- The fraction turned over. -/
theorem isQ_inv {y : Int} {f : Nat} (h : IsQ y f) (h0 : y ≠ 0) : IsQ (sgnd y f) y.natAbs := by
  obtain ⟨h1, h2, h3, h4⟩ := h
  refine ⟨by omega, by rw [sgnd_abs, Nat.gcd_comm]; exact h2, by rw [sgnd_abs]; exact h4, h3⟩
theorem qadd_same (z y : Int) (d : Nat) : qadd z d y d = qlow (z + y) d ∨ d = 0 := by
  rcases Nat.eq_zero_or_pos d with h | h
  · exact .inr h
  · left
    unfold qadd qlow
    rw [← Int.add_mul, (low_scale (z + y) d h).1, (low_scale (z + y) d h).2]
theorem low_den0 (z : Int) : lowZ z 0 = 0 ∧ lowD z 0 = 0 := low_no (fun h => by have := h.1; omega)

end Go.Proofs.YtijeplcjbhkkoaaGreatDoor

/- The reference's fractions: equality, RatOk, lowest terms. -/
namespace Go.Proofs.YtijeplcjbhkkoaaGreatDoor
open Go.RowKit Lm

set_option maxHeartbeats 1000000 in
theorem l04One_t (w : World) (b1 : Nat) (v1 : Value) (h1 : Own w b1 v1 (limbs 1)) : Calls Tryz.prog 122 #[v1] w (RetB w true) := by
  rw [limbs_one] at h1
  obtain ⟨a1, c1, rfl, -, f2, f3, -, -⟩ := h1.form
  obtain ⟨g, rfl, -, -⟩ := h1.addr (i := 0) (by simp)
  have r1 := h1.cell 0 (by simp)
  rw [show lat [1] 0 = 1 from rfl] at r1
  clear h1
  go_enter Tryz.func122, Tryz.ntmps122
  go_wp2
  go_ret
  exact retB rfl (Below.refl _ _)
set_option maxHeartbeats 1000000 in
theorem l04One_f (w : World) (b1 : Nat) (v1 : Value) (n : Nat) (h1 : Own w b1 v1 (limbs n)) (hn : n ≠ 1) : Calls Tryz.prog 122 #[v1] w (RetB w false) := by
  obtain ⟨a1, c1, rfl, -, f2, f3, -, -⟩ := h1.form
  by_cases hl : (limbs n).length = 1
  · obtain ⟨g, rfl, -, -⟩ := h1.addr (i := 0) (by omega)
    have r1 := h1.cell 0 (by omega)
    have hn2 : n < 1000000000 := by
      have := (limbs_len_le (n := n) (k := 1)).1 (by omega)
      simp only [pw] at this; omega
    have hn0 : 0 < n := limbs_len_pos.1 (by omega)
    rw [show lat (limbs n) 0 = (n : Int) by rw [limbs_small hn0 hn2]; rfl, hl] at *
    have d1 : ((n : Int) == 1) = false := beq_eq_false_iff_ne.2 (by omega)
    clear h1 hl
    go_enter Tryz.func122, Tryz.ntmps122
    go_wp2
    go_ret
    exact retB rfl (Below.refl _ _)
  · have d1 : ((limbs n).length == 1) = false := beq_eq_false_iff_ne.2 hl
    have d2 : (((limbs n).length : Int) == 1) = false := beq_eq_false_iff_ne.2 (by omega)
    clear h1 hl
    go_enter Tryz.func122, Tryz.ntmps122
    go_wp2
    go_ret
    exact retB rfl (Below.refl _ _)

theorem gcd_s (w : World) (b1 b2 : Nat) (v1 v2 : Value) (a b : Nat) (h1 : Own w b1 v1 (limbs a)) (h2 : Own w b2 v2 (limbs b)) (hs1 : (limbs a).length ≤ 900) (hs2 : (limbs b).length ≤ 900) (g : Nat) (hg : Hid (g = Nat.gcd a b)) :
    Calls Tryz.prog 123 #[v1, v2] w (RetS w (limbs g)) := by
  rw [hg.out]; exact l02Gcd_c w b1 b2 v1 v2 a b h1 h2 hs1 hs2

theorem l02Div_n (w : World) (b1 b2 : Nat) (v1 v2 : Value) (a b n : Nat) (h1 : Own w b1 v1 (limbs a)) (h2 : Own w b2 v2 (limbs b)) (hs1 : (limbs a).length ≤ 900) (hs2 : (limbs b).length ≤ 900) (hb : 0 < b) (hn : Hid (n = a / b)) :
    Calls Tryz.prog 124 #[v1, v2] w (RetSS w (limbs n) (limbs (a % b))) := by
  rw [hn.out]; exact l02Div_c w b1 b2 v1 v2 a b h1 h2 (by omega) hs2 hb
theorem l02Trim_n (w : World) (b1 : Nat) (v1 : Value) (n : Nat) (h1 : Own w b1 v1 (limbs n)) : Calls Tryz.prog 121 #[v1] w (RetV w b1 v1 (limbs n)) :=
  l02Trim_c w b1 v1 (limbs n) n h1 (limbs_inR n) (nv_limbs n)

theorem apart_lit {w w' : World} {b : Nat} {v u : Value} {xs ys : List Int} (h : Own w b v xs) (k : Own w' w.heap.size u ys) : Apart v u := apart_new h (.inr rfl) k

set_option maxHeartbeats 1000000 in
theorem l04Low_0 (w : World) (b1 b2 : Nat) (s : Bool) (v1 v2 : Value) (x : Int) (h1 : Own w b1 v1 (limbs x.natAbs)) (h2 : Own w b2 v2 (limbs 0)) (_hl1 : (limbs x.natAbs).length ≤ 900) (_hl2 : (limbs 0).length ≤ 900) :
    Calls Tryz.prog 100 #[.bool s, v1, v2] w (RetQ w 0 0) := by
  have BW : Below w.heap.size w (w.alloc (.cells #[.bool false, .slice none 0 0, .slice none 0 0] 27)) := ((Below.refl w.heap.size w).alloc (Nat.le_refl _) _)
  obtain ⟨c0_0, c0_1, c0_2, q0, q1, q2⟩ : World.cell? (w.alloc (.cells #[.bool false, .slice none 0 0, .slice none 0 0] 27)) ⟨w.heap.size, 0, none⟩ = some (.bool false) ∧ World.cell? (w.alloc (.cells #[.bool false, .slice none 0 0, .slice none 0 0] 27)) ⟨w.heap.size, 1, none⟩ = some (.slice none 0 0) ∧ World.cell? (w.alloc (.cells #[.bool false, .slice none 0 0, .slice none 0 0] 27)) ⟨w.heap.size, 2, none⟩ = some (.slice none 0 0) ∧ World.frozen? (w.alloc (.cells #[.bool false, .slice none 0 0, .slice none 0 0] 27)) ⟨w.heap.size, 0, none⟩ = false ∧ World.frozen? (w.alloc (.cells #[.bool false, .slice none 0 0, .slice none 0 0] 27)) ⟨w.heap.size, 1, none⟩ = false ∧ World.frozen? (w.alloc (.cells #[.bool false, .slice none 0 0, .slice none 0 0] 27)) ⟨w.heap.size, 2, none⟩ = false := by simp [go_sem]
  have hg0 : w.heap.size < ((w.alloc (.cells #[.bool false, .slice none 0 0, .slice none 0 0] 27))).heap.size := World.block_lt_of_cell? _ _ c0_0
  have Ha := Lib.hid (h1.below BW (Nat.le_refl _))
  have Hb := Lib.hid (h2.below BW (Nat.le_refl _))
  clear h1 h2
  have d1 : ((limbs 0).length == 0) = true := rfl
  have d2 : (((limbs 0).length : Int) == 0) = true := rfl
  go_enter Tryz.func100, Tryz.ntmps100
  go_wp2_with fail
  generalize (w.alloc (.cells #[.bool false, .slice none 0 0, .slice none 0 0] 27)) = w0 at *
  have B0 := Below.refl w0.heap.size w0
  refine (l02Trim_n _ _ _ _ Ha.out).mono ?_
  rintro e w1 ⟨vx, rfl, ho1, hp, hb⟩
  replace q0 := keep_frozen (w1 := w1) hb c0_0 q0
  replace c0_0 := keep_cell (w1 := w1) hb c0_0
  replace q1 := keep_frozen (w1 := w1) hb c0_1 q1
  replace c0_1 := keep_cell (w1 := w1) hb c0_1
  replace q2 := keep_frozen (w1 := w1) hb c0_2 q2
  replace c0_2 := keep_cell (w1 := w1) hb c0_2
  replace Ha := Lib.hid (Ha.out.below hb (Nat.le_refl _))
  replace Hb := Lib.hid (Hb.out.below hb (Nat.le_refl _))
  have Hx := Lib.hid ho1
  clear ho1
  clear hp
  obtain ⟨ax, cx, rfl, -, -, -, -, -⟩ := Hx.out.form
  replace B0 := B0.trans (hb.mono B0.size)
  clear hb
  go_wp2_with fail
  refine (l02Trim_n _ _ _ _ Hb.out).mono ?_
  rintro e w2 ⟨vy, rfl, ho1, hp, hb⟩
  replace q0 := keep_frozen (w1 := w2) hb c0_0 q0
  replace c0_0 := keep_cell (w1 := w2) hb c0_0
  replace q1 := keep_frozen (w1 := w2) hb c0_1 q1
  replace c0_1 := keep_cell (w1 := w2) hb c0_1
  replace q2 := keep_frozen (w1 := w2) hb c0_2 q2
  replace c0_2 := keep_cell (w1 := w2) hb c0_2
  replace Ha := Lib.hid (Ha.out.below hb (Nat.le_refl _))
  replace Hb := Lib.hid (Hb.out.below hb (Nat.le_refl _))
  replace Hx := Lib.hid (Hx.out.below hb (Nat.le_refl _))
  have Hy := Lib.hid ho1
  clear ho1
  clear hp
  obtain ⟨ay, cy, rfl, -, -, -, -, -⟩ := Hy.out.form
  replace B0 := B0.trans (hb.mono B0.size)
  clear hb
  go_wp2
  exact bodyPost_ret (v := .agg #[.bool false, .slice none 0 0, .slice none 0 0]) (by simp [results, Tryz.results100, go_sem, c0_0, c0_1, c0_2]) rfl (retQ_nil (set3_below (BW.trans (B0.mono BW.size)) (by omega)))

set_option maxHeartbeats 1000000 in
theorem l04Low_oy (w : World) (b1 b2 : Nat) (s : Bool) (v1 v2 : Value) (x : Int) (h1 : Own w b1 v1 (limbs x.natAbs)) (h2 : Own w b2 v2 (limbs 1)) (hl1 : (limbs x.natAbs).length ≤ 900) (hl2 : (limbs 1).length ≤ 900) (hf1 : (limbs x.natAbs).length ≤ 24) (z : Int) (hz : z = x) (hs : x ≠ 0 → s = ng x) :
    Calls Tryz.prog 100 #[.bool s, v1, v2] w (RetQ w z 1) := by
  have BW : Below w.heap.size w (w.alloc (.cells #[.bool false, .slice none 0 0, .slice none 0 0] 27)) := ((Below.refl w.heap.size w).alloc (Nat.le_refl _) _)
  obtain ⟨c0_0, c0_1, c0_2, q0, q1, q2⟩ : World.cell? (w.alloc (.cells #[.bool false, .slice none 0 0, .slice none 0 0] 27)) ⟨w.heap.size, 0, none⟩ = some (.bool false) ∧ World.cell? (w.alloc (.cells #[.bool false, .slice none 0 0, .slice none 0 0] 27)) ⟨w.heap.size, 1, none⟩ = some (.slice none 0 0) ∧ World.cell? (w.alloc (.cells #[.bool false, .slice none 0 0, .slice none 0 0] 27)) ⟨w.heap.size, 2, none⟩ = some (.slice none 0 0) ∧ World.frozen? (w.alloc (.cells #[.bool false, .slice none 0 0, .slice none 0 0] 27)) ⟨w.heap.size, 0, none⟩ = false ∧ World.frozen? (w.alloc (.cells #[.bool false, .slice none 0 0, .slice none 0 0] 27)) ⟨w.heap.size, 1, none⟩ = false ∧ World.frozen? (w.alloc (.cells #[.bool false, .slice none 0 0, .slice none 0 0] 27)) ⟨w.heap.size, 2, none⟩ = false := by simp [go_sem]
  have hg0 : w.heap.size < ((w.alloc (.cells #[.bool false, .slice none 0 0, .slice none 0 0] 27))).heap.size := World.block_lt_of_cell? _ _ c0_0
  have Ha := Lib.hid (h1.below BW (Nat.le_refl _))
  have Hb := Lib.hid (h2.below BW (Nat.le_refl _))
  clear h1 h2
  have dz0 : ((limbs 1).length == 0) = false := by rw [limbs_one]; rfl
  have dy0 : (((limbs 1).length : Int) == 0) = false := by rw [limbs_one]; rfl
  have gx : decide (24 < (limbs x.natAbs).length) = false := decide_eq_false (by omega)
  have gix : decide ((24 : Int) < (limbs x.natAbs).length) = false := decide_eq_false (by omega)
  have gy : decide (24 < (limbs 1).length) = false := decide_eq_false (by rw [limbs_one]; simp)
  have giy : decide ((24 : Int) < (limbs 1).length) = false := decide_eq_false (by rw [limbs_one]; simp)
  have HMK : Hid (z.natAbs = if (limbs x.natAbs).length ≤ 60 then x.natAbs else 0) := fit_len (by rw [hz]) (by omega)
  have HSG : Hid (z ≠ 0 → s = ng z) := by rw [hz]; exact hs
  clear hz hs
  go_enter Tryz.func100, Tryz.ntmps100
  go_wp2_with fail
  generalize (w.alloc (.cells #[.bool false, .slice none 0 0, .slice none 0 0] 27)) = w0 at *
  have B0 := Below.refl w0.heap.size w0
  refine (l02Trim_n _ _ _ _ Ha.out).mono ?_
  rintro e w1 ⟨vx, rfl, ho1, hp, hb⟩
  replace q0 := keep_frozen (w1 := w1) hb c0_0 q0
  replace c0_0 := keep_cell (w1 := w1) hb c0_0
  replace q1 := keep_frozen (w1 := w1) hb c0_1 q1
  replace c0_1 := keep_cell (w1 := w1) hb c0_1
  replace q2 := keep_frozen (w1 := w1) hb c0_2 q2
  replace c0_2 := keep_cell (w1 := w1) hb c0_2
  replace Ha := Lib.hid (Ha.out.below hb (Nat.le_refl _))
  replace Hb := Lib.hid (Hb.out.below hb (Nat.le_refl _))
  have Hx := Lib.hid ho1
  clear ho1
  clear hp
  obtain ⟨ax, cx, rfl, -, -, -, -, -⟩ := Hx.out.form
  replace B0 := B0.trans (hb.mono B0.size)
  clear hb
  go_wp2_with fail
  refine (l02Trim_n _ _ _ _ Hb.out).mono ?_
  rintro e w2 ⟨vy, rfl, ho1, hp, hb⟩
  replace q0 := keep_frozen (w1 := w2) hb c0_0 q0
  replace c0_0 := keep_cell (w1 := w2) hb c0_0
  replace q1 := keep_frozen (w1 := w2) hb c0_1 q1
  replace c0_1 := keep_cell (w1 := w2) hb c0_1
  replace q2 := keep_frozen (w1 := w2) hb c0_2 q2
  replace c0_2 := keep_cell (w1 := w2) hb c0_2
  replace Ha := Lib.hid (Ha.out.below hb (Nat.le_refl _))
  replace Hb := Lib.hid (Hb.out.below hb (Nat.le_refl _))
  replace Hx := Lib.hid (Hx.out.below hb (Nat.le_refl _))
  have Hy := Lib.hid ho1
  clear ho1
  clear hp
  obtain ⟨ay, cy, rfl, -, -, -, -, -⟩ := Hy.out.form
  replace B0 := B0.trans (hb.mono B0.size)
  clear hb
  go_wp2_with fail
  refine (l04One_t _ _ _ Hy.out).mono ?_
  rintro e w3 ⟨rfl, hb⟩
  replace q0 := keep_frozen (w1 := w3) hb c0_0 q0
  replace c0_0 := keep_cell (w1 := w3) hb c0_0
  replace q1 := keep_frozen (w1 := w3) hb c0_1 q1
  replace c0_1 := keep_cell (w1 := w3) hb c0_1
  replace q2 := keep_frozen (w1 := w3) hb c0_2 q2
  replace c0_2 := keep_cell (w1 := w3) hb c0_2
  replace Ha := Lib.hid (Ha.out.below hb (Nat.le_refl _))
  replace Hb := Lib.hid (Hb.out.below hb (Nat.le_refl _))
  replace Hx := Lib.hid (Hx.out.below hb (Nat.le_refl _))
  replace Hy := Lib.hid (Hy.out.below hb (Nat.le_refl _))
  replace B0 := B0.trans (hb.mono B0.size)
  clear hb
  go_wp2_with fail
  refine (l03Make_n _ _ _ _ _ z Hx.out HMK HSG).mono ?_
  rintro e w4 ⟨vr, rfl, ho1, hb⟩
  replace q0 := keep_frozen (w1 := w4) hb c0_0 q0
  replace c0_0 := keep_cell (w1 := w4) hb c0_0
  replace q1 := keep_frozen (w1 := w4) hb c0_1 q1
  replace c0_1 := keep_cell (w1 := w4) hb c0_1
  replace q2 := keep_frozen (w1 := w4) hb c0_2 q2
  replace c0_2 := keep_cell (w1 := w4) hb c0_2
  replace Ha := Lib.hid (Ha.out.below hb (Nat.le_refl _))
  replace Hb := Lib.hid (Hb.out.below hb (Nat.le_refl _))
  replace Hx := Lib.hid (Hx.out.below hb (Nat.le_refl _))
  replace Hy := Lib.hid (Hy.out.below hb (Nat.le_refl _))
  have Hr := Lib.hid (ho1.mono B0.size)
  clear ho1
  obtain ⟨ar, cr, rfl, -, -, -, -, -⟩ := Hr.out.form
  replace B0 := B0.trans (hb.mono B0.size)
  clear hb
  have HL := Lib.hid (Own.lit0 w4)
  go_wp2_with (at_builtin; refine app_own rfl _ _ rfl _ _ w4.heap.size _ [] (limbs 1) rfl rfl HL.out (Hy.out.alloc _) (by simp; omega) (by simp) ?_)
  intro vs w5 hx hg hat
  try rw [List.nil_append] at hx
  have hb := HL.out.grownBelow ((Below.refl _ _).alloc (Nat.le_refl _) _) hg (Nat.le_refl _) (by simp)
  have HAP := apart_lit Hr.out (hx.mono (Nat.le_refl _))
  clear HL hg hat
  replace q0 := keep_frozen (w1 := w5) hb c0_0 q0
  replace c0_0 := keep_cell (w1 := w5) hb c0_0
  replace q1 := keep_frozen (w1 := w5) hb c0_1 q1
  replace c0_1 := keep_cell (w1 := w5) hb c0_1
  replace q2 := keep_frozen (w1 := w5) hb c0_2 q2
  replace c0_2 := keep_cell (w1 := w5) hb c0_2
  replace Ha := Lib.hid (Ha.out.below hb (Nat.le_refl _))
  replace Hb := Lib.hid (Hb.out.below hb (Nat.le_refl _))
  replace Hx := Lib.hid (Hx.out.below hb (Nat.le_refl _))
  replace Hy := Lib.hid (Hy.out.below hb (Nat.le_refl _))
  replace Hr := Lib.hid (Hr.out.below hb (Nat.le_refl _))
  have Hs := Lib.hid (hx.mono B0.size)
  clear hx
  replace B0 := B0.trans (hb.mono B0.size)
  clear hb
  obtain ⟨aS, cS, rfl, -, -, -, -, -⟩ := Hs.out.form
  go_wp2
  exact bodyPost_ret (v := .agg #[.bool (ng z), .slice ar (limbs z.natAbs).length cr, .slice aS (limbs 1).length cS]) (by simp [results, Tryz.results100, go_sem, c0_0, c0_1, c0_2]) rfl (retR_end BW (by omega) hg0 B0 Hr.out Hs.out HAP)

set_option maxHeartbeats 1000000 in
theorem l04Low_o1 (w : World) (b1 b2 : Nat) (s : Bool) (v1 v2 : Value) (x : Int) (h1 : Own w b1 v1 (limbs x.natAbs)) (h2 : Own w b2 v2 (limbs 1)) (hl1 : (limbs x.natAbs).length ≤ 900) (_hl2 : (limbs 1).length ≤ 900) (hf1 : 24 < (limbs x.natAbs).length) :
    Calls Tryz.prog 100 #[.bool s, v1, v2] w (RetQ w 0 0) := by
  have BW : Below w.heap.size w (w.alloc (.cells #[.bool false, .slice none 0 0, .slice none 0 0] 27)) := ((Below.refl w.heap.size w).alloc (Nat.le_refl _) _)
  obtain ⟨c0_0, c0_1, c0_2, q0, q1, q2⟩ : World.cell? (w.alloc (.cells #[.bool false, .slice none 0 0, .slice none 0 0] 27)) ⟨w.heap.size, 0, none⟩ = some (.bool false) ∧ World.cell? (w.alloc (.cells #[.bool false, .slice none 0 0, .slice none 0 0] 27)) ⟨w.heap.size, 1, none⟩ = some (.slice none 0 0) ∧ World.cell? (w.alloc (.cells #[.bool false, .slice none 0 0, .slice none 0 0] 27)) ⟨w.heap.size, 2, none⟩ = some (.slice none 0 0) ∧ World.frozen? (w.alloc (.cells #[.bool false, .slice none 0 0, .slice none 0 0] 27)) ⟨w.heap.size, 0, none⟩ = false ∧ World.frozen? (w.alloc (.cells #[.bool false, .slice none 0 0, .slice none 0 0] 27)) ⟨w.heap.size, 1, none⟩ = false ∧ World.frozen? (w.alloc (.cells #[.bool false, .slice none 0 0, .slice none 0 0] 27)) ⟨w.heap.size, 2, none⟩ = false := by simp [go_sem]
  have hg0 : w.heap.size < ((w.alloc (.cells #[.bool false, .slice none 0 0, .slice none 0 0] 27))).heap.size := World.block_lt_of_cell? _ _ c0_0
  have Ha := Lib.hid (h1.below BW (Nat.le_refl _))
  have Hb := Lib.hid (h2.below BW (Nat.le_refl _))
  clear h1 h2
  have dz0 : ((limbs 1).length == 0) = false := by rw [limbs_one]; rfl
  have dy0 : (((limbs 1).length : Int) == 0) = false := by rw [limbs_one]; rfl
  have gx : decide (24 < (limbs x.natAbs).length) = true := decide_eq_true (by omega)
  have gix : decide ((24 : Int) < (limbs x.natAbs).length) = true := decide_eq_true (by omega)
  go_enter Tryz.func100, Tryz.ntmps100
  go_wp2_with fail
  generalize (w.alloc (.cells #[.bool false, .slice none 0 0, .slice none 0 0] 27)) = w0 at *
  have B0 := Below.refl w0.heap.size w0
  refine (l02Trim_n _ _ _ _ Ha.out).mono ?_
  rintro e w1 ⟨vx, rfl, ho1, hp, hb⟩
  replace q0 := keep_frozen (w1 := w1) hb c0_0 q0
  replace c0_0 := keep_cell (w1 := w1) hb c0_0
  replace q1 := keep_frozen (w1 := w1) hb c0_1 q1
  replace c0_1 := keep_cell (w1 := w1) hb c0_1
  replace q2 := keep_frozen (w1 := w1) hb c0_2 q2
  replace c0_2 := keep_cell (w1 := w1) hb c0_2
  replace Ha := Lib.hid (Ha.out.below hb (Nat.le_refl _))
  replace Hb := Lib.hid (Hb.out.below hb (Nat.le_refl _))
  have Hx := Lib.hid ho1
  clear ho1
  clear hp
  obtain ⟨ax, cx, rfl, -, -, -, -, -⟩ := Hx.out.form
  replace B0 := B0.trans (hb.mono B0.size)
  clear hb
  go_wp2_with fail
  refine (l02Trim_n _ _ _ _ Hb.out).mono ?_
  rintro e w2 ⟨vy, rfl, ho1, hp, hb⟩
  replace q0 := keep_frozen (w1 := w2) hb c0_0 q0
  replace c0_0 := keep_cell (w1 := w2) hb c0_0
  replace q1 := keep_frozen (w1 := w2) hb c0_1 q1
  replace c0_1 := keep_cell (w1 := w2) hb c0_1
  replace q2 := keep_frozen (w1 := w2) hb c0_2 q2
  replace c0_2 := keep_cell (w1 := w2) hb c0_2
  replace Ha := Lib.hid (Ha.out.below hb (Nat.le_refl _))
  replace Hb := Lib.hid (Hb.out.below hb (Nat.le_refl _))
  replace Hx := Lib.hid (Hx.out.below hb (Nat.le_refl _))
  have Hy := Lib.hid ho1
  clear ho1
  clear hp
  obtain ⟨ay, cy, rfl, -, -, -, -, -⟩ := Hy.out.form
  replace B0 := B0.trans (hb.mono B0.size)
  clear hb
  go_wp2_with fail
  refine (l04One_t _ _ _ Hy.out).mono ?_
  rintro e w3 ⟨rfl, hb⟩
  replace q0 := keep_frozen (w1 := w3) hb c0_0 q0
  replace c0_0 := keep_cell (w1 := w3) hb c0_0
  replace q1 := keep_frozen (w1 := w3) hb c0_1 q1
  replace c0_1 := keep_cell (w1 := w3) hb c0_1
  replace q2 := keep_frozen (w1 := w3) hb c0_2 q2
  replace c0_2 := keep_cell (w1 := w3) hb c0_2
  replace Ha := Lib.hid (Ha.out.below hb (Nat.le_refl _))
  replace Hb := Lib.hid (Hb.out.below hb (Nat.le_refl _))
  replace Hx := Lib.hid (Hx.out.below hb (Nat.le_refl _))
  replace Hy := Lib.hid (Hy.out.below hb (Nat.le_refl _))
  replace B0 := B0.trans (hb.mono B0.size)
  clear hb
  go_wp2
  exact bodyPost_ret (v := .agg #[.bool false, .slice none 0 0, .slice none 0 0]) (by simp [results, Tryz.results100, go_sem, c0_0, c0_1, c0_2]) rfl (retQ_nil (set3_below (BW.trans (B0.mono BW.size)) (by omega)))

set_option maxHeartbeats 1000000 in
theorem l04Low_1y (w : World) (b1 b2 : Nat) (s : Bool) (v1 v2 : Value) (x : Int) (d : Nat) (h1 : Own w b1 v1 (limbs x.natAbs)) (h2 : Own w b2 v2 (limbs d)) (hl1 : (limbs x.natAbs).length ≤ 900) (hl2 : (limbs d).length ≤ 900) (hd : 0 < d) (hd1 : d ≠ 1) (hg : 1 = Nat.gcd x.natAbs d) (hf1 : (limbs x.natAbs).length ≤ 24) (hf2 : (limbs d).length ≤ 24) (z : Int) (hz : z = x) (hs : x ≠ 0 → s = ng x) :
    Calls Tryz.prog 100 #[.bool s, v1, v2] w (RetQ w z d) := by
  have BW : Below w.heap.size w (w.alloc (.cells #[.bool false, .slice none 0 0, .slice none 0 0] 27)) := ((Below.refl w.heap.size w).alloc (Nat.le_refl _) _)
  obtain ⟨c0_0, c0_1, c0_2, q0, q1, q2⟩ : World.cell? (w.alloc (.cells #[.bool false, .slice none 0 0, .slice none 0 0] 27)) ⟨w.heap.size, 0, none⟩ = some (.bool false) ∧ World.cell? (w.alloc (.cells #[.bool false, .slice none 0 0, .slice none 0 0] 27)) ⟨w.heap.size, 1, none⟩ = some (.slice none 0 0) ∧ World.cell? (w.alloc (.cells #[.bool false, .slice none 0 0, .slice none 0 0] 27)) ⟨w.heap.size, 2, none⟩ = some (.slice none 0 0) ∧ World.frozen? (w.alloc (.cells #[.bool false, .slice none 0 0, .slice none 0 0] 27)) ⟨w.heap.size, 0, none⟩ = false ∧ World.frozen? (w.alloc (.cells #[.bool false, .slice none 0 0, .slice none 0 0] 27)) ⟨w.heap.size, 1, none⟩ = false ∧ World.frozen? (w.alloc (.cells #[.bool false, .slice none 0 0, .slice none 0 0] 27)) ⟨w.heap.size, 2, none⟩ = false := by simp [go_sem]
  have hg0 : w.heap.size < ((w.alloc (.cells #[.bool false, .slice none 0 0, .slice none 0 0] 27))).heap.size := World.block_lt_of_cell? _ _ c0_0
  have Ha := Lib.hid (h1.below BW (Nat.le_refl _))
  have Hb := Lib.hid (h2.below BW (Nat.le_refl _))
  clear h1 h2
  have dz0 : ((limbs d).length == 0) = false := beq_eq_false_iff_ne.2 (by have := limbs_len_pos.2 hd; omega)
  have dy0 : (((limbs d).length : Int) == 0) = false := beq_eq_false_iff_ne.2 (by have := limbs_len_pos.2 hd; omega)
  have HD := Lib.hid hd
  have HG := Lib.hid hg
  have gx : decide (24 < (limbs x.natAbs).length) = false := decide_eq_false (by omega)
  have gix : decide ((24 : Int) < (limbs x.natAbs).length) = false := decide_eq_false (by omega)
  have gy : decide (24 < (limbs d).length) = false := decide_eq_false (by omega)
  have giy : decide ((24 : Int) < (limbs d).length) = false := decide_eq_false (by omega)
  have HMK : Hid (z.natAbs = if (limbs x.natAbs).length ≤ 60 then x.natAbs else 0) := fit_len (by rw [hz]) (by omega)
  have HSG : Hid (z ≠ 0 → s = ng z) := by rw [hz]; exact hs
  clear hd hg hz hs
  go_enter Tryz.func100, Tryz.ntmps100
  go_wp2_with fail
  generalize (w.alloc (.cells #[.bool false, .slice none 0 0, .slice none 0 0] 27)) = w0 at *
  have B0 := Below.refl w0.heap.size w0
  refine (l02Trim_n _ _ _ _ Ha.out).mono ?_
  rintro e w1 ⟨vx, rfl, ho1, hp, hb⟩
  replace q0 := keep_frozen (w1 := w1) hb c0_0 q0
  replace c0_0 := keep_cell (w1 := w1) hb c0_0
  replace q1 := keep_frozen (w1 := w1) hb c0_1 q1
  replace c0_1 := keep_cell (w1 := w1) hb c0_1
  replace q2 := keep_frozen (w1 := w1) hb c0_2 q2
  replace c0_2 := keep_cell (w1 := w1) hb c0_2
  replace Ha := Lib.hid (Ha.out.below hb (Nat.le_refl _))
  replace Hb := Lib.hid (Hb.out.below hb (Nat.le_refl _))
  have Hx := Lib.hid ho1
  clear ho1
  clear hp
  obtain ⟨ax, cx, rfl, -, -, -, -, -⟩ := Hx.out.form
  replace B0 := B0.trans (hb.mono B0.size)
  clear hb
  go_wp2_with fail
  refine (l02Trim_n _ _ _ _ Hb.out).mono ?_
  rintro e w2 ⟨vy, rfl, ho1, hp, hb⟩
  replace q0 := keep_frozen (w1 := w2) hb c0_0 q0
  replace c0_0 := keep_cell (w1 := w2) hb c0_0
  replace q1 := keep_frozen (w1 := w2) hb c0_1 q1
  replace c0_1 := keep_cell (w1 := w2) hb c0_1
  replace q2 := keep_frozen (w1 := w2) hb c0_2 q2
  replace c0_2 := keep_cell (w1 := w2) hb c0_2
  replace Ha := Lib.hid (Ha.out.below hb (Nat.le_refl _))
  replace Hb := Lib.hid (Hb.out.below hb (Nat.le_refl _))
  replace Hx := Lib.hid (Hx.out.below hb (Nat.le_refl _))
  have Hy := Lib.hid ho1
  clear ho1
  clear hp
  obtain ⟨ay, cy, rfl, -, -, -, -, -⟩ := Hy.out.form
  replace B0 := B0.trans (hb.mono B0.size)
  clear hb
  go_wp2_with fail
  refine (l04One_f _ _ _ d Hy.out hd1).mono ?_
  rintro e w3 ⟨rfl, hb⟩
  replace q0 := keep_frozen (w1 := w3) hb c0_0 q0
  replace c0_0 := keep_cell (w1 := w3) hb c0_0
  replace q1 := keep_frozen (w1 := w3) hb c0_1 q1
  replace c0_1 := keep_cell (w1 := w3) hb c0_1
  replace q2 := keep_frozen (w1 := w3) hb c0_2 q2
  replace c0_2 := keep_cell (w1 := w3) hb c0_2
  replace Ha := Lib.hid (Ha.out.below hb (Nat.le_refl _))
  replace Hb := Lib.hid (Hb.out.below hb (Nat.le_refl _))
  replace Hx := Lib.hid (Hx.out.below hb (Nat.le_refl _))
  replace Hy := Lib.hid (Hy.out.below hb (Nat.le_refl _))
  replace B0 := B0.trans (hb.mono B0.size)
  clear hb
  go_wp2_with fail
  refine (gcd_s _ _ _ _ _ x.natAbs d Hx.out Hy.out hl1 hl2 1 HG).mono ?_
  rintro e w4 ⟨vg, rfl, ho1, hb⟩
  replace q0 := keep_frozen (w1 := w4) hb c0_0 q0
  replace c0_0 := keep_cell (w1 := w4) hb c0_0
  replace q1 := keep_frozen (w1 := w4) hb c0_1 q1
  replace c0_1 := keep_cell (w1 := w4) hb c0_1
  replace q2 := keep_frozen (w1 := w4) hb c0_2 q2
  replace c0_2 := keep_cell (w1 := w4) hb c0_2
  replace Ha := Lib.hid (Ha.out.below hb (Nat.le_refl _))
  replace Hb := Lib.hid (Hb.out.below hb (Nat.le_refl _))
  replace Hx := Lib.hid (Hx.out.below hb (Nat.le_refl _))
  replace Hy := Lib.hid (Hy.out.below hb (Nat.le_refl _))
  have Hg := Lib.hid (ho1.mono B0.size)
  clear ho1
  replace B0 := B0.trans (hb.mono B0.size)
  clear hb
  go_wp2_with fail
  refine (l04One_t _ _ _ Hg.out).mono ?_
  rintro e w5 ⟨rfl, hb⟩
  replace q0 := keep_frozen (w1 := w5) hb c0_0 q0
  replace c0_0 := keep_cell (w1 := w5) hb c0_0
  replace q1 := keep_frozen (w1 := w5) hb c0_1 q1
  replace c0_1 := keep_cell (w1 := w5) hb c0_1
  replace q2 := keep_frozen (w1 := w5) hb c0_2 q2
  replace c0_2 := keep_cell (w1 := w5) hb c0_2
  replace Ha := Lib.hid (Ha.out.below hb (Nat.le_refl _))
  replace Hb := Lib.hid (Hb.out.below hb (Nat.le_refl _))
  replace Hx := Lib.hid (Hx.out.below hb (Nat.le_refl _))
  replace Hy := Lib.hid (Hy.out.below hb (Nat.le_refl _))
  replace Hg := Lib.hid (Hg.out.below hb (Nat.le_refl _))
  replace B0 := B0.trans (hb.mono B0.size)
  clear hb
  go_wp2_with fail
  refine (l03Make_n _ _ _ _ _ z Hx.out HMK HSG).mono ?_
  rintro e w6 ⟨vr, rfl, ho1, hb⟩
  replace q0 := keep_frozen (w1 := w6) hb c0_0 q0
  replace c0_0 := keep_cell (w1 := w6) hb c0_0
  replace q1 := keep_frozen (w1 := w6) hb c0_1 q1
  replace c0_1 := keep_cell (w1 := w6) hb c0_1
  replace q2 := keep_frozen (w1 := w6) hb c0_2 q2
  replace c0_2 := keep_cell (w1 := w6) hb c0_2
  replace Ha := Lib.hid (Ha.out.below hb (Nat.le_refl _))
  replace Hb := Lib.hid (Hb.out.below hb (Nat.le_refl _))
  replace Hx := Lib.hid (Hx.out.below hb (Nat.le_refl _))
  replace Hy := Lib.hid (Hy.out.below hb (Nat.le_refl _))
  replace Hg := Lib.hid (Hg.out.below hb (Nat.le_refl _))
  have Hr := Lib.hid (ho1.mono B0.size)
  clear ho1
  obtain ⟨ar, cr, rfl, -, -, -, -, -⟩ := Hr.out.form
  replace B0 := B0.trans (hb.mono B0.size)
  clear hb
  have HL := Lib.hid (Own.lit0 w6)
  go_wp2_with (at_builtin; refine app_own rfl _ _ rfl _ _ w6.heap.size _ [] (limbs d) rfl rfl HL.out (Hy.out.alloc _) (by simp; omega) (by simp) ?_)
  intro vs w7 hx hg hat
  try rw [List.nil_append] at hx
  have hb := HL.out.grownBelow ((Below.refl _ _).alloc (Nat.le_refl _) _) hg (Nat.le_refl _) (by simp)
  have HAP := apart_lit Hr.out (hx.mono (Nat.le_refl _))
  clear HL hg hat
  replace q0 := keep_frozen (w1 := w7) hb c0_0 q0
  replace c0_0 := keep_cell (w1 := w7) hb c0_0
  replace q1 := keep_frozen (w1 := w7) hb c0_1 q1
  replace c0_1 := keep_cell (w1 := w7) hb c0_1
  replace q2 := keep_frozen (w1 := w7) hb c0_2 q2
  replace c0_2 := keep_cell (w1 := w7) hb c0_2
  replace Ha := Lib.hid (Ha.out.below hb (Nat.le_refl _))
  replace Hb := Lib.hid (Hb.out.below hb (Nat.le_refl _))
  replace Hx := Lib.hid (Hx.out.below hb (Nat.le_refl _))
  replace Hy := Lib.hid (Hy.out.below hb (Nat.le_refl _))
  replace Hg := Lib.hid (Hg.out.below hb (Nat.le_refl _))
  replace Hr := Lib.hid (Hr.out.below hb (Nat.le_refl _))
  have Hs := Lib.hid (hx.mono B0.size)
  clear hx
  replace B0 := B0.trans (hb.mono B0.size)
  clear hb
  obtain ⟨aS, cS, rfl, -, -, -, -, -⟩ := Hs.out.form
  go_wp2
  exact bodyPost_ret (v := .agg #[.bool (ng z), .slice ar (limbs z.natAbs).length cr, .slice aS (limbs d).length cS]) (by simp [results, Tryz.results100, go_sem, c0_0, c0_1, c0_2]) rfl (retR_end BW (by omega) hg0 B0 Hr.out Hs.out HAP)

set_option maxHeartbeats 1000000 in
theorem l04Low_11 (w : World) (b1 b2 : Nat) (s : Bool) (v1 v2 : Value) (x : Int) (d : Nat) (h1 : Own w b1 v1 (limbs x.natAbs)) (h2 : Own w b2 v2 (limbs d)) (hl1 : (limbs x.natAbs).length ≤ 900) (hl2 : (limbs d).length ≤ 900) (hd : 0 < d) (hd1 : d ≠ 1) (hg : 1 = Nat.gcd x.natAbs d) (hf1 : 24 < (limbs x.natAbs).length) :
    Calls Tryz.prog 100 #[.bool s, v1, v2] w (RetQ w 0 0) := by
  have BW : Below w.heap.size w (w.alloc (.cells #[.bool false, .slice none 0 0, .slice none 0 0] 27)) := ((Below.refl w.heap.size w).alloc (Nat.le_refl _) _)
  obtain ⟨c0_0, c0_1, c0_2, q0, q1, q2⟩ : World.cell? (w.alloc (.cells #[.bool false, .slice none 0 0, .slice none 0 0] 27)) ⟨w.heap.size, 0, none⟩ = some (.bool false) ∧ World.cell? (w.alloc (.cells #[.bool false, .slice none 0 0, .slice none 0 0] 27)) ⟨w.heap.size, 1, none⟩ = some (.slice none 0 0) ∧ World.cell? (w.alloc (.cells #[.bool false, .slice none 0 0, .slice none 0 0] 27)) ⟨w.heap.size, 2, none⟩ = some (.slice none 0 0) ∧ World.frozen? (w.alloc (.cells #[.bool false, .slice none 0 0, .slice none 0 0] 27)) ⟨w.heap.size, 0, none⟩ = false ∧ World.frozen? (w.alloc (.cells #[.bool false, .slice none 0 0, .slice none 0 0] 27)) ⟨w.heap.size, 1, none⟩ = false ∧ World.frozen? (w.alloc (.cells #[.bool false, .slice none 0 0, .slice none 0 0] 27)) ⟨w.heap.size, 2, none⟩ = false := by simp [go_sem]
  have hg0 : w.heap.size < ((w.alloc (.cells #[.bool false, .slice none 0 0, .slice none 0 0] 27))).heap.size := World.block_lt_of_cell? _ _ c0_0
  have Ha := Lib.hid (h1.below BW (Nat.le_refl _))
  have Hb := Lib.hid (h2.below BW (Nat.le_refl _))
  clear h1 h2
  have dz0 : ((limbs d).length == 0) = false := beq_eq_false_iff_ne.2 (by have := limbs_len_pos.2 hd; omega)
  have dy0 : (((limbs d).length : Int) == 0) = false := beq_eq_false_iff_ne.2 (by have := limbs_len_pos.2 hd; omega)
  have HD := Lib.hid hd
  have HG := Lib.hid hg
  have gx : decide (24 < (limbs x.natAbs).length) = true := decide_eq_true (by omega)
  have gix : decide ((24 : Int) < (limbs x.natAbs).length) = true := decide_eq_true (by omega)
  clear hd hg
  go_enter Tryz.func100, Tryz.ntmps100
  go_wp2_with fail
  generalize (w.alloc (.cells #[.bool false, .slice none 0 0, .slice none 0 0] 27)) = w0 at *
  have B0 := Below.refl w0.heap.size w0
  refine (l02Trim_n _ _ _ _ Ha.out).mono ?_
  rintro e w1 ⟨vx, rfl, ho1, hp, hb⟩
  replace q0 := keep_frozen (w1 := w1) hb c0_0 q0
  replace c0_0 := keep_cell (w1 := w1) hb c0_0
  replace q1 := keep_frozen (w1 := w1) hb c0_1 q1
  replace c0_1 := keep_cell (w1 := w1) hb c0_1
  replace q2 := keep_frozen (w1 := w1) hb c0_2 q2
  replace c0_2 := keep_cell (w1 := w1) hb c0_2
  replace Ha := Lib.hid (Ha.out.below hb (Nat.le_refl _))
  replace Hb := Lib.hid (Hb.out.below hb (Nat.le_refl _))
  have Hx := Lib.hid ho1
  clear ho1
  clear hp
  obtain ⟨ax, cx, rfl, -, -, -, -, -⟩ := Hx.out.form
  replace B0 := B0.trans (hb.mono B0.size)
  clear hb
  go_wp2_with fail
  refine (l02Trim_n _ _ _ _ Hb.out).mono ?_
  rintro e w2 ⟨vy, rfl, ho1, hp, hb⟩
  replace q0 := keep_frozen (w1 := w2) hb c0_0 q0
  replace c0_0 := keep_cell (w1 := w2) hb c0_0
  replace q1 := keep_frozen (w1 := w2) hb c0_1 q1
  replace c0_1 := keep_cell (w1 := w2) hb c0_1
  replace q2 := keep_frozen (w1 := w2) hb c0_2 q2
  replace c0_2 := keep_cell (w1 := w2) hb c0_2
  replace Ha := Lib.hid (Ha.out.below hb (Nat.le_refl _))
  replace Hb := Lib.hid (Hb.out.below hb (Nat.le_refl _))
  replace Hx := Lib.hid (Hx.out.below hb (Nat.le_refl _))
  have Hy := Lib.hid ho1
  clear ho1
  clear hp
  obtain ⟨ay, cy, rfl, -, -, -, -, -⟩ := Hy.out.form
  replace B0 := B0.trans (hb.mono B0.size)
  clear hb
  go_wp2_with fail
  refine (l04One_f _ _ _ d Hy.out hd1).mono ?_
  rintro e w3 ⟨rfl, hb⟩
  replace q0 := keep_frozen (w1 := w3) hb c0_0 q0
  replace c0_0 := keep_cell (w1 := w3) hb c0_0
  replace q1 := keep_frozen (w1 := w3) hb c0_1 q1
  replace c0_1 := keep_cell (w1 := w3) hb c0_1
  replace q2 := keep_frozen (w1 := w3) hb c0_2 q2
  replace c0_2 := keep_cell (w1 := w3) hb c0_2
  replace Ha := Lib.hid (Ha.out.below hb (Nat.le_refl _))
  replace Hb := Lib.hid (Hb.out.below hb (Nat.le_refl _))
  replace Hx := Lib.hid (Hx.out.below hb (Nat.le_refl _))
  replace Hy := Lib.hid (Hy.out.below hb (Nat.le_refl _))
  replace B0 := B0.trans (hb.mono B0.size)
  clear hb
  go_wp2_with fail
  refine (gcd_s _ _ _ _ _ x.natAbs d Hx.out Hy.out hl1 hl2 1 HG).mono ?_
  rintro e w4 ⟨vg, rfl, ho1, hb⟩
  replace q0 := keep_frozen (w1 := w4) hb c0_0 q0
  replace c0_0 := keep_cell (w1 := w4) hb c0_0
  replace q1 := keep_frozen (w1 := w4) hb c0_1 q1
  replace c0_1 := keep_cell (w1 := w4) hb c0_1
  replace q2 := keep_frozen (w1 := w4) hb c0_2 q2
  replace c0_2 := keep_cell (w1 := w4) hb c0_2
  replace Ha := Lib.hid (Ha.out.below hb (Nat.le_refl _))
  replace Hb := Lib.hid (Hb.out.below hb (Nat.le_refl _))
  replace Hx := Lib.hid (Hx.out.below hb (Nat.le_refl _))
  replace Hy := Lib.hid (Hy.out.below hb (Nat.le_refl _))
  have Hg := Lib.hid (ho1.mono B0.size)
  clear ho1
  replace B0 := B0.trans (hb.mono B0.size)
  clear hb
  go_wp2_with fail
  refine (l04One_t _ _ _ Hg.out).mono ?_
  rintro e w5 ⟨rfl, hb⟩
  replace q0 := keep_frozen (w1 := w5) hb c0_0 q0
  replace c0_0 := keep_cell (w1 := w5) hb c0_0
  replace q1 := keep_frozen (w1 := w5) hb c0_1 q1
  replace c0_1 := keep_cell (w1 := w5) hb c0_1
  replace q2 := keep_frozen (w1 := w5) hb c0_2 q2
  replace c0_2 := keep_cell (w1 := w5) hb c0_2
  replace Ha := Lib.hid (Ha.out.below hb (Nat.le_refl _))
  replace Hb := Lib.hid (Hb.out.below hb (Nat.le_refl _))
  replace Hx := Lib.hid (Hx.out.below hb (Nat.le_refl _))
  replace Hy := Lib.hid (Hy.out.below hb (Nat.le_refl _))
  replace Hg := Lib.hid (Hg.out.below hb (Nat.le_refl _))
  replace B0 := B0.trans (hb.mono B0.size)
  clear hb
  go_wp2
  exact bodyPost_ret (v := .agg #[.bool false, .slice none 0 0, .slice none 0 0]) (by simp [results, Tryz.results100, go_sem, c0_0, c0_1, c0_2]) rfl (retQ_nil (set3_below (BW.trans (B0.mono BW.size)) (by omega)))

set_option maxHeartbeats 1000000 in
theorem l04Low_12 (w : World) (b1 b2 : Nat) (s : Bool) (v1 v2 : Value) (x : Int) (d : Nat) (h1 : Own w b1 v1 (limbs x.natAbs)) (h2 : Own w b2 v2 (limbs d)) (hl1 : (limbs x.natAbs).length ≤ 900) (hl2 : (limbs d).length ≤ 900) (hd : 0 < d) (hd1 : d ≠ 1) (hg : 1 = Nat.gcd x.natAbs d) (hf1 : (limbs x.natAbs).length ≤ 24) (hf2 : 24 < (limbs d).length) :
    Calls Tryz.prog 100 #[.bool s, v1, v2] w (RetQ w 0 0) := by
  have BW : Below w.heap.size w (w.alloc (.cells #[.bool false, .slice none 0 0, .slice none 0 0] 27)) := ((Below.refl w.heap.size w).alloc (Nat.le_refl _) _)
  obtain ⟨c0_0, c0_1, c0_2, q0, q1, q2⟩ : World.cell? (w.alloc (.cells #[.bool false, .slice none 0 0, .slice none 0 0] 27)) ⟨w.heap.size, 0, none⟩ = some (.bool false) ∧ World.cell? (w.alloc (.cells #[.bool false, .slice none 0 0, .slice none 0 0] 27)) ⟨w.heap.size, 1, none⟩ = some (.slice none 0 0) ∧ World.cell? (w.alloc (.cells #[.bool false, .slice none 0 0, .slice none 0 0] 27)) ⟨w.heap.size, 2, none⟩ = some (.slice none 0 0) ∧ World.frozen? (w.alloc (.cells #[.bool false, .slice none 0 0, .slice none 0 0] 27)) ⟨w.heap.size, 0, none⟩ = false ∧ World.frozen? (w.alloc (.cells #[.bool false, .slice none 0 0, .slice none 0 0] 27)) ⟨w.heap.size, 1, none⟩ = false ∧ World.frozen? (w.alloc (.cells #[.bool false, .slice none 0 0, .slice none 0 0] 27)) ⟨w.heap.size, 2, none⟩ = false := by simp [go_sem]
  have hg0 : w.heap.size < ((w.alloc (.cells #[.bool false, .slice none 0 0, .slice none 0 0] 27))).heap.size := World.block_lt_of_cell? _ _ c0_0
  have Ha := Lib.hid (h1.below BW (Nat.le_refl _))
  have Hb := Lib.hid (h2.below BW (Nat.le_refl _))
  clear h1 h2
  have dz0 : ((limbs d).length == 0) = false := beq_eq_false_iff_ne.2 (by have := limbs_len_pos.2 hd; omega)
  have dy0 : (((limbs d).length : Int) == 0) = false := beq_eq_false_iff_ne.2 (by have := limbs_len_pos.2 hd; omega)
  have HD := Lib.hid hd
  have HG := Lib.hid hg
  have gx : decide (24 < (limbs x.natAbs).length) = false := decide_eq_false (by omega)
  have gix : decide ((24 : Int) < (limbs x.natAbs).length) = false := decide_eq_false (by omega)
  have gy : decide (24 < (limbs d).length) = true := decide_eq_true (by omega)
  have giy : decide ((24 : Int) < (limbs d).length) = true := decide_eq_true (by omega)
  clear hd hg
  go_enter Tryz.func100, Tryz.ntmps100
  go_wp2_with fail
  generalize (w.alloc (.cells #[.bool false, .slice none 0 0, .slice none 0 0] 27)) = w0 at *
  have B0 := Below.refl w0.heap.size w0
  refine (l02Trim_n _ _ _ _ Ha.out).mono ?_
  rintro e w1 ⟨vx, rfl, ho1, hp, hb⟩
  replace q0 := keep_frozen (w1 := w1) hb c0_0 q0
  replace c0_0 := keep_cell (w1 := w1) hb c0_0
  replace q1 := keep_frozen (w1 := w1) hb c0_1 q1
  replace c0_1 := keep_cell (w1 := w1) hb c0_1
  replace q2 := keep_frozen (w1 := w1) hb c0_2 q2
  replace c0_2 := keep_cell (w1 := w1) hb c0_2
  replace Ha := Lib.hid (Ha.out.below hb (Nat.le_refl _))
  replace Hb := Lib.hid (Hb.out.below hb (Nat.le_refl _))
  have Hx := Lib.hid ho1
  clear ho1
  clear hp
  obtain ⟨ax, cx, rfl, -, -, -, -, -⟩ := Hx.out.form
  replace B0 := B0.trans (hb.mono B0.size)
  clear hb
  go_wp2_with fail
  refine (l02Trim_n _ _ _ _ Hb.out).mono ?_
  rintro e w2 ⟨vy, rfl, ho1, hp, hb⟩
  replace q0 := keep_frozen (w1 := w2) hb c0_0 q0
  replace c0_0 := keep_cell (w1 := w2) hb c0_0
  replace q1 := keep_frozen (w1 := w2) hb c0_1 q1
  replace c0_1 := keep_cell (w1 := w2) hb c0_1
  replace q2 := keep_frozen (w1 := w2) hb c0_2 q2
  replace c0_2 := keep_cell (w1 := w2) hb c0_2
  replace Ha := Lib.hid (Ha.out.below hb (Nat.le_refl _))
  replace Hb := Lib.hid (Hb.out.below hb (Nat.le_refl _))
  replace Hx := Lib.hid (Hx.out.below hb (Nat.le_refl _))
  have Hy := Lib.hid ho1
  clear ho1
  clear hp
  obtain ⟨ay, cy, rfl, -, -, -, -, -⟩ := Hy.out.form
  replace B0 := B0.trans (hb.mono B0.size)
  clear hb
  go_wp2_with fail
  refine (l04One_f _ _ _ d Hy.out hd1).mono ?_
  rintro e w3 ⟨rfl, hb⟩
  replace q0 := keep_frozen (w1 := w3) hb c0_0 q0
  replace c0_0 := keep_cell (w1 := w3) hb c0_0
  replace q1 := keep_frozen (w1 := w3) hb c0_1 q1
  replace c0_1 := keep_cell (w1 := w3) hb c0_1
  replace q2 := keep_frozen (w1 := w3) hb c0_2 q2
  replace c0_2 := keep_cell (w1 := w3) hb c0_2
  replace Ha := Lib.hid (Ha.out.below hb (Nat.le_refl _))
  replace Hb := Lib.hid (Hb.out.below hb (Nat.le_refl _))
  replace Hx := Lib.hid (Hx.out.below hb (Nat.le_refl _))
  replace Hy := Lib.hid (Hy.out.below hb (Nat.le_refl _))
  replace B0 := B0.trans (hb.mono B0.size)
  clear hb
  go_wp2_with fail
  refine (gcd_s _ _ _ _ _ x.natAbs d Hx.out Hy.out hl1 hl2 1 HG).mono ?_
  rintro e w4 ⟨vg, rfl, ho1, hb⟩
  replace q0 := keep_frozen (w1 := w4) hb c0_0 q0
  replace c0_0 := keep_cell (w1 := w4) hb c0_0
  replace q1 := keep_frozen (w1 := w4) hb c0_1 q1
  replace c0_1 := keep_cell (w1 := w4) hb c0_1
  replace q2 := keep_frozen (w1 := w4) hb c0_2 q2
  replace c0_2 := keep_cell (w1 := w4) hb c0_2
  replace Ha := Lib.hid (Ha.out.below hb (Nat.le_refl _))
  replace Hb := Lib.hid (Hb.out.below hb (Nat.le_refl _))
  replace Hx := Lib.hid (Hx.out.below hb (Nat.le_refl _))
  replace Hy := Lib.hid (Hy.out.below hb (Nat.le_refl _))
  have Hg := Lib.hid (ho1.mono B0.size)
  clear ho1
  replace B0 := B0.trans (hb.mono B0.size)
  clear hb
  go_wp2_with fail
  refine (l04One_t _ _ _ Hg.out).mono ?_
  rintro e w5 ⟨rfl, hb⟩
  replace q0 := keep_frozen (w1 := w5) hb c0_0 q0
  replace c0_0 := keep_cell (w1 := w5) hb c0_0
  replace q1 := keep_frozen (w1 := w5) hb c0_1 q1
  replace c0_1 := keep_cell (w1 := w5) hb c0_1
  replace q2 := keep_frozen (w1 := w5) hb c0_2 q2
  replace c0_2 := keep_cell (w1 := w5) hb c0_2
  replace Ha := Lib.hid (Ha.out.below hb (Nat.le_refl _))
  replace Hb := Lib.hid (Hb.out.below hb (Nat.le_refl _))
  replace Hx := Lib.hid (Hx.out.below hb (Nat.le_refl _))
  replace Hy := Lib.hid (Hy.out.below hb (Nat.le_refl _))
  replace Hg := Lib.hid (Hg.out.below hb (Nat.le_refl _))
  replace B0 := B0.trans (hb.mono B0.size)
  clear hb
  go_wp2
  exact bodyPost_ret (v := .agg #[.bool false, .slice none 0 0, .slice none 0 0]) (by simp [results, Tryz.results100, go_sem, c0_0, c0_1, c0_2]) rfl (retQ_nil (set3_below (BW.trans (B0.mono BW.size)) (by omega)))

set_option maxHeartbeats 1000000 in
theorem l04Low_gy (w : World) (b1 b2 : Nat) (s : Bool) (v1 v2 : Value) (x : Int) (d : Nat) (h1 : Own w b1 v1 (limbs x.natAbs)) (h2 : Own w b2 v2 (limbs d)) (hl1 : (limbs x.natAbs).length ≤ 900) (hl2 : (limbs d).length ≤ 900) (hd : 0 < d) (hd1 : d ≠ 1) (g m : Nat) (z : Int) (hg : g = Nat.gcd x.natAbs d) (hg1 : g ≠ 1) (hn : z.natAbs = x.natAbs / g) (hm : m = d / g) (hf1 : (limbs z.natAbs).length ≤ 24) (hf2 : (limbs m).length ≤ 24) (hs : z ≠ 0 → s = ng z) :
    Calls Tryz.prog 100 #[.bool s, v1, v2] w (RetQ w z m) := by
  have BW : Below w.heap.size w (w.alloc (.cells #[.bool false, .slice none 0 0, .slice none 0 0] 27)) := ((Below.refl w.heap.size w).alloc (Nat.le_refl _) _)
  obtain ⟨c0_0, c0_1, c0_2, q0, q1, q2⟩ : World.cell? (w.alloc (.cells #[.bool false, .slice none 0 0, .slice none 0 0] 27)) ⟨w.heap.size, 0, none⟩ = some (.bool false) ∧ World.cell? (w.alloc (.cells #[.bool false, .slice none 0 0, .slice none 0 0] 27)) ⟨w.heap.size, 1, none⟩ = some (.slice none 0 0) ∧ World.cell? (w.alloc (.cells #[.bool false, .slice none 0 0, .slice none 0 0] 27)) ⟨w.heap.size, 2, none⟩ = some (.slice none 0 0) ∧ World.frozen? (w.alloc (.cells #[.bool false, .slice none 0 0, .slice none 0 0] 27)) ⟨w.heap.size, 0, none⟩ = false ∧ World.frozen? (w.alloc (.cells #[.bool false, .slice none 0 0, .slice none 0 0] 27)) ⟨w.heap.size, 1, none⟩ = false ∧ World.frozen? (w.alloc (.cells #[.bool false, .slice none 0 0, .slice none 0 0] 27)) ⟨w.heap.size, 2, none⟩ = false := by simp [go_sem]
  have hg0 : w.heap.size < ((w.alloc (.cells #[.bool false, .slice none 0 0, .slice none 0 0] 27))).heap.size := World.block_lt_of_cell? _ _ c0_0
  have Ha := Lib.hid (h1.below BW (Nat.le_refl _))
  have Hb := Lib.hid (h2.below BW (Nat.le_refl _))
  clear h1 h2
  have dz0 : ((limbs d).length == 0) = false := beq_eq_false_iff_ne.2 (by have := limbs_len_pos.2 hd; omega)
  have dy0 : (((limbs d).length : Int) == 0) = false := beq_eq_false_iff_ne.2 (by have := limbs_len_pos.2 hd; omega)
  have HD := Lib.hid hd
  have HG := Lib.hid hg
  have gx : decide (24 < (limbs z.natAbs).length) = false := decide_eq_false (by omega)
  have gix : decide ((24 : Int) < (limbs z.natAbs).length) = false := decide_eq_false (by omega)
  have gy : decide (24 < (limbs m).length) = false := decide_eq_false (by omega)
  have giy : decide ((24 : Int) < (limbs m).length) = false := decide_eq_false (by omega)
  have HN : Hid (z.natAbs = x.natAbs / g) := hn
  have HM : Hid (m = d / g) := hm
  have hgp : 0 < g := by rw [hg]; exact Nat.gcd_pos_of_pos_right _ hd
  have hgl : (limbs g).length ≤ 900 := by rw [hg]; exact Nat.le_trans (limbs_len_mono (Nat.gcd_le_right _ hd)) hl2
  have HMK : Hid (z.natAbs = if (limbs z.natAbs).length ≤ 60 then z.natAbs else 0) := fit_len rfl (by omega)
  have HSG : Hid (z ≠ 0 → s = ng z) := hs
  clear hd hg hn hm hs
  go_enter Tryz.func100, Tryz.ntmps100
  go_wp2_with fail
  generalize (w.alloc (.cells #[.bool false, .slice none 0 0, .slice none 0 0] 27)) = w0 at *
  have B0 := Below.refl w0.heap.size w0
  refine (l02Trim_n _ _ _ _ Ha.out).mono ?_
  rintro e w1 ⟨vx, rfl, ho1, hp, hb⟩
  replace q0 := keep_frozen (w1 := w1) hb c0_0 q0
  replace c0_0 := keep_cell (w1 := w1) hb c0_0
  replace q1 := keep_frozen (w1 := w1) hb c0_1 q1
  replace c0_1 := keep_cell (w1 := w1) hb c0_1
  replace q2 := keep_frozen (w1 := w1) hb c0_2 q2
  replace c0_2 := keep_cell (w1 := w1) hb c0_2
  replace Ha := Lib.hid (Ha.out.below hb (Nat.le_refl _))
  replace Hb := Lib.hid (Hb.out.below hb (Nat.le_refl _))
  have Hx := Lib.hid ho1
  clear ho1
  clear hp
  obtain ⟨ax, cx, rfl, -, -, -, -, -⟩ := Hx.out.form
  replace B0 := B0.trans (hb.mono B0.size)
  clear hb
  go_wp2_with fail
  refine (l02Trim_n _ _ _ _ Hb.out).mono ?_
  rintro e w2 ⟨vy, rfl, ho1, hp, hb⟩
  replace q0 := keep_frozen (w1 := w2) hb c0_0 q0
  replace c0_0 := keep_cell (w1 := w2) hb c0_0
  replace q1 := keep_frozen (w1 := w2) hb c0_1 q1
  replace c0_1 := keep_cell (w1 := w2) hb c0_1
  replace q2 := keep_frozen (w1 := w2) hb c0_2 q2
  replace c0_2 := keep_cell (w1 := w2) hb c0_2
  replace Ha := Lib.hid (Ha.out.below hb (Nat.le_refl _))
  replace Hb := Lib.hid (Hb.out.below hb (Nat.le_refl _))
  replace Hx := Lib.hid (Hx.out.below hb (Nat.le_refl _))
  have Hy := Lib.hid ho1
  clear ho1
  clear hp
  obtain ⟨ay, cy, rfl, -, -, -, -, -⟩ := Hy.out.form
  replace B0 := B0.trans (hb.mono B0.size)
  clear hb
  go_wp2_with fail
  refine (l04One_f _ _ _ d Hy.out hd1).mono ?_
  rintro e w3 ⟨rfl, hb⟩
  replace q0 := keep_frozen (w1 := w3) hb c0_0 q0
  replace c0_0 := keep_cell (w1 := w3) hb c0_0
  replace q1 := keep_frozen (w1 := w3) hb c0_1 q1
  replace c0_1 := keep_cell (w1 := w3) hb c0_1
  replace q2 := keep_frozen (w1 := w3) hb c0_2 q2
  replace c0_2 := keep_cell (w1 := w3) hb c0_2
  replace Ha := Lib.hid (Ha.out.below hb (Nat.le_refl _))
  replace Hb := Lib.hid (Hb.out.below hb (Nat.le_refl _))
  replace Hx := Lib.hid (Hx.out.below hb (Nat.le_refl _))
  replace Hy := Lib.hid (Hy.out.below hb (Nat.le_refl _))
  replace B0 := B0.trans (hb.mono B0.size)
  clear hb
  go_wp2_with fail
  refine (gcd_s _ _ _ _ _ x.natAbs d Hx.out Hy.out hl1 hl2 g HG).mono ?_
  rintro e w4 ⟨vg, rfl, ho1, hb⟩
  replace q0 := keep_frozen (w1 := w4) hb c0_0 q0
  replace c0_0 := keep_cell (w1 := w4) hb c0_0
  replace q1 := keep_frozen (w1 := w4) hb c0_1 q1
  replace c0_1 := keep_cell (w1 := w4) hb c0_1
  replace q2 := keep_frozen (w1 := w4) hb c0_2 q2
  replace c0_2 := keep_cell (w1 := w4) hb c0_2
  replace Ha := Lib.hid (Ha.out.below hb (Nat.le_refl _))
  replace Hb := Lib.hid (Hb.out.below hb (Nat.le_refl _))
  replace Hx := Lib.hid (Hx.out.below hb (Nat.le_refl _))
  replace Hy := Lib.hid (Hy.out.below hb (Nat.le_refl _))
  have Hg := Lib.hid (ho1.mono B0.size)
  clear ho1
  replace B0 := B0.trans (hb.mono B0.size)
  clear hb
  go_wp2_with fail
  refine (l04One_f _ _ _ g Hg.out hg1).mono ?_
  rintro e w5 ⟨rfl, hb⟩
  replace q0 := keep_frozen (w1 := w5) hb c0_0 q0
  replace c0_0 := keep_cell (w1 := w5) hb c0_0
  replace q1 := keep_frozen (w1 := w5) hb c0_1 q1
  replace c0_1 := keep_cell (w1 := w5) hb c0_1
  replace q2 := keep_frozen (w1 := w5) hb c0_2 q2
  replace c0_2 := keep_cell (w1 := w5) hb c0_2
  replace Ha := Lib.hid (Ha.out.below hb (Nat.le_refl _))
  replace Hb := Lib.hid (Hb.out.below hb (Nat.le_refl _))
  replace Hx := Lib.hid (Hx.out.below hb (Nat.le_refl _))
  replace Hy := Lib.hid (Hy.out.below hb (Nat.le_refl _))
  replace Hg := Lib.hid (Hg.out.below hb (Nat.le_refl _))
  replace B0 := B0.trans (hb.mono B0.size)
  clear hb
  go_wp2_with fail
  refine (l02Div_n _ _ _ _ _ x.natAbs g z.natAbs Hx.out Hg.out hl1 hgl hgp HN).mono ?_
  rintro e w6 ⟨vn, ve, rfl, ho1, ho2, ha, hb⟩
  replace q0 := keep_frozen (w1 := w6) hb c0_0 q0
  replace c0_0 := keep_cell (w1 := w6) hb c0_0
  replace q1 := keep_frozen (w1 := w6) hb c0_1 q1
  replace c0_1 := keep_cell (w1 := w6) hb c0_1
  replace q2 := keep_frozen (w1 := w6) hb c0_2 q2
  replace c0_2 := keep_cell (w1 := w6) hb c0_2
  replace Ha := Lib.hid (Ha.out.below hb (Nat.le_refl _))
  replace Hb := Lib.hid (Hb.out.below hb (Nat.le_refl _))
  replace Hx := Lib.hid (Hx.out.below hb (Nat.le_refl _))
  replace Hy := Lib.hid (Hy.out.below hb (Nat.le_refl _))
  replace Hg := Lib.hid (Hg.out.below hb (Nat.le_refl _))
  have Hn := Lib.hid (ho1.mono B0.size)
  clear ho1
  have He := Lib.hid (ho2.mono B0.size)
  clear ho2
  clear ha
  obtain ⟨an, cn, rfl, -, -, -, -, -⟩ := Hn.out.form
  replace B0 := B0.trans (hb.mono B0.size)
  clear hb
  go_wp2_with fail
  refine (l02Div_n _ _ _ _ _ d g m Hy.out Hg.out hl2 hgl hgp HM).mono ?_
  rintro e w7 ⟨vm, vk, rfl, ho1, ho2, ha, hb⟩
  replace q0 := keep_frozen (w1 := w7) hb c0_0 q0
  replace c0_0 := keep_cell (w1 := w7) hb c0_0
  replace q1 := keep_frozen (w1 := w7) hb c0_1 q1
  replace c0_1 := keep_cell (w1 := w7) hb c0_1
  replace q2 := keep_frozen (w1 := w7) hb c0_2 q2
  replace c0_2 := keep_cell (w1 := w7) hb c0_2
  replace Ha := Lib.hid (Ha.out.below hb (Nat.le_refl _))
  replace Hb := Lib.hid (Hb.out.below hb (Nat.le_refl _))
  replace Hx := Lib.hid (Hx.out.below hb (Nat.le_refl _))
  replace Hy := Lib.hid (Hy.out.below hb (Nat.le_refl _))
  replace Hg := Lib.hid (Hg.out.below hb (Nat.le_refl _))
  replace Hn := Lib.hid (Hn.out.below hb (Nat.le_refl _))
  replace He := Lib.hid (He.out.below hb (Nat.le_refl _))
  have Hm := Lib.hid (ho1.mono B0.size)
  clear ho1
  have Hk := Lib.hid (ho2.mono B0.size)
  clear ho2
  clear ha
  obtain ⟨am, cm, rfl, -, -, -, -, -⟩ := Hm.out.form
  replace B0 := B0.trans (hb.mono B0.size)
  clear hb
  go_wp2_with fail
  refine (l03Make_n _ _ _ _ _ z Hn.out HMK HSG).mono ?_
  rintro e w8 ⟨vr, rfl, ho1, hb⟩
  replace q0 := keep_frozen (w1 := w8) hb c0_0 q0
  replace c0_0 := keep_cell (w1 := w8) hb c0_0
  replace q1 := keep_frozen (w1 := w8) hb c0_1 q1
  replace c0_1 := keep_cell (w1 := w8) hb c0_1
  replace q2 := keep_frozen (w1 := w8) hb c0_2 q2
  replace c0_2 := keep_cell (w1 := w8) hb c0_2
  replace Ha := Lib.hid (Ha.out.below hb (Nat.le_refl _))
  replace Hb := Lib.hid (Hb.out.below hb (Nat.le_refl _))
  replace Hx := Lib.hid (Hx.out.below hb (Nat.le_refl _))
  replace Hy := Lib.hid (Hy.out.below hb (Nat.le_refl _))
  replace Hg := Lib.hid (Hg.out.below hb (Nat.le_refl _))
  replace Hn := Lib.hid (Hn.out.below hb (Nat.le_refl _))
  replace He := Lib.hid (He.out.below hb (Nat.le_refl _))
  replace Hm := Lib.hid (Hm.out.below hb (Nat.le_refl _))
  replace Hk := Lib.hid (Hk.out.below hb (Nat.le_refl _))
  have Hr := Lib.hid (ho1.mono B0.size)
  clear ho1
  obtain ⟨ar, cr, rfl, -, -, -, -, -⟩ := Hr.out.form
  replace B0 := B0.trans (hb.mono B0.size)
  clear hb
  have HL := Lib.hid (Own.lit0 w8)
  go_wp2_with (at_builtin; refine app_own rfl _ _ rfl _ _ w8.heap.size _ [] (limbs m) rfl rfl HL.out (Hm.out.alloc _) (by simp; omega) (by simp) ?_)
  intro vs w9 hx hg hat
  try rw [List.nil_append] at hx
  have hb := HL.out.grownBelow ((Below.refl _ _).alloc (Nat.le_refl _) _) hg (Nat.le_refl _) (by simp)
  have HAP := apart_lit Hr.out (hx.mono (Nat.le_refl _))
  clear HL hg hat
  replace q0 := keep_frozen (w1 := w9) hb c0_0 q0
  replace c0_0 := keep_cell (w1 := w9) hb c0_0
  replace q1 := keep_frozen (w1 := w9) hb c0_1 q1
  replace c0_1 := keep_cell (w1 := w9) hb c0_1
  replace q2 := keep_frozen (w1 := w9) hb c0_2 q2
  replace c0_2 := keep_cell (w1 := w9) hb c0_2
  replace Ha := Lib.hid (Ha.out.below hb (Nat.le_refl _))
  replace Hb := Lib.hid (Hb.out.below hb (Nat.le_refl _))
  replace Hx := Lib.hid (Hx.out.below hb (Nat.le_refl _))
  replace Hy := Lib.hid (Hy.out.below hb (Nat.le_refl _))
  replace Hg := Lib.hid (Hg.out.below hb (Nat.le_refl _))
  replace Hn := Lib.hid (Hn.out.below hb (Nat.le_refl _))
  replace He := Lib.hid (He.out.below hb (Nat.le_refl _))
  replace Hm := Lib.hid (Hm.out.below hb (Nat.le_refl _))
  replace Hk := Lib.hid (Hk.out.below hb (Nat.le_refl _))
  replace Hr := Lib.hid (Hr.out.below hb (Nat.le_refl _))
  have Hs := Lib.hid (hx.mono B0.size)
  clear hx
  replace B0 := B0.trans (hb.mono B0.size)
  clear hb
  obtain ⟨aS, cS, rfl, -, -, -, -, -⟩ := Hs.out.form
  go_wp2
  exact bodyPost_ret (v := .agg #[.bool (ng z), .slice ar (limbs z.natAbs).length cr, .slice aS (limbs m).length cS]) (by simp [results, Tryz.results100, go_sem, c0_0, c0_1, c0_2]) rfl (retR_end BW (by omega) hg0 B0 Hr.out Hs.out HAP)

set_option maxHeartbeats 1000000 in
theorem l04Low_g1 (w : World) (b1 b2 : Nat) (s : Bool) (v1 v2 : Value) (x : Int) (d : Nat) (h1 : Own w b1 v1 (limbs x.natAbs)) (h2 : Own w b2 v2 (limbs d)) (hl1 : (limbs x.natAbs).length ≤ 900) (hl2 : (limbs d).length ≤ 900) (hd : 0 < d) (hd1 : d ≠ 1) (g m : Nat) (z : Int) (hg : g = Nat.gcd x.natAbs d) (hg1 : g ≠ 1) (hn : z.natAbs = x.natAbs / g) (hm : m = d / g) (hf1 : 24 < (limbs z.natAbs).length) :
    Calls Tryz.prog 100 #[.bool s, v1, v2] w (RetQ w 0 0) := by
  have BW : Below w.heap.size w (w.alloc (.cells #[.bool false, .slice none 0 0, .slice none 0 0] 27)) := ((Below.refl w.heap.size w).alloc (Nat.le_refl _) _)
  obtain ⟨c0_0, c0_1, c0_2, q0, q1, q2⟩ : World.cell? (w.alloc (.cells #[.bool false, .slice none 0 0, .slice none 0 0] 27)) ⟨w.heap.size, 0, none⟩ = some (.bool false) ∧ World.cell? (w.alloc (.cells #[.bool false, .slice none 0 0, .slice none 0 0] 27)) ⟨w.heap.size, 1, none⟩ = some (.slice none 0 0) ∧ World.cell? (w.alloc (.cells #[.bool false, .slice none 0 0, .slice none 0 0] 27)) ⟨w.heap.size, 2, none⟩ = some (.slice none 0 0) ∧ World.frozen? (w.alloc (.cells #[.bool false, .slice none 0 0, .slice none 0 0] 27)) ⟨w.heap.size, 0, none⟩ = false ∧ World.frozen? (w.alloc (.cells #[.bool false, .slice none 0 0, .slice none 0 0] 27)) ⟨w.heap.size, 1, none⟩ = false ∧ World.frozen? (w.alloc (.cells #[.bool false, .slice none 0 0, .slice none 0 0] 27)) ⟨w.heap.size, 2, none⟩ = false := by simp [go_sem]
  have hg0 : w.heap.size < ((w.alloc (.cells #[.bool false, .slice none 0 0, .slice none 0 0] 27))).heap.size := World.block_lt_of_cell? _ _ c0_0
  have Ha := Lib.hid (h1.below BW (Nat.le_refl _))
  have Hb := Lib.hid (h2.below BW (Nat.le_refl _))
  clear h1 h2
  have dz0 : ((limbs d).length == 0) = false := beq_eq_false_iff_ne.2 (by have := limbs_len_pos.2 hd; omega)
  have dy0 : (((limbs d).length : Int) == 0) = false := beq_eq_false_iff_ne.2 (by have := limbs_len_pos.2 hd; omega)
  have HD := Lib.hid hd
  have HG := Lib.hid hg
  have gx : decide (24 < (limbs z.natAbs).length) = true := decide_eq_true (by omega)
  have gix : decide ((24 : Int) < (limbs z.natAbs).length) = true := decide_eq_true (by omega)
  have HN : Hid (z.natAbs = x.natAbs / g) := hn
  have HM : Hid (m = d / g) := hm
  have hgp : 0 < g := by rw [hg]; exact Nat.gcd_pos_of_pos_right _ hd
  have hgl : (limbs g).length ≤ 900 := by rw [hg]; exact Nat.le_trans (limbs_len_mono (Nat.gcd_le_right _ hd)) hl2
  clear hd hg hn hm
  go_enter Tryz.func100, Tryz.ntmps100
  go_wp2_with fail
  generalize (w.alloc (.cells #[.bool false, .slice none 0 0, .slice none 0 0] 27)) = w0 at *
  have B0 := Below.refl w0.heap.size w0
  refine (l02Trim_n _ _ _ _ Ha.out).mono ?_
  rintro e w1 ⟨vx, rfl, ho1, hp, hb⟩
  replace q0 := keep_frozen (w1 := w1) hb c0_0 q0
  replace c0_0 := keep_cell (w1 := w1) hb c0_0
  replace q1 := keep_frozen (w1 := w1) hb c0_1 q1
  replace c0_1 := keep_cell (w1 := w1) hb c0_1
  replace q2 := keep_frozen (w1 := w1) hb c0_2 q2
  replace c0_2 := keep_cell (w1 := w1) hb c0_2
  replace Ha := Lib.hid (Ha.out.below hb (Nat.le_refl _))
  replace Hb := Lib.hid (Hb.out.below hb (Nat.le_refl _))
  have Hx := Lib.hid ho1
  clear ho1
  clear hp
  obtain ⟨ax, cx, rfl, -, -, -, -, -⟩ := Hx.out.form
  replace B0 := B0.trans (hb.mono B0.size)
  clear hb
  go_wp2_with fail
  refine (l02Trim_n _ _ _ _ Hb.out).mono ?_
  rintro e w2 ⟨vy, rfl, ho1, hp, hb⟩
  replace q0 := keep_frozen (w1 := w2) hb c0_0 q0
  replace c0_0 := keep_cell (w1 := w2) hb c0_0
  replace q1 := keep_frozen (w1 := w2) hb c0_1 q1
  replace c0_1 := keep_cell (w1 := w2) hb c0_1
  replace q2 := keep_frozen (w1 := w2) hb c0_2 q2
  replace c0_2 := keep_cell (w1 := w2) hb c0_2
  replace Ha := Lib.hid (Ha.out.below hb (Nat.le_refl _))
  replace Hb := Lib.hid (Hb.out.below hb (Nat.le_refl _))
  replace Hx := Lib.hid (Hx.out.below hb (Nat.le_refl _))
  have Hy := Lib.hid ho1
  clear ho1
  clear hp
  obtain ⟨ay, cy, rfl, -, -, -, -, -⟩ := Hy.out.form
  replace B0 := B0.trans (hb.mono B0.size)
  clear hb
  go_wp2_with fail
  refine (l04One_f _ _ _ d Hy.out hd1).mono ?_
  rintro e w3 ⟨rfl, hb⟩
  replace q0 := keep_frozen (w1 := w3) hb c0_0 q0
  replace c0_0 := keep_cell (w1 := w3) hb c0_0
  replace q1 := keep_frozen (w1 := w3) hb c0_1 q1
  replace c0_1 := keep_cell (w1 := w3) hb c0_1
  replace q2 := keep_frozen (w1 := w3) hb c0_2 q2
  replace c0_2 := keep_cell (w1 := w3) hb c0_2
  replace Ha := Lib.hid (Ha.out.below hb (Nat.le_refl _))
  replace Hb := Lib.hid (Hb.out.below hb (Nat.le_refl _))
  replace Hx := Lib.hid (Hx.out.below hb (Nat.le_refl _))
  replace Hy := Lib.hid (Hy.out.below hb (Nat.le_refl _))
  replace B0 := B0.trans (hb.mono B0.size)
  clear hb
  go_wp2_with fail
  refine (gcd_s _ _ _ _ _ x.natAbs d Hx.out Hy.out hl1 hl2 g HG).mono ?_
  rintro e w4 ⟨vg, rfl, ho1, hb⟩
  replace q0 := keep_frozen (w1 := w4) hb c0_0 q0
  replace c0_0 := keep_cell (w1 := w4) hb c0_0
  replace q1 := keep_frozen (w1 := w4) hb c0_1 q1
  replace c0_1 := keep_cell (w1 := w4) hb c0_1
  replace q2 := keep_frozen (w1 := w4) hb c0_2 q2
  replace c0_2 := keep_cell (w1 := w4) hb c0_2
  replace Ha := Lib.hid (Ha.out.below hb (Nat.le_refl _))
  replace Hb := Lib.hid (Hb.out.below hb (Nat.le_refl _))
  replace Hx := Lib.hid (Hx.out.below hb (Nat.le_refl _))
  replace Hy := Lib.hid (Hy.out.below hb (Nat.le_refl _))
  have Hg := Lib.hid (ho1.mono B0.size)
  clear ho1
  replace B0 := B0.trans (hb.mono B0.size)
  clear hb
  go_wp2_with fail
  refine (l04One_f _ _ _ g Hg.out hg1).mono ?_
  rintro e w5 ⟨rfl, hb⟩
  replace q0 := keep_frozen (w1 := w5) hb c0_0 q0
  replace c0_0 := keep_cell (w1 := w5) hb c0_0
  replace q1 := keep_frozen (w1 := w5) hb c0_1 q1
  replace c0_1 := keep_cell (w1 := w5) hb c0_1
  replace q2 := keep_frozen (w1 := w5) hb c0_2 q2
  replace c0_2 := keep_cell (w1 := w5) hb c0_2
  replace Ha := Lib.hid (Ha.out.below hb (Nat.le_refl _))
  replace Hb := Lib.hid (Hb.out.below hb (Nat.le_refl _))
  replace Hx := Lib.hid (Hx.out.below hb (Nat.le_refl _))
  replace Hy := Lib.hid (Hy.out.below hb (Nat.le_refl _))
  replace Hg := Lib.hid (Hg.out.below hb (Nat.le_refl _))
  replace B0 := B0.trans (hb.mono B0.size)
  clear hb
  go_wp2_with fail
  refine (l02Div_n _ _ _ _ _ x.natAbs g z.natAbs Hx.out Hg.out hl1 hgl hgp HN).mono ?_
  rintro e w6 ⟨vn, ve, rfl, ho1, ho2, ha, hb⟩
  replace q0 := keep_frozen (w1 := w6) hb c0_0 q0
  replace c0_0 := keep_cell (w1 := w6) hb c0_0
  replace q1 := keep_frozen (w1 := w6) hb c0_1 q1
  replace c0_1 := keep_cell (w1 := w6) hb c0_1
  replace q2 := keep_frozen (w1 := w6) hb c0_2 q2
  replace c0_2 := keep_cell (w1 := w6) hb c0_2
  replace Ha := Lib.hid (Ha.out.below hb (Nat.le_refl _))
  replace Hb := Lib.hid (Hb.out.below hb (Nat.le_refl _))
  replace Hx := Lib.hid (Hx.out.below hb (Nat.le_refl _))
  replace Hy := Lib.hid (Hy.out.below hb (Nat.le_refl _))
  replace Hg := Lib.hid (Hg.out.below hb (Nat.le_refl _))
  have Hn := Lib.hid (ho1.mono B0.size)
  clear ho1
  have He := Lib.hid (ho2.mono B0.size)
  clear ho2
  clear ha
  obtain ⟨an, cn, rfl, -, -, -, -, -⟩ := Hn.out.form
  replace B0 := B0.trans (hb.mono B0.size)
  clear hb
  go_wp2_with fail
  refine (l02Div_n _ _ _ _ _ d g m Hy.out Hg.out hl2 hgl hgp HM).mono ?_
  rintro e w7 ⟨vm, vk, rfl, ho1, ho2, ha, hb⟩
  replace q0 := keep_frozen (w1 := w7) hb c0_0 q0
  replace c0_0 := keep_cell (w1 := w7) hb c0_0
  replace q1 := keep_frozen (w1 := w7) hb c0_1 q1
  replace c0_1 := keep_cell (w1 := w7) hb c0_1
  replace q2 := keep_frozen (w1 := w7) hb c0_2 q2
  replace c0_2 := keep_cell (w1 := w7) hb c0_2
  replace Ha := Lib.hid (Ha.out.below hb (Nat.le_refl _))
  replace Hb := Lib.hid (Hb.out.below hb (Nat.le_refl _))
  replace Hx := Lib.hid (Hx.out.below hb (Nat.le_refl _))
  replace Hy := Lib.hid (Hy.out.below hb (Nat.le_refl _))
  replace Hg := Lib.hid (Hg.out.below hb (Nat.le_refl _))
  replace Hn := Lib.hid (Hn.out.below hb (Nat.le_refl _))
  replace He := Lib.hid (He.out.below hb (Nat.le_refl _))
  have Hm := Lib.hid (ho1.mono B0.size)
  clear ho1
  have Hk := Lib.hid (ho2.mono B0.size)
  clear ho2
  clear ha
  obtain ⟨am, cm, rfl, -, -, -, -, -⟩ := Hm.out.form
  replace B0 := B0.trans (hb.mono B0.size)
  clear hb
  go_wp2
  exact bodyPost_ret (v := .agg #[.bool false, .slice none 0 0, .slice none 0 0]) (by simp [results, Tryz.results100, go_sem, c0_0, c0_1, c0_2]) rfl (retQ_nil (set3_below (BW.trans (B0.mono BW.size)) (by omega)))

set_option maxHeartbeats 1000000 in
theorem l04Low_g2 (w : World) (b1 b2 : Nat) (s : Bool) (v1 v2 : Value) (x : Int) (d : Nat) (h1 : Own w b1 v1 (limbs x.natAbs)) (h2 : Own w b2 v2 (limbs d)) (hl1 : (limbs x.natAbs).length ≤ 900) (hl2 : (limbs d).length ≤ 900) (hd : 0 < d) (hd1 : d ≠ 1) (g m : Nat) (z : Int) (hg : g = Nat.gcd x.natAbs d) (hg1 : g ≠ 1) (hn : z.natAbs = x.natAbs / g) (hm : m = d / g) (hf1 : (limbs z.natAbs).length ≤ 24) (hf2 : 24 < (limbs m).length) :
    Calls Tryz.prog 100 #[.bool s, v1, v2] w (RetQ w 0 0) := by
  have BW : Below w.heap.size w (w.alloc (.cells #[.bool false, .slice none 0 0, .slice none 0 0] 27)) := ((Below.refl w.heap.size w).alloc (Nat.le_refl _) _)
  obtain ⟨c0_0, c0_1, c0_2, q0, q1, q2⟩ : World.cell? (w.alloc (.cells #[.bool false, .slice none 0 0, .slice none 0 0] 27)) ⟨w.heap.size, 0, none⟩ = some (.bool false) ∧ World.cell? (w.alloc (.cells #[.bool false, .slice none 0 0, .slice none 0 0] 27)) ⟨w.heap.size, 1, none⟩ = some (.slice none 0 0) ∧ World.cell? (w.alloc (.cells #[.bool false, .slice none 0 0, .slice none 0 0] 27)) ⟨w.heap.size, 2, none⟩ = some (.slice none 0 0) ∧ World.frozen? (w.alloc (.cells #[.bool false, .slice none 0 0, .slice none 0 0] 27)) ⟨w.heap.size, 0, none⟩ = false ∧ World.frozen? (w.alloc (.cells #[.bool false, .slice none 0 0, .slice none 0 0] 27)) ⟨w.heap.size, 1, none⟩ = false ∧ World.frozen? (w.alloc (.cells #[.bool false, .slice none 0 0, .slice none 0 0] 27)) ⟨w.heap.size, 2, none⟩ = false := by simp [go_sem]
  have hg0 : w.heap.size < ((w.alloc (.cells #[.bool false, .slice none 0 0, .slice none 0 0] 27))).heap.size := World.block_lt_of_cell? _ _ c0_0
  have Ha := Lib.hid (h1.below BW (Nat.le_refl _))
  have Hb := Lib.hid (h2.below BW (Nat.le_refl _))
  clear h1 h2
  have dz0 : ((limbs d).length == 0) = false := beq_eq_false_iff_ne.2 (by have := limbs_len_pos.2 hd; omega)
  have dy0 : (((limbs d).length : Int) == 0) = false := beq_eq_false_iff_ne.2 (by have := limbs_len_pos.2 hd; omega)
  have HD := Lib.hid hd
  have HG := Lib.hid hg
  have gx : decide (24 < (limbs z.natAbs).length) = false := decide_eq_false (by omega)
  have gix : decide ((24 : Int) < (limbs z.natAbs).length) = false := decide_eq_false (by omega)
  have gy : decide (24 < (limbs m).length) = true := decide_eq_true (by omega)
  have giy : decide ((24 : Int) < (limbs m).length) = true := decide_eq_true (by omega)
  have HN : Hid (z.natAbs = x.natAbs / g) := hn
  have HM : Hid (m = d / g) := hm
  have hgp : 0 < g := by rw [hg]; exact Nat.gcd_pos_of_pos_right _ hd
  have hgl : (limbs g).length ≤ 900 := by rw [hg]; exact Nat.le_trans (limbs_len_mono (Nat.gcd_le_right _ hd)) hl2
  clear hd hg hn hm
  go_enter Tryz.func100, Tryz.ntmps100
  go_wp2_with fail
  generalize (w.alloc (.cells #[.bool false, .slice none 0 0, .slice none 0 0] 27)) = w0 at *
  have B0 := Below.refl w0.heap.size w0
  refine (l02Trim_n _ _ _ _ Ha.out).mono ?_
  rintro e w1 ⟨vx, rfl, ho1, hp, hb⟩
  replace q0 := keep_frozen (w1 := w1) hb c0_0 q0
  replace c0_0 := keep_cell (w1 := w1) hb c0_0
  replace q1 := keep_frozen (w1 := w1) hb c0_1 q1
  replace c0_1 := keep_cell (w1 := w1) hb c0_1
  replace q2 := keep_frozen (w1 := w1) hb c0_2 q2
  replace c0_2 := keep_cell (w1 := w1) hb c0_2
  replace Ha := Lib.hid (Ha.out.below hb (Nat.le_refl _))
  replace Hb := Lib.hid (Hb.out.below hb (Nat.le_refl _))
  have Hx := Lib.hid ho1
  clear ho1
  clear hp
  obtain ⟨ax, cx, rfl, -, -, -, -, -⟩ := Hx.out.form
  replace B0 := B0.trans (hb.mono B0.size)
  clear hb
  go_wp2_with fail
  refine (l02Trim_n _ _ _ _ Hb.out).mono ?_
  rintro e w2 ⟨vy, rfl, ho1, hp, hb⟩
  replace q0 := keep_frozen (w1 := w2) hb c0_0 q0
  replace c0_0 := keep_cell (w1 := w2) hb c0_0
  replace q1 := keep_frozen (w1 := w2) hb c0_1 q1
  replace c0_1 := keep_cell (w1 := w2) hb c0_1
  replace q2 := keep_frozen (w1 := w2) hb c0_2 q2
  replace c0_2 := keep_cell (w1 := w2) hb c0_2
  replace Ha := Lib.hid (Ha.out.below hb (Nat.le_refl _))
  replace Hb := Lib.hid (Hb.out.below hb (Nat.le_refl _))
  replace Hx := Lib.hid (Hx.out.below hb (Nat.le_refl _))
  have Hy := Lib.hid ho1
  clear ho1
  clear hp
  obtain ⟨ay, cy, rfl, -, -, -, -, -⟩ := Hy.out.form
  replace B0 := B0.trans (hb.mono B0.size)
  clear hb
  go_wp2_with fail
  refine (l04One_f _ _ _ d Hy.out hd1).mono ?_
  rintro e w3 ⟨rfl, hb⟩
  replace q0 := keep_frozen (w1 := w3) hb c0_0 q0
  replace c0_0 := keep_cell (w1 := w3) hb c0_0
  replace q1 := keep_frozen (w1 := w3) hb c0_1 q1
  replace c0_1 := keep_cell (w1 := w3) hb c0_1
  replace q2 := keep_frozen (w1 := w3) hb c0_2 q2
  replace c0_2 := keep_cell (w1 := w3) hb c0_2
  replace Ha := Lib.hid (Ha.out.below hb (Nat.le_refl _))
  replace Hb := Lib.hid (Hb.out.below hb (Nat.le_refl _))
  replace Hx := Lib.hid (Hx.out.below hb (Nat.le_refl _))
  replace Hy := Lib.hid (Hy.out.below hb (Nat.le_refl _))
  replace B0 := B0.trans (hb.mono B0.size)
  clear hb
  go_wp2_with fail
  refine (gcd_s _ _ _ _ _ x.natAbs d Hx.out Hy.out hl1 hl2 g HG).mono ?_
  rintro e w4 ⟨vg, rfl, ho1, hb⟩
  replace q0 := keep_frozen (w1 := w4) hb c0_0 q0
  replace c0_0 := keep_cell (w1 := w4) hb c0_0
  replace q1 := keep_frozen (w1 := w4) hb c0_1 q1
  replace c0_1 := keep_cell (w1 := w4) hb c0_1
  replace q2 := keep_frozen (w1 := w4) hb c0_2 q2
  replace c0_2 := keep_cell (w1 := w4) hb c0_2
  replace Ha := Lib.hid (Ha.out.below hb (Nat.le_refl _))
  replace Hb := Lib.hid (Hb.out.below hb (Nat.le_refl _))
  replace Hx := Lib.hid (Hx.out.below hb (Nat.le_refl _))
  replace Hy := Lib.hid (Hy.out.below hb (Nat.le_refl _))
  have Hg := Lib.hid (ho1.mono B0.size)
  clear ho1
  replace B0 := B0.trans (hb.mono B0.size)
  clear hb
  go_wp2_with fail
  refine (l04One_f _ _ _ g Hg.out hg1).mono ?_
  rintro e w5 ⟨rfl, hb⟩
  replace q0 := keep_frozen (w1 := w5) hb c0_0 q0
  replace c0_0 := keep_cell (w1 := w5) hb c0_0
  replace q1 := keep_frozen (w1 := w5) hb c0_1 q1
  replace c0_1 := keep_cell (w1 := w5) hb c0_1
  replace q2 := keep_frozen (w1 := w5) hb c0_2 q2
  replace c0_2 := keep_cell (w1 := w5) hb c0_2
  replace Ha := Lib.hid (Ha.out.below hb (Nat.le_refl _))
  replace Hb := Lib.hid (Hb.out.below hb (Nat.le_refl _))
  replace Hx := Lib.hid (Hx.out.below hb (Nat.le_refl _))
  replace Hy := Lib.hid (Hy.out.below hb (Nat.le_refl _))
  replace Hg := Lib.hid (Hg.out.below hb (Nat.le_refl _))
  replace B0 := B0.trans (hb.mono B0.size)
  clear hb
  go_wp2_with fail
  refine (l02Div_n _ _ _ _ _ x.natAbs g z.natAbs Hx.out Hg.out hl1 hgl hgp HN).mono ?_
  rintro e w6 ⟨vn, ve, rfl, ho1, ho2, ha, hb⟩
  replace q0 := keep_frozen (w1 := w6) hb c0_0 q0
  replace c0_0 := keep_cell (w1 := w6) hb c0_0
  replace q1 := keep_frozen (w1 := w6) hb c0_1 q1
  replace c0_1 := keep_cell (w1 := w6) hb c0_1
  replace q2 := keep_frozen (w1 := w6) hb c0_2 q2
  replace c0_2 := keep_cell (w1 := w6) hb c0_2
  replace Ha := Lib.hid (Ha.out.below hb (Nat.le_refl _))
  replace Hb := Lib.hid (Hb.out.below hb (Nat.le_refl _))
  replace Hx := Lib.hid (Hx.out.below hb (Nat.le_refl _))
  replace Hy := Lib.hid (Hy.out.below hb (Nat.le_refl _))
  replace Hg := Lib.hid (Hg.out.below hb (Nat.le_refl _))
  have Hn := Lib.hid (ho1.mono B0.size)
  clear ho1
  have He := Lib.hid (ho2.mono B0.size)
  clear ho2
  clear ha
  obtain ⟨an, cn, rfl, -, -, -, -, -⟩ := Hn.out.form
  replace B0 := B0.trans (hb.mono B0.size)
  clear hb
  go_wp2_with fail
  refine (l02Div_n _ _ _ _ _ d g m Hy.out Hg.out hl2 hgl hgp HM).mono ?_
  rintro e w7 ⟨vm, vk, rfl, ho1, ho2, ha, hb⟩
  replace q0 := keep_frozen (w1 := w7) hb c0_0 q0
  replace c0_0 := keep_cell (w1 := w7) hb c0_0
  replace q1 := keep_frozen (w1 := w7) hb c0_1 q1
  replace c0_1 := keep_cell (w1 := w7) hb c0_1
  replace q2 := keep_frozen (w1 := w7) hb c0_2 q2
  replace c0_2 := keep_cell (w1 := w7) hb c0_2
  replace Ha := Lib.hid (Ha.out.below hb (Nat.le_refl _))
  replace Hb := Lib.hid (Hb.out.below hb (Nat.le_refl _))
  replace Hx := Lib.hid (Hx.out.below hb (Nat.le_refl _))
  replace Hy := Lib.hid (Hy.out.below hb (Nat.le_refl _))
  replace Hg := Lib.hid (Hg.out.below hb (Nat.le_refl _))
  replace Hn := Lib.hid (Hn.out.below hb (Nat.le_refl _))
  replace He := Lib.hid (He.out.below hb (Nat.le_refl _))
  have Hm := Lib.hid (ho1.mono B0.size)
  clear ho1
  have Hk := Lib.hid (ho2.mono B0.size)
  clear ho2
  clear ha
  obtain ⟨am, cm, rfl, -, -, -, -, -⟩ := Hm.out.form
  replace B0 := B0.trans (hb.mono B0.size)
  clear hb
  go_wp2
  exact bodyPost_ret (v := .agg #[.bool false, .slice none 0 0, .slice none 0 0]) (by simp [results, Tryz.results100, go_sem, c0_0, c0_1, c0_2]) rfl (retQ_nil (set3_below (BW.trans (B0.mono BW.size)) (by omega)))

theorem l04Low_c (w : World) (b1 b2 : Nat) (s : Bool) (v1 v2 : Value) (x : Int) (d : Nat) (h1 : Own w b1 v1 (limbs x.natAbs)) (h2 : Own w b2 v2 (limbs d)) (hl1 : (limbs x.natAbs).length ≤ 900) (hl2 : (limbs d).length ≤ 900) (z : Int) (e : Nat) (hz : Hid (z = lowZ x d)) (he : Hid (e = lowD x d)) (hs : Hid (x ≠ 0 → s = ng x)) :
    Calls Tryz.prog 100 #[.bool s, v1, v2] w (RetQ w z e) := by
  have hs := hs.out
  rw [hz.out, he.out]
  rcases Nat.eq_zero_or_pos d with hd | hd
  · subst hd
    rw [(low_den0 x).1, (low_den0 x).2]
    exact l04Low_0 w b1 b2 s v1 v2 x h1 h2 hl1 hl2
  by_cases hd1 : d = 1
  · subst hd1
    by_cases h3 : (limbs x.natAbs).length ≤ 24
    · obtain ⟨e1, e2⟩ := low_of_isQ (z := x) (d := 1) ⟨hd, Nat.gcd_one_right _, h3, by simp [Fit, limbs_one]⟩
      rw [e1, e2]
      exact l04Low_oy w b1 b2 s v1 v2 x h1 h2 hl1 hl2 h3 x rfl hs
    · obtain ⟨e1, e2⟩ := low_no (z := x) (d := 1) (fun h => by have := h.2.1; rw [Nat.gcd_one_right, Nat.div_one] at this; exact h3 this)
      rw [e1, e2]
      exact l04Low_o1 w b1 b2 s v1 v2 x h1 h2 hl1 hl2 (by omega)
  by_cases hg : Nat.gcd x.natAbs d = 1
  · by_cases h3 : (limbs x.natAbs).length ≤ 24
    · by_cases h4 : (limbs d).length ≤ 24
      · obtain ⟨e1, e2⟩ := low_of_isQ (z := x) (d := d) ⟨hd, hg, h3, h4⟩
        rw [e1, e2]
        exact l04Low_1y w b1 b2 s v1 v2 x d h1 h2 hl1 hl2 hd hd1 hg.symm h3 h4 x rfl hs
      · obtain ⟨e1, e2⟩ := low_no (z := x) (d := d) (fun h => by have := h.2.2; rw [hg, Nat.div_one] at this; exact h4 this)
        rw [e1, e2]
        exact l04Low_12 w b1 b2 s v1 v2 x d h1 h2 hl1 hl2 hd hd1 hg.symm h3 (by omega)
    · obtain ⟨e1, e2⟩ := low_no (z := x) (d := d) (fun h => by have := h.2.1; rw [hg, Nat.div_one] at this; exact h3 this)
      rw [e1, e2]
      exact l04Low_11 w b1 b2 s v1 v2 x d h1 h2 hl1 hl2 hd hd1 hg.symm (by omega)
  · have hdv : Nat.gcd x.natAbs d ∣ x.natAbs := Nat.gcd_dvd_left _ _
    have hn := natAbs_ediv_dvd (z := x) hdv
    have hgp : 0 < Nat.gcd x.natAbs d := gcd_pos_den hd
    have hs2 : x / ((Nat.gcd x.natAbs d : Nat) : Int) ≠ 0 → s = ng (x / ((Nat.gcd x.natAbs d : Nat) : Int)) := fun h0 => by
      have h5 := ediv_neg_iff hgp hdv
      rw [hs (fun e => h0 (by rw [e]; simp))]
      rcases ng_cases x with ⟨h6, e6⟩ | ⟨h6, e6⟩
      · rw [e6, ng_neg (h5.2 h6)]
      · rw [e6, ng_nonneg (by omega)]
    by_cases h3 : (limbs (x.natAbs / Nat.gcd x.natAbs d)).length ≤ 24
    · by_cases h4 : (limbs (d / Nat.gcd x.natAbs d)).length ≤ 24
      · obtain ⟨e1, e2⟩ := low_yes (z := x) (d := d) ⟨hd, h3, h4⟩
        rw [e1, e2]
        exact l04Low_gy w b1 b2 s v1 v2 x d h1 h2 hl1 hl2 hd hd1 _ _ _ rfl hg hn rfl (by rw [hn]; exact h3) h4 hs2
      · obtain ⟨e1, e2⟩ := low_no (z := x) (d := d) (fun h => h4 h.2.2)
        rw [e1, e2]
        exact l04Low_g2 w b1 b2 s v1 v2 x d h1 h2 hl1 hl2 hd hd1 _ (d / Nat.gcd x.natAbs d) _ rfl hg hn rfl (by rw [hn]; exact h3) (by omega)
    · obtain ⟨e1, e2⟩ := low_no (z := x) (d := d) (fun h => h3 h.2.1)
      rw [e1, e2]
      exact l04Low_g1 w b1 b2 s v1 v2 x d h1 h2 hl1 hl2 hd hd1 _ (d / Nat.gcd x.natAbs d) _ rfl hg hn rfl (by rw [hn]; omega)

end Go.Proofs.YtijeplcjbhkkoaaGreatDoor

/- The program's fractions. -/
namespace Go.Proofs.YtijeplcjbhkkoaaGreatDoor
open Go.RowKit Lm

set_option maxHeartbeats 1000000 in
theorem sameInts_c (w : World) (b1 b2 : Nat) (v1 v2 : Value) (xs ys : List Int) (c : Bool) (hc : Hid (c = decide (xs = ys))) (h1 : Own w b1 v1 xs) (h2 : Own w b2 v2 ys) :
    Calls Tryz.prog 36 #[v1, v2] w (RetB w c) := by
  obtain ⟨a1, c1, rfl, -, f2, f3, -, -⟩ := h1.form
  obtain ⟨a2, c2, rfl, -, g2, g3, -, -⟩ := h2.form
  unfold maxLen at f3 g3
  have H1 := Lib.hid h1; have H2 := Lib.hid h2
  clear h1 h2
  by_cases hl : xs.length = ys.length
  · have t0 : ((xs.length : Int) == (ys.length : Int)) = true := by rw [hl]; exact beq_self_eq_true _
    have t0' : (xs.length == ys.length) = true := by rw [hl]; exact beq_self_eq_true _
    have HL := Lib.hid hl
    have hle : xs.length ≤ ys.length := by omega
    clear hl
    go_enter Tryz.func36, Tryz.ntmps36
    go_wp2_with fail
    go_loopw [13] (fun k wr => ∃ (i : Nat), i ≤ xs.length ∧ k = .int .i64 i ∧ Hid (xs.take i = ys.take i) ∧ Below w.heap.size w wr) (fun k _ => xs.length - (intOf k).toNat)
    case atStart => exact ⟨0, by omega, rfl, rfl, Below.refl _ _⟩
    case round =>
      obtain ⟨i, hi, rfl, HT, hb⟩ := hrel
      by_cases hlt : i < xs.length
      · have hlt2 : i < ys.length := by omega
        obtain ⟨g, rfl, -, -⟩ := H1.out.addr hlt
        obtain ⟨g', rfl, -, -⟩ := H2.out.addr hlt2
        have r1 := (H1.out.below hb (Nat.le_refl _)).cell i hlt
        have r2 := (H2.out.below hb (Nat.le_refl _)).cell i hlt2
        have t1 : (i : Int) < xs.length := by omega
        have t2 : (i : Int) < ys.length := by omega
        by_cases he : lat xs i = lat ys i
        · have d1 : (lat xs i == lat ys i) = true := by rw [he]; exact beq_self_eq_true _
          have d2 : (lat xs i != lat ys i) = false := by rw [he]; exact bne_self_eq_false _
          have HE := Lib.hid he
          clear he
          go_wp2_with fail
          go_quiet (fail)
          go_wp2_with fail
          go_roundw
          case rel => exact ⟨i + 1, by omega, by go_num, by unfold Hid; rw [take_succ xs i hlt, take_succ ys i hlt2, HT.out, HE.out], ⟨hb.os, hb.tape, hb.output, hb.size, hb.block⟩⟩
          case measure => (simp [intOf]) <;> omega
        · have d1 : (lat xs i == lat ys i) = false := beq_eq_false_iff_ne.2 he
          have d2 : (lat xs i != lat ys i) = true := by rw [bne, d1]; rfl
          have HC : Hid (c = false) := by unfold Hid; rw [hc.out]; exact decide_eq_false (fun e => he (by rw [e]))
          clear he
          go_wp2_with fail
          go_quiet (fail)
          go_wp2
          go_ret
          exact retB HC.out.symm (below_dr hb _)
      · obtain rfl : i = xs.length := by omega
        have HC : Hid (c = true) := by
          have := HT.out
          rw [List.take_length, HL.out, List.take_length] at this
          unfold Hid; rw [hc.out]; exact decide_eq_true this
        go_wp2
        go_ret
        exact retB HC.out.symm hb
  · have t0 : ((xs.length : Int) == (ys.length : Int)) = false := beq_eq_false_iff_ne.2 (by omega)
    have t0' : (xs.length == ys.length) = false := beq_eq_false_iff_ne.2 hl
    have HC : Hid (c = false) := by unfold Hid; rw [hc.out]; exact decide_eq_false (fun e => hl (by rw [e]))
    clear hl
    go_enter Tryz.func36, Tryz.ntmps36
    go_wp2
    go_ret
    exact retB HC.out.symm (Below.refl _ _)

set_option maxHeartbeats 1000000 in
theorem isOne_t (w : World) (b1 : Nat) (v1 : Value) (h1 : Own w b1 v1 (limbs 1)) : Calls Tryz.prog 39 #[v1] w (RetB w true) := by
  rw [limbs_one] at h1
  obtain ⟨a1, c1, rfl, -, f2, f3, -, -⟩ := h1.form
  obtain ⟨g, rfl, -, -⟩ := h1.addr (i := 0) (by simp)
  have r1 := h1.cell 0 (by simp)
  rw [show lat [1] 0 = 1 from rfl] at r1
  clear h1
  go_enter Tryz.func39, Tryz.ntmps39
  go_wp2
  go_ret
  exact retB rfl (Below.refl _ _)
set_option maxHeartbeats 1000000 in
theorem isOne_f (w : World) (b1 : Nat) (v1 : Value) (n : Nat) (h1 : Own w b1 v1 (limbs n)) (hn : n ≠ 1) : Calls Tryz.prog 39 #[v1] w (RetB w false) := by
  obtain ⟨a1, c1, rfl, -, f2, f3, -, -⟩ := h1.form
  by_cases hl : (limbs n).length = 1
  · obtain ⟨g, rfl, -, -⟩ := h1.addr (i := 0) (by omega)
    have r1 := h1.cell 0 (by omega)
    have hn2 : n < 1000000000 := by
      have := (limbs_len_le (n := n) (k := 1)).1 (by omega)
      simp only [pw] at this; omega
    have hn0 : 0 < n := limbs_len_pos.1 (by omega)
    rw [show lat (limbs n) 0 = (n : Int) by rw [limbs_small hn0 hn2]; rfl, hl] at *
    have d1 : ((n : Int) == 1) = false := beq_eq_false_iff_ne.2 (by omega)
    clear h1 hl
    go_enter Tryz.func39, Tryz.ntmps39
    go_wp2
    go_ret
    exact retB rfl (Below.refl _ _)
  · have d1 : ((limbs n).length == 1) = false := beq_eq_false_iff_ne.2 hl
    have d2 : (((limbs n).length : Int) == 1) = false := beq_eq_false_iff_ne.2 (by omega)
    clear h1 hl
    go_enter Tryz.func39, Tryz.ntmps39
    go_wp2
    go_ret
    exact retB rfl (Below.refl _ _)

theorem sameInts_t (w : World) (b1 b2 : Nat) (v1 v2 : Value) (xs : List Int) (h1 : Own w b1 v1 xs) (h2 : Own w b2 v2 xs) : Calls Tryz.prog 36 #[v1, v2] w (RetB w true) :=
  sameInts_c w b1 b2 v1 v2 xs xs true (by simp [Hid]) h1 h2
theorem sameInts_f (w : World) (b1 b2 : Nat) (v1 v2 : Value) (d f : Nat) (h1 : Own w b1 v1 (limbs d)) (h2 : Own w b2 v2 (limbs f)) (hne : d ≠ f) : Calls Tryz.prog 36 #[v1, v2] w (RetB w false) :=
  sameInts_c w b1 b2 v1 v2 _ _ false (by unfold Hid; exact (decide_eq_false (fun e => hne (limbs_inj e))).symm) h1 h2

theorem gcd_i (w : World) (b1 b2 : Nat) (v1 v2 : Value) (a b : Nat) (h1 : Own w b1 v1 (limbs a)) (h2 : Own w b2 v2 (limbs b)) (hs1 : (limbs a).length ≤ 900) (hs2 : (limbs b).length ≤ 900) (ha : 0 < a) (g : Nat) (hg : Hid (g = Nat.gcd a b)) :
    Calls Tryz.prog 40 #[v1, v2] w (RetS w (limbs g)) := by
  rw [hg.out]; exact natGcd_c w b1 b2 v1 v2 a b h1 h2 (by omega) (by omega) ha

set_option maxHeartbeats 1000000 in
theorem ratOk_f1 (w : World) (b1 e1 : Nat) (s : Bool) (v1 u1 : Value) (xs ys : List Int) (h1 : Own w b1 v1 xs) (k1 : Own w e1 u1 ys) (hx : ¬ OkG s xs) :
    Calls Tryz.prog 11 #[.agg #[.bool s, v1, u1]] w (RetB w false) := by
  obtain ⟨a1, c1, rfl, -, -, -, -, -⟩ := h1.form
  obtain ⟨p1, q1, rfl, -, -, -, -, -⟩ := k1.form
  have BW : Below w.heap.size w (w.alloc (.cells #[.bool s, (.slice a1 xs.length c1), (.slice p1 ys.length q1)] 27)) := ((Below.refl w.heap.size w).alloc (Nat.le_refl _) _)
  obtain ⟨c0_0, c0_1, c0_2⟩ : World.cell? (w.alloc (.cells #[.bool s, (.slice a1 xs.length c1), (.slice p1 ys.length q1)] 27)) ⟨w.heap.size, 0, none⟩ = some (.bool s) ∧ World.cell? (w.alloc (.cells #[.bool s, (.slice a1 xs.length c1), (.slice p1 ys.length q1)] 27)) ⟨w.heap.size, 1, none⟩ = some ((.slice a1 xs.length c1)) ∧ World.cell? (w.alloc (.cells #[.bool s, (.slice a1 xs.length c1), (.slice p1 ys.length q1)] 27)) ⟨w.heap.size, 2, none⟩ = some ((.slice p1 ys.length q1)) := by simp [go_sem]
  have Ha := Lib.hid (h1.below BW (Nat.le_refl _))
  have Hb := Lib.hid (k1.below BW (Nat.le_refl _))
  clear h1 k1
  have HX := Lib.hid hx
  clear hx
  go_enter Tryz.func11, Tryz.ntmps11
  go_wp2_with fail
  generalize (w.alloc (.cells #[.bool s, (.slice a1 xs.length c1), (.slice p1 ys.length q1)] 27)) = w0 at *
  have B0 := Below.refl w0.heap.size w0
  refine (bigIntOk_f _ _ _ _ _ Ha.out HX.out).mono ?_
  rintro e w1 ⟨rfl, hb⟩
  replace c0_0 := keep_cell hb c0_0
  replace c0_1 := keep_cell hb c0_1
  replace c0_2 := keep_cell hb c0_2
  replace Ha := Lib.hid (Ha.out.below hb (Nat.le_refl _))
  replace Hb := Lib.hid (Hb.out.below hb (Nat.le_refl _))
  replace B0 := B0.trans (hb.mono B0.size)
  clear hb
  go_wp2
  go_ret
  exact retB rfl (BW.trans (B0.mono BW.size))

set_option maxHeartbeats 1000000 in
theorem ratOk_f2 (w : World) (b1 e1 : Nat) (s : Bool) (v1 u1 : Value) (xs ys : List Int) (h1 : Own w b1 v1 xs) (k1 : Own w e1 u1 ys) (hx : OkG s xs) (hy : ¬ OkP ys) :
    Calls Tryz.prog 11 #[.agg #[.bool s, v1, u1]] w (RetB w false) := by
  obtain ⟨a1, c1, rfl, -, -, -, -, -⟩ := h1.form
  obtain ⟨p1, q1, rfl, -, -, -, -, -⟩ := k1.form
  have BW : Below w.heap.size w (w.alloc (.cells #[.bool s, (.slice a1 xs.length c1), (.slice p1 ys.length q1)] 27)) := ((Below.refl w.heap.size w).alloc (Nat.le_refl _) _)
  obtain ⟨c0_0, c0_1, c0_2⟩ : World.cell? (w.alloc (.cells #[.bool s, (.slice a1 xs.length c1), (.slice p1 ys.length q1)] 27)) ⟨w.heap.size, 0, none⟩ = some (.bool s) ∧ World.cell? (w.alloc (.cells #[.bool s, (.slice a1 xs.length c1), (.slice p1 ys.length q1)] 27)) ⟨w.heap.size, 1, none⟩ = some ((.slice a1 xs.length c1)) ∧ World.cell? (w.alloc (.cells #[.bool s, (.slice a1 xs.length c1), (.slice p1 ys.length q1)] 27)) ⟨w.heap.size, 2, none⟩ = some ((.slice p1 ys.length q1)) := by simp [go_sem]
  have Ha := Lib.hid (h1.below BW (Nat.le_refl _))
  have Hb := Lib.hid (k1.below BW (Nat.le_refl _))
  clear h1 k1
  have HX := Lib.hid hx
  have HY := Lib.hid hy
  clear hx hy
  go_enter Tryz.func11, Tryz.ntmps11
  go_wp2_with fail
  generalize (w.alloc (.cells #[.bool s, (.slice a1 xs.length c1), (.slice p1 ys.length q1)] 27)) = w0 at *
  have B0 := Below.refl w0.heap.size w0
  refine (bigIntOk_t _ _ _ _ _ Ha.out HX.out).mono ?_
  rintro e w1 ⟨rfl, hb⟩
  replace c0_0 := keep_cell hb c0_0
  replace c0_1 := keep_cell hb c0_1
  replace c0_2 := keep_cell hb c0_2
  replace Ha := Lib.hid (Ha.out.below hb (Nat.le_refl _))
  replace Hb := Lib.hid (Hb.out.below hb (Nat.le_refl _))
  replace B0 := B0.trans (hb.mono B0.size)
  clear hb
  go_wp2_with fail
  refine (natOk_f _ _ _ _ Hb.out HY.out).mono ?_
  rintro e w2 ⟨rfl, hb⟩
  replace c0_0 := keep_cell hb c0_0
  replace c0_1 := keep_cell hb c0_1
  replace c0_2 := keep_cell hb c0_2
  replace Ha := Lib.hid (Ha.out.below hb (Nat.le_refl _))
  replace Hb := Lib.hid (Hb.out.below hb (Nat.le_refl _))
  replace B0 := B0.trans (hb.mono B0.size)
  clear hb
  go_wp2
  go_ret
  exact retB rfl (BW.trans (B0.mono BW.size))

set_option maxHeartbeats 1000000 in
theorem ratOk_f3 (w : World) (b1 e1 : Nat) (s : Bool) (v1 u1 : Value) (xs : List Int) (h1 : Own w b1 v1 xs) (k1 : Own w e1 u1 []) (hx : OkG s xs) (hy : OkP []) :
    Calls Tryz.prog 11 #[.agg #[.bool s, v1, u1]] w (RetB w false) := by
  obtain ⟨a1, c1, rfl, -, -, -, -, -⟩ := h1.form
  obtain ⟨p1, q1, rfl, -, -, -, -, -⟩ := k1.form
  have BW : Below w.heap.size w (w.alloc (.cells #[.bool s, (.slice a1 xs.length c1), (.slice p1 ([] : List Int).length q1)] 27)) := ((Below.refl w.heap.size w).alloc (Nat.le_refl _) _)
  obtain ⟨c0_0, c0_1, c0_2⟩ : World.cell? (w.alloc (.cells #[.bool s, (.slice a1 xs.length c1), (.slice p1 ([] : List Int).length q1)] 27)) ⟨w.heap.size, 0, none⟩ = some (.bool s) ∧ World.cell? (w.alloc (.cells #[.bool s, (.slice a1 xs.length c1), (.slice p1 ([] : List Int).length q1)] 27)) ⟨w.heap.size, 1, none⟩ = some ((.slice a1 xs.length c1)) ∧ World.cell? (w.alloc (.cells #[.bool s, (.slice a1 xs.length c1), (.slice p1 ([] : List Int).length q1)] 27)) ⟨w.heap.size, 2, none⟩ = some ((.slice p1 ([] : List Int).length q1)) := by simp [go_sem]
  have Ha := Lib.hid (h1.below BW (Nat.le_refl _))
  have Hb := Lib.hid (k1.below BW (Nat.le_refl _))
  clear h1 k1
  have HX := Lib.hid hx
  have HY := Lib.hid hy
  have dz0 : (([] : List Int).length == 0) = true := rfl
  have dy0 : ((([] : List Int).length : Int) == 0) = true := rfl
  clear hx hy
  go_enter Tryz.func11, Tryz.ntmps11
  go_wp2_with fail
  generalize (w.alloc (.cells #[.bool s, (.slice a1 xs.length c1), (.slice p1 ([] : List Int).length q1)] 27)) = w0 at *
  have B0 := Below.refl w0.heap.size w0
  refine (bigIntOk_t _ _ _ _ _ Ha.out HX.out).mono ?_
  rintro e w1 ⟨rfl, hb⟩
  replace c0_0 := keep_cell hb c0_0
  replace c0_1 := keep_cell hb c0_1
  replace c0_2 := keep_cell hb c0_2
  replace Ha := Lib.hid (Ha.out.below hb (Nat.le_refl _))
  replace Hb := Lib.hid (Hb.out.below hb (Nat.le_refl _))
  replace B0 := B0.trans (hb.mono B0.size)
  clear hb
  go_wp2_with fail
  refine (natOk_t _ _ _ _ Hb.out HY.out).mono ?_
  rintro e w2 ⟨rfl, hb⟩
  replace c0_0 := keep_cell hb c0_0
  replace c0_1 := keep_cell hb c0_1
  replace c0_2 := keep_cell hb c0_2
  replace Ha := Lib.hid (Ha.out.below hb (Nat.le_refl _))
  replace Hb := Lib.hid (Hb.out.below hb (Nat.le_refl _))
  replace B0 := B0.trans (hb.mono B0.size)
  clear hb
  go_wp2
  go_ret
  exact retB rfl (BW.trans (B0.mono BW.size))

set_option maxHeartbeats 1000000 in
theorem ratOk_f4 (w : World) (b1 e1 : Nat) (s : Bool) (v1 u1 : Value) (xs ys : List Int) (h1 : Own w b1 v1 xs) (k1 : Own w e1 u1 ys) (hx : OkG s xs) (hy : OkP ys) (hz : ¬ ys.length = 0) (hl : 24 < xs.length) :
    Calls Tryz.prog 11 #[.agg #[.bool s, v1, u1]] w (RetB w false) := by
  obtain ⟨a1, c1, rfl, -, -, -, -, -⟩ := h1.form
  obtain ⟨p1, q1, rfl, -, -, -, -, -⟩ := k1.form
  have BW : Below w.heap.size w (w.alloc (.cells #[.bool s, (.slice a1 xs.length c1), (.slice p1 ys.length q1)] 27)) := ((Below.refl w.heap.size w).alloc (Nat.le_refl _) _)
  obtain ⟨c0_0, c0_1, c0_2⟩ : World.cell? (w.alloc (.cells #[.bool s, (.slice a1 xs.length c1), (.slice p1 ys.length q1)] 27)) ⟨w.heap.size, 0, none⟩ = some (.bool s) ∧ World.cell? (w.alloc (.cells #[.bool s, (.slice a1 xs.length c1), (.slice p1 ys.length q1)] 27)) ⟨w.heap.size, 1, none⟩ = some ((.slice a1 xs.length c1)) ∧ World.cell? (w.alloc (.cells #[.bool s, (.slice a1 xs.length c1), (.slice p1 ys.length q1)] 27)) ⟨w.heap.size, 2, none⟩ = some ((.slice p1 ys.length q1)) := by simp [go_sem]
  have Ha := Lib.hid (h1.below BW (Nat.le_refl _))
  have Hb := Lib.hid (k1.below BW (Nat.le_refl _))
  clear h1 k1
  have HX := Lib.hid hx
  have HY := Lib.hid hy
  have dz0 : (ys.length == 0) = false := beq_eq_false_iff_ne.2 hz
  have dy0 : ((ys.length : Int) == 0) = false := beq_eq_false_iff_ne.2 (by omega)
  have gx : decide (24 < xs.length) = true := decide_eq_true (by omega)
  have gix : decide ((24 : Int) < xs.length) = true := decide_eq_true (by omega)
  clear hx hy
  go_enter Tryz.func11, Tryz.ntmps11
  go_wp2_with fail
  generalize (w.alloc (.cells #[.bool s, (.slice a1 xs.length c1), (.slice p1 ys.length q1)] 27)) = w0 at *
  have B0 := Below.refl w0.heap.size w0
  refine (bigIntOk_t _ _ _ _ _ Ha.out HX.out).mono ?_
  rintro e w1 ⟨rfl, hb⟩
  replace c0_0 := keep_cell hb c0_0
  replace c0_1 := keep_cell hb c0_1
  replace c0_2 := keep_cell hb c0_2
  replace Ha := Lib.hid (Ha.out.below hb (Nat.le_refl _))
  replace Hb := Lib.hid (Hb.out.below hb (Nat.le_refl _))
  replace B0 := B0.trans (hb.mono B0.size)
  clear hb
  go_wp2_with fail
  refine (natOk_t _ _ _ _ Hb.out HY.out).mono ?_
  rintro e w2 ⟨rfl, hb⟩
  replace c0_0 := keep_cell hb c0_0
  replace c0_1 := keep_cell hb c0_1
  replace c0_2 := keep_cell hb c0_2
  replace Ha := Lib.hid (Ha.out.below hb (Nat.le_refl _))
  replace Hb := Lib.hid (Hb.out.below hb (Nat.le_refl _))
  replace B0 := B0.trans (hb.mono B0.size)
  clear hb
  go_wp2
  go_ret
  exact retB rfl (BW.trans (B0.mono BW.size))

set_option maxHeartbeats 1000000 in
theorem ratOk_f5 (w : World) (b1 e1 : Nat) (s : Bool) (v1 u1 : Value) (xs ys : List Int) (h1 : Own w b1 v1 xs) (k1 : Own w e1 u1 ys) (hx : OkG s xs) (hy : OkP ys) (hz : ¬ ys.length = 0) (hl : xs.length ≤ 24) (hm : 24 < ys.length) :
    Calls Tryz.prog 11 #[.agg #[.bool s, v1, u1]] w (RetB w false) := by
  obtain ⟨a1, c1, rfl, -, -, -, -, -⟩ := h1.form
  obtain ⟨p1, q1, rfl, -, -, -, -, -⟩ := k1.form
  have BW : Below w.heap.size w (w.alloc (.cells #[.bool s, (.slice a1 xs.length c1), (.slice p1 ys.length q1)] 27)) := ((Below.refl w.heap.size w).alloc (Nat.le_refl _) _)
  obtain ⟨c0_0, c0_1, c0_2⟩ : World.cell? (w.alloc (.cells #[.bool s, (.slice a1 xs.length c1), (.slice p1 ys.length q1)] 27)) ⟨w.heap.size, 0, none⟩ = some (.bool s) ∧ World.cell? (w.alloc (.cells #[.bool s, (.slice a1 xs.length c1), (.slice p1 ys.length q1)] 27)) ⟨w.heap.size, 1, none⟩ = some ((.slice a1 xs.length c1)) ∧ World.cell? (w.alloc (.cells #[.bool s, (.slice a1 xs.length c1), (.slice p1 ys.length q1)] 27)) ⟨w.heap.size, 2, none⟩ = some ((.slice p1 ys.length q1)) := by simp [go_sem]
  have Ha := Lib.hid (h1.below BW (Nat.le_refl _))
  have Hb := Lib.hid (k1.below BW (Nat.le_refl _))
  clear h1 k1
  have HX := Lib.hid hx
  have HY := Lib.hid hy
  have dz0 : (ys.length == 0) = false := beq_eq_false_iff_ne.2 hz
  have dy0 : ((ys.length : Int) == 0) = false := beq_eq_false_iff_ne.2 (by omega)
  have gx : decide (24 < xs.length) = false := decide_eq_false (by omega)
  have gix : decide ((24 : Int) < xs.length) = false := decide_eq_false (by omega)
  have gy : decide (24 < ys.length) = true := decide_eq_true (by omega)
  have giy : decide ((24 : Int) < ys.length) = true := decide_eq_true (by omega)
  clear hx hy
  go_enter Tryz.func11, Tryz.ntmps11
  go_wp2_with fail
  generalize (w.alloc (.cells #[.bool s, (.slice a1 xs.length c1), (.slice p1 ys.length q1)] 27)) = w0 at *
  have B0 := Below.refl w0.heap.size w0
  refine (bigIntOk_t _ _ _ _ _ Ha.out HX.out).mono ?_
  rintro e w1 ⟨rfl, hb⟩
  replace c0_0 := keep_cell hb c0_0
  replace c0_1 := keep_cell hb c0_1
  replace c0_2 := keep_cell hb c0_2
  replace Ha := Lib.hid (Ha.out.below hb (Nat.le_refl _))
  replace Hb := Lib.hid (Hb.out.below hb (Nat.le_refl _))
  replace B0 := B0.trans (hb.mono B0.size)
  clear hb
  go_wp2_with fail
  refine (natOk_t _ _ _ _ Hb.out HY.out).mono ?_
  rintro e w2 ⟨rfl, hb⟩
  replace c0_0 := keep_cell hb c0_0
  replace c0_1 := keep_cell hb c0_1
  replace c0_2 := keep_cell hb c0_2
  replace Ha := Lib.hid (Ha.out.below hb (Nat.le_refl _))
  replace Hb := Lib.hid (Hb.out.below hb (Nat.le_refl _))
  replace B0 := B0.trans (hb.mono B0.size)
  clear hb
  go_wp2
  go_ret
  exact retB rfl (BW.trans (B0.mono BW.size))

set_option maxHeartbeats 1000000 in
theorem ratOk_yes (w : World) (b1 e1 : Nat) (v1 u1 : Value) (x : Int) (d : Nat) (h1 : Own w b1 v1 (limbs x.natAbs)) (k1 : Own w e1 u1 (limbs d)) (hd : 0 < d) (hlx : (limbs x.natAbs).length ≤ 24) (hld : (limbs d).length ≤ 24) (g : Nat) (hg : g = Nat.gcd d x.natAbs) (hg1 : g = 1) :
    Calls Tryz.prog 11 #[.agg #[.bool (ng x), v1, u1]] w (RetB w true) := by
  obtain ⟨a1, c1, rfl, -, -, -, -, -⟩ := h1.form
  obtain ⟨p1, q1, rfl, -, -, -, -, -⟩ := k1.form
  subst hg1
  have BW : Below w.heap.size w (w.alloc (.cells #[.bool (ng x), (.slice a1 (limbs x.natAbs).length c1), (.slice p1 (limbs d).length q1)] 27)) := ((Below.refl w.heap.size w).alloc (Nat.le_refl _) _)
  obtain ⟨c0_0, c0_1, c0_2⟩ : World.cell? (w.alloc (.cells #[.bool (ng x), (.slice a1 (limbs x.natAbs).length c1), (.slice p1 (limbs d).length q1)] 27)) ⟨w.heap.size, 0, none⟩ = some (.bool (ng x)) ∧ World.cell? (w.alloc (.cells #[.bool (ng x), (.slice a1 (limbs x.natAbs).length c1), (.slice p1 (limbs d).length q1)] 27)) ⟨w.heap.size, 1, none⟩ = some ((.slice a1 (limbs x.natAbs).length c1)) ∧ World.cell? (w.alloc (.cells #[.bool (ng x), (.slice a1 (limbs x.natAbs).length c1), (.slice p1 (limbs d).length q1)] 27)) ⟨w.heap.size, 2, none⟩ = some ((.slice p1 (limbs d).length q1)) := by simp [go_sem]
  have Ha := Lib.hid (h1.below BW (Nat.le_refl _))
  have Hb := Lib.hid (k1.below BW (Nat.le_refl _))
  clear h1 k1
  have HG := Lib.hid hg
  have dz0 : ((limbs d).length == 0) = false := beq_eq_false_iff_ne.2 (by have := limbs_len_pos.2 hd; omega)
  have dy0 : (((limbs d).length : Int) == 0) = false := beq_eq_false_iff_ne.2 (by have := limbs_len_pos.2 hd; omega)
  have gx : decide (24 < (limbs x.natAbs).length) = false := decide_eq_false (by omega)
  have gix : decide ((24 : Int) < (limbs x.natAbs).length) = false := decide_eq_false (by omega)
  have gy : decide (24 < (limbs d).length) = false := decide_eq_false (by omega)
  have giy : decide ((24 : Int) < (limbs d).length) = false := decide_eq_false (by omega)
  have HD := Lib.hid hd
  have m1 : (limbs x.natAbs).length ≤ 60 := by omega
  have m2 : (limbs d).length ≤ 60 := by omega
  have n1 : (limbs x.natAbs).length ≤ 900 := by omega
  have n2 : (limbs d).length ≤ 900 := by omega
  clear hg hd
  go_enter Tryz.func11, Tryz.ntmps11
  go_wp2_with fail
  generalize (w.alloc (.cells #[.bool (ng x), (.slice a1 (limbs x.natAbs).length c1), (.slice p1 (limbs d).length q1)] 27)) = w0 at *
  have B0 := Below.refl w0.heap.size w0
  refine (bigIntOk_z _ _ _ x Ha.out m1).mono ?_
  rintro e w1 ⟨rfl, hb⟩
  replace c0_0 := keep_cell hb c0_0
  replace c0_1 := keep_cell hb c0_1
  replace c0_2 := keep_cell hb c0_2
  replace Ha := Lib.hid (Ha.out.below hb (Nat.le_refl _))
  replace Hb := Lib.hid (Hb.out.below hb (Nat.le_refl _))
  replace B0 := B0.trans (hb.mono B0.size)
  clear hb
  go_wp2_with fail
  refine (natOk_t _ _ _ _ Hb.out (limbs_ok m2)).mono ?_
  rintro e w2 ⟨rfl, hb⟩
  replace c0_0 := keep_cell hb c0_0
  replace c0_1 := keep_cell hb c0_1
  replace c0_2 := keep_cell hb c0_2
  replace Ha := Lib.hid (Ha.out.below hb (Nat.le_refl _))
  replace Hb := Lib.hid (Hb.out.below hb (Nat.le_refl _))
  replace B0 := B0.trans (hb.mono B0.size)
  clear hb
  go_wp2_with fail
  refine (gcd_i _ _ _ _ _ d x.natAbs Hb.out Ha.out n2 n1 HD.out 1 HG).mono ?_
  rintro e w3 ⟨vg, rfl, ho1, hb⟩
  replace c0_0 := keep_cell hb c0_0
  replace c0_1 := keep_cell hb c0_1
  replace c0_2 := keep_cell hb c0_2
  replace Ha := Lib.hid (Ha.out.below hb (Nat.le_refl _))
  replace Hb := Lib.hid (Hb.out.below hb (Nat.le_refl _))
  have Hg := Lib.hid (ho1.mono B0.size)
  clear ho1
  replace B0 := B0.trans (hb.mono B0.size)
  clear hb
  go_wp2_with fail
  refine (isOne_t _ _ _ Hg.out).mono ?_
  rintro e w4 ⟨rfl, hb⟩
  replace c0_0 := keep_cell hb c0_0
  replace c0_1 := keep_cell hb c0_1
  replace c0_2 := keep_cell hb c0_2
  replace Ha := Lib.hid (Ha.out.below hb (Nat.le_refl _))
  replace Hb := Lib.hid (Hb.out.below hb (Nat.le_refl _))
  replace Hg := Lib.hid (Hg.out.below hb (Nat.le_refl _))
  replace B0 := B0.trans (hb.mono B0.size)
  clear hb
  go_wp2
  go_ret
  exact retB rfl (BW.trans (B0.mono BW.size))

set_option maxHeartbeats 1000000 in
theorem ratOk_no (w : World) (b1 e1 : Nat) (v1 u1 : Value) (x : Int) (d : Nat) (h1 : Own w b1 v1 (limbs x.natAbs)) (k1 : Own w e1 u1 (limbs d)) (hd : 0 < d) (hlx : (limbs x.natAbs).length ≤ 24) (hld : (limbs d).length ≤ 24) (g : Nat) (hg : g = Nat.gcd d x.natAbs) (hg1 : g ≠ 1) :
    Calls Tryz.prog 11 #[.agg #[.bool (ng x), v1, u1]] w (RetB w false) := by
  obtain ⟨a1, c1, rfl, -, -, -, -, -⟩ := h1.form
  obtain ⟨p1, q1, rfl, -, -, -, -, -⟩ := k1.form
  have BW : Below w.heap.size w (w.alloc (.cells #[.bool (ng x), (.slice a1 (limbs x.natAbs).length c1), (.slice p1 (limbs d).length q1)] 27)) := ((Below.refl w.heap.size w).alloc (Nat.le_refl _) _)
  obtain ⟨c0_0, c0_1, c0_2⟩ : World.cell? (w.alloc (.cells #[.bool (ng x), (.slice a1 (limbs x.natAbs).length c1), (.slice p1 (limbs d).length q1)] 27)) ⟨w.heap.size, 0, none⟩ = some (.bool (ng x)) ∧ World.cell? (w.alloc (.cells #[.bool (ng x), (.slice a1 (limbs x.natAbs).length c1), (.slice p1 (limbs d).length q1)] 27)) ⟨w.heap.size, 1, none⟩ = some ((.slice a1 (limbs x.natAbs).length c1)) ∧ World.cell? (w.alloc (.cells #[.bool (ng x), (.slice a1 (limbs x.natAbs).length c1), (.slice p1 (limbs d).length q1)] 27)) ⟨w.heap.size, 2, none⟩ = some ((.slice p1 (limbs d).length q1)) := by simp [go_sem]
  have Ha := Lib.hid (h1.below BW (Nat.le_refl _))
  have Hb := Lib.hid (k1.below BW (Nat.le_refl _))
  clear h1 k1
  have HG := Lib.hid hg
  have dz0 : ((limbs d).length == 0) = false := beq_eq_false_iff_ne.2 (by have := limbs_len_pos.2 hd; omega)
  have dy0 : (((limbs d).length : Int) == 0) = false := beq_eq_false_iff_ne.2 (by have := limbs_len_pos.2 hd; omega)
  have gx : decide (24 < (limbs x.natAbs).length) = false := decide_eq_false (by omega)
  have gix : decide ((24 : Int) < (limbs x.natAbs).length) = false := decide_eq_false (by omega)
  have gy : decide (24 < (limbs d).length) = false := decide_eq_false (by omega)
  have giy : decide ((24 : Int) < (limbs d).length) = false := decide_eq_false (by omega)
  have HD := Lib.hid hd
  have m1 : (limbs x.natAbs).length ≤ 60 := by omega
  have m2 : (limbs d).length ≤ 60 := by omega
  have n1 : (limbs x.natAbs).length ≤ 900 := by omega
  have n2 : (limbs d).length ≤ 900 := by omega
  clear hg hd
  go_enter Tryz.func11, Tryz.ntmps11
  go_wp2_with fail
  generalize (w.alloc (.cells #[.bool (ng x), (.slice a1 (limbs x.natAbs).length c1), (.slice p1 (limbs d).length q1)] 27)) = w0 at *
  have B0 := Below.refl w0.heap.size w0
  refine (bigIntOk_z _ _ _ x Ha.out m1).mono ?_
  rintro e w1 ⟨rfl, hb⟩
  replace c0_0 := keep_cell hb c0_0
  replace c0_1 := keep_cell hb c0_1
  replace c0_2 := keep_cell hb c0_2
  replace Ha := Lib.hid (Ha.out.below hb (Nat.le_refl _))
  replace Hb := Lib.hid (Hb.out.below hb (Nat.le_refl _))
  replace B0 := B0.trans (hb.mono B0.size)
  clear hb
  go_wp2_with fail
  refine (natOk_t _ _ _ _ Hb.out (limbs_ok m2)).mono ?_
  rintro e w2 ⟨rfl, hb⟩
  replace c0_0 := keep_cell hb c0_0
  replace c0_1 := keep_cell hb c0_1
  replace c0_2 := keep_cell hb c0_2
  replace Ha := Lib.hid (Ha.out.below hb (Nat.le_refl _))
  replace Hb := Lib.hid (Hb.out.below hb (Nat.le_refl _))
  replace B0 := B0.trans (hb.mono B0.size)
  clear hb
  go_wp2_with fail
  refine (gcd_i _ _ _ _ _ d x.natAbs Hb.out Ha.out n2 n1 HD.out g HG).mono ?_
  rintro e w3 ⟨vg, rfl, ho1, hb⟩
  replace c0_0 := keep_cell hb c0_0
  replace c0_1 := keep_cell hb c0_1
  replace c0_2 := keep_cell hb c0_2
  replace Ha := Lib.hid (Ha.out.below hb (Nat.le_refl _))
  replace Hb := Lib.hid (Hb.out.below hb (Nat.le_refl _))
  have Hg := Lib.hid (ho1.mono B0.size)
  clear ho1
  replace B0 := B0.trans (hb.mono B0.size)
  clear hb
  go_wp2_with fail
  refine (isOne_f _ _ _ g Hg.out hg1).mono ?_
  rintro e w4 ⟨rfl, hb⟩
  replace c0_0 := keep_cell hb c0_0
  replace c0_1 := keep_cell hb c0_1
  replace c0_2 := keep_cell hb c0_2
  replace Ha := Lib.hid (Ha.out.below hb (Nat.le_refl _))
  replace Hb := Lib.hid (Hb.out.below hb (Nat.le_refl _))
  replace Hg := Lib.hid (Hg.out.below hb (Nat.le_refl _))
  replace B0 := B0.trans (hb.mono B0.size)
  clear hb
  go_wp2
  go_ret
  exact retB rfl (BW.trans (B0.mono BW.size))

theorem ratOk_t (w : World) (b1 e1 : Nat) (s : Bool) (v1 u1 : Value) (xs ys : List Int) (h1 : Own w b1 v1 xs) (k1 : Own w e1 u1 ys) (h : OkR s xs ys) : Calls Tryz.prog 11 #[.agg #[.bool s, v1, u1]] w (RetB w true) := by
  obtain ⟨x, d, rfl, rfl, rfl, h, -, -⟩ := okR_q h
  exact ratOk_yes w b1 e1 v1 u1 x d h1 k1 h.1 h.2.2.1 h.2.2.2 _ rfl (by rw [Nat.gcd_comm]; exact h.2.1)
theorem ratOk_f (w : World) (b1 e1 : Nat) (s : Bool) (v1 u1 : Value) (xs ys : List Int) (h1 : Own w b1 v1 xs) (k1 : Own w e1 u1 ys) (h : ¬ OkR s xs ys) : Calls Tryz.prog 11 #[.agg #[.bool s, v1, u1]] w (RetB w false) := by
  by_cases hx : OkG s xs
  · by_cases hy : OkP ys
    · by_cases hz : ys.length = 0
      · obtain rfl := List.length_eq_zero_iff.1 hz
        exact ratOk_f3 w b1 e1 s v1 u1 xs h1 k1 hx hy
      · by_cases hl : xs.length ≤ 24
        · by_cases hm : ys.length ≤ 24
          · obtain ⟨x, rfl, rfl, hl1, -⟩ := okG_z hx
            obtain ⟨d, rfl, hl2⟩ := ok_limbs hy
            have hd : 0 < d := limbs_len_pos.1 (by omega)
            refine ratOk_no w b1 e1 v1 u1 x d h1 k1 hd (hl) (hm) _ rfl (fun e => h ⟨hx, hy, fun e2 => hz (by rw [e2]; rfl), hl, hm, ?_⟩)
            rw [nv_toNat, nv_toNat]
            rw [Nat.gcd_comm]; exact e
          · exact ratOk_f5 w b1 e1 s v1 u1 xs ys h1 k1 hx hy hz hl (by omega)
        · exact ratOk_f4 w b1 e1 s v1 u1 xs ys h1 k1 hx hy hz (by omega)
    · exact ratOk_f2 w b1 e1 s v1 u1 xs ys h1 k1 hx hy
  · exact ratOk_f1 w b1 e1 s v1 u1 xs ys h1 k1 hx
theorem ratOk_q (w : World) (b1 e1 : Nat) (v1 u1 : Value) (x : Int) (d : Nat) (h1 : Own w b1 v1 (limbs x.natAbs)) (k1 : Own w e1 u1 (limbs d)) (h : IsQ x d) : Calls Tryz.prog 11 #[.agg #[.bool (ng x), v1, u1]] w (RetB w true) := ratOk_t w b1 e1 _ v1 u1 _ _ h1 k1 (okR_of h)
theorem ratOk_c (w : World) (b1 e1 : Nat) (s : Bool) (v1 u1 : Value) (xs ys : List Int) (h1 : Own w b1 v1 xs) (k1 : Own w e1 u1 ys) : Calls Tryz.prog 11 #[.agg #[.bool s, v1, u1]] w (RetB w (okRB s xs ys)) := by
  by_cases h : OkR s xs ys
  · rw [show okRB s xs ys = true by simp [okRB, h]]; exact ratOk_t w b1 e1 s v1 u1 xs ys h1 k1 h
  · rw [show okRB s xs ys = false by simp [okRB, h]]; exact ratOk_f w b1 e1 s v1 u1 xs ys h1 k1 h

set_option maxHeartbeats 1000000 in
theorem void_t (w : World) (e1 : Nat) (s : Bool) (v1 u1 : Value) (d : Nat) (k1 : Own w e1 u1 (limbs d)) (hd : d = 0) : Calls Tryz.prog 59 #[.agg #[.bool s, v1, u1]] w (RetB w true) := by
  obtain ⟨p1, q1, rfl, -, -, -, -, -⟩ := k1.form
  have dz0 : ((limbs d).length == 0) = true := by rw [show (limbs d) = [] from limbs_nil.2 hd]; rfl
  have dy0 : (((limbs d).length : Int) == 0) = true := by rw [show (limbs d) = [] from limbs_nil.2 hd]; rfl
  clear k1
  go_enter Tryz.func59, Tryz.ntmps59
  go_wp2
  go_ret
  exact retB rfl ((Below.refl _ _).alloc (Nat.le_refl _) _)

set_option maxHeartbeats 1000000 in
theorem void_f (w : World) (e1 : Nat) (s : Bool) (v1 u1 : Value) (d : Nat) (k1 : Own w e1 u1 (limbs d)) (hd : 0 < d) : Calls Tryz.prog 59 #[.agg #[.bool s, v1, u1]] w (RetB w false) := by
  obtain ⟨p1, q1, rfl, -, -, -, -, -⟩ := k1.form
  have dz0 : ((limbs d).length == 0) = false := beq_eq_false_iff_ne.2 (by have := limbs_len_pos.2 hd; omega)
  have dy0 : (((limbs d).length : Int) == 0) = false := beq_eq_false_iff_ne.2 (by have := limbs_len_pos.2 hd; omega)
  clear k1
  go_enter Tryz.func59, Tryz.ntmps59
  go_wp2
  go_ret
  exact retB rfl ((Below.refl _ _).alloc (Nat.le_refl _) _)

theorem own_one_at (w : World) (g : Nat) (hg : w.heap.size = g) : Own (w.alloc (.cells #[.int .i64 1] 3)) w.heap.size (.slice (some ⟨g, 0, none⟩) 1 1) (limbs 1) := by
  subst hg; exact own_one w
set_option maxHeartbeats 1000000 in
theorem lowest_zero (w : World) (b : Nat) (v1 v2 : Value) (x : Int) (d : Nat) (h1 : Own w b v1 (limbs x.natAbs)) (h2 : Own w b v2 (limbs d)) (hb : b ≤ w.heap.size) (hx : x.natAbs = 0) : Calls Tryz.prog 60 #[.agg #[.bool (ng x), v1], v2] w (RetL w b v1 v2 0 1) := by
  obtain ⟨a1, c1, rfl, -, -, -, -, -⟩ := h1.form
  obtain ⟨a2, c2, rfl, -, -, -, -, -⟩ := h2.form
  have dz0 : ((limbs x.natAbs).length == 0) = true := by rw [show (limbs x.natAbs) = [] from limbs_nil.2 hx]; rfl
  have dy0 : (((limbs x.natAbs).length : Int) == 0) = true := by rw [show (limbs x.natAbs) = [] from limbs_nil.2 hx]; rfl
  clear h1 h2 hx
  go_enter Tryz.func60, Tryz.ntmps60
  go_wp2
  exact bodyPost_ret (v := .agg #[.bool false, .slice none 0 0, .slice (some ⟨w.heap.size + 1 + 1, 0, none⟩) 1 1]) (by simp [results, Tryz.results60, go_sem]) rfl
    ⟨_, _, rfl, Own.nil _ _, (own_one_at _ _ (by simp)).mono (by simp; omega), fun _ => apart_nil, (((Below.refl _ _).alloc (Nat.le_refl _) _).alloc (by simp) _).alloc (by simp; omega) _⟩

theorem natDiv_n (w : World) (b1 b2 : Nat) (v1 v2 : Value) (a b n : Nat) (h1 : Own w b1 v1 (limbs a)) (h2 : Own w b2 v2 (limbs b)) (hs1 : (limbs a).length ≤ 900) (hb : 0 < b) (hn : Hid (n = a / b)) :
    Calls Tryz.prog 73 #[v1, v2] w (RetSS w (limbs n) (limbs (a % b))) := by
  rw [hn.out]; exact natDiv_c w b1 b2 v1 v2 a b h1 h2 (by omega) hb

set_option maxHeartbeats 1000000 in
theorem lowest_1y (w : World) (b : Nat) (v1 v2 : Value) (x : Int) (d : Nat) (h1 : Own w b v1 (limbs x.natAbs)) (h2 : Own w b v2 (limbs d)) (_hb : b ≤ w.heap.size) (hl1 : (limbs x.natAbs).length ≤ 900) (hl2 : (limbs d).length ≤ 900) (hd : 0 < d) (hx : 0 < x.natAbs) (hg : 1 = Nat.gcd d x.natAbs) (hf1 : (limbs x.natAbs).length ≤ 24) (hf2 : (limbs d).length ≤ 24) :
    Calls Tryz.prog 60 #[.agg #[.bool (ng x), v1], v2] w (RetL w b v1 v2 x d) := by
  obtain ⟨a1, c1, rfl, -, -, -, -, -⟩ := h1.form
  obtain ⟨a2, c2, rfl, -, -, -, -, -⟩ := h2.form
  have BW : Below w.heap.size w ((w.alloc (.cells #[.bool (ng x), (.slice a1 (limbs x.natAbs).length c1)] 25)).alloc (.cells #[.bool false, .slice none 0 0, .slice none 0 0] 27)) := (((Below.refl w.heap.size w).alloc (Nat.le_refl _) _).alloc (by simp) _)
  obtain ⟨c0_0, c0_1, q0_0, q0_1, c1_0, c1_1, c1_2, q0, q1, q2⟩ : World.cell? ((w.alloc (.cells #[.bool (ng x), (.slice a1 (limbs x.natAbs).length c1)] 25)).alloc (.cells #[.bool false, .slice none 0 0, .slice none 0 0] 27)) ⟨w.heap.size, 0, none⟩ = some (.bool (ng x)) ∧ World.cell? ((w.alloc (.cells #[.bool (ng x), (.slice a1 (limbs x.natAbs).length c1)] 25)).alloc (.cells #[.bool false, .slice none 0 0, .slice none 0 0] 27)) ⟨w.heap.size, 1, none⟩ = some ((.slice a1 (limbs x.natAbs).length c1)) ∧ World.frozen? ((w.alloc (.cells #[.bool (ng x), (.slice a1 (limbs x.natAbs).length c1)] 25)).alloc (.cells #[.bool false, .slice none 0 0, .slice none 0 0] 27)) ⟨w.heap.size, 0, none⟩ = false ∧ World.frozen? ((w.alloc (.cells #[.bool (ng x), (.slice a1 (limbs x.natAbs).length c1)] 25)).alloc (.cells #[.bool false, .slice none 0 0, .slice none 0 0] 27)) ⟨w.heap.size, 1, none⟩ = false ∧ World.cell? ((w.alloc (.cells #[.bool (ng x), (.slice a1 (limbs x.natAbs).length c1)] 25)).alloc (.cells #[.bool false, .slice none 0 0, .slice none 0 0] 27)) ⟨w.heap.size + 1, 0, none⟩ = some (.bool false) ∧ World.cell? ((w.alloc (.cells #[.bool (ng x), (.slice a1 (limbs x.natAbs).length c1)] 25)).alloc (.cells #[.bool false, .slice none 0 0, .slice none 0 0] 27)) ⟨w.heap.size + 1, 1, none⟩ = some (.slice none 0 0) ∧ World.cell? ((w.alloc (.cells #[.bool (ng x), (.slice a1 (limbs x.natAbs).length c1)] 25)).alloc (.cells #[.bool false, .slice none 0 0, .slice none 0 0] 27)) ⟨w.heap.size + 1, 2, none⟩ = some (.slice none 0 0) ∧ World.frozen? ((w.alloc (.cells #[.bool (ng x), (.slice a1 (limbs x.natAbs).length c1)] 25)).alloc (.cells #[.bool false, .slice none 0 0, .slice none 0 0] 27)) ⟨w.heap.size + 1, 0, none⟩ = false ∧ World.frozen? ((w.alloc (.cells #[.bool (ng x), (.slice a1 (limbs x.natAbs).length c1)] 25)).alloc (.cells #[.bool false, .slice none 0 0, .slice none 0 0] 27)) ⟨w.heap.size + 1, 1, none⟩ = false ∧ World.frozen? ((w.alloc (.cells #[.bool (ng x), (.slice a1 (limbs x.natAbs).length c1)] 25)).alloc (.cells #[.bool false, .slice none 0 0, .slice none 0 0] 27)) ⟨w.heap.size + 1, 2, none⟩ = false := by simp [go_sem]
  have hg0 : w.heap.size + 1 < (((w.alloc (.cells #[.bool (ng x), (.slice a1 (limbs x.natAbs).length c1)] 25)).alloc (.cells #[.bool false, .slice none 0 0, .slice none 0 0] 27))).heap.size := World.block_lt_of_cell? _ _ c1_0
  have hgN : w.heap.size < (((w.alloc (.cells #[.bool (ng x), (.slice a1 (limbs x.natAbs).length c1)] 25)).alloc (.cells #[.bool false, .slice none 0 0, .slice none 0 0] 27))).heap.size := World.block_lt_of_cell? _ _ c0_0
  have Ia := Lib.hid h1
  have Ha := Lib.hid (h1.below BW (Nat.le_refl _))
  have Ib := Lib.hid h2
  have Hb := Lib.hid (h2.below BW (Nat.le_refl _))
  clear h1 h2
  have dz0 : ((limbs x.natAbs).length == 0) = false := beq_eq_false_iff_ne.2 (by have := limbs_len_pos.2 hx; omega)
  have dy0 : (((limbs x.natAbs).length : Int) == 0) = false := beq_eq_false_iff_ne.2 (by have := limbs_len_pos.2 hx; omega)
  have HD := Lib.hid hd
  have HG := Lib.hid hg
  have gx : decide (24 < (limbs x.natAbs).length) = false := decide_eq_false (by omega)
  have gix : decide ((24 : Int) < (limbs x.natAbs).length) = false := decide_eq_false (by omega)
  have gy : decide (24 < (limbs d).length) = false := decide_eq_false (by omega)
  have giy : decide ((24 : Int) < (limbs d).length) = false := decide_eq_false (by omega)
  clear hd hg hx
  go_enter Tryz.func60, Tryz.ntmps60
  go_wp2_with fail
  generalize ((w.alloc (.cells #[.bool (ng x), (.slice a1 (limbs x.natAbs).length c1)] 25)).alloc (.cells #[.bool false, .slice none 0 0, .slice none 0 0] 27)) = w0 at *
  have B0 := Below.refl w0.heap.size w0
  refine (gcd_i _ _ _ _ _ d x.natAbs Hb.out Ha.out hl2 hl1 HD.out 1 HG).mono ?_
  rintro e w1 ⟨vg, rfl, ho1, hb⟩
  replace q0_0 := keep_frozen (w1 := w1) hb c0_0 q0_0
  replace q0_1 := keep_frozen (w1 := w1) hb c0_1 q0_1
  replace c0_0 := keep_cell hb c0_0
  replace c0_1 := keep_cell hb c0_1
  replace q0 := keep_frozen (w1 := w1) hb c1_0 q0
  replace c1_0 := keep_cell (w1 := w1) hb c1_0
  replace q1 := keep_frozen (w1 := w1) hb c1_1 q1
  replace c1_1 := keep_cell (w1 := w1) hb c1_1
  replace q2 := keep_frozen (w1 := w1) hb c1_2 q2
  replace c1_2 := keep_cell (w1 := w1) hb c1_2
  replace Ha := Lib.hid (Ha.out.below hb (Nat.le_refl _))
  replace Hb := Lib.hid (Hb.out.below hb (Nat.le_refl _))
  have Hg := Lib.hid (ho1.mono B0.size)
  clear ho1
  replace B0 := B0.trans (hb.mono B0.size)
  clear hb
  go_wp2_with fail
  refine (isOne_t _ _ _ Hg.out).mono ?_
  rintro e w2 ⟨rfl, hb⟩
  replace q0_0 := keep_frozen (w1 := w2) hb c0_0 q0_0
  replace q0_1 := keep_frozen (w1 := w2) hb c0_1 q0_1
  replace c0_0 := keep_cell hb c0_0
  replace c0_1 := keep_cell hb c0_1
  replace q0 := keep_frozen (w1 := w2) hb c1_0 q0
  replace c1_0 := keep_cell (w1 := w2) hb c1_0
  replace q1 := keep_frozen (w1 := w2) hb c1_1 q1
  replace c1_1 := keep_cell (w1 := w2) hb c1_1
  replace q2 := keep_frozen (w1 := w2) hb c1_2 q2
  replace c1_2 := keep_cell (w1 := w2) hb c1_2
  replace Ha := Lib.hid (Ha.out.below hb (Nat.le_refl _))
  replace Hb := Lib.hid (Hb.out.below hb (Nat.le_refl _))
  replace Hg := Lib.hid (Hg.out.below hb (Nat.le_refl _))
  replace B0 := B0.trans (hb.mono B0.size)
  clear hb
  go_wp2
  exact bodyPost_ret (v := .agg #[.bool (ng x), .slice a1 (limbs x.natAbs).length c1, .slice a2 (limbs d).length c2]) (by simp [results, Tryz.results60, go_sem, c1_0, c1_1, c1_2]) rfl (retL_end (BW.trans (B0.mono BW.size)) (by omega) Ha.out Hb.out (ne_of_top Ia.out (by omega)) (ne_of_top Ib.out (by omega)) (fun h => h))

set_option maxHeartbeats 1000000 in
theorem lowest_11 (w : World) (b : Nat) (v1 v2 : Value) (x : Int) (d : Nat) (h1 : Own w b v1 (limbs x.natAbs)) (h2 : Own w b v2 (limbs d)) (_hb : b ≤ w.heap.size) (hl1 : (limbs x.natAbs).length ≤ 900) (hl2 : (limbs d).length ≤ 900) (hd : 0 < d) (hx : 0 < x.natAbs) (hg : 1 = Nat.gcd d x.natAbs) (hf1 : 24 < (limbs x.natAbs).length) :
    Calls Tryz.prog 60 #[.agg #[.bool (ng x), v1], v2] w (RetL w b v1 v2 0 0) := by
  obtain ⟨a1, c1, rfl, -, -, -, -, -⟩ := h1.form
  obtain ⟨a2, c2, rfl, -, -, -, -, -⟩ := h2.form
  have BW : Below w.heap.size w ((w.alloc (.cells #[.bool (ng x), (.slice a1 (limbs x.natAbs).length c1)] 25)).alloc (.cells #[.bool false, .slice none 0 0, .slice none 0 0] 27)) := (((Below.refl w.heap.size w).alloc (Nat.le_refl _) _).alloc (by simp) _)
  obtain ⟨c0_0, c0_1, q0_0, q0_1, c1_0, c1_1, c1_2, q0, q1, q2⟩ : World.cell? ((w.alloc (.cells #[.bool (ng x), (.slice a1 (limbs x.natAbs).length c1)] 25)).alloc (.cells #[.bool false, .slice none 0 0, .slice none 0 0] 27)) ⟨w.heap.size, 0, none⟩ = some (.bool (ng x)) ∧ World.cell? ((w.alloc (.cells #[.bool (ng x), (.slice a1 (limbs x.natAbs).length c1)] 25)).alloc (.cells #[.bool false, .slice none 0 0, .slice none 0 0] 27)) ⟨w.heap.size, 1, none⟩ = some ((.slice a1 (limbs x.natAbs).length c1)) ∧ World.frozen? ((w.alloc (.cells #[.bool (ng x), (.slice a1 (limbs x.natAbs).length c1)] 25)).alloc (.cells #[.bool false, .slice none 0 0, .slice none 0 0] 27)) ⟨w.heap.size, 0, none⟩ = false ∧ World.frozen? ((w.alloc (.cells #[.bool (ng x), (.slice a1 (limbs x.natAbs).length c1)] 25)).alloc (.cells #[.bool false, .slice none 0 0, .slice none 0 0] 27)) ⟨w.heap.size, 1, none⟩ = false ∧ World.cell? ((w.alloc (.cells #[.bool (ng x), (.slice a1 (limbs x.natAbs).length c1)] 25)).alloc (.cells #[.bool false, .slice none 0 0, .slice none 0 0] 27)) ⟨w.heap.size + 1, 0, none⟩ = some (.bool false) ∧ World.cell? ((w.alloc (.cells #[.bool (ng x), (.slice a1 (limbs x.natAbs).length c1)] 25)).alloc (.cells #[.bool false, .slice none 0 0, .slice none 0 0] 27)) ⟨w.heap.size + 1, 1, none⟩ = some (.slice none 0 0) ∧ World.cell? ((w.alloc (.cells #[.bool (ng x), (.slice a1 (limbs x.natAbs).length c1)] 25)).alloc (.cells #[.bool false, .slice none 0 0, .slice none 0 0] 27)) ⟨w.heap.size + 1, 2, none⟩ = some (.slice none 0 0) ∧ World.frozen? ((w.alloc (.cells #[.bool (ng x), (.slice a1 (limbs x.natAbs).length c1)] 25)).alloc (.cells #[.bool false, .slice none 0 0, .slice none 0 0] 27)) ⟨w.heap.size + 1, 0, none⟩ = false ∧ World.frozen? ((w.alloc (.cells #[.bool (ng x), (.slice a1 (limbs x.natAbs).length c1)] 25)).alloc (.cells #[.bool false, .slice none 0 0, .slice none 0 0] 27)) ⟨w.heap.size + 1, 1, none⟩ = false ∧ World.frozen? ((w.alloc (.cells #[.bool (ng x), (.slice a1 (limbs x.natAbs).length c1)] 25)).alloc (.cells #[.bool false, .slice none 0 0, .slice none 0 0] 27)) ⟨w.heap.size + 1, 2, none⟩ = false := by simp [go_sem]
  have hg0 : w.heap.size + 1 < (((w.alloc (.cells #[.bool (ng x), (.slice a1 (limbs x.natAbs).length c1)] 25)).alloc (.cells #[.bool false, .slice none 0 0, .slice none 0 0] 27))).heap.size := World.block_lt_of_cell? _ _ c1_0
  have hgN : w.heap.size < (((w.alloc (.cells #[.bool (ng x), (.slice a1 (limbs x.natAbs).length c1)] 25)).alloc (.cells #[.bool false, .slice none 0 0, .slice none 0 0] 27))).heap.size := World.block_lt_of_cell? _ _ c0_0
  have Ia := Lib.hid h1
  have Ha := Lib.hid (h1.below BW (Nat.le_refl _))
  have Ib := Lib.hid h2
  have Hb := Lib.hid (h2.below BW (Nat.le_refl _))
  clear h1 h2
  have dz0 : ((limbs x.natAbs).length == 0) = false := beq_eq_false_iff_ne.2 (by have := limbs_len_pos.2 hx; omega)
  have dy0 : (((limbs x.natAbs).length : Int) == 0) = false := beq_eq_false_iff_ne.2 (by have := limbs_len_pos.2 hx; omega)
  have HD := Lib.hid hd
  have HG := Lib.hid hg
  have gx : decide (24 < (limbs x.natAbs).length) = true := decide_eq_true (by omega)
  have gix : decide ((24 : Int) < (limbs x.natAbs).length) = true := decide_eq_true (by omega)
  clear hd hg hx
  go_enter Tryz.func60, Tryz.ntmps60
  go_wp2_with fail
  generalize ((w.alloc (.cells #[.bool (ng x), (.slice a1 (limbs x.natAbs).length c1)] 25)).alloc (.cells #[.bool false, .slice none 0 0, .slice none 0 0] 27)) = w0 at *
  have B0 := Below.refl w0.heap.size w0
  refine (gcd_i _ _ _ _ _ d x.natAbs Hb.out Ha.out hl2 hl1 HD.out 1 HG).mono ?_
  rintro e w1 ⟨vg, rfl, ho1, hb⟩
  replace q0_0 := keep_frozen (w1 := w1) hb c0_0 q0_0
  replace q0_1 := keep_frozen (w1 := w1) hb c0_1 q0_1
  replace c0_0 := keep_cell hb c0_0
  replace c0_1 := keep_cell hb c0_1
  replace q0 := keep_frozen (w1 := w1) hb c1_0 q0
  replace c1_0 := keep_cell (w1 := w1) hb c1_0
  replace q1 := keep_frozen (w1 := w1) hb c1_1 q1
  replace c1_1 := keep_cell (w1 := w1) hb c1_1
  replace q2 := keep_frozen (w1 := w1) hb c1_2 q2
  replace c1_2 := keep_cell (w1 := w1) hb c1_2
  replace Ha := Lib.hid (Ha.out.below hb (Nat.le_refl _))
  replace Hb := Lib.hid (Hb.out.below hb (Nat.le_refl _))
  have Hg := Lib.hid (ho1.mono B0.size)
  clear ho1
  replace B0 := B0.trans (hb.mono B0.size)
  clear hb
  go_wp2_with fail
  refine (isOne_t _ _ _ Hg.out).mono ?_
  rintro e w2 ⟨rfl, hb⟩
  replace q0_0 := keep_frozen (w1 := w2) hb c0_0 q0_0
  replace q0_1 := keep_frozen (w1 := w2) hb c0_1 q0_1
  replace c0_0 := keep_cell hb c0_0
  replace c0_1 := keep_cell hb c0_1
  replace q0 := keep_frozen (w1 := w2) hb c1_0 q0
  replace c1_0 := keep_cell (w1 := w2) hb c1_0
  replace q1 := keep_frozen (w1 := w2) hb c1_1 q1
  replace c1_1 := keep_cell (w1 := w2) hb c1_1
  replace q2 := keep_frozen (w1 := w2) hb c1_2 q2
  replace c1_2 := keep_cell (w1 := w2) hb c1_2
  replace Ha := Lib.hid (Ha.out.below hb (Nat.le_refl _))
  replace Hb := Lib.hid (Hb.out.below hb (Nat.le_refl _))
  replace Hg := Lib.hid (Hg.out.below hb (Nat.le_refl _))
  replace B0 := B0.trans (hb.mono B0.size)
  clear hb
  go_wp2
  exact bodyPost_ret (v := .agg #[.bool false, .slice none 0 0, .slice none 0 0]) (by simp [results, Tryz.results60, go_sem, c1_0, c1_1, c1_2]) rfl (retL_nil (set3_below (BW.trans (B0.mono BW.size)) (by omega)))

set_option maxHeartbeats 1000000 in
theorem lowest_12 (w : World) (b : Nat) (v1 v2 : Value) (x : Int) (d : Nat) (h1 : Own w b v1 (limbs x.natAbs)) (h2 : Own w b v2 (limbs d)) (_hb : b ≤ w.heap.size) (hl1 : (limbs x.natAbs).length ≤ 900) (hl2 : (limbs d).length ≤ 900) (hd : 0 < d) (hx : 0 < x.natAbs) (hg : 1 = Nat.gcd d x.natAbs) (hf1 : (limbs x.natAbs).length ≤ 24) (hf2 : 24 < (limbs d).length) :
    Calls Tryz.prog 60 #[.agg #[.bool (ng x), v1], v2] w (RetL w b v1 v2 0 0) := by
  obtain ⟨a1, c1, rfl, -, -, -, -, -⟩ := h1.form
  obtain ⟨a2, c2, rfl, -, -, -, -, -⟩ := h2.form
  have BW : Below w.heap.size w ((w.alloc (.cells #[.bool (ng x), (.slice a1 (limbs x.natAbs).length c1)] 25)).alloc (.cells #[.bool false, .slice none 0 0, .slice none 0 0] 27)) := (((Below.refl w.heap.size w).alloc (Nat.le_refl _) _).alloc (by simp) _)
  obtain ⟨c0_0, c0_1, q0_0, q0_1, c1_0, c1_1, c1_2, q0, q1, q2⟩ : World.cell? ((w.alloc (.cells #[.bool (ng x), (.slice a1 (limbs x.natAbs).length c1)] 25)).alloc (.cells #[.bool false, .slice none 0 0, .slice none 0 0] 27)) ⟨w.heap.size, 0, none⟩ = some (.bool (ng x)) ∧ World.cell? ((w.alloc (.cells #[.bool (ng x), (.slice a1 (limbs x.natAbs).length c1)] 25)).alloc (.cells #[.bool false, .slice none 0 0, .slice none 0 0] 27)) ⟨w.heap.size, 1, none⟩ = some ((.slice a1 (limbs x.natAbs).length c1)) ∧ World.frozen? ((w.alloc (.cells #[.bool (ng x), (.slice a1 (limbs x.natAbs).length c1)] 25)).alloc (.cells #[.bool false, .slice none 0 0, .slice none 0 0] 27)) ⟨w.heap.size, 0, none⟩ = false ∧ World.frozen? ((w.alloc (.cells #[.bool (ng x), (.slice a1 (limbs x.natAbs).length c1)] 25)).alloc (.cells #[.bool false, .slice none 0 0, .slice none 0 0] 27)) ⟨w.heap.size, 1, none⟩ = false ∧ World.cell? ((w.alloc (.cells #[.bool (ng x), (.slice a1 (limbs x.natAbs).length c1)] 25)).alloc (.cells #[.bool false, .slice none 0 0, .slice none 0 0] 27)) ⟨w.heap.size + 1, 0, none⟩ = some (.bool false) ∧ World.cell? ((w.alloc (.cells #[.bool (ng x), (.slice a1 (limbs x.natAbs).length c1)] 25)).alloc (.cells #[.bool false, .slice none 0 0, .slice none 0 0] 27)) ⟨w.heap.size + 1, 1, none⟩ = some (.slice none 0 0) ∧ World.cell? ((w.alloc (.cells #[.bool (ng x), (.slice a1 (limbs x.natAbs).length c1)] 25)).alloc (.cells #[.bool false, .slice none 0 0, .slice none 0 0] 27)) ⟨w.heap.size + 1, 2, none⟩ = some (.slice none 0 0) ∧ World.frozen? ((w.alloc (.cells #[.bool (ng x), (.slice a1 (limbs x.natAbs).length c1)] 25)).alloc (.cells #[.bool false, .slice none 0 0, .slice none 0 0] 27)) ⟨w.heap.size + 1, 0, none⟩ = false ∧ World.frozen? ((w.alloc (.cells #[.bool (ng x), (.slice a1 (limbs x.natAbs).length c1)] 25)).alloc (.cells #[.bool false, .slice none 0 0, .slice none 0 0] 27)) ⟨w.heap.size + 1, 1, none⟩ = false ∧ World.frozen? ((w.alloc (.cells #[.bool (ng x), (.slice a1 (limbs x.natAbs).length c1)] 25)).alloc (.cells #[.bool false, .slice none 0 0, .slice none 0 0] 27)) ⟨w.heap.size + 1, 2, none⟩ = false := by simp [go_sem]
  have hg0 : w.heap.size + 1 < (((w.alloc (.cells #[.bool (ng x), (.slice a1 (limbs x.natAbs).length c1)] 25)).alloc (.cells #[.bool false, .slice none 0 0, .slice none 0 0] 27))).heap.size := World.block_lt_of_cell? _ _ c1_0
  have hgN : w.heap.size < (((w.alloc (.cells #[.bool (ng x), (.slice a1 (limbs x.natAbs).length c1)] 25)).alloc (.cells #[.bool false, .slice none 0 0, .slice none 0 0] 27))).heap.size := World.block_lt_of_cell? _ _ c0_0
  have Ia := Lib.hid h1
  have Ha := Lib.hid (h1.below BW (Nat.le_refl _))
  have Ib := Lib.hid h2
  have Hb := Lib.hid (h2.below BW (Nat.le_refl _))
  clear h1 h2
  have dz0 : ((limbs x.natAbs).length == 0) = false := beq_eq_false_iff_ne.2 (by have := limbs_len_pos.2 hx; omega)
  have dy0 : (((limbs x.natAbs).length : Int) == 0) = false := beq_eq_false_iff_ne.2 (by have := limbs_len_pos.2 hx; omega)
  have HD := Lib.hid hd
  have HG := Lib.hid hg
  have gx : decide (24 < (limbs x.natAbs).length) = false := decide_eq_false (by omega)
  have gix : decide ((24 : Int) < (limbs x.natAbs).length) = false := decide_eq_false (by omega)
  have gy : decide (24 < (limbs d).length) = true := decide_eq_true (by omega)
  have giy : decide ((24 : Int) < (limbs d).length) = true := decide_eq_true (by omega)
  clear hd hg hx
  go_enter Tryz.func60, Tryz.ntmps60
  go_wp2_with fail
  generalize ((w.alloc (.cells #[.bool (ng x), (.slice a1 (limbs x.natAbs).length c1)] 25)).alloc (.cells #[.bool false, .slice none 0 0, .slice none 0 0] 27)) = w0 at *
  have B0 := Below.refl w0.heap.size w0
  refine (gcd_i _ _ _ _ _ d x.natAbs Hb.out Ha.out hl2 hl1 HD.out 1 HG).mono ?_
  rintro e w1 ⟨vg, rfl, ho1, hb⟩
  replace q0_0 := keep_frozen (w1 := w1) hb c0_0 q0_0
  replace q0_1 := keep_frozen (w1 := w1) hb c0_1 q0_1
  replace c0_0 := keep_cell hb c0_0
  replace c0_1 := keep_cell hb c0_1
  replace q0 := keep_frozen (w1 := w1) hb c1_0 q0
  replace c1_0 := keep_cell (w1 := w1) hb c1_0
  replace q1 := keep_frozen (w1 := w1) hb c1_1 q1
  replace c1_1 := keep_cell (w1 := w1) hb c1_1
  replace q2 := keep_frozen (w1 := w1) hb c1_2 q2
  replace c1_2 := keep_cell (w1 := w1) hb c1_2
  replace Ha := Lib.hid (Ha.out.below hb (Nat.le_refl _))
  replace Hb := Lib.hid (Hb.out.below hb (Nat.le_refl _))
  have Hg := Lib.hid (ho1.mono B0.size)
  clear ho1
  replace B0 := B0.trans (hb.mono B0.size)
  clear hb
  go_wp2_with fail
  refine (isOne_t _ _ _ Hg.out).mono ?_
  rintro e w2 ⟨rfl, hb⟩
  replace q0_0 := keep_frozen (w1 := w2) hb c0_0 q0_0
  replace q0_1 := keep_frozen (w1 := w2) hb c0_1 q0_1
  replace c0_0 := keep_cell hb c0_0
  replace c0_1 := keep_cell hb c0_1
  replace q0 := keep_frozen (w1 := w2) hb c1_0 q0
  replace c1_0 := keep_cell (w1 := w2) hb c1_0
  replace q1 := keep_frozen (w1 := w2) hb c1_1 q1
  replace c1_1 := keep_cell (w1 := w2) hb c1_1
  replace q2 := keep_frozen (w1 := w2) hb c1_2 q2
  replace c1_2 := keep_cell (w1 := w2) hb c1_2
  replace Ha := Lib.hid (Ha.out.below hb (Nat.le_refl _))
  replace Hb := Lib.hid (Hb.out.below hb (Nat.le_refl _))
  replace Hg := Lib.hid (Hg.out.below hb (Nat.le_refl _))
  replace B0 := B0.trans (hb.mono B0.size)
  clear hb
  go_wp2
  exact bodyPost_ret (v := .agg #[.bool false, .slice none 0 0, .slice none 0 0]) (by simp [results, Tryz.results60, go_sem, c1_0, c1_1, c1_2]) rfl (retL_nil (set3_below (BW.trans (B0.mono BW.size)) (by omega)))

set_option maxHeartbeats 1000000 in
theorem lowest_gy (w : World) (b : Nat) (v1 v2 : Value) (x : Int) (d : Nat) (h1 : Own w b v1 (limbs x.natAbs)) (h2 : Own w b v2 (limbs d)) (hb : b ≤ w.heap.size) (hl1 : (limbs x.natAbs).length ≤ 900) (hl2 : (limbs d).length ≤ 900) (hd : 0 < d) (hx : 0 < x.natAbs) (g m : Nat) (z : Int) (hg : g = Nat.gcd d x.natAbs) (hg1 : g ≠ 1) (hn : z.natAbs = x.natAbs / g) (hm : m = d / g) (hs : z ≠ 0 → ng x = ng z) (hf1 : (limbs z.natAbs).length ≤ 24) (hf2 : (limbs m).length ≤ 24) :
    Calls Tryz.prog 60 #[.agg #[.bool (ng x), v1], v2] w (RetL w b v1 v2 z m) := by
  obtain ⟨a1, c1, rfl, -, -, -, -, -⟩ := h1.form
  obtain ⟨a2, c2, rfl, -, -, -, -, -⟩ := h2.form
  have BW : Below w.heap.size w ((w.alloc (.cells #[.bool (ng x), (.slice a1 (limbs x.natAbs).length c1)] 25)).alloc (.cells #[.bool false, .slice none 0 0, .slice none 0 0] 27)) := (((Below.refl w.heap.size w).alloc (Nat.le_refl _) _).alloc (by simp) _)
  obtain ⟨c0_0, c0_1, q0_0, q0_1, c1_0, c1_1, c1_2, q0, q1, q2⟩ : World.cell? ((w.alloc (.cells #[.bool (ng x), (.slice a1 (limbs x.natAbs).length c1)] 25)).alloc (.cells #[.bool false, .slice none 0 0, .slice none 0 0] 27)) ⟨w.heap.size, 0, none⟩ = some (.bool (ng x)) ∧ World.cell? ((w.alloc (.cells #[.bool (ng x), (.slice a1 (limbs x.natAbs).length c1)] 25)).alloc (.cells #[.bool false, .slice none 0 0, .slice none 0 0] 27)) ⟨w.heap.size, 1, none⟩ = some ((.slice a1 (limbs x.natAbs).length c1)) ∧ World.frozen? ((w.alloc (.cells #[.bool (ng x), (.slice a1 (limbs x.natAbs).length c1)] 25)).alloc (.cells #[.bool false, .slice none 0 0, .slice none 0 0] 27)) ⟨w.heap.size, 0, none⟩ = false ∧ World.frozen? ((w.alloc (.cells #[.bool (ng x), (.slice a1 (limbs x.natAbs).length c1)] 25)).alloc (.cells #[.bool false, .slice none 0 0, .slice none 0 0] 27)) ⟨w.heap.size, 1, none⟩ = false ∧ World.cell? ((w.alloc (.cells #[.bool (ng x), (.slice a1 (limbs x.natAbs).length c1)] 25)).alloc (.cells #[.bool false, .slice none 0 0, .slice none 0 0] 27)) ⟨w.heap.size + 1, 0, none⟩ = some (.bool false) ∧ World.cell? ((w.alloc (.cells #[.bool (ng x), (.slice a1 (limbs x.natAbs).length c1)] 25)).alloc (.cells #[.bool false, .slice none 0 0, .slice none 0 0] 27)) ⟨w.heap.size + 1, 1, none⟩ = some (.slice none 0 0) ∧ World.cell? ((w.alloc (.cells #[.bool (ng x), (.slice a1 (limbs x.natAbs).length c1)] 25)).alloc (.cells #[.bool false, .slice none 0 0, .slice none 0 0] 27)) ⟨w.heap.size + 1, 2, none⟩ = some (.slice none 0 0) ∧ World.frozen? ((w.alloc (.cells #[.bool (ng x), (.slice a1 (limbs x.natAbs).length c1)] 25)).alloc (.cells #[.bool false, .slice none 0 0, .slice none 0 0] 27)) ⟨w.heap.size + 1, 0, none⟩ = false ∧ World.frozen? ((w.alloc (.cells #[.bool (ng x), (.slice a1 (limbs x.natAbs).length c1)] 25)).alloc (.cells #[.bool false, .slice none 0 0, .slice none 0 0] 27)) ⟨w.heap.size + 1, 1, none⟩ = false ∧ World.frozen? ((w.alloc (.cells #[.bool (ng x), (.slice a1 (limbs x.natAbs).length c1)] 25)).alloc (.cells #[.bool false, .slice none 0 0, .slice none 0 0] 27)) ⟨w.heap.size + 1, 2, none⟩ = false := by simp [go_sem]
  have hg0 : w.heap.size + 1 < (((w.alloc (.cells #[.bool (ng x), (.slice a1 (limbs x.natAbs).length c1)] 25)).alloc (.cells #[.bool false, .slice none 0 0, .slice none 0 0] 27))).heap.size := World.block_lt_of_cell? _ _ c1_0
  have hgN : w.heap.size < (((w.alloc (.cells #[.bool (ng x), (.slice a1 (limbs x.natAbs).length c1)] 25)).alloc (.cells #[.bool false, .slice none 0 0, .slice none 0 0] 27))).heap.size := World.block_lt_of_cell? _ _ c0_0
  have Ia := Lib.hid h1
  have Ha := Lib.hid (h1.below BW (Nat.le_refl _))
  have Ib := Lib.hid h2
  have Hb := Lib.hid (h2.below BW (Nat.le_refl _))
  clear h1 h2
  have dz0 : ((limbs x.natAbs).length == 0) = false := beq_eq_false_iff_ne.2 (by have := limbs_len_pos.2 hx; omega)
  have dy0 : (((limbs x.natAbs).length : Int) == 0) = false := beq_eq_false_iff_ne.2 (by have := limbs_len_pos.2 hx; omega)
  have HD := Lib.hid hd
  have HG := Lib.hid hg
  have gx : decide (24 < (limbs z.natAbs).length) = false := decide_eq_false (by omega)
  have gix : decide ((24 : Int) < (limbs z.natAbs).length) = false := decide_eq_false (by omega)
  have gy : decide (24 < (limbs m).length) = false := decide_eq_false (by omega)
  have giy : decide ((24 : Int) < (limbs m).length) = false := decide_eq_false (by omega)
  have HN : Hid (z.natAbs = x.natAbs / g) := hn
  have HM : Hid (m = d / g) := hm
  have HS : Hid (z ≠ 0 → ng x = ng z) := hs
  have hgp : 0 < g := by rw [hg]; exact Nat.gcd_pos_of_pos_left _ hd
  clear hn hm hs
  clear hd hg hx
  go_enter Tryz.func60, Tryz.ntmps60
  go_wp2_with fail
  generalize ((w.alloc (.cells #[.bool (ng x), (.slice a1 (limbs x.natAbs).length c1)] 25)).alloc (.cells #[.bool false, .slice none 0 0, .slice none 0 0] 27)) = w0 at *
  have B0 := Below.refl w0.heap.size w0
  refine (gcd_i _ _ _ _ _ d x.natAbs Hb.out Ha.out hl2 hl1 HD.out g HG).mono ?_
  rintro e w1 ⟨vg, rfl, ho1, hb⟩
  replace q0_0 := keep_frozen (w1 := w1) hb c0_0 q0_0
  replace q0_1 := keep_frozen (w1 := w1) hb c0_1 q0_1
  replace c0_0 := keep_cell hb c0_0
  replace c0_1 := keep_cell hb c0_1
  replace q0 := keep_frozen (w1 := w1) hb c1_0 q0
  replace c1_0 := keep_cell (w1 := w1) hb c1_0
  replace q1 := keep_frozen (w1 := w1) hb c1_1 q1
  replace c1_1 := keep_cell (w1 := w1) hb c1_1
  replace q2 := keep_frozen (w1 := w1) hb c1_2 q2
  replace c1_2 := keep_cell (w1 := w1) hb c1_2
  replace Ha := Lib.hid (Ha.out.below hb (Nat.le_refl _))
  replace Hb := Lib.hid (Hb.out.below hb (Nat.le_refl _))
  have Hg := Lib.hid (ho1.mono B0.size)
  clear ho1
  replace B0 := B0.trans (hb.mono B0.size)
  clear hb
  go_wp2_with fail
  refine (isOne_f _ _ _ g Hg.out hg1).mono ?_
  rintro e w2 ⟨rfl, hb⟩
  replace q0_0 := keep_frozen (w1 := w2) hb c0_0 q0_0
  replace q0_1 := keep_frozen (w1 := w2) hb c0_1 q0_1
  replace c0_0 := keep_cell hb c0_0
  replace c0_1 := keep_cell hb c0_1
  replace q0 := keep_frozen (w1 := w2) hb c1_0 q0
  replace c1_0 := keep_cell (w1 := w2) hb c1_0
  replace q1 := keep_frozen (w1 := w2) hb c1_1 q1
  replace c1_1 := keep_cell (w1 := w2) hb c1_1
  replace q2 := keep_frozen (w1 := w2) hb c1_2 q2
  replace c1_2 := keep_cell (w1 := w2) hb c1_2
  replace Ha := Lib.hid (Ha.out.below hb (Nat.le_refl _))
  replace Hb := Lib.hid (Hb.out.below hb (Nat.le_refl _))
  replace Hg := Lib.hid (Hg.out.below hb (Nat.le_refl _))
  replace B0 := B0.trans (hb.mono B0.size)
  clear hb
  go_wp2_with fail
  refine (natDiv_n _ _ _ _ _ x.natAbs g z.natAbs Ha.out Hg.out hl1 hgp HN).mono ?_
  rintro e w3 ⟨vn, ve, rfl, ho1, ho2, ha, hb⟩
  replace q0_0 := keep_frozen (w1 := w3) hb c0_0 q0_0
  replace q0_1 := keep_frozen (w1 := w3) hb c0_1 q0_1
  replace c0_0 := keep_cell hb c0_0
  replace c0_1 := keep_cell hb c0_1
  replace q0 := keep_frozen (w1 := w3) hb c1_0 q0
  replace c1_0 := keep_cell (w1 := w3) hb c1_0
  replace q1 := keep_frozen (w1 := w3) hb c1_1 q1
  replace c1_1 := keep_cell (w1 := w3) hb c1_1
  replace q2 := keep_frozen (w1 := w3) hb c1_2 q2
  replace c1_2 := keep_cell (w1 := w3) hb c1_2
  replace Ha := Lib.hid (Ha.out.below hb (Nat.le_refl _))
  replace Hb := Lib.hid (Hb.out.below hb (Nat.le_refl _))
  replace Hg := Lib.hid (Hg.out.below hb (Nat.le_refl _))
  have Hn := Lib.hid (ho1.mono B0.size)
  clear ho1
  have He := Lib.hid (ho2.mono B0.size)
  clear ho2
  clear ha
  replace B0 := B0.trans (hb.mono B0.size)
  clear hb
  go_wp2_with fail
  refine (natDiv_n _ _ _ _ _ d g m Hb.out Hg.out hl2 hgp HM).mono ?_
  rintro e w4 ⟨vm, vk, rfl, ho1, ho2, ha, hb⟩
  have HAP0 := apart_new Hn.out (.inr rfl) ho1
  replace q0_0 := keep_frozen (w1 := w4) hb c0_0 q0_0
  replace q0_1 := keep_frozen (w1 := w4) hb c0_1 q0_1
  replace c0_0 := keep_cell hb c0_0
  replace c0_1 := keep_cell hb c0_1
  replace q0 := keep_frozen (w1 := w4) hb c1_0 q0
  replace c1_0 := keep_cell (w1 := w4) hb c1_0
  replace q1 := keep_frozen (w1 := w4) hb c1_1 q1
  replace c1_1 := keep_cell (w1 := w4) hb c1_1
  replace q2 := keep_frozen (w1 := w4) hb c1_2 q2
  replace c1_2 := keep_cell (w1 := w4) hb c1_2
  replace Ha := Lib.hid (Ha.out.below hb (Nat.le_refl _))
  replace Hb := Lib.hid (Hb.out.below hb (Nat.le_refl _))
  replace Hg := Lib.hid (Hg.out.below hb (Nat.le_refl _))
  replace Hn := Lib.hid (Hn.out.below hb (Nat.le_refl _))
  replace He := Lib.hid (He.out.below hb (Nat.le_refl _))
  have Hm := Lib.hid (ho1.mono B0.size)
  clear ho1
  have Hk := Lib.hid (ho2.mono B0.size)
  clear ho2
  clear ha
  obtain ⟨am, cm, rfl, -, -, -, -, -⟩ := Hm.out.form
  replace B0 := B0.trans (hb.mono B0.size)
  clear hb
  go_wp2_with fail
  refine (signed_z _ _ _ _ z Hn.out HS.out).mono ?_
  rintro e w5 ⟨vr, rfl, ho2, hp, hb⟩
  replace q0_0 := keep_frozen (w1 := w5) hb c0_0 q0_0
  replace q0_1 := keep_frozen (w1 := w5) hb c0_1 q0_1
  replace c0_0 := keep_cell hb c0_0
  replace c0_1 := keep_cell hb c0_1
  replace q0 := keep_frozen (w1 := w5) hb c1_0 q0
  replace c1_0 := keep_cell (w1 := w5) hb c1_0
  replace q1 := keep_frozen (w1 := w5) hb c1_1 q1
  replace c1_1 := keep_cell (w1 := w5) hb c1_1
  replace q2 := keep_frozen (w1 := w5) hb c1_2 q2
  replace c1_2 := keep_cell (w1 := w5) hb c1_2
  replace Ha := Lib.hid (Ha.out.below hb (Nat.le_refl _))
  replace Hb := Lib.hid (Hb.out.below hb (Nat.le_refl _))
  replace Hg := Lib.hid (Hg.out.below hb (Nat.le_refl _))
  replace Hn := Lib.hid (Hn.out.below hb (Nat.le_refl _))
  replace He := Lib.hid (He.out.below hb (Nat.le_refl _))
  replace Hm := Lib.hid (Hm.out.below hb (Nat.le_refl _))
  replace Hk := Lib.hid (Hk.out.below hb (Nat.le_refl _))
  have Hr := Lib.hid ho2
  clear ho2
  have HAP := apart_part HAP0 hp
  obtain ⟨ar, cr, rfl, -, -, -, -, -⟩ := Hr.out.form
  replace B0 := B0.trans (hb.mono B0.size)
  clear hb
  have ne1 : ¬ w.heap.size = w.heap.size + 1 := by omega
  go_wp2
  exact bodyPost_ret (v := .agg #[.bool (ng z), .slice ar (limbs z.natAbs).length cr, .slice am (limbs m).length cm]) (by simp [results, Tryz.results60, go_sem, c1_0, c1_1, c1_2]) rfl (retL_end ((Below.setCell (BW.trans (B0.mono BW.size)) (p := ⟨w.heap.size, 0, none⟩) (Nat.le_refl _) _).setCell (p := ⟨w.heap.size, 1, none⟩) (Nat.le_refl _) _) (by omega) ((Own.mono Hr.out (Nat.le_trans hb BW.size)).setOther (ne_of_base Hr.out hgN) _ |>.setOther (ne_of_base Hr.out hgN) _) ((Own.mono Hm.out (Nat.le_trans hb BW.size)).setOther (ne_of_base Hm.out hgN) _ |>.setOther (ne_of_base Hm.out hgN) _) (ne_of_base Hr.out hg0) (ne_of_base Hm.out hg0) (fun _ => HAP))

set_option maxHeartbeats 1000000 in
theorem lowest_g1 (w : World) (b : Nat) (v1 v2 : Value) (x : Int) (d : Nat) (h1 : Own w b v1 (limbs x.natAbs)) (h2 : Own w b v2 (limbs d)) (_hb : b ≤ w.heap.size) (hl1 : (limbs x.natAbs).length ≤ 900) (hl2 : (limbs d).length ≤ 900) (hd : 0 < d) (hx : 0 < x.natAbs) (g m : Nat) (z : Int) (hg : g = Nat.gcd d x.natAbs) (hg1 : g ≠ 1) (hn : z.natAbs = x.natAbs / g) (hm : m = d / g) (hs : z ≠ 0 → ng x = ng z) (hf1 : 24 < (limbs z.natAbs).length) :
    Calls Tryz.prog 60 #[.agg #[.bool (ng x), v1], v2] w (RetL w b v1 v2 0 0) := by
  obtain ⟨a1, c1, rfl, -, -, -, -, -⟩ := h1.form
  obtain ⟨a2, c2, rfl, -, -, -, -, -⟩ := h2.form
  have BW : Below w.heap.size w ((w.alloc (.cells #[.bool (ng x), (.slice a1 (limbs x.natAbs).length c1)] 25)).alloc (.cells #[.bool false, .slice none 0 0, .slice none 0 0] 27)) := (((Below.refl w.heap.size w).alloc (Nat.le_refl _) _).alloc (by simp) _)
  obtain ⟨c0_0, c0_1, q0_0, q0_1, c1_0, c1_1, c1_2, q0, q1, q2⟩ : World.cell? ((w.alloc (.cells #[.bool (ng x), (.slice a1 (limbs x.natAbs).length c1)] 25)).alloc (.cells #[.bool false, .slice none 0 0, .slice none 0 0] 27)) ⟨w.heap.size, 0, none⟩ = some (.bool (ng x)) ∧ World.cell? ((w.alloc (.cells #[.bool (ng x), (.slice a1 (limbs x.natAbs).length c1)] 25)).alloc (.cells #[.bool false, .slice none 0 0, .slice none 0 0] 27)) ⟨w.heap.size, 1, none⟩ = some ((.slice a1 (limbs x.natAbs).length c1)) ∧ World.frozen? ((w.alloc (.cells #[.bool (ng x), (.slice a1 (limbs x.natAbs).length c1)] 25)).alloc (.cells #[.bool false, .slice none 0 0, .slice none 0 0] 27)) ⟨w.heap.size, 0, none⟩ = false ∧ World.frozen? ((w.alloc (.cells #[.bool (ng x), (.slice a1 (limbs x.natAbs).length c1)] 25)).alloc (.cells #[.bool false, .slice none 0 0, .slice none 0 0] 27)) ⟨w.heap.size, 1, none⟩ = false ∧ World.cell? ((w.alloc (.cells #[.bool (ng x), (.slice a1 (limbs x.natAbs).length c1)] 25)).alloc (.cells #[.bool false, .slice none 0 0, .slice none 0 0] 27)) ⟨w.heap.size + 1, 0, none⟩ = some (.bool false) ∧ World.cell? ((w.alloc (.cells #[.bool (ng x), (.slice a1 (limbs x.natAbs).length c1)] 25)).alloc (.cells #[.bool false, .slice none 0 0, .slice none 0 0] 27)) ⟨w.heap.size + 1, 1, none⟩ = some (.slice none 0 0) ∧ World.cell? ((w.alloc (.cells #[.bool (ng x), (.slice a1 (limbs x.natAbs).length c1)] 25)).alloc (.cells #[.bool false, .slice none 0 0, .slice none 0 0] 27)) ⟨w.heap.size + 1, 2, none⟩ = some (.slice none 0 0) ∧ World.frozen? ((w.alloc (.cells #[.bool (ng x), (.slice a1 (limbs x.natAbs).length c1)] 25)).alloc (.cells #[.bool false, .slice none 0 0, .slice none 0 0] 27)) ⟨w.heap.size + 1, 0, none⟩ = false ∧ World.frozen? ((w.alloc (.cells #[.bool (ng x), (.slice a1 (limbs x.natAbs).length c1)] 25)).alloc (.cells #[.bool false, .slice none 0 0, .slice none 0 0] 27)) ⟨w.heap.size + 1, 1, none⟩ = false ∧ World.frozen? ((w.alloc (.cells #[.bool (ng x), (.slice a1 (limbs x.natAbs).length c1)] 25)).alloc (.cells #[.bool false, .slice none 0 0, .slice none 0 0] 27)) ⟨w.heap.size + 1, 2, none⟩ = false := by simp [go_sem]
  have hg0 : w.heap.size + 1 < (((w.alloc (.cells #[.bool (ng x), (.slice a1 (limbs x.natAbs).length c1)] 25)).alloc (.cells #[.bool false, .slice none 0 0, .slice none 0 0] 27))).heap.size := World.block_lt_of_cell? _ _ c1_0
  have hgN : w.heap.size < (((w.alloc (.cells #[.bool (ng x), (.slice a1 (limbs x.natAbs).length c1)] 25)).alloc (.cells #[.bool false, .slice none 0 0, .slice none 0 0] 27))).heap.size := World.block_lt_of_cell? _ _ c0_0
  have Ia := Lib.hid h1
  have Ha := Lib.hid (h1.below BW (Nat.le_refl _))
  have Ib := Lib.hid h2
  have Hb := Lib.hid (h2.below BW (Nat.le_refl _))
  clear h1 h2
  have dz0 : ((limbs x.natAbs).length == 0) = false := beq_eq_false_iff_ne.2 (by have := limbs_len_pos.2 hx; omega)
  have dy0 : (((limbs x.natAbs).length : Int) == 0) = false := beq_eq_false_iff_ne.2 (by have := limbs_len_pos.2 hx; omega)
  have HD := Lib.hid hd
  have HG := Lib.hid hg
  have gx : decide (24 < (limbs z.natAbs).length) = true := decide_eq_true (by omega)
  have gix : decide ((24 : Int) < (limbs z.natAbs).length) = true := decide_eq_true (by omega)
  have HN : Hid (z.natAbs = x.natAbs / g) := hn
  have HM : Hid (m = d / g) := hm
  have HS : Hid (z ≠ 0 → ng x = ng z) := hs
  have hgp : 0 < g := by rw [hg]; exact Nat.gcd_pos_of_pos_left _ hd
  clear hn hm hs
  clear hd hg hx
  go_enter Tryz.func60, Tryz.ntmps60
  go_wp2_with fail
  generalize ((w.alloc (.cells #[.bool (ng x), (.slice a1 (limbs x.natAbs).length c1)] 25)).alloc (.cells #[.bool false, .slice none 0 0, .slice none 0 0] 27)) = w0 at *
  have B0 := Below.refl w0.heap.size w0
  refine (gcd_i _ _ _ _ _ d x.natAbs Hb.out Ha.out hl2 hl1 HD.out g HG).mono ?_
  rintro e w1 ⟨vg, rfl, ho1, hb⟩
  replace q0_0 := keep_frozen (w1 := w1) hb c0_0 q0_0
  replace q0_1 := keep_frozen (w1 := w1) hb c0_1 q0_1
  replace c0_0 := keep_cell hb c0_0
  replace c0_1 := keep_cell hb c0_1
  replace q0 := keep_frozen (w1 := w1) hb c1_0 q0
  replace c1_0 := keep_cell (w1 := w1) hb c1_0
  replace q1 := keep_frozen (w1 := w1) hb c1_1 q1
  replace c1_1 := keep_cell (w1 := w1) hb c1_1
  replace q2 := keep_frozen (w1 := w1) hb c1_2 q2
  replace c1_2 := keep_cell (w1 := w1) hb c1_2
  replace Ha := Lib.hid (Ha.out.below hb (Nat.le_refl _))
  replace Hb := Lib.hid (Hb.out.below hb (Nat.le_refl _))
  have Hg := Lib.hid (ho1.mono B0.size)
  clear ho1
  replace B0 := B0.trans (hb.mono B0.size)
  clear hb
  go_wp2_with fail
  refine (isOne_f _ _ _ g Hg.out hg1).mono ?_
  rintro e w2 ⟨rfl, hb⟩
  replace q0_0 := keep_frozen (w1 := w2) hb c0_0 q0_0
  replace q0_1 := keep_frozen (w1 := w2) hb c0_1 q0_1
  replace c0_0 := keep_cell hb c0_0
  replace c0_1 := keep_cell hb c0_1
  replace q0 := keep_frozen (w1 := w2) hb c1_0 q0
  replace c1_0 := keep_cell (w1 := w2) hb c1_0
  replace q1 := keep_frozen (w1 := w2) hb c1_1 q1
  replace c1_1 := keep_cell (w1 := w2) hb c1_1
  replace q2 := keep_frozen (w1 := w2) hb c1_2 q2
  replace c1_2 := keep_cell (w1 := w2) hb c1_2
  replace Ha := Lib.hid (Ha.out.below hb (Nat.le_refl _))
  replace Hb := Lib.hid (Hb.out.below hb (Nat.le_refl _))
  replace Hg := Lib.hid (Hg.out.below hb (Nat.le_refl _))
  replace B0 := B0.trans (hb.mono B0.size)
  clear hb
  go_wp2_with fail
  refine (natDiv_n _ _ _ _ _ x.natAbs g z.natAbs Ha.out Hg.out hl1 hgp HN).mono ?_
  rintro e w3 ⟨vn, ve, rfl, ho1, ho2, ha, hb⟩
  replace q0_0 := keep_frozen (w1 := w3) hb c0_0 q0_0
  replace q0_1 := keep_frozen (w1 := w3) hb c0_1 q0_1
  replace c0_0 := keep_cell hb c0_0
  replace c0_1 := keep_cell hb c0_1
  replace q0 := keep_frozen (w1 := w3) hb c1_0 q0
  replace c1_0 := keep_cell (w1 := w3) hb c1_0
  replace q1 := keep_frozen (w1 := w3) hb c1_1 q1
  replace c1_1 := keep_cell (w1 := w3) hb c1_1
  replace q2 := keep_frozen (w1 := w3) hb c1_2 q2
  replace c1_2 := keep_cell (w1 := w3) hb c1_2
  replace Ha := Lib.hid (Ha.out.below hb (Nat.le_refl _))
  replace Hb := Lib.hid (Hb.out.below hb (Nat.le_refl _))
  replace Hg := Lib.hid (Hg.out.below hb (Nat.le_refl _))
  have Hn := Lib.hid (ho1.mono B0.size)
  clear ho1
  have He := Lib.hid (ho2.mono B0.size)
  clear ho2
  clear ha
  replace B0 := B0.trans (hb.mono B0.size)
  clear hb
  go_wp2_with fail
  refine (natDiv_n _ _ _ _ _ d g m Hb.out Hg.out hl2 hgp HM).mono ?_
  rintro e w4 ⟨vm, vk, rfl, ho1, ho2, ha, hb⟩
  have HAP0 := apart_new Hn.out (.inr rfl) ho1
  replace q0_0 := keep_frozen (w1 := w4) hb c0_0 q0_0
  replace q0_1 := keep_frozen (w1 := w4) hb c0_1 q0_1
  replace c0_0 := keep_cell hb c0_0
  replace c0_1 := keep_cell hb c0_1
  replace q0 := keep_frozen (w1 := w4) hb c1_0 q0
  replace c1_0 := keep_cell (w1 := w4) hb c1_0
  replace q1 := keep_frozen (w1 := w4) hb c1_1 q1
  replace c1_1 := keep_cell (w1 := w4) hb c1_1
  replace q2 := keep_frozen (w1 := w4) hb c1_2 q2
  replace c1_2 := keep_cell (w1 := w4) hb c1_2
  replace Ha := Lib.hid (Ha.out.below hb (Nat.le_refl _))
  replace Hb := Lib.hid (Hb.out.below hb (Nat.le_refl _))
  replace Hg := Lib.hid (Hg.out.below hb (Nat.le_refl _))
  replace Hn := Lib.hid (Hn.out.below hb (Nat.le_refl _))
  replace He := Lib.hid (He.out.below hb (Nat.le_refl _))
  have Hm := Lib.hid (ho1.mono B0.size)
  clear ho1
  have Hk := Lib.hid (ho2.mono B0.size)
  clear ho2
  clear ha
  obtain ⟨am, cm, rfl, -, -, -, -, -⟩ := Hm.out.form
  replace B0 := B0.trans (hb.mono B0.size)
  clear hb
  go_wp2_with fail
  refine (signed_z _ _ _ _ z Hn.out HS.out).mono ?_
  rintro e w5 ⟨vr, rfl, ho2, hp, hb⟩
  replace q0_0 := keep_frozen (w1 := w5) hb c0_0 q0_0
  replace q0_1 := keep_frozen (w1 := w5) hb c0_1 q0_1
  replace c0_0 := keep_cell hb c0_0
  replace c0_1 := keep_cell hb c0_1
  replace q0 := keep_frozen (w1 := w5) hb c1_0 q0
  replace c1_0 := keep_cell (w1 := w5) hb c1_0
  replace q1 := keep_frozen (w1 := w5) hb c1_1 q1
  replace c1_1 := keep_cell (w1 := w5) hb c1_1
  replace q2 := keep_frozen (w1 := w5) hb c1_2 q2
  replace c1_2 := keep_cell (w1 := w5) hb c1_2
  replace Ha := Lib.hid (Ha.out.below hb (Nat.le_refl _))
  replace Hb := Lib.hid (Hb.out.below hb (Nat.le_refl _))
  replace Hg := Lib.hid (Hg.out.below hb (Nat.le_refl _))
  replace Hn := Lib.hid (Hn.out.below hb (Nat.le_refl _))
  replace He := Lib.hid (He.out.below hb (Nat.le_refl _))
  replace Hm := Lib.hid (Hm.out.below hb (Nat.le_refl _))
  replace Hk := Lib.hid (Hk.out.below hb (Nat.le_refl _))
  have Hr := Lib.hid ho2
  clear ho2
  have HAP := apart_part HAP0 hp
  obtain ⟨ar, cr, rfl, -, -, -, -, -⟩ := Hr.out.form
  replace B0 := B0.trans (hb.mono B0.size)
  clear hb
  have ne1 : ¬ w.heap.size = w.heap.size + 1 := by omega
  go_wp2
  exact bodyPost_ret (v := .agg #[.bool false, .slice none 0 0, .slice none 0 0]) (by simp [results, Tryz.results60, go_sem, c1_0, c1_1, c1_2]) rfl (retL_nil (set3_below ((Below.setCell (BW.trans (B0.mono BW.size)) (p := ⟨w.heap.size, 0, none⟩) (Nat.le_refl _) _).setCell (p := ⟨w.heap.size, 1, none⟩) (Nat.le_refl _) _) (by omega)))

set_option maxHeartbeats 1000000 in
theorem lowest_g2 (w : World) (b : Nat) (v1 v2 : Value) (x : Int) (d : Nat) (h1 : Own w b v1 (limbs x.natAbs)) (h2 : Own w b v2 (limbs d)) (_hb : b ≤ w.heap.size) (hl1 : (limbs x.natAbs).length ≤ 900) (hl2 : (limbs d).length ≤ 900) (hd : 0 < d) (hx : 0 < x.natAbs) (g m : Nat) (z : Int) (hg : g = Nat.gcd d x.natAbs) (hg1 : g ≠ 1) (hn : z.natAbs = x.natAbs / g) (hm : m = d / g) (hs : z ≠ 0 → ng x = ng z) (hf1 : (limbs z.natAbs).length ≤ 24) (hf2 : 24 < (limbs m).length) :
    Calls Tryz.prog 60 #[.agg #[.bool (ng x), v1], v2] w (RetL w b v1 v2 0 0) := by
  obtain ⟨a1, c1, rfl, -, -, -, -, -⟩ := h1.form
  obtain ⟨a2, c2, rfl, -, -, -, -, -⟩ := h2.form
  have BW : Below w.heap.size w ((w.alloc (.cells #[.bool (ng x), (.slice a1 (limbs x.natAbs).length c1)] 25)).alloc (.cells #[.bool false, .slice none 0 0, .slice none 0 0] 27)) := (((Below.refl w.heap.size w).alloc (Nat.le_refl _) _).alloc (by simp) _)
  obtain ⟨c0_0, c0_1, q0_0, q0_1, c1_0, c1_1, c1_2, q0, q1, q2⟩ : World.cell? ((w.alloc (.cells #[.bool (ng x), (.slice a1 (limbs x.natAbs).length c1)] 25)).alloc (.cells #[.bool false, .slice none 0 0, .slice none 0 0] 27)) ⟨w.heap.size, 0, none⟩ = some (.bool (ng x)) ∧ World.cell? ((w.alloc (.cells #[.bool (ng x), (.slice a1 (limbs x.natAbs).length c1)] 25)).alloc (.cells #[.bool false, .slice none 0 0, .slice none 0 0] 27)) ⟨w.heap.size, 1, none⟩ = some ((.slice a1 (limbs x.natAbs).length c1)) ∧ World.frozen? ((w.alloc (.cells #[.bool (ng x), (.slice a1 (limbs x.natAbs).length c1)] 25)).alloc (.cells #[.bool false, .slice none 0 0, .slice none 0 0] 27)) ⟨w.heap.size, 0, none⟩ = false ∧ World.frozen? ((w.alloc (.cells #[.bool (ng x), (.slice a1 (limbs x.natAbs).length c1)] 25)).alloc (.cells #[.bool false, .slice none 0 0, .slice none 0 0] 27)) ⟨w.heap.size, 1, none⟩ = false ∧ World.cell? ((w.alloc (.cells #[.bool (ng x), (.slice a1 (limbs x.natAbs).length c1)] 25)).alloc (.cells #[.bool false, .slice none 0 0, .slice none 0 0] 27)) ⟨w.heap.size + 1, 0, none⟩ = some (.bool false) ∧ World.cell? ((w.alloc (.cells #[.bool (ng x), (.slice a1 (limbs x.natAbs).length c1)] 25)).alloc (.cells #[.bool false, .slice none 0 0, .slice none 0 0] 27)) ⟨w.heap.size + 1, 1, none⟩ = some (.slice none 0 0) ∧ World.cell? ((w.alloc (.cells #[.bool (ng x), (.slice a1 (limbs x.natAbs).length c1)] 25)).alloc (.cells #[.bool false, .slice none 0 0, .slice none 0 0] 27)) ⟨w.heap.size + 1, 2, none⟩ = some (.slice none 0 0) ∧ World.frozen? ((w.alloc (.cells #[.bool (ng x), (.slice a1 (limbs x.natAbs).length c1)] 25)).alloc (.cells #[.bool false, .slice none 0 0, .slice none 0 0] 27)) ⟨w.heap.size + 1, 0, none⟩ = false ∧ World.frozen? ((w.alloc (.cells #[.bool (ng x), (.slice a1 (limbs x.natAbs).length c1)] 25)).alloc (.cells #[.bool false, .slice none 0 0, .slice none 0 0] 27)) ⟨w.heap.size + 1, 1, none⟩ = false ∧ World.frozen? ((w.alloc (.cells #[.bool (ng x), (.slice a1 (limbs x.natAbs).length c1)] 25)).alloc (.cells #[.bool false, .slice none 0 0, .slice none 0 0] 27)) ⟨w.heap.size + 1, 2, none⟩ = false := by simp [go_sem]
  have hg0 : w.heap.size + 1 < (((w.alloc (.cells #[.bool (ng x), (.slice a1 (limbs x.natAbs).length c1)] 25)).alloc (.cells #[.bool false, .slice none 0 0, .slice none 0 0] 27))).heap.size := World.block_lt_of_cell? _ _ c1_0
  have hgN : w.heap.size < (((w.alloc (.cells #[.bool (ng x), (.slice a1 (limbs x.natAbs).length c1)] 25)).alloc (.cells #[.bool false, .slice none 0 0, .slice none 0 0] 27))).heap.size := World.block_lt_of_cell? _ _ c0_0
  have Ia := Lib.hid h1
  have Ha := Lib.hid (h1.below BW (Nat.le_refl _))
  have Ib := Lib.hid h2
  have Hb := Lib.hid (h2.below BW (Nat.le_refl _))
  clear h1 h2
  have dz0 : ((limbs x.natAbs).length == 0) = false := beq_eq_false_iff_ne.2 (by have := limbs_len_pos.2 hx; omega)
  have dy0 : (((limbs x.natAbs).length : Int) == 0) = false := beq_eq_false_iff_ne.2 (by have := limbs_len_pos.2 hx; omega)
  have HD := Lib.hid hd
  have HG := Lib.hid hg
  have gx : decide (24 < (limbs z.natAbs).length) = false := decide_eq_false (by omega)
  have gix : decide ((24 : Int) < (limbs z.natAbs).length) = false := decide_eq_false (by omega)
  have gy : decide (24 < (limbs m).length) = true := decide_eq_true (by omega)
  have giy : decide ((24 : Int) < (limbs m).length) = true := decide_eq_true (by omega)
  have HN : Hid (z.natAbs = x.natAbs / g) := hn
  have HM : Hid (m = d / g) := hm
  have HS : Hid (z ≠ 0 → ng x = ng z) := hs
  have hgp : 0 < g := by rw [hg]; exact Nat.gcd_pos_of_pos_left _ hd
  clear hn hm hs
  clear hd hg hx
  go_enter Tryz.func60, Tryz.ntmps60
  go_wp2_with fail
  generalize ((w.alloc (.cells #[.bool (ng x), (.slice a1 (limbs x.natAbs).length c1)] 25)).alloc (.cells #[.bool false, .slice none 0 0, .slice none 0 0] 27)) = w0 at *
  have B0 := Below.refl w0.heap.size w0
  refine (gcd_i _ _ _ _ _ d x.natAbs Hb.out Ha.out hl2 hl1 HD.out g HG).mono ?_
  rintro e w1 ⟨vg, rfl, ho1, hb⟩
  replace q0_0 := keep_frozen (w1 := w1) hb c0_0 q0_0
  replace q0_1 := keep_frozen (w1 := w1) hb c0_1 q0_1
  replace c0_0 := keep_cell hb c0_0
  replace c0_1 := keep_cell hb c0_1
  replace q0 := keep_frozen (w1 := w1) hb c1_0 q0
  replace c1_0 := keep_cell (w1 := w1) hb c1_0
  replace q1 := keep_frozen (w1 := w1) hb c1_1 q1
  replace c1_1 := keep_cell (w1 := w1) hb c1_1
  replace q2 := keep_frozen (w1 := w1) hb c1_2 q2
  replace c1_2 := keep_cell (w1 := w1) hb c1_2
  replace Ha := Lib.hid (Ha.out.below hb (Nat.le_refl _))
  replace Hb := Lib.hid (Hb.out.below hb (Nat.le_refl _))
  have Hg := Lib.hid (ho1.mono B0.size)
  clear ho1
  replace B0 := B0.trans (hb.mono B0.size)
  clear hb
  go_wp2_with fail
  refine (isOne_f _ _ _ g Hg.out hg1).mono ?_
  rintro e w2 ⟨rfl, hb⟩
  replace q0_0 := keep_frozen (w1 := w2) hb c0_0 q0_0
  replace q0_1 := keep_frozen (w1 := w2) hb c0_1 q0_1
  replace c0_0 := keep_cell hb c0_0
  replace c0_1 := keep_cell hb c0_1
  replace q0 := keep_frozen (w1 := w2) hb c1_0 q0
  replace c1_0 := keep_cell (w1 := w2) hb c1_0
  replace q1 := keep_frozen (w1 := w2) hb c1_1 q1
  replace c1_1 := keep_cell (w1 := w2) hb c1_1
  replace q2 := keep_frozen (w1 := w2) hb c1_2 q2
  replace c1_2 := keep_cell (w1 := w2) hb c1_2
  replace Ha := Lib.hid (Ha.out.below hb (Nat.le_refl _))
  replace Hb := Lib.hid (Hb.out.below hb (Nat.le_refl _))
  replace Hg := Lib.hid (Hg.out.below hb (Nat.le_refl _))
  replace B0 := B0.trans (hb.mono B0.size)
  clear hb
  go_wp2_with fail
  refine (natDiv_n _ _ _ _ _ x.natAbs g z.natAbs Ha.out Hg.out hl1 hgp HN).mono ?_
  rintro e w3 ⟨vn, ve, rfl, ho1, ho2, ha, hb⟩
  replace q0_0 := keep_frozen (w1 := w3) hb c0_0 q0_0
  replace q0_1 := keep_frozen (w1 := w3) hb c0_1 q0_1
  replace c0_0 := keep_cell hb c0_0
  replace c0_1 := keep_cell hb c0_1
  replace q0 := keep_frozen (w1 := w3) hb c1_0 q0
  replace c1_0 := keep_cell (w1 := w3) hb c1_0
  replace q1 := keep_frozen (w1 := w3) hb c1_1 q1
  replace c1_1 := keep_cell (w1 := w3) hb c1_1
  replace q2 := keep_frozen (w1 := w3) hb c1_2 q2
  replace c1_2 := keep_cell (w1 := w3) hb c1_2
  replace Ha := Lib.hid (Ha.out.below hb (Nat.le_refl _))
  replace Hb := Lib.hid (Hb.out.below hb (Nat.le_refl _))
  replace Hg := Lib.hid (Hg.out.below hb (Nat.le_refl _))
  have Hn := Lib.hid (ho1.mono B0.size)
  clear ho1
  have He := Lib.hid (ho2.mono B0.size)
  clear ho2
  clear ha
  replace B0 := B0.trans (hb.mono B0.size)
  clear hb
  go_wp2_with fail
  refine (natDiv_n _ _ _ _ _ d g m Hb.out Hg.out hl2 hgp HM).mono ?_
  rintro e w4 ⟨vm, vk, rfl, ho1, ho2, ha, hb⟩
  have HAP0 := apart_new Hn.out (.inr rfl) ho1
  replace q0_0 := keep_frozen (w1 := w4) hb c0_0 q0_0
  replace q0_1 := keep_frozen (w1 := w4) hb c0_1 q0_1
  replace c0_0 := keep_cell hb c0_0
  replace c0_1 := keep_cell hb c0_1
  replace q0 := keep_frozen (w1 := w4) hb c1_0 q0
  replace c1_0 := keep_cell (w1 := w4) hb c1_0
  replace q1 := keep_frozen (w1 := w4) hb c1_1 q1
  replace c1_1 := keep_cell (w1 := w4) hb c1_1
  replace q2 := keep_frozen (w1 := w4) hb c1_2 q2
  replace c1_2 := keep_cell (w1 := w4) hb c1_2
  replace Ha := Lib.hid (Ha.out.below hb (Nat.le_refl _))
  replace Hb := Lib.hid (Hb.out.below hb (Nat.le_refl _))
  replace Hg := Lib.hid (Hg.out.below hb (Nat.le_refl _))
  replace Hn := Lib.hid (Hn.out.below hb (Nat.le_refl _))
  replace He := Lib.hid (He.out.below hb (Nat.le_refl _))
  have Hm := Lib.hid (ho1.mono B0.size)
  clear ho1
  have Hk := Lib.hid (ho2.mono B0.size)
  clear ho2
  clear ha
  obtain ⟨am, cm, rfl, -, -, -, -, -⟩ := Hm.out.form
  replace B0 := B0.trans (hb.mono B0.size)
  clear hb
  go_wp2_with fail
  refine (signed_z _ _ _ _ z Hn.out HS.out).mono ?_
  rintro e w5 ⟨vr, rfl, ho2, hp, hb⟩
  replace q0_0 := keep_frozen (w1 := w5) hb c0_0 q0_0
  replace q0_1 := keep_frozen (w1 := w5) hb c0_1 q0_1
  replace c0_0 := keep_cell hb c0_0
  replace c0_1 := keep_cell hb c0_1
  replace q0 := keep_frozen (w1 := w5) hb c1_0 q0
  replace c1_0 := keep_cell (w1 := w5) hb c1_0
  replace q1 := keep_frozen (w1 := w5) hb c1_1 q1
  replace c1_1 := keep_cell (w1 := w5) hb c1_1
  replace q2 := keep_frozen (w1 := w5) hb c1_2 q2
  replace c1_2 := keep_cell (w1 := w5) hb c1_2
  replace Ha := Lib.hid (Ha.out.below hb (Nat.le_refl _))
  replace Hb := Lib.hid (Hb.out.below hb (Nat.le_refl _))
  replace Hg := Lib.hid (Hg.out.below hb (Nat.le_refl _))
  replace Hn := Lib.hid (Hn.out.below hb (Nat.le_refl _))
  replace He := Lib.hid (He.out.below hb (Nat.le_refl _))
  replace Hm := Lib.hid (Hm.out.below hb (Nat.le_refl _))
  replace Hk := Lib.hid (Hk.out.below hb (Nat.le_refl _))
  have Hr := Lib.hid ho2
  clear ho2
  have HAP := apart_part HAP0 hp
  obtain ⟨ar, cr, rfl, -, -, -, -, -⟩ := Hr.out.form
  replace B0 := B0.trans (hb.mono B0.size)
  clear hb
  have ne1 : ¬ w.heap.size = w.heap.size + 1 := by omega
  go_wp2
  exact bodyPost_ret (v := .agg #[.bool false, .slice none 0 0, .slice none 0 0]) (by simp [results, Tryz.results60, go_sem, c1_0, c1_1, c1_2]) rfl (retL_nil (set3_below ((Below.setCell (BW.trans (B0.mono BW.size)) (p := ⟨w.heap.size, 0, none⟩) (Nat.le_refl _) _).setCell (p := ⟨w.heap.size, 1, none⟩) (Nat.le_refl _) _) (by omega)))

theorem lowest_c (w : World) (b : Nat) (v1 v2 : Value) (x : Int) (d : Nat) (h1 : Own w b v1 (limbs x.natAbs)) (h2 : Own w b v2 (limbs d)) (hb : b ≤ w.heap.size) (hl1 : (limbs x.natAbs).length ≤ 900) (hl2 : (limbs d).length ≤ 900) (hd : 0 < d) (z : Int) (e : Nat) (hz : Hid (z = lowZ x d)) (he : Hid (e = lowD x d)) :
    Calls Tryz.prog 60 #[.agg #[.bool (ng x), v1], v2] w (RetL w b v1 v2 z e) := by
  rw [hz.out, he.out]
  by_cases hx : x.natAbs = 0
  · have e0 : x = 0 := by omega
    subst e0
    have hf : FitQ 0 d := ⟨hd, by simp [Fit, limbs_zero], by simp [Fit, Nat.div_self hd, limbs_one]⟩
    obtain ⟨e1, e2⟩ := low_yes hf
    rw [e1, e2]
    rw [show (0 : Int).natAbs = 0 from rfl, Nat.gcd_zero_left, Nat.div_self hd, Int.zero_ediv]
    exact lowest_zero w b v1 v2 0 d h1 h2 hb rfl
  have hx0 : 0 < x.natAbs := by omega
  by_cases hg : Nat.gcd x.natAbs d = 1
  · have hg' : 1 = Nat.gcd d x.natAbs := by rw [Nat.gcd_comm, hg]
    by_cases h3 : (limbs x.natAbs).length ≤ 24
    · by_cases h4 : (limbs d).length ≤ 24
      · obtain ⟨e1, e2⟩ := low_of_isQ (z := x) (d := d) ⟨hd, hg, h3, h4⟩
        rw [e1, e2]
        exact lowest_1y w b v1 v2 x d h1 h2 hb hl1 hl2 hd hx0 hg' h3 h4
      · obtain ⟨e1, e2⟩ := low_no (z := x) (d := d) (fun h => by have := h.2.2; rw [hg, Nat.div_one] at this; exact h4 this)
        rw [e1, e2]
        exact lowest_12 w b v1 v2 x d h1 h2 hb hl1 hl2 hd hx0 hg' h3 (by omega)
    · obtain ⟨e1, e2⟩ := low_no (z := x) (d := d) (fun h => by have := h.2.1; rw [hg, Nat.div_one] at this; exact h3 this)
      rw [e1, e2]
      exact lowest_11 w b v1 v2 x d h1 h2 hb hl1 hl2 hd hx0 hg' (by omega)
  · have hdv : Nat.gcd x.natAbs d ∣ x.natAbs := Nat.gcd_dvd_left _ _
    have hn := natAbs_ediv_dvd (z := x) hdv
    have hgp : 0 < Nat.gcd x.natAbs d := gcd_pos_den hd
    have hs : x / ((Nat.gcd x.natAbs d : Nat) : Int) ≠ 0 → ng x = ng (x / ((Nat.gcd x.natAbs d : Nat) : Int)) := fun _ => by
      have h5 := ediv_neg_iff hgp hdv
      rcases ng_cases x with ⟨h6, e6⟩ | ⟨h6, e6⟩
      · rw [e6, ng_neg (h5.2 h6)]
      · rw [e6, ng_nonneg (by omega)]
    have hgc : Nat.gcd x.natAbs d = Nat.gcd d x.natAbs := Nat.gcd_comm _ _
    by_cases h3 : (limbs (x.natAbs / Nat.gcd x.natAbs d)).length ≤ 24
    · by_cases h4 : (limbs (d / Nat.gcd x.natAbs d)).length ≤ 24
      · obtain ⟨e1, e2⟩ := low_yes (z := x) (d := d) ⟨hd, h3, h4⟩
        rw [e1, e2]
        exact lowest_gy w b v1 v2 x d h1 h2 hb hl1 hl2 hd hx0 _ _ _ hgc hg hn rfl hs (by rw [hn]; exact h3) h4
      · obtain ⟨e1, e2⟩ := low_no (z := x) (d := d) (fun h => h4 h.2.2)
        rw [e1, e2]
        exact lowest_g2 w b v1 v2 x d h1 h2 hb hl1 hl2 hd hx0 _ (d / Nat.gcd x.natAbs d) _ hgc hg hn rfl hs (by rw [hn]; exact h3) (by omega)
    · obtain ⟨e1, e2⟩ := low_no (z := x) (d := d) (fun h => h3 h.2.1)
      rw [e1, e2]
      exact lowest_g1 w b v1 v2 x d h1 h2 hb hl1 hl2 hd hx0 _ (d / Nat.gcd x.natAbs d) _ hgc hg hn rfl hs (by rw [hn]; omega)

end Go.Proofs.YtijeplcjbhkkoaaGreatDoor
