/- Merged texts. -/
import Derived.Test.YtijeplcjbhkkoaaGreatDoorRatG
import Derived.Test.YtijeplcjbhkkoaaGreatDoorBigG
import Derived.Deep.RegionHeld3

/- The laws' own helpers on fractions: toRat, szRat, eqRat, markRat, heldRat; a fraction that came in, opened. -/
namespace Go.Proofs.YtijeplcjbhkkoaaGreatDoor
open Go.ChangeShapes Go.WideShapes Go.ChangeAt Go.RowKit Lm

/-- Two slices that came in. -/
def Rd2 (w : World) (v u : Value) (xs ys : List Int) : Prop := Rd w v xs ∧ Rd w u ys
theorem Rd2.below {w w' : World} {v u : Value} {xs ys : List Int} (h : Rd2 w v u xs ys) (hb : Below w.heap.size w w') : Rd2 w' v u xs ys := ⟨h.1.below hb, h.2.below hb⟩

theorem retR_fin {w wk : World} {g base : Nat} {s : Bool} {u v : Value} {xs ys : List Int} (hB : Below w.heap.size w wk) (hg : w.heap.size ≤ g) (hb : w.heap.size ≤ base)
    (hu : Own wk base u xs) (hv : Own wk base v ys) (nu : u.ownBlock ≠ some g) (nv : v.ownBlock ≠ some g) (ha : Apart u v) :
    RetR w s xs ys (.returned (.agg #[.bool s, u, v])) (((wk.setCell ⟨g, 0, none⟩ (.bool s)).setCell ⟨g, 1, none⟩ u).setCell ⟨g, 2, none⟩ v) :=
  ⟨u, v, rfl, (set3_own hu nu).mono hb, (set3_own hv nv).mono hb, ha, set3_below hB hg⟩

/-- Both rows of a fraction are marked. -/
def RetMk2 (w : World) (b c : Nat) (v u : Value) (k : Int) (n m : Nat) (e : Ending) (w' : World) : Prop :=
  ∃ r : Int, k + n + m = r ∧ e = .returned (.int .i64 r) ∧ Own w' b v (iota k n) ∧ Own w' c u (iota (k + n) m) ∧ ∃ wm : World, w.grownBy wm v.ownBlock ∧ wm.grownBy w' u.ownBlock

theorem mark2Below {w0 w wm w' : World} {v u : Value} {xs ys : List Int} {b c : Nat} (h : Own w b v xs) (k : Own w c u ys) (hB : Below w0.heap.size w0 w) (hg : w.grownBy wm v.ownBlock) (hg2 : wm.grownBy w' u.ownBlock) (h1 : w0.heap.size ≤ b) (h2 : w0.heap.size ≤ c) : Below w0.heap.size w0 w' := by
  have B1 := h.grownBelow hB hg h1 hB.size
  exact B1.grown hg2 B1.size (fun j hj => Nat.le_trans h2 (k.lt j hj).1)

end Go.Proofs.YtijeplcjbhkkoaaGreatDoor

/- Vectors of fractions: what a slice of fractions reads as, and how that is kept. -/
namespace Go.Proofs.YtijeplcjbhkkoaaGreatDoor
open Go.RowKit Lm

/-- The three cells of an element. -/
structure Ent where
  s : Bool
  u : Value
  d : Value
/-- What an element reads as. -/
structure Rc where
  s : Bool
  xs : List Int
  ys : List Int
def Ent.cs (e : Ent) : List Value := [.bool e.s, e.u, e.d]
def cellsF : Nat → (Nat → Ent) → List Value
  | 0, _ => []
  | n + 1, E => cellsF n E ++ (E n).cs
theorem cellsF_length (n : Nat) (E : Nat → Ent) : (cellsF n E).length = n * 3 := by
  induction n with
  | zero => rfl
  | succ n ih => simp only [cellsF, List.length_append, ih, Ent.cs, List.length_cons, List.length_nil]; omega
theorem cellsF_congr {n : Nat} {E F : Nat → Ent} (h : ∀ i, i < n → E i = F i) : cellsF n E = cellsF n F := by
  induction n with
  | zero => rfl
  | succ n ih => simp only [cellsF]; rw [ih (fun i hi => h i (by omega)), h n (by omega)]
theorem cellsF_at (n : Nat) (E : Nat → Ent) {i : Nat} (h : i < n) : (cellsF n E)[i * 3]? = some (.bool (E i).s) ∧ (cellsF n E)[i * 3 + 1]? = some (E i).u ∧ (cellsF n E)[i * 3 + 2]? = some (E i).d := by
  induction n with
  | zero => omega
  | succ n ih =>
    simp only [cellsF]
    by_cases hi : i < n
    · have hl := cellsF_length n E
      rw [List.getElem?_append_left (by omega), List.getElem?_append_left (by omega), List.getElem?_append_left (by omega)]
      exact ih hi
    · obtain rfl : i = n := by omega
      have hl := cellsF_length i E
      rw [List.getElem?_append_right (by omega), List.getElem?_append_right (by omega), List.getElem?_append_right (by omega), hl]
      refine ⟨?_, ?_, ?_⟩
      · rw [Nat.sub_self]; rfl
      · rw [Nat.add_sub_cancel_left]; rfl
      · rw [Nat.add_sub_cancel_left]; rfl
/-- One cell of the row is written. -/
theorem cellsF_set (n : Nat) (E : Nat → Ent) (i : Nat) (h : i < n) (e : Ent) : (((cellsF n E).set (i * 3) (.bool e.s)).set (i * 3 + 1) e.u).set (i * 3 + 2) e.d = cellsF n (fun j => if j = i then e else E j) := by
  induction n with
  | zero => omega
  | succ n ih =>
    simp only [cellsF]
    by_cases hi : i < n
    · have hl := cellsF_length n E
      rw [List.set_append_left _ _ (by omega), List.set_append_left _ _ (by rw [List.length_set]; omega), List.set_append_left _ _ (by rw [List.length_set, List.length_set]; omega), ih hi, if_neg (by omega)]
    · obtain rfl : i = n := by omega
      have hl := cellsF_length i E
      rw [List.set_append_right _ _ (by omega), List.set_append_right _ _ (by omega), List.set_append_right _ _ (by omega), hl, if_pos rfl, Nat.sub_self, Nat.add_sub_cancel_left, Nat.add_sub_cancel_left]
      congr 1
      exact cellsF_congr fun j hj => by rw [if_neg (by omega)]
theorem cellsF_set0 (n : Nat) (E : Nat → Ent) (i : Nat) (h : i < n) (b : Bool) : (cellsF n E).set (i * 3) (.bool b) = cellsF n (fun j => if j = i then ⟨b, (E i).u, (E i).d⟩ else E j) := by
  rw [← cellsF_set n E i h ⟨b, (E i).u, (E i).d⟩]
  obtain ⟨_, h1, h2⟩ := cellsF_at n E h
  apply List.ext_getElem?
  intro j
  simp only [List.getElem?_set, List.length_set]
  have hl := cellsF_length n E
  by_cases e1 : i * 3 + 2 = j
  · subst e1
    rw [if_neg (by omega), if_pos rfl, if_pos (by omega), h2]
  · rw [if_neg e1]
    by_cases e2 : i * 3 + 1 = j
    · subst e2
      rw [if_neg (by omega), if_pos rfl, if_pos (by omega), h1]
    · rw [if_neg e2]

theorem ownsRow_same {w w' : World} {base : Nat} {t : TypeId} {size n : Nat} {v : Value} {xs : List Value} (h : w.ownsRow base t size v n xs) (hb : ∀ k, v.ownBlock = some k → w'.heap[k]? = w.heap[k]?) : w'.ownsRow base t size v n xs := by
  refine ⟨h.1, ?_⟩
  rcases h.2 with hn | ⟨g, cap, cur, rfl, hg, hgg, rest⟩
  · exact .inl hn
  · exact .inr ⟨g, cap, cur, rfl, hg, by rw [hb g rfl]; exact hgg, rest⟩
theorem Own.same {w w' : World} {base : Nat} {v : Value} {xs : List Int} (h : Own w base v xs) (hb : ∀ k, v.ownBlock = some k → w'.heap[k]? = w.heap[k]?) : Own w' base v xs := ownsRow_same h hb

/-- An element reads so, its limbs lying in blocks from lo up to hi. -/
structure EntF (w : World) (lo hi : Nat) (e : Ent) (r : Rc) : Prop where
  sg : e.s = r.s
  num : Own w lo e.u r.xs
  den : Own w lo e.d r.ys
  uhi : ∀ k, e.u.ownBlock = some k → k < hi
  dhi : ∀ k, e.d.ownBlock = some k → k < hi
theorem EntF.same {w w' : World} {lo hi : Nat} {e : Ent} {r : Rc} (h : EntF w lo hi e r) (hb : ∀ k, lo ≤ k → k < hi → w'.heap[k]? = w.heap[k]?) : EntF w' lo hi e r :=
  ⟨h.sg, h.num.same fun k hk => hb k (h.num.lt k hk).1 (h.uhi k hk), h.den.same fun k hk => hb k (h.den.lt k hk).1 (h.dhi k hk), h.uhi, h.dhi⟩
theorem EntF.wider {w : World} {lo hi lo' hi' : Nat} {e : Ent} {r : Rc} (h : EntF w lo hi e r) (h1 : lo' ≤ lo) (h2 : hi ≤ hi') : EntF w lo' hi' e r :=
  ⟨h.sg, h.num.mono h1, h.den.mono h1, fun k hk => Nat.lt_of_lt_of_le (h.uhi k hk) h2, fun k hk => Nat.lt_of_lt_of_le (h.dhi k hk) h2⟩

/-- The slice v owns n elements E that read as R, all in blocks from lo up to hi, no two slices in one block. -/
structure VecF (w : World) (lo hi : Nat) (v : Value) (n : Nat) (E : Nat → Ent) (R : Nat → Rc) : Prop where
  top : hi ≤ w.heap.size
  row : w.ownsRow lo 27 3 v n (cellsF n E)
  vhi : ∀ k, v.ownBlock = some k → k < hi
  ent : ∀ i, i < n → EntF w lo hi (E i) (R i)
  one : ∀ i, i < n → Apart v (E i).u ∧ Apart v (E i).d ∧ Apart (E i).u (E i).d
  two : ∀ i j, i < n → j < n → i ≠ j → Apart (E i).u (E j).u ∧ Apart (E i).u (E j).d ∧ Apart (E i).d (E j).u ∧ Apart (E i).d (E j).d
def Vec (w : World) (lo hi : Nat) (v : Value) (n : Nat) (R : Nat → Rc) : Prop := ∃ E, VecF w lo hi v n E R

theorem VecF.same {w w' : World} {lo hi : Nat} {v : Value} {n : Nat} {E : Nat → Ent} {R : Nat → Rc} (h : VecF w lo hi v n E R) (hs : w.heap.size ≤ w'.heap.size) (hb : ∀ k, lo ≤ k → k < hi → w'.heap[k]? = w.heap[k]?) : VecF w' lo hi v n E R :=
  ⟨Nat.le_trans h.top hs, ownsRow_same h.row fun k hk => hb k (h.row.lt k hk).1 (h.vhi k hk), h.vhi, fun i hi => (h.ent i hi).same hb, h.one, h.two⟩
theorem VecF.below {w w' : World} {lo hi B : Nat} {v : Value} {n : Nat} {E : Nat → Ent} {R : Nat → Rc} (h : VecF w lo hi v n E R) (hb : Below B w w') (hB : hi ≤ B) : VecF w' lo hi v n E R :=
  h.same hb.size fun k _ hk => hb.block k (by omega)
theorem Vec.below {w w' : World} {lo hi B : Nat} {v : Value} {n : Nat} {R : Nat → Rc} (h : Vec w lo hi v n R) (hb : Below B w w') (hB : hi ≤ B) : Vec w' lo hi v n R := by
  obtain ⟨E, h⟩ := h; exact ⟨E, h.below hb hB⟩
theorem Vec.top {w : World} {lo hi : Nat} {v : Value} {n : Nat} {R : Nat → Rc} (h : Vec w lo hi v n R) : hi ≤ w.heap.size := by obtain ⟨_, h⟩ := h; exact h.top
theorem Vec.bel {w w' : World} {lo hi : Nat} {v : Value} {n : Nat} {R : Nat → Rc} (h : Vec w lo hi v n R) (hb : Below w.heap.size w w') : Vec w' lo hi v n R := h.below hb h.top
theorem VecF.bel {w w' : World} {lo hi : Nat} {v : Value} {n : Nat} {E : Nat → Ent} {R : Nat → Rc} (h : VecF w lo hi v n E R) (hb : Below w.heap.size w w') : VecF w' lo hi v n E R := h.below hb h.top
theorem VecF.wider {w : World} {lo hi lo' hi' : Nat} {v : Value} {n : Nat} {E : Nat → Ent} {R : Nat → Rc} (h : VecF w lo hi v n E R) (h1 : lo' ≤ lo) (h2 : hi ≤ hi') (h3 : hi' ≤ w.heap.size) : VecF w lo' hi' v n E R := by
  refine ⟨h3, ⟨h.row.1, ?_⟩, fun k hk => Nat.lt_of_lt_of_le (h.vhi k hk) h2, fun i hi => (h.ent i hi).wider h1 h2, h.one, h.two⟩
  rcases h.row.2 with hn | ⟨g, cap, cur, e, hg, rest⟩
  · exact .inl hn
  · exact .inr ⟨g, cap, cur, e, Nat.le_trans h1 hg, rest⟩
theorem Vec.wider {w : World} {lo hi lo' hi' : Nat} {v : Value} {n : Nat} {R : Nat → Rc} (h : Vec w lo hi v n R) (h1 : lo' ≤ lo) (h2 : hi ≤ hi') (h3 : hi' ≤ w.heap.size) : Vec w lo' hi' v n R := by
  obtain ⟨E, h⟩ := h; exact ⟨E, h.wider h1 h2 h3⟩
theorem VecF.congr {w : World} {lo hi : Nat} {v : Value} {n : Nat} {E : Nat → Ent} {R R' : Nat → Rc} (h : VecF w lo hi v n E R) (e : ∀ i, i < n → R i = R' i) : VecF w lo hi v n E R' :=
  ⟨h.top, h.row, h.vhi, fun i hi => (e i hi) ▸ h.ent i hi, h.one, h.two⟩
theorem Vec.congr {w : World} {lo hi : Nat} {v : Value} {n : Nat} {R R' : Nat → Rc} (h : Vec w lo hi v n R) (e : ∀ i, i < n → R i = R' i) : Vec w lo hi v n R' := by
  obtain ⟨E, h⟩ := h; exact ⟨E, h.congr e⟩
theorem VecF.nil (w : World) {lo hi : Nat} (E : Nat → Ent) (R : Nat → Rc) (h : hi ≤ w.heap.size) : VecF w lo hi (.slice none 0 0) 0 E R :=
  ⟨h, World.ownsRow_nil _ _ _ _, fun k hk => by simp [Value.ownBlock] at hk, fun i hi => absurd hi (by omega), fun i hi => absurd hi (by omega), fun i j hi => absurd hi (by omega)⟩
theorem Vec.nil (w : World) {lo hi : Nat} (R : Nat → Rc) (h : hi ≤ w.heap.size) : Vec w lo hi (.slice none 0 0) 0 R := ⟨fun _ => ⟨false, .slice none 0 0, .slice none 0 0⟩, VecF.nil w _ R h⟩
theorem VecF.lit0 (w : World) {lo : Nat} (E : Nat → Ent) (R : Nat → Rc) (h : lo ≤ w.heap.size) : VecF (w.alloc (.cells #[] 27)) lo (w.heap.size + 1) (.slice (some ⟨w.heap.size, 0, none⟩) 0 0) 0 E R :=
  ⟨by simp, World.ownsRow_lit w #[] 0 h (by unfold maxLen; omega) rfl, fun k hk => by simp [Value.ownBlock] at hk; omega, fun i hi => absurd hi (by omega), fun i hi => absurd hi (by omega), fun i j hi => absurd hi (by omega)⟩
theorem VecF.form {w : World} {lo hi : Nat} {v : Value} {n : Nat} {E : Nat → Ent} {R : Nat → Rc} (h : VecF w lo hi v n E R) : ∃ ao cap, v = .slice ao n cap ∧ n ≤ 9223372036854775807 ∧ n ≤ cap ∧ cap ≤ 9223372036854775807 := by
  rcases h.row.2 with ⟨rfl, hn⟩ | ⟨g, cap, cur, rfl, hg, hgg, h1, h2, _⟩
  · exact ⟨none, 0, by rw [hn], by omega, by omega, by omega⟩
  · unfold maxLen at h2
    exact ⟨some ⟨g, 0, none⟩, cap, rfl, by omega, h1, h2⟩
theorem Vec.form {w : World} {lo hi : Nat} {v : Value} {n : Nat} {R : Nat → Rc} (h : Vec w lo hi v n R) : ∃ ao cap, v = .slice ao n cap ∧ n ≤ 9223372036854775807 ∧ n ≤ cap ∧ cap ≤ 9223372036854775807 := by
  obtain ⟨_, h⟩ := h; exact h.form
theorem VecF.addr {w : World} {lo hi n m cap : Nat} {ao : Option Addr} {E : Nat → Ent} {R : Nat → Rc} (h : VecF w lo hi (.slice ao m cap) n E R) {i : Nat} (hi : i < n) : ∃ g, ao = some ⟨g, 0, none⟩ ∧ lo ≤ g ∧ g < w.heap.size ∧ m = n := by
  rcases h.row.2 with ⟨h1, h2⟩ | ⟨g, cap, cur, h1, hg, hgg, _⟩
  · omega
  · cases h1; exact ⟨g, rfl, hg, (Array.getElem?_eq_some_iff.1 hgg).1, rfl⟩
/-- The three cells of element i. -/
theorem VecF.cells {w : World} {lo hi g n m cap : Nat} {E : Nat → Ent} {R : Nat → Rc} (h : VecF w lo hi (.slice (some ⟨g, 0, none⟩) m cap) n E R) {i : Nat} (hi : i < n) :
    w.cell? ⟨g, i * 3, none⟩ = some (.bool (R i).s) ∧ w.cell? ⟨g, i * 3 + 1, none⟩ = some (E i).u ∧ w.cell? ⟨g, i * 3 + 2, none⟩ = some (E i).d := by
  obtain ⟨_, -, -, -, rfl⟩ := h.addr hi
  obtain ⟨c0, c1, c2⟩ := cellsF_at m E hi
  rw [World.ownsRow.cellAt h.row _ (by omega), World.ownsRow.cellAt h.row _ (by omega), World.ownsRow.cellAt h.row _ (by omega), c0, c1, c2, (h.ent i hi).sg]
  exact ⟨rfl, rfl, rfl⟩
/-- The same, the limbs' slices written out. -/
theorem VecF.elem {w : World} {lo hi g n m cap : Nat} {E : Nat → Ent} {R : Nat → Rc} (h : VecF w lo hi (.slice (some ⟨g, 0, none⟩) m cap) n E R) {i : Nat} (hi : i < n) :
    ∃ au cu ad cd, w.cell? ⟨g, i * 3, none⟩ = some (.bool (R i).s) ∧ w.cell? ⟨g, i * 3 + 1, none⟩ = some (.slice au (R i).xs.length cu) ∧ w.cell? ⟨g, i * 3 + 2, none⟩ = some (.slice ad (R i).ys.length cd) ∧
      Own w lo (.slice au (R i).xs.length cu) (R i).xs ∧ Own w lo (.slice ad (R i).ys.length cd) (R i).ys := by
  obtain ⟨c0, c1, c2⟩ := h.cells hi
  have he := h.ent i hi
  obtain ⟨au, cu, hu, -⟩ := he.num.form
  obtain ⟨ad, cd, hd, -⟩ := he.den.form
  refine ⟨au, cu, ad, cd, c0, hu ▸ c1, hd ▸ c2, hu ▸ he.num, hd ▸ he.den⟩
theorem VecF.frozen {w : World} {lo hi g n m cap : Nat} {E : Nat → Ent} {R : Nat → Rc} (h : VecF w lo hi (.slice (some ⟨g, 0, none⟩) m cap) n E R) {i : Nat} (hi : i < n) (k : Nat) : w.frozen? ⟨g, k, none⟩ = false := by
  obtain ⟨_, -, -, -, rfl⟩ := h.addr hi
  exact World.ownsRow.frozenAt h.row _

theorem apart_lt {v u : Value} {b : Nat} (h : ∀ k, v.ownBlock = some k → k < b) (h2 : ∀ k, u.ownBlock = some k → b ≤ k) : Apart v u := fun k hk hu => by
  have := h k hk; have := h2 k hu; omega
/-- An element is appended. -/
theorem VecF.push {w w' : World} {lo hi : Nat} {v v' : Value} {n : Nat} {E : Nat → Ent} {R : Nat → Rc} {e : Ent} (h : VecF w lo hi v n E R) (he : EntF w lo w.heap.size e (R n)) (ha : Apart e.u e.d)
    (hu : ∀ k, e.u.ownBlock = some k → hi ≤ k) (hd : ∀ k, e.d.ownBlock = some k → hi ≤ k)
    (hrow : w'.ownsRow lo 27 3 v' (n + 1) (cellsF n E ++ e.cs)) (hg : w.grownBy w' v.ownBlock) (hat : v'.ownBlock = v.ownBlock ∨ v'.ownBlock = some w.heap.size) :
    VecF w' lo w'.heap.size v' (n + 1) (fun j => if j = n then e else E j) R := by
  have hvu : Apart v e.u := apart_lt h.vhi hu
  have hvd : Apart v e.d := apart_lt h.vhi hd
  have hv'k : ∀ {x : Value}, Apart v x → (∀ k, x.ownBlock = some k → k < w.heap.size) → Apart v' x := by
    intro x hx hxs k hk hxk
    rcases hat with h1 | h1
    · exact hx k (h1 ▸ hk) hxk
    · rw [h1] at hk; cases hk; have := hxs _ hxk; omega
  have keep : ∀ {x : Value} {xs : List Int}, Own w lo x xs → Apart v x → Own w' lo x xs := fun {x xs} ho hx => ho.grown hg (by
    rcases hxb : x.ownBlock with _ | k
    · exact .inl rfl
    · exact .inr fun e => hx k e.symm hxb)
  have hsz := hg.size
  refine ⟨Nat.le_refl _, ?_, fun k hk => ?_, fun i hi => ?_, fun i hi => ?_, fun i j hi hj hne => ?_⟩
  · have e1 : cellsF (n + 1) (fun j => if j = n then e else E j) = cellsF n E ++ e.cs := by
      simp only [cellsF, if_pos]
      rw [cellsF_congr fun i hi => by rw [if_neg (by omega)]]
    rw [e1]; exact hrow
  · exact (hrow.lt k hk).2
  · by_cases hin : i = n
    · subst hin
      rw [if_pos rfl]
      exact ⟨he.sg, keep he.num hvu, keep he.den hvd, fun k hk => Nat.lt_of_lt_of_le (he.uhi k hk) hsz, fun k hk => Nat.lt_of_lt_of_le (he.dhi k hk) hsz⟩
    · rw [if_neg hin]
      have hl : i < n := by omega
      have h0 := h.ent i hl
      have h1 := h.one i hl
      exact ⟨h0.sg, keep h0.num h1.1, keep h0.den h1.2.1, fun k hk => Nat.lt_of_lt_of_le (Nat.lt_of_lt_of_le (h0.uhi k hk) h.top) hsz, fun k hk => Nat.lt_of_lt_of_le (Nat.lt_of_lt_of_le (h0.dhi k hk) h.top) hsz⟩
  · by_cases hin : i = n
    · subst hin
      rw [if_pos rfl]
      exact ⟨hv'k hvu he.uhi, hv'k hvd he.dhi, ha⟩
    · rw [if_neg hin]
      have hl : i < n := by omega
      have h0 := h.ent i hl
      have h1 := h.one i hl
      exact ⟨hv'k h1.1 fun k hk => Nat.lt_of_lt_of_le (h0.uhi k hk) h.top, hv'k h1.2.1 fun k hk => Nat.lt_of_lt_of_le (h0.dhi k hk) h.top, h1.2.2⟩
  · by_cases hin : i = n
    · subst hin
      rw [if_pos rfl, if_neg (by omega)]
      have h0 := h.ent j (by omega)
      exact ⟨(apart_lt h0.uhi hu).symm, (apart_lt h0.dhi hu).symm, (apart_lt h0.uhi hd).symm, (apart_lt h0.dhi hd).symm⟩
    · rw [if_neg hin]
      have h0 := h.ent i (by omega)
      by_cases hjn : j = n
      · subst hjn
        rw [if_pos rfl]
        exact ⟨apart_lt h0.uhi hu, apart_lt h0.uhi hd, apart_lt h0.dhi hu, apart_lt h0.dhi hd⟩
      · rw [if_neg hjn]
        exact h.two i j (by omega) (by omega) hne

/-- An element is written into its place. -/
theorem VecF.put {w w' : World} {lo hi : Nat} {v : Value} {n i : Nat} {E : Nat → Ent} {R : Nat → Rc} {e : Ent} {r : Rc} (h : VecF w lo hi v n E R) (hlt : i < n) (he : EntF w lo w.heap.size e r) (ha : Apart e.u e.d)
    (hu : ∀ k, e.u.ownBlock = some k → hi ≤ k) (hd : ∀ k, e.d.ownBlock = some k → hi ≤ k)
    (hrow : w'.ownsRow lo 27 3 v n (cellsF n (fun j => if j = i then e else E j))) (hg : w.grownBy w' v.ownBlock) :
    VecF w' lo w'.heap.size v n (fun j => if j = i then e else E j) (fun j => if j = i then r else R j) := by
  have hvu : Apart v e.u := apart_lt h.vhi hu
  have hvd : Apart v e.d := apart_lt h.vhi hd
  have keep : ∀ {x : Value} {xs : List Int}, Own w lo x xs → Apart v x → Own w' lo x xs := fun {x xs} ho hx => ho.grown hg (by
    rcases hxb : x.ownBlock with _ | k
    · exact .inl rfl
    · exact .inr fun e => hx k e.symm hxb)
  have hsz := hg.size
  refine ⟨Nat.le_refl _, hrow, fun k hk => (hrow.lt k hk).2, fun j hj => ?_, fun j hj => ?_, fun j l hj hl hne => ?_⟩
  · by_cases hin : j = i
    · rw [if_pos hin, if_pos hin]
      exact ⟨he.sg, keep he.num hvu, keep he.den hvd, fun k hk => Nat.lt_of_lt_of_le (he.uhi k hk) hsz, fun k hk => Nat.lt_of_lt_of_le (he.dhi k hk) hsz⟩
    · rw [if_neg hin, if_neg hin]
      have h0 := h.ent j hj
      have h1 := h.one j hj
      exact ⟨h0.sg, keep h0.num h1.1, keep h0.den h1.2.1, fun k hk => Nat.lt_of_lt_of_le (Nat.lt_of_lt_of_le (h0.uhi k hk) h.top) hsz, fun k hk => Nat.lt_of_lt_of_le (Nat.lt_of_lt_of_le (h0.dhi k hk) h.top) hsz⟩
  · by_cases hin : j = i
    · rw [if_pos hin]; exact ⟨hvu, hvd, ha⟩
    · rw [if_neg hin]; exact h.one j hj
  · by_cases hin : j = i
    · subst hin
      rw [if_pos rfl, if_neg (by omega)]
      have h0 := h.ent l hl
      exact ⟨(apart_lt h0.uhi hu).symm, (apart_lt h0.dhi hu).symm, (apart_lt h0.uhi hd).symm, (apart_lt h0.dhi hd).symm⟩
    · rw [if_neg hin]
      have h0 := h.ent j hj
      by_cases hjn : l = i
      · subst hjn
        rw [if_pos rfl]
        exact ⟨apart_lt h0.uhi hu, apart_lt h0.uhi hd, apart_lt h0.dhi hu, apart_lt h0.dhi hd⟩
      · rw [if_neg hjn]
        exact h.two j l hj hl hne

theorem Tryz.infoRat : (Tryz.prog.info? 27).map (fun i => (i.zero, i.size, i.bytes)) = some (some (.agg #[.bool false, .slice none 0 0, .slice none 0 0]), 3, 56) := by kernel_rfl

theorem keep_cellB {B : Nat} {W w1 : World} {p : Addr} {v : Value} (hb : Below B W w1) (h : W.cell? p = some v) (hB : p.block < B) : w1.cell? p = some v := (hb.cell hB).trans h
theorem cell_three {w : World} {g : Nat} {x y z : Value} (h0 : w.cell? ⟨g, 0, none⟩ = some x) (h1 : w.cell? ⟨g, 1, none⟩ = some y) (h2 : w.cell? ⟨g, 2, none⟩ = some z) : ∀ j u, [x, y, z][j]? = some u → w.cell? ((⟨g, 0, none⟩ : Addr).add j) = some u := by
  intro j u hj
  match j, hj with
  | 0, hj => cases hj; simpa [Addr.add] using h0
  | 1, hj => cases hj; simpa [Addr.add] using h1
  | 2, hj => cases hj; simpa [Addr.add] using h2
theorem own_oneCell {w : World} {b : Nat} {v : Value} {xs : List Int} (h : Own w b v xs) : v.oneCell' = true := by
  obtain ⟨ao, cap, rfl, -⟩ := h.form
  rfl

/-- Cells that lie outside the vector's own blocks are as they were. -/
def Aside (lo hi : Nat) (w w' : World) : Prop := ∀ (p : Addr) (x : Value), w.cell? p = some x → (p.block < lo ∨ hi ≤ p.block) → w'.cell? p = some x
/-- append(v, r): r lies in three cells from g on. -/
theorem app_run (w : World) (T : TypeId) (v : Value) (lo hi n g : Nat) (E : Nat → Ent) (R : Nat → Rc) (e : Ent) (h1 : VecF w lo hi v n E R)
    (he : EntF w lo w.heap.size e (R n)) (ha : Apart e.u e.d) (hu : ∀ k, e.u.ownBlock = some k → hi ≤ k) (hd : ∀ k, e.d.ownBlock = some k → hi ≤ k)
    (c0 : w.cell? ⟨g, 0, none⟩ = some (.bool e.s)) (c1 : w.cell? ⟨g, 1, none⟩ = some e.u) (c2 : w.cell? ⟨g, 2, none⟩ = some e.d)
    (hlen : n ≤ 1000000000000) (hbase : lo ≤ w.heap.size) :
    ∃ v' w', (Builtin.append_ #[38, 38] T #[v, .slice (some ⟨g, 0, none⟩) 1 1]).run Tryz.prog w = .ok v' w' ∧ Vec w' lo w'.heap.size v' (n + 1) R ∧ Below lo w w' ∧ Aside lo hi w w' := by
  obtain ⟨i, hi', hz, hsz, hby⟩ := info_parts Tryz.infoRat
  obtain ⟨v', w', hr, r2, r3, _, r5⟩ := run_append_own_at (P := Tryz.prog) w lo 38 T 27 i _ 3 56 Tryz.underlying38 hi' hz hsz hby rfl (by decide) v n (cellsF n E) h1.row
    ⟨g, 0, none⟩ 1 1 e.cs rfl (cell_three c0 c1 c2) (by
      intro u hu
      simp only [Ent.cs, List.mem_cons, List.not_mem_nil, or_false] at hu
      rcases hu with rfl | rfl | rfl
      · rfl
      · exact own_oneCell he.num
      · exact own_oneCell he.den) (by unfold maxLen; omega) (by omega) hbase
  refine ⟨v', w', hr, ⟨_, h1.push he ha hu hd r2 r3 r5⟩, (Below.refl lo w).grown r3 hbase fun k hk => (h1.row.lt k hk).1, fun p x hp hb => ?_⟩
  exact r3.cell hp fun e => by
    have h2 := (h1.row.lt _ e.symm).1
    have h3 := h1.vhi _ e.symm
    omega
/-- The box of an element that a call has made behind w lies in the block that was made last. -/
theorem app_new_run {w w1 : World} (T : TypeId) {v u d : Value} {lo hi n : Nat} {E : Nat → Ent} {R : Nat → Rc} {s : Bool} (h1 : VecF w lo hi v n E R) (hlo : lo ≤ w.heap.size) (hb : Below w.heap.size w w1)
    (hs : s = (R n).s) (ho1 : Own w1 w.heap.size u (R n).xs) (ho2 : Own w1 w.heap.size d (R n).ys) (ha : Apart u d) (hlen : n ≤ 1000000000000) :
    ∃ v' w', (Builtin.append_ #[38, 38] T #[v, .slice (some ⟨w1.heap.size, 0, none⟩) 1 1]).run Tryz.prog (w1.alloc (.cells #[.bool s, u, d] 27)) = .ok v' w' ∧
      Vec w' lo w'.heap.size v' (n + 1) R ∧ Below lo w w' ∧ Aside lo hi (w1.alloc (.cells #[.bool s, u, d] 27)) w' := by
  have B1 : Below w.heap.size w (w1.alloc (.cells #[.bool s, u, d] 27)) := hb.alloc hb.size _
  obtain ⟨c0, c1, c2⟩ : (w1.alloc (.cells #[.bool s, u, d] 27)).cell? ⟨w1.heap.size, 0, none⟩ = some (.bool s) ∧ (w1.alloc (.cells #[.bool s, u, d] 27)).cell? ⟨w1.heap.size, 1, none⟩ = some u ∧ (w1.alloc (.cells #[.bool s, u, d] 27)).cell? ⟨w1.heap.size, 2, none⟩ = some d := by simp [go_sem]
  have hsz := B1.size
  have hl1 : ∀ k, u.ownBlock = some k → w.heap.size ≤ k ∧ k < w1.heap.size := ho1.lt
  have hl2 : ∀ k, d.ownBlock = some k → w.heap.size ≤ k ∧ k < w1.heap.size := ho2.lt
  have hw1 : w1.heap.size ≤ (w1.alloc (.cells #[.bool s, u, d] 27)).heap.size := by simp
  have htop := h1.top
  obtain ⟨v', w', hr, hv, hbl, has⟩ := app_run _ T v lo hi n w1.heap.size E R ⟨s, u, d⟩ (h1.below B1 h1.top)
    ⟨hs, (ho1.alloc _).mono hlo, (ho2.alloc _).mono hlo, fun k hk => Nat.lt_of_lt_of_le (hl1 k hk).2 hw1, fun k hk => Nat.lt_of_lt_of_le (hl2 k hk).2 hw1⟩ ha (fun k hk => Nat.le_trans htop (hl1 k hk).1) (fun k hk => Nat.le_trans htop (hl2 k hk).1) c0 c1 c2 hlen (Nat.le_trans hlo hsz)
  exact ⟨v', w', hr, hv, (B1.mono hlo).trans hbl, has⟩
theorem app_new {w w1 : World} {ops : Array Oper} {rest : List Oper} {o : Oper} {a : Act} {Q : Exit → Act → World → Prop} (hgd : o.guard = none) (x y : Operand)
    (ho : o.op = .call { callee := .builtin .append, args := #[x, y], argTypes := #[38, 38] })
    {v u d : Value} {lo hi n : Nat} {E : Nat → Ent} {R : Nat → Rc} {s : Bool} (hx : a.eval x = v) (hy : a.eval y = .slice (some ⟨w1.heap.size, 0, none⟩) 1 1) (h1 : VecF w lo hi v n E R) (hlo : lo ≤ w.heap.size) (hb : Below w.heap.size w w1)
    (hs : s = (R n).s) (ho1 : Own w1 w.heap.size u (R n).xs) (ho2 : Own w1 w.heap.size d (R n).ys) (ha : Apart u d) (hlen : n ≤ 1000000000000)
    (h : ∀ v' w', Vec w' lo w'.heap.size v' (n + 1) R → Below lo w w' → Aside lo hi (w1.alloc (.cells #[.bool s, u, d] 27)) w' → wpList Tryz.prog ops Q rest (a.put o.dst v') w') :
    wpList Tryz.prog ops Q (o :: rest) a (w1.alloc (.cells #[.bool s, u, d] 27)) := by
  refine wpList_plain hgd fun K hK => ?_
  obtain ⟨v', w', hr, h2, h3, h4⟩ := app_new_run o.type h1 hlo hb hs ho1 ho2 ha hlen
  unfold Oper.wp
  simp only [execOp, ho, resolve, invoke, builtin, Sem.run_bind, Sem.run_pure, Result.andThen_ok, List.map_toArray, List.map_cons, List.map_nil, hx, hy, hr]
  exact hK _ _ (h v' w' h2 h3 h4)
/-- The same as a step of a region that draws its order (behind 'rw [if_pos (by rfl)]'). -/
theorem app_new_wp {w w1 : World} {o : Oper} {a : Act} {K : Act → World → Prop} {Q : Exit → Act → World → Prop} (x y : Operand)
    (ho : o.op = .call { callee := .builtin .append, args := #[x, y], argTypes := #[38, 38] })
    {v u d : Value} {lo hi n : Nat} {E : Nat → Ent} {R : Nat → Rc} {s : Bool} (h1 : VecF w lo hi v n E R) (hlo : lo ≤ w.heap.size) (hb : Below w.heap.size w w1)
    (hs : s = (R n).s) (ho1 : Own w1 w.heap.size u (R n).xs) (ho2 : Own w1 w.heap.size d (R n).ys) (ha : Apart u d) (hlen : n ≤ 1000000000000) (hx : a.eval x = v) (hy : a.eval y = .slice (some ⟨w1.heap.size, 0, none⟩) 1 1)
    (h : ∀ v' w', Vec w' lo w'.heap.size v' (n + 1) R → Below lo w w' → Aside lo hi (w1.alloc (.cells #[.bool s, u, d] 27)) w' → K (a.put o.dst v') w') :
    o.wp Tryz.prog a (w1.alloc (.cells #[.bool s, u, d] 27)) K Q := by
  obtain ⟨v', w', hr, h2, h3, h4⟩ := app_new_run o.type h1 hlo hb hs ho1 ho2 ha hlen
  unfold Oper.wp
  simp only [execOp, ho, resolve, invoke, builtin, Sem.run_bind, Sem.run_pure, Result.andThen_ok, List.map_toArray, List.map_cons, List.map_nil, hx, hy, hr]
  exact h v' w' h2 h3 h4

/-- A fraction is stored into place i. -/
theorem VecF.store3 {w : World} {lo hi g n cap i : Nat} {E : Nat → Ent} {R : Nat → Rc} {e : Ent} {r : Rc} (h : VecF w lo hi (.slice (some ⟨g, 0, none⟩) n cap) n E R) (hlt : i < n) (he : EntF w lo w.heap.size e r) (ha : Apart e.u e.d)
    (hu : ∀ k, e.u.ownBlock = some k → hi ≤ k) (hd : ∀ k, e.d.ownBlock = some k → hi ≤ k) :
    VecF (((w.setCell ⟨g, i * 3, none⟩ (.bool e.s)).setCell ⟨g, i * 3 + 1, none⟩ e.u).setCell ⟨g, i * 3 + 2, none⟩ e.d) lo w.heap.size (.slice (some ⟨g, 0, none⟩) n cap) n (fun j => if j = i then e else E j) (fun j => if j = i then r else R j) ∧
    w.grownBy (((w.setCell ⟨g, i * 3, none⟩ (.bool e.s)).setCell ⟨g, i * 3 + 1, none⟩ e.u).setCell ⟨g, i * 3 + 2, none⟩ e.d) (some g) := by
  obtain ⟨r1, g1⟩ := World.ownsRow.stored h.row (i * 3) (.bool e.s)
  obtain ⟨r2, g2⟩ := World.ownsRow.stored r1 (i * 3 + 1) e.u
  obtain ⟨r3, g3⟩ := World.ownsRow.stored r2 (i * 3 + 2) e.d
  rw [cellsF_set n E i hlt e] at r3
  have hg := grownBy_trans (grownBy_trans g1 g2) g3
  have hs : (((w.setCell ⟨g, i * 3, none⟩ (.bool e.s)).setCell ⟨g, i * 3 + 1, none⟩ e.u).setCell ⟨g, i * 3 + 2, none⟩ e.d).heap.size = w.heap.size := by simp [World.setCell]
  refine ⟨?_, hg⟩
  have := h.put hlt he ha hu hd r3 hg
  rw [hs] at this
  exact this
/-- The sign of element i is stored. -/
theorem VecF.store0 {w : World} {lo hi g n cap i : Nat} {E : Nat → Ent} {R : Nat → Rc} (h : VecF w lo hi (.slice (some ⟨g, 0, none⟩) n cap) n E R) (hlt : i < n) (b : Bool) :
    VecF (w.setCell ⟨g, i * 3, none⟩ (.bool b)) lo hi (.slice (some ⟨g, 0, none⟩) n cap) n (fun j => if j = i then ⟨b, (E i).u, (E i).d⟩ else E j) (fun j => if j = i then ⟨b, (R i).xs, (R i).ys⟩ else R j) ∧
    w.grownBy (w.setCell ⟨g, i * 3, none⟩ (.bool b)) (some g) := by
  obtain ⟨r1, g1⟩ := World.ownsRow.stored h.row (i * 3) (.bool b)
  rw [cellsF_set0 n E i hlt b] at r1
  refine ⟨?_, g1⟩
  have keep : ∀ {x : Value} {xs : List Int}, Own w lo x xs → Apart (.slice (some ⟨g, 0, none⟩) n cap) x → Own (w.setCell ⟨g, i * 3, none⟩ (.bool b)) lo x xs := fun {x xs} ho hx => ho.grown g1 (by
    rcases hxb : x.ownBlock with _ | k
    · exact .inl rfl
    · exact .inr fun e => hx k e.symm hxb)
  refine ⟨Nat.le_trans h.top g1.size, r1, h.vhi, fun j hj => ?_, fun j hj => ?_, fun j l hj hl hne => ?_⟩
  · have h0 := h.ent j hj
    have h1 := h.one j hj
    by_cases hji : j = i
    · subst hji
      rw [if_pos rfl, if_pos rfl]
      exact ⟨rfl, keep h0.num h1.1, keep h0.den h1.2.1, h0.uhi, h0.dhi⟩
    · rw [if_neg hji, if_neg hji]
      exact ⟨h0.sg, keep h0.num h1.1, keep h0.den h1.2.1, h0.uhi, h0.dhi⟩
  · by_cases hji : j = i
    · subst hji
      rw [if_pos rfl]; exact h.one j hj
    · rw [if_neg hji]; exact h.one j hj
  · by_cases hji : j = i
    · subst hji
      rw [if_pos rfl, if_neg (fun e => hne e.symm)]; exact h.two j l hj hl hne
    · rw [if_neg hji]
      by_cases hli : l = i
      · subst hli
        rw [if_pos rfl]; exact h.two j l hj hl hne
      · rw [if_neg hli]; exact h.two j l hj hl hne
theorem own_keep {w w' : World} {lo : Nat} {v x : Value} {xs : List Int} (h : Own w lo x xs) (hg : w.grownBy w' v.ownBlock) (ha : Apart v x) : Own w' lo x xs := h.grown hg ha.symm.ne
/-- The numerator's limbs of element i are written over. -/
theorem VecF.markU {w w' : World} {lo hi n i : Nat} {v : Value} {E : Nat → Ent} {R : Nat → Rc} {xs : List Int} (h : VecF w lo hi v n E R) (hlt : i < n) (ho : Own w' lo (E i).u xs) (hg : w.grownBy w' (E i).u.ownBlock) :
    VecF w' lo hi v n E (fun j => if j = i then ⟨(R i).s, xs, (R i).ys⟩ else R j) := by
  have hone := h.one i hlt
  refine ⟨Nat.le_trans h.top hg.size, ?_, h.vhi, fun j hj => ?_, h.one, h.two⟩
  · exact h.row.kept hg hone.1.ne
  · have h0 := h.ent j hj
    by_cases hji : j = i
    · subst hji
      rw [if_pos rfl]
      exact ⟨h0.sg, ho, own_keep h0.den hg hone.2.2, h0.uhi, h0.dhi⟩
    · rw [if_neg hji]
      have h2 := h.two i j hlt hj (fun e => hji e.symm)
      exact ⟨h0.sg, own_keep h0.num hg h2.1, own_keep h0.den hg h2.2.1, h0.uhi, h0.dhi⟩
theorem VecF.markD {w w' : World} {lo hi n i : Nat} {v : Value} {E : Nat → Ent} {R : Nat → Rc} {xs : List Int} (h : VecF w lo hi v n E R) (hlt : i < n) (ho : Own w' lo (E i).d xs) (hg : w.grownBy w' (E i).d.ownBlock) :
    VecF w' lo hi v n E (fun j => if j = i then ⟨(R i).s, (R i).xs, xs⟩ else R j) := by
  have hone := h.one i hlt
  refine ⟨Nat.le_trans h.top hg.size, ?_, h.vhi, fun j hj => ?_, h.one, h.two⟩
  · exact h.row.kept hg hone.2.1.ne
  · have h0 := h.ent j hj
    by_cases hji : j = i
    · subst hji
      rw [if_pos rfl]
      exact ⟨h0.sg, own_keep h0.num hg hone.2.2.symm, ho, h0.uhi, h0.dhi⟩
    · rw [if_neg hji]
      have h2 := h.two i j hlt hj (fun e => hji e.symm)
      exact ⟨h0.sg, own_keep h0.num hg h2.2.2.1, own_keep h0.den hg h2.2.2.2, h0.uhi, h0.dhi⟩

/-! Only blocks from lo up to hi are changed. -/
structure Within (lo hi : Nat) (w w' : World) : Prop where
  os : w'.os = w.os
  tape : w'.tape = w.tape
  output : w'.output = w.output
  size : w.heap.size ≤ w'.heap.size
  block : ∀ k, k < w.heap.size → ¬ (lo ≤ k ∧ k < hi) → w'.heap[k]? = w.heap[k]?
theorem Within.refl (lo hi : Nat) (w : World) : Within lo hi w w := ⟨rfl, rfl, rfl, Nat.le_refl _, fun _ _ _ => rfl⟩
theorem Within.trans {lo hi : Nat} {a b c : World} (h : Within lo hi a b) (k : Within lo hi b c) : Within lo hi a c :=
  ⟨k.os.trans h.os, k.tape.trans h.tape, k.output.trans h.output, Nat.le_trans h.size k.size, fun i hi hn => (k.block i (Nat.lt_of_lt_of_le hi h.size) hn).trans (h.block i hi hn)⟩
theorem Within.grown {lo hi : Nat} {a b c : World} {row : Option Nat} (h : Within lo hi a b) (hg : b.grownBy c row) (hr : ∀ k, row = some k → lo ≤ k ∧ k < hi) : Within lo hi a c :=
  h.trans ⟨hg.os, hg.tape, hg.output, hg.size, fun i hi hn => hg.block i hi fun e => hn (hr i e.symm)⟩
theorem Within.bel {lo hi : Nat} {a b c : World} (h : Within lo hi a b) (hb : Below b.heap.size b c) : Within lo hi a c :=
  h.trans ⟨hb.os, hb.tape, hb.output, hb.size, fun i hi _ => hb.block i hi⟩
theorem Within.below {lo hi B : Nat} {w0 w w' : World} (h : Within lo hi w w') (hb : Below B w0 w) (h1 : B ≤ lo) (h2 : B ≤ w.heap.size) : Below B w0 w' :=
  hb.trans ⟨h.os, h.tape, h.output, h.size, fun k hk => h.block k (by omega) (by omega)⟩
theorem VecF.within {w w' : World} {lo hi l2 h2 : Nat} {v : Value} {n : Nat} {E : Nat → Ent} {R : Nat → Rc} (h : VecF w lo hi v n E R) (hw : Within l2 h2 w w') (hd : hi ≤ l2 ∨ h2 ≤ lo) : VecF w' lo hi v n E R :=
  h.same hw.size fun k hk hl => hw.block k (Nat.lt_of_lt_of_le hl h.top) (by omega)
theorem Vec.within {w w' : World} {lo hi l2 h2 : Nat} {v : Value} {n : Nat} {R : Nat → Rc} (h : Vec w lo hi v n R) (hw : Within l2 h2 w w') (hd : hi ≤ l2 ∨ h2 ≤ lo) : Vec w' lo hi v n R := by
  obtain ⟨E, h⟩ := h; exact ⟨E, h.within hw hd⟩
theorem Within.cell {lo hi : Nat} {w w' : World} {p : Addr} {v : Value} (h : Within lo hi w w') (hc : w.cell? p = some v) (hn : ¬ (lo ≤ p.block ∧ p.block < hi)) : w'.cell? p = some v :=
  (World.cell?_of_block (w := w) (h.block p.block (World.block_lt_of_cell? w _ hc) hn)).trans hc
theorem Own.within {w w' : World} {b l2 h2 : Nat} {v : Value} {xs : List Int} (h : Own w b v xs) (hw : Within l2 h2 w w') (hd : ∀ k, v.ownBlock = some k → ¬ (l2 ≤ k ∧ k < h2)) : Own w' b v xs :=
  h.same fun k hk => hw.block k (h.lt k hk).2 (hd k hk)

/-! What a call comes to. -/
/-- A vector in new memory. -/
def RetVec (w : World) (n : Nat) (R : Nat → Rc) (e : Ending) (w' : World) : Prop := ∃ v, e = .returned v ∧ Vec w' w.heap.size w'.heap.size v n R ∧ Below w.heap.size w w'
def RetVB (w : World) (n : Nat) (R : Nat → Rc) (b : Bool) (e : Ending) (w' : World) : Prop := ∃ v, e = .returned (.tuple #[v, .bool b]) ∧ Vec w' w.heap.size w'.heap.size v n R ∧ Below w.heap.size w w'
theorem retVec {w w' : World} {lo : Nat} {v : Value} {n m : Nat} {R R' : Nat → Rc} (h : Vec w' lo w'.heap.size v m R') (hl : w.heap.size ≤ lo) (hn : m = n) (e : ∀ i, i < n → R' i = R i) (hb : Below w.heap.size w w') : RetVec w n R (.returned v) w' := by
  subst hn
  exact ⟨v, rfl, (h.congr e).wider hl (Nat.le_refl _) (Nat.le_refl _), hb⟩
theorem retVB {w w' : World} {lo : Nat} {v : Value} {n m : Nat} {R R' : Nat → Rc} {b c : Bool} (h : Vec w' lo w'.heap.size v m R') (hl : w.heap.size ≤ lo) (hn : m = n) (e : ∀ i, i < n → R' i = R i) (hc : c = b) (hb : Below w.heap.size w w') : RetVB w n R b (.returned (.tuple #[v, .bool c])) w' := by
  subst hn; subst hc
  exact ⟨v, rfl, (h.congr e).wider hl (Nat.le_refl _) (Nat.le_refl _), hb⟩

/-- make([]impl.Rat, n). -/
theorem make_vec {w : World} {ops : Array Oper} {rest : List Oper} {o : Oper} {a : Act} {Q : Exit → Act → World → Prop} (hgd : o.guard = none) (l c : Operand) (hop : o.op = Op.makeSlice 38 l c)
    (kl kc : IntKind) (L C : Int) (n : Nat) (hl : a.eval l = .int kl L) (hc : a.eval c = .int kc C) (hL : L = (n : Int)) (hC : C = (n : Int)) (hn : n ≤ 1000000000000)
    (hK : ∀ w', VecF w' w.heap.size w'.heap.size (.slice (some ⟨w.heap.size, 0, none⟩) n n) n (fun _ => ⟨false, .slice none 0 0, .slice none 0 0⟩) (fun _ => ⟨false, [], []⟩) → Below w.heap.size w w' → wpList Tryz.prog ops Q rest (a.put o.dst (.slice (some ⟨w.heap.size, 0, none⟩) n n)) w') :
    wpList Tryz.prog ops Q (o :: rest) a w := by
  obtain ⟨i, hi, hz, hsz, hby⟩ := info_parts Tryz.infoRat
  refine wpList_make_full w hgd l c 38 hop w.heap.size 27 i (.agg #[.bool false, .slice none 0 0, .slice none 0 0]) 3 Tryz.underlying38 hi hz hsz kl kc L C n hl hc hL hC (by rw [hby]; omega) (by unfold maxLen; omega) (Nat.le_refl _) ?_
  intro w' hown hg
  have e : (madeCells (Value.agg #[.bool false, .slice none 0 0, .slice none 0 0]).cells (n * 3)).toList = cellsF n (fun _ => ⟨false, .slice none 0 0, .slice none 0 0⟩) := by
    apply List.ext_getElem?
    intro j
    have hl := cellsF_length n (fun _ => (⟨false, .slice none 0 0, .slice none 0 0⟩ : Ent))
    by_cases hj : j < n * 3
    · obtain ⟨c0, c1, c2⟩ := cellsF_at n (fun _ => (⟨false, .slice none 0 0, .slice none 0 0⟩ : Ent)) (i := j / 3) (by omega)
      have hm : j % 3 = 0 ∨ j % 3 = 1 ∨ j % 3 = 2 := by omega
      rcases hm with h | h | h
      · rw [show j / 3 * 3 = j by omega] at c0
        rw [c0]; simp [madeCells, hj, h, Value.cells]
      · rw [show j / 3 * 3 + 1 = j by omega] at c1
        rw [c1]; simp [madeCells, hj, h, Value.cells]
      · rw [show j / 3 * 3 + 2 = j by omega] at c2
        rw [c2]; simp [madeCells, hj, h, Value.cells]
    · rw [List.getElem?_eq_none (by rw [Array.length_toList, size_madeCells]; omega), List.getElem?_eq_none (by omega)]
  rw [e] at hown
  refine hK w' ⟨Nat.le_refl _, hown, fun k hk => (hown.lt k hk).2, fun j hj => ?_, fun j hj => ?_, fun j l hj hl hne => ?_⟩ ((Below.refl _ _).grown hg (Nat.le_refl _) (fun k hk => by cases hk))
  · exact ⟨rfl, Own.nil _ _, Own.nil _ _, fun k hk => (nomatch hk), fun k hk => (nomatch hk)⟩
  · exact ⟨fun k _ hk => (nomatch hk), fun k _ hk => (nomatch hk), fun k _ hk => (nomatch hk)⟩
  · exact ⟨fun k _ hk => (nomatch hk), fun k _ hk => (nomatch hk), fun k _ hk => (nomatch hk), fun k _ hk => (nomatch hk)⟩

end Go.Proofs.YtijeplcjbhkkoaaGreatDoor

/- The laws' own helpers on slices of fractions: markRatS, heldRatS. -/
namespace Go.Proofs.YtijeplcjbhkkoaaGreatDoor
open Go.RowKit Lm

/-- The count at element i. -/
def sumK (R : Nat → Rc) (k : Int) : Nat → Int
  | 0 => k
  | i + 1 => sumK R k i + 1 + (R i).xs.length + (R i).ys.length
theorem sumK_mono (R : Nat → Rc) (k : Int) {i j : Nat} (h : i ≤ j) : sumK R k i ≤ sumK R k j := by
  induction j with
  | zero => obtain rfl : i = 0 := by omega
            exact Int.le_refl _
  | succ j ih =>
    by_cases hj : i ≤ j
    · have := ih hj; simp only [sumK]; omega
    · obtain rfl : i = j + 1 := by omega
      exact Int.le_refl _
/-- Element j, marked. -/
def mkR (R : Nat → Rc) (k : Int) (j : Nat) : Rc := ⟨sumK R k j % 3 == 0, iota (sumK R k j + 1) (R j).xs.length, iota (sumK R k j + 1 + (R j).xs.length) (R j).ys.length⟩
def RetMV (w : World) (lo hi : Nat) (v : Value) (n : Nat) (R : Nat → Rc) (k : Int) (e : Ending) (w' : World) : Prop := ∃ m : Int, sumK R k n = m ∧ e = .returned (.int .i64 m) ∧ Vec w' lo hi v n (mkR R k) ∧ Within lo hi w w'

end Go.Proofs.YtijeplcjbhkkoaaGreatDoor

/- The laws' own helpers on slices of fractions: eqRatS, toRatS, szRatS. -/
namespace Go.Proofs.YtijeplcjbhkkoaaGreatDoor
open Go.RowKit Lm

theorem VecF.drew {w : World} {lo hi n : Nat} {v : Value} {E : Nat → Ent} {R : Nat → Rc} (h : VecF w lo hi v n E R) : VecF w.drew lo hi v n E R := h.same (Nat.le_refl _) fun _ _ _ => rfl

/-- A slice of the laws' fractions that came in: element i lies in cells E i and reads as R i. -/
structure RdV (w : World) (v : Value) (n : Nat) (E : Nat → Ent) (R : Nat → Rc) : Prop where
  len : n ≤ 9223372036854775807
  form : ∃ ao cap, v = .slice ao n cap
  cell : ∀ i, i < n → ∃ b off cap, v = .slice (some ⟨b, off, none⟩) n cap ∧ b < w.heap.size ∧ w.cell? ⟨b, off + i * 3, none⟩ = some (.bool (R i).s) ∧ w.cell? ⟨b, off + i * 3 + 1, none⟩ = some (E i).u ∧ w.cell? ⟨b, off + i * 3 + 2, none⟩ = some (E i).d
  ent : ∀ i, i < n → Rd2 w (E i).u (E i).d (R i).xs (R i).ys ∧ (R i).xs.length ≤ 9223372036854775807 ∧ (R i).ys.length ≤ 9223372036854775807
theorem RdV.below {w w' : World} {v : Value} {n : Nat} {E : Nat → Ent} {R : Nat → Rc} (h : RdV w v n E R) (hb : Below w.heap.size w w') : RdV w' v n E R := by
  refine ⟨h.len, h.form, fun i hi => ?_, fun i hi => ?_⟩
  · obtain ⟨b, off, cap, h1, h2, h3, h4, h5⟩ := h.cell i hi
    exact ⟨b, off, cap, h1, Nat.lt_of_lt_of_le h2 hb.size, keep_cell hb h3, keep_cell hb h4, keep_cell hb h5⟩
  · obtain ⟨h1, h2⟩ := h.ent i hi
    exact ⟨h1.below hb, h2⟩

def RetSz (w : World) (n : Nat) (R : Nat → Rc) (l : Int) (e : Ending) (w' : World) : Prop := ∃ m : Int, e = .returned (.int .i64 m) ∧ m ≤ l ∧ (0 ≤ m → m + sumK R 0 n = l) ∧ Below w.heap.size w w'
theorem sumK_ge (R : Nat → Rc) (n : Nat) : (n : Int) ≤ sumK R 0 n := by
  induction n with
  | zero => exact Int.le_refl _
  | succ n ih => simp only [sumK]; omega

end Go.Proofs.YtijeplcjbhkkoaaGreatDoor
