/- Slices of ints in rows of their own: what a slice value reads as, and how that is kept. -/
import Derived.Test.YtijeplcjbhkkoaaGreatDoorRows
import Derived.WalkKit
import Derived.WalkSpells
import Derived.WalkLawsBesides
import Derived.Deep.QuietTactic
import Derived.BigQuiet
import Derived.Lib.Hide
import Derived.Maps.AppendAt
import Derived.Test.YtijeplcjbhkkoaaGreatDoorMathG
namespace Go.Proofs.YtijeplcjbhkkoaaGreatDoor
open Go.RowKit Lm

/-- The slice value v owns a row of ints in a block from base on, and reads as xs. -/
def Own (w : World) (base : Nat) (v : Value) (xs : List Int) : Prop := w.ownsRow base 3 1 v xs.length (xs.map (Value.int .i64))

theorem Own.below {w w' : World} {B base : Nat} {v : Value} {xs : List Int} (h : Own w base v xs) (hb : Below B w w') (hB : w.heap.size ≤ B) : Own w' base v xs := by
  refine ⟨h.1, ?_⟩
  rcases h.2 with hn | ⟨g, cap, cur, rfl, hg, hgg, rest⟩
  · exact .inl hn
  · refine .inr ⟨g, cap, cur, rfl, hg, ?_, rest⟩
    rw [hb.block g (Nat.lt_of_lt_of_le (Array.getElem?_eq_some_iff.1 hgg).1 hB)]
    exact hgg
theorem Own.mono {w : World} {base base' : Nat} {v : Value} {xs : List Int} (h : Own w base v xs) (hb : base' ≤ base) : Own w base' v xs := by
  refine ⟨h.1, ?_⟩
  rcases h.2 with hn | ⟨g, cap, cur, rfl, hg, rest⟩
  · exact .inl hn
  · exact .inr ⟨g, cap, cur, rfl, Nat.le_trans hb hg, rest⟩
theorem Own.nil (w : World) (base : Nat) : Own w base (.slice none 0 0) [] := World.ownsRow_nil _ _ _ _
/-- The value written out. -/
theorem Own.form {w : World} {base : Nat} {v : Value} {xs : List Int} (h : Own w base v xs) :
    ∃ ao cap, v = .slice ao xs.length cap ∧ xs.length ≤ maxLen ∧ xs.length ≤ cap ∧ cap ≤ maxLen ∧ (ao = none → xs = [] ∧ cap = 0) ∧ (∀ p, ao = some p → p.off = 0 ∧ p.spot = none ∧ base ≤ p.block ∧ p.block < w.heap.size) := by
  rcases h.2 with ⟨rfl, hn⟩ | ⟨g, cap, cur, rfl, hg, hgg, h1, h2, _⟩
  · exact ⟨none, 0, by rw [hn], by omega, by omega, by unfold maxLen; omega, (fun _ => ⟨List.length_eq_zero_iff.1 hn, rfl⟩), (fun p hp => by cases hp)⟩
  · exact ⟨some ⟨g, 0, none⟩, cap, rfl, by omega, h1, h2, (fun h => by cases h), (fun p hp => by
      cases hp
      exact ⟨rfl, rfl, hg, (Array.getElem?_eq_some_iff.1 hgg).1⟩)⟩
/-- Where there is an element the slice is not nil. -/
theorem Own.addr {w : World} {base n cap : Nat} {ao : Option Addr} {xs : List Int} (h : Own w base (.slice ao n cap) xs) {i : Nat} (hi : i < xs.length) : ∃ g, ao = some ⟨g, 0, none⟩ ∧ base ≤ g ∧ g < w.heap.size := by
  rcases h.2 with ⟨h1, h2⟩ | ⟨g, cap, cur, h1, hg, hgg, _⟩
  · omega
  · cases h1; exact ⟨g, rfl, hg, (Array.getElem?_eq_some_iff.1 hgg).1⟩
/-- A limb is there. -/
theorem Own.cell {w : World} {base g n cap : Nat} {xs : List Int} (h : Own w base (.slice (some ⟨g, 0, none⟩) n cap) xs) (i : Nat) (hi : i < xs.length) : w.cell? ⟨g, i, none⟩ = some (.int .i64 (lat xs i)) := by
  have hn : n = xs.length := by
    rcases h.2 with ⟨h1, _⟩ | ⟨g', cap', cur, h1, _⟩
    · cases h1
    · cases h1; rfl
  subst hn
  rw [World.ownsRow.cellAt h i (by omega)]
  simp [lat_of_lt hi, hi]
theorem Own.frozen {w : World} {base g n cap : Nat} {xs : List Int} (h : Own w base (.slice (some ⟨g, 0, none⟩) n cap) xs) (i : Nat) : w.frozen? ⟨g, i, none⟩ = false := by
  have hn : n = xs.length := by
    rcases h.2 with ⟨h1, _⟩ | ⟨g', cap', cur, h1, _⟩
    · cases h1
    · cases h1; rfl
  subst hn
  exact World.ownsRow.frozenAt h i
theorem Own.store {w : World} {base g n cap : Nat} {xs : List Int} (h : Own w base (.slice (some ⟨g, 0, none⟩) n cap) xs) (i : Nat) (u : Int) :
    Own (w.setCell ⟨g, i, none⟩ (.int .i64 u)) base (.slice (some ⟨g, 0, none⟩) n cap) (xs.set i u) ∧ w.grownBy (w.setCell ⟨g, i, none⟩ (.int .i64 u)) (some g) := by
  have hn : n = xs.length := by
    rcases h.2 with ⟨h1, _⟩ | ⟨g', cap', cur, h1, _⟩
    · cases h1
    · cases h1; rfl
  subst hn
  have := World.ownsRow.stored h i (.int .i64 u)
  refine ⟨?_, this.2⟩
  unfold Own
  rw [List.length_set, List.map_set]
  exact this.1

theorem below_drawn (w : World) (n : Nat) : Below w.heap.size w (w.drewN n) := ⟨rfl, rfl, rfl, Nat.le_refl _, fun _ _ => rfl⟩
theorem below_dr {B : Nat} {w0 w : World} (h : Below B w0 w) (n : Nat) : Below B w0 (w.drewN n) := ⟨h.os, h.tape, h.output, h.size, h.block⟩
theorem Own.drawn {w : World} {base : Nat} {v : Value} {xs : List Int} (h : Own w base v xs) (n : Nat) : Own (w.drewN n) base v xs := h
theorem Own.grown {w w' : World} {base : Nat} {v : Value} {xs : List Int} {row : Option Nat} (h : Own w base v xs) (hg : w.grownBy w' row) (hne : v.ownBlock = none ∨ v.ownBlock ≠ row) : Own w' base v xs := World.ownsRow.kept h hg hne
theorem Own.alloc {w : World} {base : Nat} {v : Value} {xs : List Int} (h : Own w base v xs) (o : Obj) : Own (w.alloc o) base v xs := World.ownsRow.alloc h o
/-- A store into another row. -/
theorem Own.other {w : World} {base n cap g : Nat} {xs : List Int} (h : Own w base (.slice (some ⟨g, 0, none⟩) n cap) xs) {g' : Nat} (hg : g ≠ g') (i : Nat) (u : Value) : Own (w.setCell ⟨g', i, none⟩ u) base (.slice (some ⟨g, 0, none⟩) n cap) xs := by
  refine ⟨h.1, ?_⟩
  rcases h.2 with ⟨h1, _⟩ | ⟨g1, cap1, cur, h1, r1, r2, r3⟩
  · cases h1
  · cases h1
    exact .inr ⟨g, cap, cur, rfl, r1, by rw [heap_setCell_other _ _ _ _ (by simpa using hg)]; exact r2, r3⟩
theorem Own.cut {w : World} {base n cap : Nat} {ao : Option Addr} {xs : List Int} (h : Own w base (.slice ao n cap) xs) {k : Nat} (hk : k ≤ xs.length) : Own w base (.slice ao k cap) (xs.take k) := by
  rcases h.2 with ⟨h1, h2⟩ | ⟨g, cap', cur, h1, hg, hgg, h3, h4, h5, h6⟩
  · cases h1
    obtain rfl : k = 0 := by omega
    exact Own.nil _ _
  · cases h1
    have hl : (xs.take k).length = k := by rw [List.length_take]; omega
    refine ⟨by simp, .inr ⟨g, cap, cur, by rw [hl], hg, hgg, by rw [hl]; omega, h4, h5, ?_⟩⟩
    rw [hl]
    have h7 := congrArg (List.take k) h6
    rw [List.take_take, List.map_take.symm] at h7
    simp only [Nat.mul_one] at h7 ⊢
    rwa [Nat.min_eq_left hk] at h7
theorem Own.lt {w : World} {base : Nat} {v : Value} {xs : List Int} (h : Own w base v xs) : ∀ k, v.ownBlock = some k → base ≤ k ∧ k < w.heap.size := World.ownsRow.lt h
/-- A slice literal of one element. -/
theorem Own.lit1 (w : World) (y : Int) : Own (w.alloc (.cells #[.int .i64 y] 3)) w.heap.size (.slice (some ⟨w.heap.size, 0, none⟩) 1 1) [y] :=
  World.ownsRow_lit w #[.int .i64 y] 1 (Nat.le_refl _) (by unfold maxLen; omega) rfl
/-- An empty slice literal. -/
theorem Own.lit0 (w : World) : Own (w.alloc (.cells #[] 3)) w.heap.size (.slice (some ⟨w.heap.size, 0, none⟩) 0 0) [] :=
  World.ownsRow_lit w #[] 0 (Nat.le_refl _) (by unfold maxLen; omega) rfl
theorem Own.grownBelow {w w' : World} {base : Nat} {v : Value} {xs : List Int} {B : Nat} {w0 : World} (h : Own w base v xs) (hb : Below B w0 w) (hg : w.grownBy w' v.ownBlock) (hB : B ≤ base) (hs : B ≤ w.heap.size) : Below B w0 w' :=
  hb.grown hg hs (fun k hk => Nat.le_trans hB (h.lt k hk).1)

theorem Tryz.infoInt : (Tryz.prog.info? 3).map (fun i => (i.zero, i.size, i.bytes)) = some (some (.int .i64 0), 1, 8) := by kernel_rfl

/-- append(v, u...) onto a slice of the call's own. -/
theorem app_own {w : World} {ops : Array Oper} {rest : List Oper} {o : Oper} {a : Act} {Q : Exit → Act → World → Prop} (hgd : o.guard = none) (s x : Operand)
    (ho : o.op = .call { callee := .builtin .append, args := #[s, x], argTypes := #[23, 23] })
    (v u : Value) (base bu : Nat) (xs ys : List Int) (hs : a.eval s = v) (hx : a.eval x = u) (h1 : Own w base v xs) (h2 : Own w bu u ys) (hlen : xs.length + ys.length ≤ 17592186044415) (hbase : base ≤ w.heap.size)
    (h : ∀ v' w', Own w' base v' (xs ++ ys) → w.grownBy w' v.ownBlock → (v'.ownBlock = v.ownBlock ∨ v'.ownBlock = some w.heap.size) → wpList Tryz.prog ops Q rest (a.put o.dst v') w') : wpList Tryz.prog ops Q (o :: rest) a w := by
  obtain ⟨i, hi, hz, hsz, hby⟩ := info_parts Tryz.infoInt
  have hm : (xs ++ ys).map (Value.int .i64) = xs.map (Value.int .i64) ++ ys.map (Value.int .i64) := List.map_append
  refine wpList_plain hgd fun K hK => ?_
  rcases h2.2 with ⟨rfl, hn⟩ | ⟨g, cap, cur, rfl, hg, hgg, hnc, hcm, hcs, htk⟩
  · have hy : ys = [] := List.length_eq_zero_iff.1 hn
    subst hy
    have hrun := run_append_owned_none (P := Tryz.prog) w base 23 o.type 3 i 1 Tryz.underlying23 hi _ _ _ h1
    unfold Oper.wp
    simp only [execOp, ho, resolve, invoke, builtin, Sem.run_bind, Sem.run_pure, Result.andThen_ok, List.map_toArray, List.map_cons, List.map_nil, hs, hx, hrun]
    exact hK _ _ (h v w (by simpa using h1) ⟨rfl, rfl, rfl, Nat.le_refl _, fun _ _ _ => rfl⟩ (Or.inl rfl))
  · obtain ⟨v', w', hr, r2, r3, _, r5⟩ := run_append_own_at (P := Tryz.prog) w base 23 o.type 3 i (.int .i64 0) 1 8 Tryz.underlying23 hi hz hsz hby rfl (by decide) v xs.length (xs.map (Value.int .i64)) h1
      ⟨g, 0, none⟩ ys.length cap (ys.map (Value.int .i64)) (by simp) (World.ownsRow.cells h2 (g := g) rfl) (ints_oneCell _ _) (by unfold maxLen; omega) (by omega) hbase
    unfold Oper.wp
    simp only [execOp, ho, resolve, invoke, builtin, Sem.run_bind, Sem.run_pure, Result.andThen_ok, List.map_toArray, List.map_cons, List.map_nil, hs, hx, hr]
    exact hK _ _ (h v' w' (by unfold Own; rw [List.length_append, hm]; exact r2) r3 r5)

/-- make([]int, n). -/
theorem make_ints {w : World} {ops : Array Oper} {rest : List Oper} {o : Oper} {a : Act} {Q : Exit → Act → World → Prop} (hgd : o.guard = none) (l c : Operand) (hop : o.op = Op.makeSlice 23 l c)
    (kl kc : IntKind) (L C : Int) (n : Nat) (hl : a.eval l = .int kl L) (hc : a.eval c = .int kc C) (hL : L = (n : Int)) (hC : C = (n : Int)) (hn : n ≤ 17592186044415)
    (hK : ∀ w', Own w' w.heap.size (.slice (some ⟨w.heap.size, 0, none⟩) n n) (List.replicate n 0) → Below w.heap.size w w' → w.heap.size < w'.heap.size → wpList Tryz.prog ops Q rest (a.put o.dst (.slice (some ⟨w.heap.size, 0, none⟩) n n)) w') :
    wpList Tryz.prog ops Q (o :: rest) a w := by
  obtain ⟨i, hi, hz, hsz, hby⟩ := info_parts Tryz.infoInt
  refine wpList_make_full w hgd l c 23 hop w.heap.size 3 i (.int .i64 0) 1 Tryz.underlying23 hi hz hsz kl kc L C n hl hc hL hC (by rw [hby]; omega) (by unfold maxLen; omega) (Nat.le_refl _) ?_
  intro w' hown hg
  have ho : Own w' w.heap.size (.slice (some ⟨w.heap.size, 0, none⟩) n n) (List.replicate n 0) := by
    unfold Own
    rw [List.length_replicate, List.map_replicate]
    have e : (madeCells (Value.int .i64 0).cells (n * 1)).toList = List.replicate n (Value.int .i64 0) := by
      rw [Nat.mul_one]; exact toList_madeCells_one _ _
    rw [e] at hown
    exact hown
  exact hK w' ho ((Below.refl _ _).grown hg (Nat.le_refl _) (fun k hk => by cases hk)) ((ho.lt _ rfl).2)

/-- make([]int, 0, n). -/
theorem make_cap {w : World} {ops : Array Oper} {rest : List Oper} {o : Oper} {a : Act} {Q : Exit → Act → World → Prop} (hgd : o.guard = none) (l c : Operand) (hop : o.op = Op.makeSlice 23 l c)
    (kl kc : IntKind) (C : Int) (n : Nat) (hl : a.eval l = .int kl 0) (hc : a.eval c = .int kc C) (hC : C = (n : Int)) (hn : n ≤ 17592186044415)
    (hK : ∀ w', Own w' w.heap.size (.slice (some ⟨w.heap.size, 0, none⟩) 0 n) [] → Below w.heap.size w w' → w.heap.size < w'.heap.size → wpList Tryz.prog ops Q rest (a.put o.dst (.slice (some ⟨w.heap.size, 0, none⟩) 0 n)) w') :
    wpList Tryz.prog ops Q (o :: rest) a w := by
  obtain ⟨i, hi, hz, hsz, hby⟩ := info_parts Tryz.infoInt
  refine wpList_make_own w hgd l c 23 hop w.heap.size 3 i (.int .i64 0) 1 Tryz.underlying23 hi hz hsz kl kc C n hl hc hC (by rw [hby]; omega) (by unfold maxLen; omega) (Nat.le_refl _) ?_
  intro w' hown hg
  have ho : Own w' w.heap.size (.slice (some ⟨w.heap.size, 0, none⟩) 0 n) [] := hown
  exact hK w' ho ((Below.refl _ _).grown hg (Nat.le_refl _) (fun k hk => by cases hk)) ((ho.lt _ rfl).2)

/-- The length of a slice value: for measures. -/
def lenOf : Value → Nat | .slice _ n _ => n | _ => 0

/-! What a call comes to. -/
def RetI (w : World) (n : Int) (e : Ending) (w' : World) : Prop := e = .returned (.int .i64 n) ∧ Below w.heap.size w w'
def RetB (w : World) (b : Bool) (e : Ending) (w' : World) : Prop := e = .returned (.bool b) ∧ Below w.heap.size w w'
/-- A new slice that reads as xs. -/
def RetS (w : World) (xs : List Int) (e : Ending) (w' : World) : Prop := ∃ v, e = .returned v ∧ Own w' w.heap.size v xs ∧ Below w.heap.size w w'
/-- A slice that lies in the row of v0, or nil, and reads as xs. -/
def RetV (w : World) (base : Nat) (v0 : Value) (xs : List Int) (e : Ending) (w' : World) : Prop := ∃ v, e = .returned v ∧ Own w' base v xs ∧ (v.ownBlock = none ∨ v.ownBlock = v0.ownBlock) ∧ Below w.heap.size w w'
/-- Two new slices in blocks of their own. -/
def Apart (v u : Value) : Prop := ∀ k, v.ownBlock = some k → u.ownBlock ≠ some k
def RetSS (w : World) (xs ys : List Int) (e : Ending) (w' : World) : Prop := ∃ v u, e = .returned (.tuple #[v, u]) ∧ Own w' w.heap.size v xs ∧ Own w' w.heap.size u ys ∧ Apart v u ∧ Below w.heap.size w w'
theorem retSS {w w' : World} {v u : Value} {xs ys xs' ys' : List Int} (h : Own w' w.heap.size v xs') (k : Own w' w.heap.size u ys') (e1 : xs' = xs) (e2 : ys' = ys) (ha : Apart v u) (hb : Below w.heap.size w w') : RetSS w xs ys (.returned (.tuple #[v, u])) w' := ⟨v, u, rfl, e1 ▸ h, e2 ▸ k, ha, hb⟩
/-- A slice that was there when another one was made lies apart from it. -/
theorem apart_new {w w' : World} {b : Nat} {v u v0 : Value} {xs ys : List Int} (h : Own w b v0 xs) (hv : v.ownBlock = none ∨ v.ownBlock = v0.ownBlock) (k : Own w' w.heap.size u ys) : Apart v u := by
  intro j hj hu
  rcases hv with hv | hv
  · rw [hv] at hj; cases hj
  · rw [hv] at hj
    have h1 := (h.lt j hj).2
    have h2 := (k.lt j hu).1
    omega
theorem Apart.symm {v u : Value} (h : Apart v u) : Apart u v := fun k hk hv => h k hv hk
theorem retI {w w' : World} {n m : Int} (h : m = n) (hb : Below w.heap.size w w') : RetI w n (.returned (.int .i64 m)) w' := ⟨by rw [h], hb⟩
theorem retB {w w' : World} {n m : Bool} (h : m = n) (hb : Below w.heap.size w w') : RetB w n (.returned (.bool m)) w' := ⟨by rw [h], hb⟩
theorem retS {w w' : World} {v : Value} {xs ys : List Int} (h : Own w' w.heap.size v ys) (e : ys = xs) (hb : Below w.heap.size w w') : RetS w xs (.returned v) w' := ⟨v, rfl, e ▸ h, hb⟩
theorem retV {w w' : World} {base : Nat} {v v0 : Value} {xs ys : List Int} (h : Own w' base v ys) (e : ys = xs) (ho : v.ownBlock = none ∨ v.ownBlock = v0.ownBlock) (hb : Below w.heap.size w w') : RetV w base v0 xs (.returned v) w' := ⟨v, rfl, e ▸ h, ho, hb⟩

end Go.Proofs.YtijeplcjbhkkoaaGreatDoor
