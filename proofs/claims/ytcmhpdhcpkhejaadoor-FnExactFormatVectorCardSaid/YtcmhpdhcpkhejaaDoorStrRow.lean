/- Slices of strings in rows of their own: what a slice value reads as, and how that is kept. -/
import Derived.Test.YtcmhpdhcpkhejaaDoorFrame
import Derived.Maps.AppendAt
namespace Go.Proofs.YtcmhpdhcpkhejaaDoor
open Go.RowKit

/-- The string at a place. -/
def sat (xs : List ByteArray) (i : Nat) : ByteArray := xs.getD i ByteArray.empty
theorem sat_of_lt {xs : List ByteArray} {i : Nat} (h : i < xs.length) : sat xs i = xs[i] := by unfold sat; simp [h]
theorem strs_oneCell (zs : List ByteArray) : ∀ u ∈ zs.map Value.string, u.oneCell' = true := by
  intro u hu
  obtain ⟨z, _, rfl⟩ := List.mem_map.1 hu
  rfl

/-- The slice value v owns a row of strings in a block from base on, and reads as xs. -/
def OwnS (w : World) (base : Nat) (v : Value) (xs : List ByteArray) : Prop := w.ownsRow base 9 1 v xs.length (xs.map (Value.string))

theorem OwnS.below {w w' : World} {B base : Nat} {v : Value} {xs : List ByteArray} (h : OwnS w base v xs) (hb : Below B w w') (hB : w.heap.size ≤ B) : OwnS w' base v xs := by
  refine ⟨h.1, ?_⟩
  rcases h.2 with hn | ⟨g, cap, cur, rfl, hg, hgg, rest⟩
  · exact .inl hn
  · refine .inr ⟨g, cap, cur, rfl, hg, ?_, rest⟩
    rw [hb.block g (Nat.lt_of_lt_of_le (Array.getElem?_eq_some_iff.1 hgg).1 hB)]
    exact hgg
theorem OwnS.mono {w : World} {base base' : Nat} {v : Value} {xs : List ByteArray} (h : OwnS w base v xs) (hb : base' ≤ base) : OwnS w base' v xs := by
  refine ⟨h.1, ?_⟩
  rcases h.2 with hn | ⟨g, cap, cur, rfl, hg, rest⟩
  · exact .inl hn
  · exact .inr ⟨g, cap, cur, rfl, Nat.le_trans hb hg, rest⟩
theorem OwnS.nil (w : World) (base : Nat) : OwnS w base (.slice none 0 0) [] := World.ownsRow_nil _ _ _ _
/-- The value written out. -/
theorem OwnS.form {w : World} {base : Nat} {v : Value} {xs : List ByteArray} (h : OwnS w base v xs) :
    ∃ ao cap, v = .slice ao xs.length cap ∧ xs.length ≤ maxLen ∧ xs.length ≤ cap ∧ cap ≤ maxLen ∧ (ao = none → xs = [] ∧ cap = 0) ∧ (∀ p, ao = some p → p.off = 0 ∧ p.spot = none ∧ base ≤ p.block ∧ p.block < w.heap.size) := by
  rcases h.2 with ⟨rfl, hn⟩ | ⟨g, cap, cur, rfl, hg, hgg, h1, h2, _⟩
  · exact ⟨none, 0, by rw [hn], by omega, by omega, by unfold maxLen; omega, (fun _ => ⟨List.length_eq_zero_iff.1 hn, rfl⟩), (fun p hp => by cases hp)⟩
  · exact ⟨some ⟨g, 0, none⟩, cap, rfl, by omega, h1, h2, (fun h => by cases h), (fun p hp => by
      cases hp
      exact ⟨rfl, rfl, hg, (Array.getElem?_eq_some_iff.1 hgg).1⟩)⟩
/-- Where there is an element the slice is not nil. -/
theorem OwnS.addr {w : World} {base n cap : Nat} {ao : Option Addr} {xs : List ByteArray} (h : OwnS w base (.slice ao n cap) xs) {i : Nat} (hi : i < xs.length) : ∃ g, ao = some ⟨g, 0, none⟩ ∧ base ≤ g ∧ g < w.heap.size := by
  rcases h.2 with ⟨h1, h2⟩ | ⟨g, cap, cur, h1, hg, hgg, _⟩
  · omega
  · cases h1; exact ⟨g, rfl, hg, (Array.getElem?_eq_some_iff.1 hgg).1⟩
/-- A string is there. -/
theorem OwnS.cell {w : World} {base g n cap : Nat} {xs : List ByteArray} (h : OwnS w base (.slice (some ⟨g, 0, none⟩) n cap) xs) (i : Nat) (hi : i < xs.length) : w.cell? ⟨g, i, none⟩ = some (.string (sat xs i)) := by
  have hn : n = xs.length := by
    rcases h.2 with ⟨h1, _⟩ | ⟨g', cap', cur, h1, _⟩
    · cases h1
    · cases h1; rfl
  subst hn
  rw [World.ownsRow.cellAt h i (by omega)]
  simp [sat_of_lt hi, hi]
theorem OwnS.frozen {w : World} {base g n cap : Nat} {xs : List ByteArray} (h : OwnS w base (.slice (some ⟨g, 0, none⟩) n cap) xs) (i : Nat) : w.frozen? ⟨g, i, none⟩ = false := by
  have hn : n = xs.length := by
    rcases h.2 with ⟨h1, _⟩ | ⟨g', cap', cur, h1, _⟩
    · cases h1
    · cases h1; rfl
  subst hn
  exact World.ownsRow.frozenAt h i
theorem OwnS.store {w : World} {base g n cap : Nat} {xs : List ByteArray} (h : OwnS w base (.slice (some ⟨g, 0, none⟩) n cap) xs) (i : Nat) (u : ByteArray) :
    OwnS (w.setCell ⟨g, i, none⟩ (.string u)) base (.slice (some ⟨g, 0, none⟩) n cap) (xs.set i u) ∧ w.grownBy (w.setCell ⟨g, i, none⟩ (.string u)) (some g) := by
  have hn : n = xs.length := by
    rcases h.2 with ⟨h1, _⟩ | ⟨g', cap', cur, h1, _⟩
    · cases h1
    · cases h1; rfl
  subst hn
  have := World.ownsRow.stored h i (.string u)
  refine ⟨?_, this.2⟩
  unfold OwnS
  rw [List.length_set, List.map_set]
  exact this.1

theorem OwnS.drawn {w : World} {base : Nat} {v : Value} {xs : List ByteArray} (h : OwnS w base v xs) (n : Nat) : OwnS (w.drewN n) base v xs := h
theorem OwnS.grown {w w' : World} {base : Nat} {v : Value} {xs : List ByteArray} {row : Option Nat} (h : OwnS w base v xs) (hg : w.grownBy w' row) (hne : v.ownBlock = none ∨ v.ownBlock ≠ row) : OwnS w' base v xs := World.ownsRow.kept h hg hne
theorem OwnS.alloc {w : World} {base : Nat} {v : Value} {xs : List ByteArray} (h : OwnS w base v xs) (o : Obj) : OwnS (w.alloc o) base v xs := World.ownsRow.alloc h o
/-- A store into another row. -/
theorem OwnS.other {w : World} {base n cap g : Nat} {xs : List ByteArray} (h : OwnS w base (.slice (some ⟨g, 0, none⟩) n cap) xs) {g' : Nat} (hg : g ≠ g') (i : Nat) (u : Value) : OwnS (w.setCell ⟨g', i, none⟩ u) base (.slice (some ⟨g, 0, none⟩) n cap) xs := by
  refine ⟨h.1, ?_⟩
  rcases h.2 with ⟨h1, _⟩ | ⟨g1, cap1, cur, h1, r1, r2, r3⟩
  · cases h1
  · cases h1
    exact .inr ⟨g, cap, cur, rfl, r1, by rw [heap_setCell_other _ _ _ _ (by simpa using hg)]; exact r2, r3⟩
theorem OwnS.cut {w : World} {base n cap : Nat} {ao : Option Addr} {xs : List ByteArray} (h : OwnS w base (.slice ao n cap) xs) {k : Nat} (hk : k ≤ xs.length) : OwnS w base (.slice ao k cap) (xs.take k) := by
  rcases h.2 with ⟨h1, h2⟩ | ⟨g, cap', cur, h1, hg, hgg, h3, h4, h5, h6⟩
  · cases h1
    obtain rfl : k = 0 := by omega
    exact OwnS.nil _ _
  · cases h1
    have hl : (xs.take k).length = k := by rw [List.length_take]; omega
    refine ⟨by simp, .inr ⟨g, cap, cur, by rw [hl], hg, hgg, by rw [hl]; omega, h4, h5, ?_⟩⟩
    rw [hl]
    have h7 := congrArg (List.take k) h6
    rw [List.take_take, List.map_take.symm] at h7
    simp only [Nat.mul_one] at h7 ⊢
    rwa [Nat.min_eq_left hk] at h7
theorem OwnS.lt {w : World} {base : Nat} {v : Value} {xs : List ByteArray} (h : OwnS w base v xs) : ∀ k, v.ownBlock = some k → base ≤ k ∧ k < w.heap.size := World.ownsRow.lt h
/-- A slice literal of one element. -/
theorem OwnS.lit1 (w : World) (y : ByteArray) : OwnS (w.alloc (.cells #[.string y] 9)) w.heap.size (.slice (some ⟨w.heap.size, 0, none⟩) 1 1) [y] :=
  World.ownsRow_lit w #[.string y] 1 (Nat.le_refl _) (by unfold maxLen; omega) rfl
/-- An empty slice literal. -/
theorem OwnS.lit0 (w : World) : OwnS (w.alloc (.cells #[] 9)) w.heap.size (.slice (some ⟨w.heap.size, 0, none⟩) 0 0) [] :=
  World.ownsRow_lit w #[] 0 (Nat.le_refl _) (by unfold maxLen; omega) rfl
theorem OwnS.grownBelow {w w' : World} {base : Nat} {v : Value} {xs : List ByteArray} {B : Nat} {w0 : World} (h : OwnS w base v xs) (hb : Below B w0 w) (hg : w.grownBy w' v.ownBlock) (hB : B ≤ base) (hs : B ≤ w.heap.size) : Below B w0 w' :=
  hb.grown hg hs (fun k hk => Nat.le_trans hB (h.lt k hk).1)

theorem Tryd.infoStr : (Tryd.prog.info? 9).map (fun i => (i.zero, i.size, i.bytes)) = some (some (.string ByteArray.empty), 1, 16) := by kernel_rfl

/-- append(v, u...) onto a slice of the call's own. -/
theorem app_ownS {w : World} {ops : Array Oper} {rest : List Oper} {o : Oper} {a : Act} {Q : Exit → Act → World → Prop} (hgd : o.guard = none) (s x : Operand)
    (ho : o.op = .call { callee := .builtin .append, args := #[s, x], argTypes := #[35, 35] })
    (v u : Value) (base bu : Nat) (xs ys : List ByteArray) (hs : a.eval s = v) (hx : a.eval x = u) (h1 : OwnS w base v xs) (h2 : OwnS w bu u ys) (hlen : xs.length + ys.length ≤ 8796093022207) (hbase : base ≤ w.heap.size)
    (h : ∀ v' w', OwnS w' base v' (xs ++ ys) → w.grownBy w' v.ownBlock → (v'.ownBlock = v.ownBlock ∨ v'.ownBlock = some w.heap.size) → wpList Tryd.prog ops Q rest (a.put o.dst v') w') : wpList Tryd.prog ops Q (o :: rest) a w := by
  obtain ⟨i, hi, hz, hsz, hby⟩ := info_parts Tryd.infoStr
  have hm : (xs ++ ys).map (Value.string) = xs.map (Value.string) ++ ys.map (Value.string) := List.map_append
  refine wpList_plain hgd fun K hK => ?_
  rcases h2.2 with ⟨rfl, hn⟩ | ⟨g, cap, cur, rfl, hg, hgg, hnc, hcm, hcs, htk⟩
  · have hy : ys = [] := List.length_eq_zero_iff.1 hn
    subst hy
    have hrun := run_append_owned_none (P := Tryd.prog) w base 35 o.type 9 i 1 Tryd.underlying35 hi _ _ _ h1
    unfold Oper.wp
    simp only [execOp, ho, resolve, invoke, builtin, Sem.run_bind, Sem.run_pure, Result.andThen_ok, List.map_toArray, List.map_cons, List.map_nil, hs, hx, hrun]
    exact hK _ _ (h v w (by simpa using h1) ⟨rfl, rfl, rfl, Nat.le_refl _, fun _ _ _ => rfl⟩ (Or.inl rfl))
  · obtain ⟨v', w', hr, r2, r3, _, r5⟩ := run_append_own_at (P := Tryd.prog) w base 35 o.type 9 i (.string ByteArray.empty) 1 16 Tryd.underlying35 hi hz hsz hby rfl (by decide) v xs.length (xs.map (Value.string)) h1
      ⟨g, 0, none⟩ ys.length cap (ys.map (Value.string)) (by simp) (World.ownsRow.cells h2 (g := g) rfl) (strs_oneCell _) (by unfold maxLen; omega) (by omega) hbase
    unfold Oper.wp
    simp only [execOp, ho, resolve, invoke, builtin, Sem.run_bind, Sem.run_pure, Result.andThen_ok, List.map_toArray, List.map_cons, List.map_nil, hs, hx, hr]
    exact hK _ _ (h v' w' (by unfold OwnS; rw [List.length_append, hm]; exact r2) r3 r5)

/-- make([]int, n). -/
theorem make_strs {w : World} {ops : Array Oper} {rest : List Oper} {o : Oper} {a : Act} {Q : Exit → Act → World → Prop} (hgd : o.guard = none) (l c : Operand) (hop : o.op = Op.makeSlice 35 l c)
    (kl kc : IntKind) (L C : Int) (n : Nat) (hl : a.eval l = .int kl L) (hc : a.eval c = .int kc C) (hL : L = (n : Int)) (hC : C = (n : Int)) (hn : n ≤ 8796093022207)
    (hK : ∀ w', OwnS w' w.heap.size (.slice (some ⟨w.heap.size, 0, none⟩) n n) (List.replicate n ByteArray.empty) → Below w.heap.size w w' → w.heap.size < w'.heap.size → wpList Tryd.prog ops Q rest (a.put o.dst (.slice (some ⟨w.heap.size, 0, none⟩) n n)) w') :
    wpList Tryd.prog ops Q (o :: rest) a w := by
  obtain ⟨i, hi, hz, hsz, hby⟩ := info_parts Tryd.infoStr
  refine wpList_make_full w hgd l c 35 hop w.heap.size 9 i (.string ByteArray.empty) 1 Tryd.underlying35 hi hz hsz kl kc L C n hl hc hL hC (by rw [hby]; omega) (by unfold maxLen; omega) (Nat.le_refl _) ?_
  intro w' hown hg
  have ho : OwnS w' w.heap.size (.slice (some ⟨w.heap.size, 0, none⟩) n n) (List.replicate n ByteArray.empty) := by
    unfold OwnS
    rw [List.length_replicate, List.map_replicate]
    have e : (madeCells (Value.string ByteArray.empty).cells (n * 1)).toList = List.replicate n (Value.string ByteArray.empty) := by
      rw [Nat.mul_one]; exact toList_madeCells_one _ _
    rw [e] at hown
    exact hown
  exact hK w' ho ((Below.refl _ _).grown hg (Nat.le_refl _) (fun k hk => by cases hk)) ((ho.lt _ rfl).2)

/-- make([]int, 0, n). -/
theorem make_capS {w : World} {ops : Array Oper} {rest : List Oper} {o : Oper} {a : Act} {Q : Exit → Act → World → Prop} (hgd : o.guard = none) (l c : Operand) (hop : o.op = Op.makeSlice 35 l c)
    (kl kc : IntKind) (C : Int) (n : Nat) (hl : a.eval l = .int kl 0) (hc : a.eval c = .int kc C) (hC : C = (n : Int)) (hn : n ≤ 8796093022207)
    (hK : ∀ w', OwnS w' w.heap.size (.slice (some ⟨w.heap.size, 0, none⟩) 0 n) [] → Below w.heap.size w w' → w.heap.size < w'.heap.size → wpList Tryd.prog ops Q rest (a.put o.dst (.slice (some ⟨w.heap.size, 0, none⟩) 0 n)) w') :
    wpList Tryd.prog ops Q (o :: rest) a w := by
  obtain ⟨i, hi, hz, hsz, hby⟩ := info_parts Tryd.infoStr
  refine wpList_make_own w hgd l c 35 hop w.heap.size 9 i (.string ByteArray.empty) 1 Tryd.underlying35 hi hz hsz kl kc C n hl hc hC (by rw [hby]; omega) (by unfold maxLen; omega) (Nat.le_refl _) ?_
  intro w' hown hg
  have ho : OwnS w' w.heap.size (.slice (some ⟨w.heap.size, 0, none⟩) 0 n) [] := hown
  exact hK w' ho ((Below.refl _ _).grown hg (Nat.le_refl _) (fun k hk => by cases hk)) ((ho.lt _ rfl).2)

/-! What a call comes to. -/
def RetT (w : World) (s : ByteArray) (e : Ending) (w' : World) : Prop := e = .returned (.string s) ∧ Below w.heap.size w w'
theorem retT {w w' : World} {s t : ByteArray} (h : t = s) (hb : Below w.heap.size w w') : RetT w s (.returned (.string t)) w' := ⟨by rw [h], hb⟩
/-- A new slice that reads as xs. -/
def RetLS (w : World) (xs : List ByteArray) (e : Ending) (w' : World) : Prop := ∃ v, e = .returned v ∧ OwnS w' w.heap.size v xs ∧ Below w.heap.size w w'
theorem retLS {w w' : World} {v : Value} {xs ys : List ByteArray} (h : OwnS w' w.heap.size v ys) (e : ys = xs) (hb : Below w.heap.size w w') : RetLS w xs (.returned v) w' := ⟨v, rfl, e ▸ h, hb⟩

end Go.Proofs.YtcmhpdhcpkhejaaDoor
