/- Merged texts. -/
import Derived.Test.YtijeplcjbhkkoaaGreatDoorFrame
import Derived.ChangeMaps5
import Derived.Maps.AppendAt
import Derived.Laws.IdiomStrings
import Derived.Test.YtijeplcjbhkkoaaGreatDoorShelf
import Derived.Test.YtijeplcjbhkkoaaGreatDoorMathG
import Derived.Lib.LaidTab
import Derived.Test.YtijeplcjbhkkoaaGreatDoorTie
import Derived.Test.YtijeplcjbhkkoaaGreatDoorCards
import Derived.LaidMore
import Derived.Lay
import Derived.SevenTiedAt
import Derived.Stop.Joined
import Derived.Stop.LaidErr
import Derived.LaidLaws
import Derived.Deep.RegionHeld3
import Derived.IntWalk

/- Arguments that came in, opened: a string, an int. -/
namespace Go.Proofs.YtijeplcjbhkkoaaGreatDoor
open Go.ChangeShapes Go.WideShapes Go.ChangeAt Go.ChangeMaps Go.RowKit

set_option maxRecDepth 100000 in
theorem str_of_trod {H : Type} {enc : TypeId × Value → H} {W : World} {v : Value} {d : DataW H} {ps : List MemPlace} {base : Nat} (hv : Value.okWide Tryz.prog W .any base 9 v)
    (h : DataW.Trod enc Tryz.prog W 0 (fun _ => true) true 9 v d ps) : ∃ s : ByteArray, v = .string s ∧ s.size ≤ 9223372036854775807 := by
  obtain ⟨s, rfl, _, _, hw⟩ := open_string Tryz.underlying9 hv h
  exact ⟨s, rfl, by unfold maxLen at hw; omega⟩
set_option maxRecDepth 100000 in
theorem intS_of_trod {H : Type} {enc : TypeId × Value → H} {W : World} {v : Value} {d : DataW H} {ps : List MemPlace} {base : Nat} (hv : Value.okWide Tryz.prog W .any base 3 v)
    (h : DataW.Trod enc Tryz.prog W 0 (fun _ => true) true 3 v d ps) : ∃ n : Int, v = .int .i64 n ∧ -9223372036854775808 ≤ n ∧ n ≤ 9223372036854775807 := by
  obtain ⟨n, rfl, _, _, hw⟩ := open_int Tryz.underlying3 hv h
  have hw2 : -9223372036854775808 ≤ n ∧ n ≤ 9223372036854775807 := by
    simpa [Lit.wf, IntKind.min, IntKind.max, IntKind.signed, IntKind.bits] using hw
  exact ⟨n, rfl, hw2.1, hw2.2⟩

end Go.Proofs.YtijeplcjbhkkoaaGreatDoor

/- Slices of strings in rows of their own: what a slice value reads as, and how that is kept. -/
namespace Go.Proofs.YtijeplcjbhkkoaaGreatDoor
open Go.RowKit

/-- The string at a place. -/
def sat (xs : List ByteArray) (i : Nat) : ByteArray := xs.getD i ByteArray.empty
theorem sat_of_lt {xs : List ByteArray} {i : Nat} (h : i < xs.length) : sat xs i = xs[i] := by unfold sat; simp [h]
theorem strs_oneCell (zs : List ByteArray) : ∀ u ∈ zs.map Value.string, u.oneCell' = true := by
  intro u hu
  obtain ⟨z, _, rfl⟩ := List.mem_map.1 hu
  rfl

/-- The slice value v owns a row of strings in a block from base on, and reads as xs. -/
def OwnS (w : World) (base : Nat) (v : Value) (xs : List ByteArray) : Prop := w.ownsRow base 9 1 v xs.length (xs.map (Value.string))

theorem OwnS.below {w w' : World} {B base : Nat} {v : Value} {xs : List ByteArray} (h : OwnS w base v xs) (hb : Below B w w') (hB : w.heap.size ≤ B) : OwnS w' base v xs := by
  refine ⟨h.1, ?_⟩
  rcases h.2 with hn | ⟨g, cap, cur, rfl, hg, hgg, rest⟩
  · exact .inl hn
  · refine .inr ⟨g, cap, cur, rfl, hg, ?_, rest⟩
    rw [hb.block g (Nat.lt_of_lt_of_le (Array.getElem?_eq_some_iff.1 hgg).1 hB)]
    exact hgg
theorem OwnS.mono {w : World} {base base' : Nat} {v : Value} {xs : List ByteArray} (h : OwnS w base v xs) (hb : base' ≤ base) : OwnS w base' v xs := by
  refine ⟨h.1, ?_⟩
  rcases h.2 with hn | ⟨g, cap, cur, rfl, hg, rest⟩
  · exact .inl hn
  · exact .inr ⟨g, cap, cur, rfl, Nat.le_trans hb hg, rest⟩
theorem OwnS.nil (w : World) (base : Nat) : OwnS w base (.slice none 0 0) [] := World.ownsRow_nil _ _ _ _
/-- The value written out. -/
theorem OwnS.form {w : World} {base : Nat} {v : Value} {xs : List ByteArray} (h : OwnS w base v xs) :
    ∃ ao cap, v = .slice ao xs.length cap ∧ xs.length ≤ maxLen ∧ xs.length ≤ cap ∧ cap ≤ maxLen ∧ (ao = none → xs = [] ∧ cap = 0) ∧ (∀ p, ao = some p → p.off = 0 ∧ p.spot = none ∧ base ≤ p.block ∧ p.block < w.heap.size) := by
  rcases h.2 with ⟨rfl, hn⟩ | ⟨g, cap, cur, rfl, hg, hgg, h1, h2, _⟩
  · exact ⟨none, 0, by rw [hn], by omega, by omega, by unfold maxLen; omega, (fun _ => ⟨List.length_eq_zero_iff.1 hn, rfl⟩), (fun p hp => by cases hp)⟩
  · exact ⟨some ⟨g, 0, none⟩, cap, rfl, by omega, h1, h2, (fun h => by cases h), (fun p hp => by
      cases hp
      exact ⟨rfl, rfl, hg, (Array.getElem?_eq_some_iff.1 hgg).1⟩)⟩
/-- Where there is an element the slice is not nil. -/
theorem OwnS.addr {w : World} {base n cap : Nat} {ao : Option Addr} {xs : List ByteArray} (h : OwnS w base (.slice ao n cap) xs) {i : Nat} (hi : i < xs.length) : ∃ g, ao = some ⟨g, 0, none⟩ ∧ base ≤ g ∧ g < w.heap.size := by
  rcases h.2 with ⟨h1, h2⟩ | ⟨g, cap, cur, h1, hg, hgg, _⟩
  · omega
  · cases h1; exact ⟨g, rfl, hg, (Array.getElem?_eq_some_iff.1 hgg).1⟩
/-- A string is there. -/
theorem OwnS.cell {w : World} {base g n cap : Nat} {xs : List ByteArray} (h : OwnS w base (.slice (some ⟨g, 0, none⟩) n cap) xs) (i : Nat) (hi : i < xs.length) : w.cell? ⟨g, i, none⟩ = some (.string (sat xs i)) := by
  have hn : n = xs.length := by
    rcases h.2 with ⟨h1, _⟩ | ⟨g', cap', cur, h1, _⟩
    · cases h1
    · cases h1; rfl
  subst hn
  rw [World.ownsRow.cellAt h i (by omega)]
  simp [sat_of_lt hi, hi]
theorem OwnS.frozen {w : World} {base g n cap : Nat} {xs : List ByteArray} (h : OwnS w base (.slice (some ⟨g, 0, none⟩) n cap) xs) (i : Nat) : w.frozen? ⟨g, i, none⟩ = false := by
  have hn : n = xs.length := by
    rcases h.2 with ⟨h1, _⟩ | ⟨g', cap', cur, h1, _⟩
    · cases h1
    · cases h1; rfl
  subst hn
  exact World.ownsRow.frozenAt h i
theorem OwnS.store {w : World} {base g n cap : Nat} {xs : List ByteArray} (h : OwnS w base (.slice (some ⟨g, 0, none⟩) n cap) xs) (i : Nat) (u : ByteArray) :
    OwnS (w.setCell ⟨g, i, none⟩ (.string u)) base (.slice (some ⟨g, 0, none⟩) n cap) (xs.set i u) ∧ w.grownBy (w.setCell ⟨g, i, none⟩ (.string u)) (some g) := by
  have hn : n = xs.length := by
    rcases h.2 with ⟨h1, _⟩ | ⟨g', cap', cur, h1, _⟩
    · cases h1
    · cases h1; rfl
  subst hn
  have := World.ownsRow.stored h i (.string u)
  refine ⟨?_, this.2⟩
  unfold OwnS
  rw [List.length_set, List.map_set]
  exact this.1

theorem OwnS.drawn {w : World} {base : Nat} {v : Value} {xs : List ByteArray} (h : OwnS w base v xs) (n : Nat) : OwnS (w.drewN n) base v xs := h
theorem OwnS.grown {w w' : World} {base : Nat} {v : Value} {xs : List ByteArray} {row : Option Nat} (h : OwnS w base v xs) (hg : w.grownBy w' row) (hne : v.ownBlock = none ∨ v.ownBlock ≠ row) : OwnS w' base v xs := World.ownsRow.kept h hg hne
theorem OwnS.alloc {w : World} {base : Nat} {v : Value} {xs : List ByteArray} (h : OwnS w base v xs) (o : Obj) : OwnS (w.alloc o) base v xs := World.ownsRow.alloc h o
/-- A store into another row. -/
theorem OwnS.other {w : World} {base n cap g : Nat} {xs : List ByteArray} (h : OwnS w base (.slice (some ⟨g, 0, none⟩) n cap) xs) {g' : Nat} (hg : g ≠ g') (i : Nat) (u : Value) : OwnS (w.setCell ⟨g', i, none⟩ u) base (.slice (some ⟨g, 0, none⟩) n cap) xs := by
  refine ⟨h.1, ?_⟩
  rcases h.2 with ⟨h1, _⟩ | ⟨g1, cap1, cur, h1, r1, r2, r3⟩
  · cases h1
  · cases h1
    exact .inr ⟨g, cap, cur, rfl, r1, by rw [heap_setCell_other _ _ _ _ (by simpa using hg)]; exact r2, r3⟩
theorem OwnS.cut {w : World} {base n cap : Nat} {ao : Option Addr} {xs : List ByteArray} (h : OwnS w base (.slice ao n cap) xs) {k : Nat} (hk : k ≤ xs.length) : OwnS w base (.slice ao k cap) (xs.take k) := by
  rcases h.2 with ⟨h1, h2⟩ | ⟨g, cap', cur, h1, hg, hgg, h3, h4, h5, h6⟩
  · cases h1
    obtain rfl : k = 0 := by omega
    exact OwnS.nil _ _
  · cases h1
    have hl : (xs.take k).length = k := by rw [List.length_take]; omega
    refine ⟨by simp, .inr ⟨g, cap, cur, by rw [hl], hg, hgg, by rw [hl]; omega, h4, h5, ?_⟩⟩
    rw [hl]
    have h7 := congrArg (List.take k) h6
    rw [List.take_take, List.map_take.symm] at h7
    simp only [Nat.mul_one] at h7 ⊢
    rwa [Nat.min_eq_left hk] at h7
theorem OwnS.lt {w : World} {base : Nat} {v : Value} {xs : List ByteArray} (h : OwnS w base v xs) : ∀ k, v.ownBlock = some k → base ≤ k ∧ k < w.heap.size := World.ownsRow.lt h
/-- A slice literal of one element. -/
theorem OwnS.lit1 (w : World) (y : ByteArray) : OwnS (w.alloc (.cells #[.string y] 9)) w.heap.size (.slice (some ⟨w.heap.size, 0, none⟩) 1 1) [y] :=
  World.ownsRow_lit w #[.string y] 1 (Nat.le_refl _) (by unfold maxLen; omega) rfl
/-- An empty slice literal. -/
theorem OwnS.lit0 (w : World) : OwnS (w.alloc (.cells #[] 9)) w.heap.size (.slice (some ⟨w.heap.size, 0, none⟩) 0 0) [] :=
  World.ownsRow_lit w #[] 0 (Nat.le_refl _) (by unfold maxLen; omega) rfl
theorem OwnS.grownBelow {w w' : World} {base : Nat} {v : Value} {xs : List ByteArray} {B : Nat} {w0 : World} (h : OwnS w base v xs) (hb : Below B w0 w) (hg : w.grownBy w' v.ownBlock) (hB : B ≤ base) (hs : B ≤ w.heap.size) : Below B w0 w' :=
  hb.grown hg hs (fun k hk => Nat.le_trans hB (h.lt k hk).1)

theorem Tryz.infoStr : (Tryz.prog.info? 9).map (fun i => (i.zero, i.size, i.bytes)) = some (some (.string ByteArray.empty), 1, 16) := by kernel_rfl

/-- append(v, u...) onto a slice of the call's own. -/
theorem app_ownS {w : World} {ops : Array Oper} {rest : List Oper} {o : Oper} {a : Act} {Q : Exit → Act → World → Prop} (hgd : o.guard = none) (s x : Operand)
    (ho : o.op = .call { callee := .builtin .append, args := #[s, x], argTypes := #[67, 67] })
    (v u : Value) (base bu : Nat) (xs ys : List ByteArray) (hs : a.eval s = v) (hx : a.eval x = u) (h1 : OwnS w base v xs) (h2 : OwnS w bu u ys) (hlen : xs.length + ys.length ≤ 8796093022207) (hbase : base ≤ w.heap.size)
    (h : ∀ v' w', OwnS w' base v' (xs ++ ys) → w.grownBy w' v.ownBlock → (v'.ownBlock = v.ownBlock ∨ v'.ownBlock = some w.heap.size) → wpList Tryz.prog ops Q rest (a.put o.dst v') w') : wpList Tryz.prog ops Q (o :: rest) a w := by
  obtain ⟨i, hi, hz, hsz, hby⟩ := info_parts Tryz.infoStr
  have hm : (xs ++ ys).map (Value.string) = xs.map (Value.string) ++ ys.map (Value.string) := List.map_append
  refine wpList_plain hgd fun K hK => ?_
  rcases h2.2 with ⟨rfl, hn⟩ | ⟨g, cap, cur, rfl, hg, hgg, hnc, hcm, hcs, htk⟩
  · have hy : ys = [] := List.length_eq_zero_iff.1 hn
    subst hy
    have hrun := run_append_owned_none (P := Tryz.prog) w base 67 o.type 9 i 1 Tryz.underlying67 hi _ _ _ h1
    unfold Oper.wp
    simp only [execOp, ho, resolve, invoke, builtin, Sem.run_bind, Sem.run_pure, Result.andThen_ok, List.map_toArray, List.map_cons, List.map_nil, hs, hx, hrun]
    exact hK _ _ (h v w (by simpa using h1) ⟨rfl, rfl, rfl, Nat.le_refl _, fun _ _ _ => rfl⟩ (Or.inl rfl))
  · obtain ⟨v', w', hr, r2, r3, _, r5⟩ := run_append_own_at (P := Tryz.prog) w base 67 o.type 9 i (.string ByteArray.empty) 1 16 Tryz.underlying67 hi hz hsz hby rfl (by decide) v xs.length (xs.map (Value.string)) h1
      ⟨g, 0, none⟩ ys.length cap (ys.map (Value.string)) (by simp) (World.ownsRow.cells h2 (g := g) rfl) (strs_oneCell _) (by unfold maxLen; omega) (by omega) hbase
    unfold Oper.wp
    simp only [execOp, ho, resolve, invoke, builtin, Sem.run_bind, Sem.run_pure, Result.andThen_ok, List.map_toArray, List.map_cons, List.map_nil, hs, hx, hr]
    exact hK _ _ (h v' w' (by unfold OwnS; rw [List.length_append, hm]; exact r2) r3 r5)

/-- make([]int, n). -/
theorem make_strs {w : World} {ops : Array Oper} {rest : List Oper} {o : Oper} {a : Act} {Q : Exit → Act → World → Prop} (hgd : o.guard = none) (l c : Operand) (hop : o.op = Op.makeSlice 67 l c)
    (kl kc : IntKind) (L C : Int) (n : Nat) (hl : a.eval l = .int kl L) (hc : a.eval c = .int kc C) (hL : L = (n : Int)) (hC : C = (n : Int)) (hn : n ≤ 8796093022207)
    (hK : ∀ w', OwnS w' w.heap.size (.slice (some ⟨w.heap.size, 0, none⟩) n n) (List.replicate n ByteArray.empty) → Below w.heap.size w w' → w.heap.size < w'.heap.size → wpList Tryz.prog ops Q rest (a.put o.dst (.slice (some ⟨w.heap.size, 0, none⟩) n n)) w') :
    wpList Tryz.prog ops Q (o :: rest) a w := by
  obtain ⟨i, hi, hz, hsz, hby⟩ := info_parts Tryz.infoStr
  refine wpList_make_full w hgd l c 67 hop w.heap.size 9 i (.string ByteArray.empty) 1 Tryz.underlying67 hi hz hsz kl kc L C n hl hc hL hC (by rw [hby]; omega) (by unfold maxLen; omega) (Nat.le_refl _) ?_
  intro w' hown hg
  have ho : OwnS w' w.heap.size (.slice (some ⟨w.heap.size, 0, none⟩) n n) (List.replicate n ByteArray.empty) := by
    unfold OwnS
    rw [List.length_replicate, List.map_replicate]
    have e : (madeCells (Value.string ByteArray.empty).cells (n * 1)).toList = List.replicate n (Value.string ByteArray.empty) := by
      rw [Nat.mul_one]; exact toList_madeCells_one _ _
    rw [e] at hown
    exact hown
  exact hK w' ho ((Below.refl _ _).grown hg (Nat.le_refl _) (fun k hk => by cases hk)) ((ho.lt _ rfl).2)

/-- make([]int, 0, n). -/
theorem make_capS {w : World} {ops : Array Oper} {rest : List Oper} {o : Oper} {a : Act} {Q : Exit → Act → World → Prop} (hgd : o.guard = none) (l c : Operand) (hop : o.op = Op.makeSlice 67 l c)
    (kl kc : IntKind) (C : Int) (n : Nat) (hl : a.eval l = .int kl 0) (hc : a.eval c = .int kc C) (hC : C = (n : Int)) (hn : n ≤ 8796093022207)
    (hK : ∀ w', OwnS w' w.heap.size (.slice (some ⟨w.heap.size, 0, none⟩) 0 n) [] → Below w.heap.size w w' → w.heap.size < w'.heap.size → wpList Tryz.prog ops Q rest (a.put o.dst (.slice (some ⟨w.heap.size, 0, none⟩) 0 n)) w') :
    wpList Tryz.prog ops Q (o :: rest) a w := by
  obtain ⟨i, hi, hz, hsz, hby⟩ := info_parts Tryz.infoStr
  refine wpList_make_own w hgd l c 67 hop w.heap.size 9 i (.string ByteArray.empty) 1 Tryz.underlying67 hi hz hsz kl kc C n hl hc hC (by rw [hby]; omega) (by unfold maxLen; omega) (Nat.le_refl _) ?_
  intro w' hown hg
  have ho : OwnS w' w.heap.size (.slice (some ⟨w.heap.size, 0, none⟩) 0 n) [] := hown
  exact hK w' ho ((Below.refl _ _).grown hg (Nat.le_refl _) (fun k hk => by cases hk)) ((ho.lt _ rfl).2)

/-! What a call comes to. -/
def RetT (w : World) (s : ByteArray) (e : Ending) (w' : World) : Prop := e = .returned (.string s) ∧ Below w.heap.size w w'
theorem retT {w w' : World} {s t : ByteArray} (h : t = s) (hb : Below w.heap.size w w') : RetT w s (.returned (.string t)) w' := ⟨by rw [h], hb⟩
/-- A new slice that reads as xs. -/
def RetLS (w : World) (xs : List ByteArray) (e : Ending) (w' : World) : Prop := ∃ v, e = .returned v ∧ OwnS w' w.heap.size v xs ∧ Below w.heap.size w w'
theorem retLS {w w' : World} {v : Value} {xs ys : List ByteArray} (h : OwnS w' w.heap.size v ys) (e : ys = xs) (hb : Below w.heap.size w w') : RetLS w xs (.returned v) w' := ⟨v, rfl, e ▸ h, hb⟩

end Go.Proofs.YtijeplcjbhkkoaaGreatDoor

/- One byte, made a string. -/
namespace Go.Proofs.YtijeplcjbhkkoaaGreatDoor
open Go.RowKit

/-- A text of these bytes. -/
def bs (l : List UInt8) : ByteArray := ⟨l.toArray⟩
theorem bs_list (s : ByteArray) : bs s.data.toList = s := by cases s; simp [bs]
theorem bs_data (l : List UInt8) : (bs l).data.toList = l := by simp [bs]
theorem bs_size (l : List UInt8) : (bs l).size = l.length := by unfold bs ByteArray.size; exact List.size_toArray
theorem bs_append (a b : List UInt8) : bs a ++ bs b = bs (a ++ b) := by
  apply ByteArray.ext
  rw [ByteArray.data_append]
  apply Array.toList_inj.1
  rw [Array.toList_append, bs_data, bs_data, bs_data]
theorem size_list (s : ByteArray) : s.size = s.data.toList.length := by unfold ByteArray.size; exact Array.length_toList.symm

/-- One byte, made a string. -/
theorem conv_byte (w : World) (z : Int) (d : Nat) (hz : z = (d : Int)) (hd : d < 256) :
    (convert 22 9 (.slice (some ⟨w.heap.size, 0, none⟩) 1 1)).run Tryz.prog (w.alloc (.cells #[.int .u8 z] 5)) = .ok (.string (bs [UInt8.ofNat d])) (w.alloc (.cells #[.int .u8 z] 5)) := by
  refine run_convert_bytes_back (w.alloc (.cells #[.int .u8 z] 5)) 22 9 5 ⟨w.heap.size, 0, none⟩ 1 [UInt8.ofNat d] Tryz.underlying22 Tryz.underlying5 Tryz.underlying9 ?_
  intro j hj
  obtain rfl : j = 0 := by simpa using hj
  subst hz
  simp [Addr.add, Nat.mod_eq_of_lt hd]

end Go.Proofs.YtijeplcjbhkkoaaGreatDoor

/- What the library's tables hold, and how that is kept; strconv.Itoa. -/
namespace Go.Proofs.YtijeplcjbhkkoaaGreatDoor
open Go.RowKit Tx

theorem var_below {w w' : World} {name : String} {cs : Array Value} (h : w.var? Tryz.prog name = some cs) {B : Nat} (hb : Below B w w') (hB : w.heap.size ≤ B) : w'.var? Tryz.prog name = some cs := by
  unfold World.var? at *
  cases hg : Tryz.prog.globalNamed name with
  | none => simp [hg] at h
  | some g =>
    simp only [hg, Option.bind_some] at h ⊢
    have hlt : g < w.heap.size := by
      rcases Nat.lt_or_ge g w.heap.size with h' | h'
      · exact h'
      · rw [Array.getElem?_eq_none h'] at h; simp at h
    rw [hb.block g (Nat.lt_of_lt_of_le hlt hB)]
    exact h
/-- The name of the table of powers of ten. -/
def powName : String := (Rows.fnRatsRow.laid.map (·.1)).getD 2 ""
/-- The table of powers of ten is as the library lays it. -/
def Tabs (w : World) : Prop := Lib.TabIs Tryz.prog w powName .u64 Lib.pow10Tab
theorem Tabs.below {w w' : World} (h : Tabs w) {B : Nat} (hb : Below B w w') (hB : w.heap.size ≤ B) : Tabs w' := var_below h hb hB
/-- The errors of strconv hold something. -/
def Errs (w : World) : Prop := (∃ tp p, w.var? Tryz.prog "strconv.ErrSyntax" = some #[.iface tp p]) ∧ ∃ tp p, w.var? Tryz.prog "strconv.ErrRange" = some #[.iface tp p]
theorem Errs.below {w w' : World} (h : Errs w) {B : Nat} (hb : Below B w w') (hB : w.heap.size ≤ B) : Errs w' := by
  obtain ⟨⟨t1, p1, h1⟩, t2, p2, h2⟩ := h
  exact ⟨⟨t1, p1, var_below h1 hb hB⟩, t2, p2, var_below h2 hb hB⟩

theorem below_grow (w : World) (k : Nat) (os : Array Obj) : Below w.heap.size w (Sort.grow (w.drewN k) os) := by
  refine ⟨rfl, rfl, rfl, ?_, fun i hi => ?_⟩
  · show w.heap.size ≤ (w.heap ++ os).size
    rw [Array.size_append]; omega
  · show (w.heap ++ os)[i]? = w.heap[i]?
    rw [Array.getElem?_append_left hi]
theorem itoa_c (w : World) (n : Int) (h0 : -9223372036854775808 ≤ n) (h1 : n ≤ 9223372036854775807) (ht : Tabs w) (t : ByteArray) (hT : Hid (t = bs (Lib.itoa n))) : Calls Tryz.prog 90 #[.int .i64 n] w (RetT w t) := by
  refine (Tryz.strconv_Itoa n h0 h1 w ht).mono ?_
  rintro e w' ⟨rfl, k, os, rfl⟩
  exact ⟨by rw [hT.out]; rfl, below_grow w k os⟩
end Go.Proofs.YtijeplcjbhkkoaaGreatDoor

/- From the rows' condition on the listed variables to what the walks ask. -/
namespace Go.Proofs.YtijeplcjbhkkoaaGreatDoor
open Go.ChangeShapes Go.WideShapes Go.ChangeAt Go.RowKit

abbrev laid3 : List (String × DataW Unit) := [((Rows.fnRatsRow.laid.map (·.1)).getD 0 "", Rows.laid_math_bits_deBruijn32tab), ((Rows.fnRatsRow.laid.map (·.1)).getD 1 "", Rows.laid_math_bits_deBruijn64tab), (powName, Rows.laid_internal_strconv_uint64pow10)]
set_option maxRecDepth 100000 in
theorem tabs_of_laid {l r : List (String × DataW Unit)} {W : World} (h : laidMetH Tryz.prog l W) (hp : (l.all fun x => x.2.handleName?.isNone) = true) (hl : l = laid3 ++ r) : Tabs W := by
  rw [MakeChecks.laidMetH_plain _ _ _ hp, hl] at h
  have h2 := h.tail.tail
  have h3 : laidMet Tryz.prog ((powName, Lib.tabData .u64 Lib.pow10Tab) :: r) W := h2
  exact Lib.tabIs_of_head (g := 3) (t := 158) (e := 125) (n := 20) (by kernel_rfl) (by kernel_rfl) Tryz.underlying158 Tryz.underlying125 (by kernel_rfl) (by kernel_rfl) h3
set_option maxRecDepth 100000 in
theorem iface_var {n nm : String} {d : DataW Unit} {r : List (String × DataW Unit)} {W : World} {g ti : Nat} {ms : Array (String × TypeId)} (h : laidMet Tryz.prog ((n, .iface nm d) :: r) W)
    (hg : Tryz.prog.globalNamed n = some g) (ht : (Tryz.prog.globals[g]?).map (·.type) = some ti) (hi : Tryz.prog.underlying ti = some (.interface ms)) : ∃ tp p, W.var? Tryz.prog n = some #[.iface tp p] := by
  obtain ⟨ps, ⟨g0, t0, cs0, f0, p0, q0, hg0, ht0, hv0, hd0, _, e0⟩, _, hrows⟩ := h
  obtain rfl := Option.some.inj (hg.symm.trans hg0)
  obtain rfl := Option.some.inj (ht.symm.trans ht0)
  obtain ⟨_, u, v, hcs, _, _⟩ := iface_of_trod hi hd0
  refine ⟨u, v, ?_⟩
  rw [hv0]
  congr 1
  apply Array.toList_inj.1
  exact hcs
set_option maxRecDepth 100000 in
theorem errs_of_laid {l : List (String × DataW Unit)} {W : World} (h : laidMetH Tryz.prog l W) (hp : (l.all fun x => x.2.handleName?.isNone) = true) (hl : l = laid3 ++ [("strconv.ErrRange", Rows.laid_strconv_ErrRange), ("strconv.ErrSyntax", Rows.laid_strconv_ErrSyntax)]) : Errs W := by
  rw [MakeChecks.laidMetH_plain _ _ _ hp, hl] at h
  have h2 : laidMet Tryz.prog [("strconv.ErrRange", Rows.laid_strconv_ErrRange), ("strconv.ErrSyntax", Rows.laid_strconv_ErrSyntax)] W := h.tail.tail.tail
  have h3 : laidMet Tryz.prog [("strconv.ErrSyntax", Rows.laid_strconv_ErrSyntax)] W := h2.tail
  unfold Rows.laid_strconv_ErrRange at h2
  unfold Rows.laid_strconv_ErrSyntax at h3
  exact ⟨iface_var h3 (g := 1) (by kernel_rfl) (by kernel_rfl) Tryz.underlying84, iface_var h2 (g := 2) (by kernel_rfl) (by kernel_rfl) Tryz.underlying84⟩

end Go.Proofs.YtijeplcjbhkkoaaGreatDoor

/- FormatInt of the reference. -/
namespace Go.Proofs.YtijeplcjbhkkoaaGreatDoor
open Go.RowKit Tx Go.Lib

theorem str_snoc (l : List UInt8) (d : Nat) : bs l ++ bs [UInt8.ofNat d] = bs (l ++ [UInt8.ofNat d]) := bs_append _ _
theorem itoa_nonnegT (n : Nat) : itoa (n : Int) = decDigits n := by unfold itoa; rw [if_neg (by omega)]; rfl
theorem itoa_negT (n : Nat) (h : 0 < n) : itoa (-(n : Int)) = 45 :: decDigits n := by unfold itoa; rw [if_pos (by omega), Int.natAbs_neg]; rfl
theorem itoa_size (n : Int) (h0 : -9223372036854775808 ≤ n) (h1 : n ≤ 9223372036854775807) : (itoa n).length ≤ 21 := itoa_length_le n h0 h1

theorem conv_at (w : World) (g : Nat) (z : Int) (d : Nat) (hz : z = (d : Int)) (hd : d < 256) (hc : w.cell? ⟨g, 0, none⟩ = some (.int .u8 z)) :
    (convert 22 9 (.slice (some ⟨g, 0, none⟩) 1 1)).run Tryz.prog w = .ok (.string (bs [UInt8.ofNat d])) w := by
  refine run_convert_bytes_back w 22 9 5 ⟨g, 0, none⟩ 1 [UInt8.ofNat d] Tryz.underlying22 Tryz.underlying5 Tryz.underlying9 ?_
  intro j hj
  obtain rfl : j = 0 := by simpa using hj
  subst hz
  rw [show (⟨g, 0, none⟩ : Addr).add 0 = ⟨g, 0, none⟩ from rfl, hc]
  simp [Nat.mod_eq_of_lt hd]
theorem lit_cell {w w' : World} {z : Value} {T : TypeId} (hb : Below (w.alloc (.cells #[z] T)).heap.size (w.alloc (.cells #[z] T)) w') : w'.cell? ⟨w.heap.size, 0, none⟩ = some z :=
  (hb.cell (p := ⟨w.heap.size, 0, none⟩) (by simp)).trans (by simp [go_sem])
theorem lit_celld {w w' : World} {z : Value} {T : TypeId} (hb : Below (w.alloc (.cells #[z] T)).drew.heap.size (w.alloc (.cells #[z] T)).drew w') : w'.cell? ⟨w.heap.size, 0, none⟩ = some z :=
  lit_cell (show Below (w.alloc (.cells #[z] T)).heap.size (w.alloc (.cells #[z] T)) w' from ⟨hb.os, hb.tape, hb.output, hb.size, hb.block⟩)
theorem unalloc_below {w w' : World} {o : Obj} (h : Below (w.alloc o).heap.size (w.alloc o) w') : Below w.heap.size w w' := ((Below.refl w.heap.size w).alloc (Nat.le_refl _) o).trans (h.mono (by simp))
theorem unalloc_belowd {w w' : World} {o : Obj} (h : Below (w.alloc o).drew.heap.size (w.alloc o).drew w') : Below w.drew.heap.size w.drew w' :=
  have h2 : Below w.heap.size w w' := unalloc_below (show Below (w.alloc o).heap.size (w.alloc o) w' from ⟨h.os, h.tape, h.output, h.size, h.block⟩)
  ⟨h2.os, h2.tape, h2.output, h2.size, h2.block⟩
theorem drew_bel {B : Nat} {a w : World} (h : Below B a w) : Below B a w.drew := ⟨h.os, h.tape, h.output, h.size, h.block⟩
theorem undrew_bel {B : Nat} {a w : World} (h : Below B a w.drew) : Below B a w := ⟨h.os, h.tape, h.output, h.size, h.block⟩

end Go.Proofs.YtijeplcjbhkkoaaGreatDoor

/- IsDigits: the program's and the reference's. -/
namespace Go.Proofs.YtijeplcjbhkkoaaGreatDoor
open Go.RowKit

/-- A digit. -/
def Dig (c : UInt8) : Prop := 48 ≤ (c.toNat : Int) ∧ (c.toNat : Int) ≤ 57
/-- Digits alone, and not none. -/
def Digs (s : ByteArray) : Prop := 0 < s.size ∧ ∀ (i : Nat) (h : i < s.size), Dig s[i]
open Classical in
noncomputable def digsB (s : ByteArray) : Bool := decide (Digs s)
open Classical in
theorem digsB_t {s : ByteArray} (h : Digs s) : digsB s = true := decide_eq_true h
open Classical in
theorem digsB_f {s : ByteArray} (h : ¬ Digs s) : digsB s = false := decide_eq_false h
theorem isEmpty_size (s : ByteArray) : s.toList.isEmpty = decide (s.size = 0) := by
  rw [ByteArray.toList_eq]
  cases s with
  | mk d => cases d with
    | mk l => cases l <;> simp [ByteArray.size]

set_option maxHeartbeats 1000000 in
theorem isDigits_c (w : World) (s : ByteArray) (c : Bool) (hc : Hid (c = digsB s)) (hl : s.size ≤ 17592186044415) : Calls Tryz.prog 68 #[.string s] w (RetB w c) := by
  go_enter Tryz.func68, Tryz.ntmps68
  go_wp2_with fail
  go_loopw [3] (fun k wr => ∃ (i : Nat), i ≤ s.size ∧ k = .int .i64 i ∧ Hid (∀ (j : Nat) (h : j < s.size), j < i → Dig s[j]) ∧ Below w.heap.size w wr) (fun k _ => s.size - (intOf k).toNat)
  case atStart => exact ⟨0, by omega, rfl, (fun _ _ h => by omega), Below.refl _ _⟩
  case round =>
    obtain ⟨i, hi, rfl, HD, hb⟩ := hrel
    by_cases hlt : i < s.size
    · by_cases hd : Dig s[i]
      · have HDD := Lib.hid hd
        have d1 : decide ((s[i].toNat : Int) < 48) = false := decide_eq_false (by have := hd.1; omega)
        have d2 : decide (57 < (s[i].toNat : Int)) = false := decide_eq_false (by have := hd.2; omega)
        clear hd
        go_wp2
        go_roundw
        case rel => exact ⟨i + 1, by omega, by go_num, (fun j h hj => by
          rcases Nat.lt_or_ge j i with h2 | h2
          · exact HD.out j h h2
          · obtain rfl : j = i := by omega
            exact HDD.out), hb⟩
        case measure => (simp [intOf]) <;> omega
      · have HC : Hid (c = false) := by unfold Hid; rw [hc.out]; exact digsB_f (fun h => hd (h.2 i hlt))
        by_cases h1 : (s[i].toNat : Int) < 48
        · have d1 : decide ((s[i].toNat : Int) < 48) = true := decide_eq_true h1
          clear hd h1
          go_wp2
          go_ret
          exact retB HC.out.symm hb
        · have d1 : decide ((s[i].toNat : Int) < 48) = false := decide_eq_false h1
          have d2 : decide (57 < (s[i].toNat : Int)) = true := decide_eq_true (by unfold Dig at hd; omega)
          clear hd h1
          go_wp2
          go_ret
          exact retB HC.out.symm hb
    · obtain rfl : i = s.size := by omega
      by_cases h0 : 0 < s.size
      · have HC : Hid (c = true) := by unfold Hid; rw [hc.out]; exact digsB_t ⟨h0, fun j h => HD.out j h h⟩
        have d1 : decide ((0 : Int) < s.size) = true := decide_eq_true (by omega)
        have l1 : s.toList.isEmpty = false := by rw [isEmpty_size]; exact decide_eq_false (by omega)
        go_wp2
        go_ret
        exact retB HC.out.symm hb
      · have HC : Hid (c = false) := by unfold Hid; rw [hc.out]; exact digsB_f (fun h => h0 h.1)
        have d1 : decide ((0 : Int) < s.size) = false := decide_eq_false (by omega)
        have l1 : s.toList.isEmpty = true := by rw [isEmpty_size]; exact decide_eq_true (by omega)
        go_wp2
        go_ret
        exact retB HC.out.symm hb

end Go.Proofs.YtijeplcjbhkkoaaGreatDoor
