/- The reference's source of drawn arguments: l01Byte, l01Below. What is drawn is only bounded. -/
import Derived.Test.YtijeplcjbhkkoaaGreatDoorLawI
import Derived.Test.YtijeplcjbhkkoaaGreatDoorBigG
import Derived.Laws.Bits128
namespace Go.Proofs.YtijeplcjbhkkoaaGreatDoor
open Go.RowKit Lm

theorem and255 (n : Int) : bits .and .i64 n 255 = n % 256 := by
  have h : (BitVec.ofInt 64 255).toNat = 2 ^ 8 - 1 := by decide
  have key : (BitVec.ofInt 64 n &&& BitVec.ofInt 64 255).toNat = (n % ((2 ^ 64 : Nat) : Int)).toNat % 2 ^ 8 := by
    rw [BitVec.toNat_and, BitVec.toNat_ofInt, h, Nat.and_two_pow_sub_one_eq_mod]
  show IntKind.i64.wrap ((BitVec.ofInt 64 n &&& BitVec.ofInt 64 255).toNat : Nat) = n % 256
  rw [key, IntKind.wrap_i64]
  omega
/-- A slice of bytes that reads as this list; its block lies below B. -/
def RdY (w : World) (B : Nat) (v : Value) (x : List UInt8) : Prop :=
  ∃ ao cap, v = .slice ao x.length cap ∧ x.length ≤ 1048576 ∧ ∀ i, (h : i < x.length) → ∃ b off, ao = some ⟨b, off, none⟩ ∧ b < B ∧ b < w.heap.size ∧ w.cell? ⟨b, off + i, none⟩ = some (.int .u8 (x[i].toNat : Int))
/-- A cursor at the block g, over bytes that lie below it. -/
def Cur (w : World) (g : Nat) : Prop :=
  ∃ (v : Value) (x : List UInt8) (i h : Int), RdY w g v x ∧ 0 ≤ i ∧ i ≤ x.length ∧ w.cell? ⟨g, 0, none⟩ = some v ∧ w.cell? ⟨g, 1, none⟩ = some (.int .i64 i) ∧ w.cell? ⟨g, 2, none⟩ = some (.int .i64 h)
    ∧ w.frozen? ⟨g, 1, none⟩ = false ∧ w.frozen? ⟨g, 2, none⟩ = false
/-- An int within bounds; only the cursor's block is changed. -/
def RetX (w : World) (g : Nat) (lo hi : Int) (e : Ending) (w' : World) : Prop := ∃ x : Int, e = .returned (.int .i64 x) ∧ lo ≤ x ∧ x ≤ hi ∧ Cur w' g ∧ w.grownBy w' (some g)

theorem grown_set (w : World) (g i : Nat) (v : Value) : w.grownBy (w.setCell ⟨g, i, none⟩ v) (some g) :=
  ⟨rfl, rfl, rfl, (Below.setCell (Below.refl g w) (Nat.le_refl _) v).size, fun k _ hk => Below.heap_setCell _ _ _ k (fun e => hk (by rw [e]))⟩
theorem set_off {w : World} {g i j : Nat} {u v : Value} (h : w.cell? ⟨g, i, none⟩ = some u) (hne : j ≠ i) : (w.setCell ⟨g, j, none⟩ v).cell? ⟨g, i, none⟩ = some u :=
  (World.cell?_setCell_other w ⟨g, j, none⟩ ⟨g, i, none⟩ v (fun e => hne (by injection e))).trans h
theorem set_blk {w : World} {g b i j : Nat} {u v : Value} (h : w.cell? ⟨b, i, none⟩ = some u) (hne : b < g) : (w.setCell ⟨g, j, none⟩ v).cell? ⟨b, i, none⟩ = some u :=
  (World.cell?_setCell_other w ⟨g, j, none⟩ ⟨b, i, none⟩ v (fun e => by injection e; omega)).trans h
theorem RdY.set {w : World} {g j : Nat} {v u : Value} {x : List UInt8} (h : RdY w g v x) : RdY (w.setCell ⟨g, j, none⟩ u) g v x := by
  obtain ⟨ao, cap, rfl, hx, hr⟩ := h
  refine ⟨ao, cap, rfl, hx, fun i hi => ?_⟩
  obtain ⟨b, off, h1, h2, h3, h4⟩ := hr i hi
  exact ⟨b, off, h1, h2, Nat.lt_of_lt_of_le h3 (grown_set w g j u).size, set_blk h4 h2⟩
theorem RdY.drawn {w : World} {g : Nat} {v : Value} {x : List UInt8} (h : RdY w g v x) (n : Nat) : RdY (w.drewN n) g v x := h
theorem Cur.drawn {w : World} {g : Nat} (h : Cur w g) (n : Nat) : Cur (w.drewN n) g := h

set_option maxHeartbeats 1000000 in
theorem l01Byte_c (w : World) (g : Nat) (hc : Cur w g) : Calls Tryz.prog 58 #[.pointer (some ⟨g, 0, none⟩)] w (RetX w g 0 255) := by
  obtain ⟨v, x, i, h, hr, h0, h1, k0, k1, k2, q1, q2⟩ := hc
  have HR := Lib.hid hr
  obtain ⟨ao, cap, rfl, hx, hr⟩ := hr
  obtain ⟨i, rfl⟩ := Int.eq_ofNat_of_zero_le h0
  by_cases hlt : i < x.length
  · obtain ⟨b, off, rfl, hb, hbw, kb⟩ := hr i hlt
    have t1 : (i : Int) < x.length := by omega
    have d1 : decide ((i : Int) < x.length) = true := decide_eq_true t1
    have e1 : IntKind.i64.wrap ((i : Int) + 1) = (i : Int) + 1 := IntWalk.i64_in _ (by omega)
    clear hr
    go_enter Tryz.func58, Tryz.ntmps58
    go_wp2_with fail
    generalize wrap64 (wrap64 (h * 6364136223846793005) + 1442695040888963407) = h2 at *
    have G1 := Lib.hid (grown_set w g 2 (.int .i64 h2))
    have HR1 := Lib.hid (HR.out.set (j := 2) (u := .int .i64 h2))
    replace k0 := set_off (j := 2) (v := .int .i64 h2) k0 (by omega)
    replace k1 := set_off (j := 2) (v := .int .i64 h2) k1 (by omega)
    replace k2 := World.cell?_setCell_same w ⟨g, 2, none⟩ (.int .i64 h2) k2
    replace kb := set_blk (g := g) (j := 2) (v := .int .i64 h2) kb hb
    replace q1 : (w.setCell ⟨g, 2, none⟩ (.int .i64 h2)).frozen? ⟨g, 1, none⟩ = false := by rw [World.frozen?_setCell]; exact q1
    replace q2 : (w.setCell ⟨g, 2, none⟩ (.int .i64 h2)).frozen? ⟨g, 2, none⟩ = false := by rw [World.frozen?_setCell]; exact q2
    generalize w.setCell ⟨g, 2, none⟩ (.int .i64 h2) = w1 at *
    clear HR
    go_quiet (fail)
    go_wp2_with fail
    go_quiet (fail)
    go_wp2_with fail
    go_quiet (fail)
    go_wp2_with fail
    go_ret
    refine ⟨_, rfl, by rw [and255]; omega, by rw [and255]; omega, ?_, ?_⟩
    · exact ⟨_, x, (i : Int) + 1, h2, HR1.out.set (j := 1), by omega, by omega, set_off (i := 0) (j := 1) k0 (by omega), World.cell?_setCell_same _ ⟨g, 1, none⟩ _ k1, set_off (i := 2) (j := 1) k2 (by omega), by rw [World.frozen?_setCell]; exact q1, by rw [World.frozen?_setCell]; exact q2⟩
    · exact grownBy_trans G1.out (grownBy_trans (b := w1.drewN _) ⟨rfl, rfl, rfl, Nat.le_refl _, fun _ _ _ => rfl⟩ (grown_set _ g 1 _))
  · have t1 : (x.length : Int) ≤ i := by omega
    have d1 : decide ((i : Int) < x.length) = false := decide_eq_false (by omega)
    clear hr
    go_enter Tryz.func58, Tryz.ntmps58
    go_wp2_with fail
    generalize wrap64 (wrap64 (h * 6364136223846793005) + 1442695040888963407) = h2 at *
    have G1 := Lib.hid (grown_set w g 2 (.int .i64 h2))
    have HR1 := Lib.hid (HR.out.set (j := 2) (u := .int .i64 h2))
    replace k0 := set_off (j := 2) (v := .int .i64 h2) k0 (by omega)
    replace k1 := set_off (j := 2) (v := .int .i64 h2) k1 (by omega)
    replace k2 := World.cell?_setCell_same w ⟨g, 2, none⟩ (.int .i64 h2) k2
    replace q1 : (w.setCell ⟨g, 2, none⟩ (.int .i64 h2)).frozen? ⟨g, 1, none⟩ = false := by rw [World.frozen?_setCell]; exact q1
    replace q2 : (w.setCell ⟨g, 2, none⟩ (.int .i64 h2)).frozen? ⟨g, 2, none⟩ = false := by rw [World.frozen?_setCell]; exact q2
    generalize w.setCell ⟨g, 2, none⟩ (.int .i64 h2) = w1 at *
    clear HR
    go_quiet (fail)
    go_wp2_with fail
    go_quiet (fail)
    go_wp2_with fail
    go_ret
    refine ⟨_, rfl, by rw [and255]; omega, by rw [and255]; omega, ?_, grownBy_trans G1.out ⟨rfl, rfl, rfl, Nat.le_refl _, fun _ _ _ => rfl⟩⟩
    exact ⟨_, x, i, h2, HR1.out, by omega, by omega, k0, k1, k2, q1, q2⟩

theorem RetX.weak {w : World} {g : Nat} {a b c d : Int} {e : Ending} {w' : World} (h : RetX w g a b e w') (h1 : c ≤ a) (h2 : b ≤ d) : RetX w g c d e w' := by
  obtain ⟨x, rfl, l, u, hc, hg⟩ := h
  exact ⟨x, rfl, by omega, by omega, hc, hg⟩
set_option maxHeartbeats 1000000 in
theorem l01Below_small (w : World) (g : Nat) (n : Int) (hc : Cur w g) (h0 : 0 < n) (h1 : n ≤ 256) : Calls Tryz.prog 55 #[.pointer (some ⟨g, 0, none⟩), .int .i64 n] w (RetX w g 0 (n - 1)) := by
  have HC := Lib.hid hc
  have d1 : decide (n ≤ 0) = false := decide_eq_false (by omega)
  have d2 : decide (n ≤ 256) = true := decide_eq_true h1
  clear hc
  go_enter Tryz.func55, Tryz.ntmps55
  go_wp2_with fail
  refine (l01Byte_c _ g HC.out).mono ?_
  rintro e w1 ⟨x, rfl, x0, x1, hc1, hg1⟩
  have HC1 := Lib.hid hc1
  have HG1 := Lib.hid hg1
  clear hc1 hg1
  go_wp2
  go_ret
  exact ⟨_, rfl, Int.emod_nonneg _ (by omega), by have := Int.emod_lt_of_pos x h0; omega, HC1.out, HG1.out⟩
set_option maxHeartbeats 1000000 in
theorem l01Below_big (w : World) (g : Nat) (n : Int) (hc : Cur w g) (h1 : 256 < n) (h2 : n ≤ 4294967296) : Calls Tryz.prog 55 #[.pointer (some ⟨g, 0, none⟩), .int .i64 n] w (RetX w g 0 (n - 1)) := by
  have HC := Lib.hid hc
  have d1 : decide (n ≤ 0) = false := decide_eq_false (by omega)
  have d2 : decide (n ≤ 256) = false := decide_eq_false (by omega)
  have d3 : (n == 0) = false := beq_eq_false_iff_ne.2 (by omega)
  have d4 : n ≠ 0 := by omega
  clear hc
  go_enter Tryz.func55, Tryz.ntmps55
  go_wp2_with fail
  refine (l01Byte_c _ g HC.out).mono ?_
  rintro e w1 ⟨x, rfl, x0, x1, hc1, hg1⟩
  have HC1 := Lib.hid hc1
  have HG1 := Lib.hid hg1
  clear hc1 hg1 HC
  go_wp2_with fail
  refine (l01Byte_c _ g HC1.out).mono ?_
  rintro e w2 ⟨y, rfl, y0, y1, hc2, hg2⟩
  have HC2 := Lib.hid hc2
  have HG2 := Lib.hid (grownBy_trans HG1.out hg2)
  clear hc2 hg2 HC1 HG1
  go_wp2_with fail
  refine (l01Byte_c _ g HC2.out).mono ?_
  rintro e w3 ⟨z, rfl, z0, z1, hc3, hg3⟩
  have HC3 := Lib.hid hc3
  have HG3 := Lib.hid (grownBy_trans HG2.out hg3)
  clear hc3 hg3 HC2 HG2
  go_wp2_with fail
  refine (l01Byte_c _ g HC3.out).mono ?_
  rintro e w4 ⟨u, rfl, u0, u1, hc4, hg4⟩
  have HC4 := Lib.hid hc4
  have HG4 := Lib.hid (grownBy_trans HG3.out hg4)
  clear hc4 hg4 HC3 HG3
  go_wp2
  go_ret
  exact ⟨_, rfl, Int.emod_nonneg _ (by omega), by have := Int.emod_lt_of_pos (x * 16777216 + y * 65536 + z * 256 + u) (show 0 < n by omega); omega, HC4.out, HG4.out⟩
theorem l01Below_c (w : World) (g : Nat) (n : Int) (hc : Cur w g) (h1 : 0 < n) (h2 : n ≤ 4294967296) : Calls Tryz.prog 55 #[.pointer (some ⟨g, 0, none⟩), .int .i64 n] w (RetX w g 0 (n - 1)) := by
  by_cases h : n ≤ 256
  · exact l01Below_small w g n hc h1 h
  · exact l01Below_big w g n hc (by omega) h2

/-- A new cursor. -/
def RetC (w : World) (e : Ending) (w' : World) : Prop := ∃ g, e = .returned (.pointer (some ⟨g, 0, none⟩)) ∧ w.heap.size ≤ g ∧ g < w'.heap.size ∧ Cur w' g ∧ Below w.heap.size w w'
theorem cur_new {w : World} {v : Value} {x : List UInt8} {h : Int} {t : TypeId} (hr : RdY w w.heap.size v x) : Cur (w.alloc (.cells #[v, .int .i64 0, .int .i64 h] t)) w.heap.size := by
  refine ⟨v, x, 0, h, ?_, by omega, by omega, by simp [go_sem], by simp [go_sem], by simp [go_sem], by simp [go_sem], by simp [go_sem]⟩
  obtain ⟨ao, cap, rfl, hx, hr⟩ := hr
  refine ⟨ao, cap, rfl, hx, fun i hi => ?_⟩
  obtain ⟨b, off, h1, h2, h3, h4⟩ := hr i hi
  exact ⟨b, off, h1, h2, Nat.lt_of_lt_of_le h3 (heap_le_alloc _ _), keep_cell (alloc_bel _ _) h4⟩
set_option maxHeartbeats 1000000 in
set_option maxRecDepth 100000 in
theorem l01New_c (w : World) (v : Value) (x : List UInt8) (hr : RdY w w.heap.size v x) : Calls Tryz.prog 57 #[v] w (RetC w) := by
  have HR := Lib.hid hr
  obtain ⟨ao, cap, rfl, hx, hr⟩ := hr
  have HI := Lib.hid hr
  clear hr
  go_enter Tryz.func57, Tryz.ntmps57
  go_wp2_with fail
  go_loopw [3, 4] (fun hv iv wr => ∃ (i : Nat) (h : Int), i ≤ x.length ∧ iv = .int .i64 i ∧ hv = .int .i64 h ∧ ∃ n, wr = w.drewN n) (fun _ i _ => x.length - (RowKit.intOf i).toNat)
  case atStart => exact ⟨0, _, by omega, rfl, rfl, 0, rfl⟩
  case round =>
    obtain ⟨i, h, hi, rfl, rfl, n, rfl⟩ := hrel
    by_cases hgo : i < x.length ∧ i < 4000
    · obtain ⟨hlt, h4⟩ := hgo
      obtain ⟨b, off, rfl, hb, hbw, kb⟩ := HI.out i hlt
      have t1 : (i : Int) < x.length := by omega
      have t4 : (i : Int) < 4000 := by omega
      have e1 : IntKind.i64.wrap ((i : Int) + 1) = (i : Int) + 1 := IntWalk.i64_in _ (by omega)
      have kb2 : (w.drewN n).cell? ⟨b, off + i, none⟩ = some (.int .u8 (x[i].toNat : Int)) := kb
      go_wp2
      go_roundw
      case rel => exact ⟨i + 1, _, by omega, by go_num, rfl, n, (by first | rfl | trivial)⟩
      case measure => (simp [RowKit.intOf]) <;> omega
    · have dd : (decide (i < x.length) = false) ∨ (decide (i < x.length) = true ∧ decide ((i : Int) < 4000) = false) := by
        by_cases hlt : i < x.length
        · exact .inr ⟨decide_eq_true hlt, decide_eq_false (by omega)⟩
        · exact .inl (decide_eq_false hlt)
      have HW : Hid (RdY (w.drewN n) w.heap.size (.slice ao x.length cap) x) := HR.out
      clear hgo
      rcases dd with d1 | ⟨d1, d2⟩
      · go_wp2
        go_ret
        exact ⟨w.heap.size, rfl, Nat.le_refl _, by simp, cur_new HW.out, (below_dr (Below.refl _ _) n).alloc (Nat.le_refl _) _⟩
      · go_wp2
        go_ret
        exact ⟨w.heap.size, rfl, Nat.le_refl _, by simp, cur_new HW.out, (below_dr (Below.refl _ _) n).alloc (Nat.le_refl _) _⟩

theorem Cur.lt {w : World} {g : Nat} (h : Cur w g) : g < w.heap.size := by
  obtain ⟨v, x, i, k, _, _, _, k0, _⟩ := h
  exact World.block_lt_of_cell? _ _ k0
set_option maxHeartbeats 1000000 in
theorem l30New_c (w : World) (v : Value) (x : List UInt8) (n : Int) (hr : RdY w w.heap.size v x) (hn : n ≤ 1000000) : Calls Tryz.prog 28 #[v, .int .i64 n] w (RetC w) := by
  have HR := Lib.hid hr
  clear hr
  go_enter Tryz.func28, Tryz.ntmps28
  go_wp2_with fail
  refine (l01New_c _ v x HR.out).mono ?_
  rintro e w1 ⟨g, rfl, hg0, hg1, hc, hb⟩
  have HC := Lib.hid hc
  have hB := hb
  clear hc hb
  go_wp2_with fail
  go_loopw [6] (fun iv wr => ∃ (i : Int), 0 ≤ i ∧ (i ≤ n ∨ i = 0) ∧ iv = .int .i64 i ∧ Hid (Cur wr g) ∧ Below w.heap.size w wr) (fun i _ => (n - RowKit.intOf i).toNat)
  case atStart => exact ⟨0, by omega, .inr rfl, rfl, HC.out, hB⟩
  case round =>
    obtain ⟨i, h0, h1, rfl, HC2, hb2⟩ := hrel
    by_cases hlt : i < n
    · have d1 : decide (i < n) = true := decide_eq_true hlt
      have e1 : IntKind.i64.wrap (i + 1) = i + 1 := IntWalk.i64_in _ (by omega)
      go_wp2_with fail
      refine (l01Byte_c _ g HC2.out).mono ?_
      rintro e w2 ⟨y, rfl, y0, y1, hc3, hg3⟩
      have HC3 := Lib.hid hc3
      have hb3 := hb2.grown hg3 hb2.size (fun k hk => by injection hk with hk; omega)
      clear hc3 hg3
      go_wp2
      go_roundw
      case rel => exact ⟨i + 1, by omega, .inl (by omega), by go_num, HC3.out, hb3⟩
      case measure => (simp [RowKit.intOf]) <;> omega
    · have d1 : decide (i < n) = false := decide_eq_false hlt
      have hlt2 := HC2.out.lt
      go_wp2
      go_ret
      exact ⟨g, rfl, hg0, hlt2, HC2.out, hb2⟩

theorem Cur.same {w w' : World} {g : Nat} (h : Cur w g) (hs : w.heap.size ≤ w'.heap.size) (hb : ∀ k, k ≤ g → w'.heap[k]? = w.heap[k]?) : Cur w' g := by
  obtain ⟨v, x, i, k, hr, h0, h1, k0, k1, k2, q1, q2⟩ := h
  have hc : ∀ {j : Nat} {u : Value}, w.cell? ⟨g, j, none⟩ = some u → w'.cell? ⟨g, j, none⟩ = some u := fun {j u} hj => (World.cell?_of_block (w := w) (hb g (Nat.le_refl _))).trans hj
  have hf : ∀ {j : Nat}, w.frozen? ⟨g, j, none⟩ = false → w'.frozen? ⟨g, j, none⟩ = false := fun {j} hj => (World.frozen?_of_block (w := w) (hb g (Nat.le_refl _))).trans hj
  refine ⟨v, x, i, k, ?_, h0, h1, hc k0, hc k1, hc k2, hf q1, hf q2⟩
  obtain ⟨ao, cap, rfl, hx, hr⟩ := hr
  refine ⟨ao, cap, rfl, hx, fun i hi => ?_⟩
  obtain ⟨b, off, e1, e2, e3, e4⟩ := hr i hi
  exact ⟨b, off, e1, e2, Nat.lt_of_lt_of_le e3 hs, (World.cell?_of_block (w := w) (hb b (by omega))).trans e4⟩
theorem Cur.bel {w w' : World} {g : Nat} (h : Cur w g) (hb : Below w.heap.size w w') : Cur w' g := h.same hb.size fun k hk => hb.block k (by have := h.lt; omega)
theorem RdY.bel {w w' : World} {B : Nat} {v : Value} {x : List UInt8} (h : RdY w B v x) (hb : Below w.heap.size w w') : RdY w' B v x := by
  obtain ⟨ao, cap, rfl, hx, hr⟩ := h
  refine ⟨ao, cap, rfl, hx, fun i hi => ?_⟩
  obtain ⟨b, off, e1, e2, e3, e4⟩ := hr i hi
  exact ⟨b, off, e1, e2, Nat.lt_of_lt_of_le e3 hb.size, keep_cell hb e4⟩
theorem RdY.top {w w' : World} {B : Nat} {v : Value} {x : List UInt8} (h : RdY w B v x) (_hB : B ≤ w'.heap.size) (hb : Below w.heap.size w w') : RdY w' w'.heap.size v x := by
  obtain ⟨ao, cap, rfl, hx, hr⟩ := h.bel hb
  refine ⟨ao, cap, rfl, hx, fun i hi => ?_⟩
  obtain ⟨b, off, e1, e2, e3, e4⟩ := hr i hi
  exact ⟨b, off, e1, e3, e3, e4⟩
theorem gr_bel {w a b : World} {g : Nat} (h : w.grownBy a (some g)) (hb : Below a.heap.size a b) : w.grownBy b (some g) :=
  grownBy_trans h ⟨hb.os, hb.tape, hb.output, hb.size, fun k hk _ => hb.block k hk⟩
theorem gr_low {w a b : World} {g : Nat} (h : w.grownBy a (some g)) (hb : Below w.heap.size a b) : w.grownBy b (some g) :=
  ⟨hb.os.trans h.os, hb.tape.trans h.tape, hb.output.trans h.output, Nat.le_trans h.size hb.size, fun k hk hn => (hb.block k hk).trans (h.block k hk hn)⟩
theorem gr_of {w a : World} {g : Nat} (hb : Below w.heap.size w a) : w.grownBy a (some g) := ⟨hb.os, hb.tape, hb.output, hb.size, fun k hk _ => hb.block k hk⟩
theorem gr_set {w a : World} {g : Nat} {p : Addr} (h : w.grownBy a (some g)) (hp : w.heap.size ≤ p.block) (v : Value) : w.grownBy (a.setCell p v) (some g) :=
  ⟨h.os, h.tape, h.output, (by simpa [World.setCell] using h.size), fun k hk hn => (Below.heap_setCell a p v k (by omega)).trans (h.block k hk hn)⟩
theorem gr_cell {w a : World} {g : Nat} {p : Addr} {v : Value} (h : w.grownBy a (some g)) (hc : w.cell? p = some v) (hne : g ≠ p.block) : a.cell? p = some v := h.cell hc (fun e => hne (Option.some.inj e).symm)
theorem gr_frozen {w a : World} {g : Nat} {p : Addr} {v : Value} (h : w.grownBy a (some g)) (hc : w.cell? p = some v) (hf : w.frozen? p = false) (hne : g ≠ p.block) : a.frozen? p = false :=
  (World.frozen?_of_block (w := w) (h.block p.block (World.block_lt_of_cell? w _ hc) (fun e => hne (Option.some.inj e).symm))).trans hf
theorem gr_below {w0 w a : World} {g B : Nat} (hb : Below B w0 w) (h : w.grownBy a (some g)) (hg : B ≤ g) (hs : B ≤ w.heap.size) : Below B w0 a := hb.grown h hs fun k hk => by cases hk; exact hg

end Go.Proofs.YtijeplcjbhkkoaaGreatDoor
