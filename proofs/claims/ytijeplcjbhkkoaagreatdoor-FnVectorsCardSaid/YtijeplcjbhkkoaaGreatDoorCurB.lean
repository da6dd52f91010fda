/- The reference's drawn arguments: fractions and vectors of them. -/
import Derived.Test.YtijeplcjbhkkoaaGreatDoorCur
import Derived.Test.YtijeplcjbhkkoaaGreatDoorRatP
import Derived.Test.YtijeplcjbhkkoaaGreatDoorRatJ
import Derived.Test.YtijeplcjbhkkoaaGreatDoorVecG
namespace Go.Proofs.YtijeplcjbhkkoaaGreatDoor
open Go.RowKit Lm

/-- A bool; only the cursor's block is changed. -/
def RetOb (w : World) (g : Nat) (e : Ending) (w' : World) : Prop := ∃ b : Bool, e = .returned (.bool b) ∧ Cur w' g ∧ w.grownBy w' (some g)

set_option maxHeartbeats 2000000 in
set_option maxRecDepth 100000 in
theorem l01Once_c (w : World) (g : Nat) (n : Int) (hc : Cur w g) (h1 : 0 < n) (h2 : n ≤ 4294967296) : Calls Tryz.prog 53 #[.pointer (some ⟨g, 0, none⟩), .int .i64 n] w (RetOb w g) := by
  have HC := Lib.hid hc
  clear hc
  go_enter Tryz.func53, Tryz.ntmps53
  go_wp2_with fail
  refine (l01Below_c _ g n HC.out h1 h2).mono ?_
  rintro e w1 ⟨x, rfl, x0, x1, hc1, hg1⟩
  have HC1 := Lib.hid hc1
  have HG1 := Lib.hid hg1
  clear hc1 hg1
  go_wp2
  go_ret
  exact ⟨_, rfl, HC1.out, HG1.out⟩

/-- A small fraction in new memory; only the cursor's block is changed. -/
def RetN (w : World) (g : Nat) (e : Ending) (w' : World) : Prop :=
  ∃ z d u v, e = .returned (.agg #[.bool (ng z), u, v]) ∧ Sz 1 z d ∧ Own w' w.heap.size u (limbs z.natAbs) ∧ Own w' w.heap.size v (limbs d) ∧ Apart u v ∧ Cur w' g ∧ w.grownBy w' (some g)
theorem rof_sz {n d : Int} (hn : -1000 ≤ n ∧ n ≤ 1000) (hd : 0 < d ∧ d ≤ 1000) : Sz 1 (rof n d).1 (rof n d).2 := by
  have e : pw 1 = 1000000000 := rfl
  have et : turn n d = n := by unfold turn; rw [if_neg (by omega)]
  unfold rof
  rw [et]
  exact (low_sz (by omega) (by omega) (by omega) (by omega)).1
theorem int_sz {n : Int} (hn : -1000 ≤ n ∧ n ≤ 1000) : Sz 1 n 1 := by
  have e : pw 1 = 1000000000 := rfl
  refine ⟨⟨by omega, Nat.gcd_one_right _, ?_, ?_⟩, by omega, by omega⟩
  · exact limbs_len_le.2 (Int.lt_of_lt_of_le (show ((n.natAbs : Nat) : Int) < pw 1 by omega) (pw_mono (by omega)))
  · exact limbs_len_le.2 (Int.lt_of_lt_of_le (show ((1 : Nat) : Int) < pw 1 by omega) (pw_mono (by omega)))
theorem retN_end {w a : World} {g : Nat} {z : Int} {d : Nat} {u v : Value} (hs : Sz 1 z d) (hgr : w.grownBy a (some g)) (_hlt : w.heap.size < a.heap.size) (hgw : g < w.heap.size) (hc : Cur a g) (b : Nat) (hb : w.heap.size < b) (hu : Own a b u (limbs z.natAbs)) (hv : Own a b v (limbs d)) (ha : Apart u v) :
    RetN w g (.returned (.agg #[.bool (ng z), u, v])) (((a.setCell ⟨w.heap.size, 0, none⟩ (.bool (ng z))).setCell ⟨w.heap.size, 1, none⟩ u).setCell ⟨w.heap.size, 2, none⟩ v) := by
  refine ⟨z, d, u, v, rfl, hs, (set3_own hu (ne_of_base hu hb)).mono (Nat.le_of_lt hb), (set3_own hv (ne_of_base hv hb)).mono (Nat.le_of_lt hb), ha, ?_, gr_set (gr_set (gr_set hgr (Nat.le_refl _) _) (Nat.le_refl _) _) (Nat.le_refl _) _⟩
  refine hc.same (by simp [World.setCell]) fun k hk => ?_
  rw [Below.heap_setCell _ _ _ _ (by dsimp only; omega), Below.heap_setCell _ _ _ _ (by dsimp only; omega), Below.heap_setCell _ _ _ _ (by dsimp only; omega)]

theorem sRatFromInt_v (w : World) (n : Int) (n0 : -9223372036854775808 ≤ n) (n1 : n ≤ 9223372036854775807) (z : Int) (d : Nat) (h : z = n ∧ d = 1) : Calls Tryz.prog 56 #[.int .i64 n] w (RetQ w z d) := by
  obtain ⟨rfl, rfl⟩ := h; exact sRatFromInt_n w z n0 n1
set_option maxHeartbeats 2000000 in
set_option maxRecDepth 100000 in
theorem l05Number_c (w : World) (g : Nat) (hc : Cur w g) : Calls Tryz.prog 27 #[.pointer (some ⟨g, 0, none⟩)] w (RetN w g) := by
  have BW : Below w.heap.size w (w.alloc (.cells #[.bool false, .slice none 0 0, .slice none 0 0] 27)) := alloc_bel _ _
  obtain ⟨r0, r1, r2, s0, s1, s2⟩ : (w.alloc (.cells #[.bool false, .slice none 0 0, .slice none 0 0] 27)).cell? ⟨w.heap.size, 0, none⟩ = some (.bool false) ∧ (w.alloc (.cells #[.bool false, .slice none 0 0, .slice none 0 0] 27)).cell? ⟨w.heap.size, 1, none⟩ = some (.slice none 0 0) ∧ (w.alloc (.cells #[.bool false, .slice none 0 0, .slice none 0 0] 27)).cell? ⟨w.heap.size, 2, none⟩ = some (.slice none 0 0) ∧ (w.alloc (.cells #[.bool false, .slice none 0 0, .slice none 0 0] 27)).frozen? ⟨w.heap.size, 0, none⟩ = false ∧ (w.alloc (.cells #[.bool false, .slice none 0 0, .slice none 0 0] 27)).frozen? ⟨w.heap.size, 1, none⟩ = false ∧ (w.alloc (.cells #[.bool false, .slice none 0 0, .slice none 0 0] 27)).frozen? ⟨w.heap.size, 2, none⟩ = false := by simp [go_sem]
  have hgw := hc.lt
  have hne : g ≠ w.heap.size := by omega
  have HC := Lib.hid (hc.bel BW)
  have GR : w.grownBy (w.alloc (.cells #[.bool false, .slice none 0 0, .slice none 0 0] 27)) (some g) := gr_of BW
  clear hc BW
  go_enter Tryz.func27, Tryz.ntmps27
  go_wp2_with fail
  generalize (w.alloc (.cells #[.bool false, .slice none 0 0, .slice none 0 0] 27)) = w0 at *
  refine (l01Once_c _ g 3 HC.out (by omega) (by omega)).mono ?_
  rintro e1 w1 ⟨b, rfl, hc, hg⟩
  replace s0 := gr_frozen hg r0 s0 hne
  replace r0 := gr_cell hg r0 hne
  replace s1 := gr_frozen hg r1 s1 hne
  replace r1 := gr_cell hg r1 hne
  replace s2 := gr_frozen hg r2 s2 hne
  replace r2 := gr_cell hg r2 hne
  replace GR := grownBy_trans GR hg
  replace HC := Lib.hid hc
  clear hc hg
  cases b
  case true =>
    go_wp2_with fail
    refine (l01Below_c _ g 41 HC.out (by omega) (by omega)).mono ?_
    rintro e2 w2 ⟨x, rfl, x0, x1, hc, hg⟩
    replace s0 := gr_frozen hg r0 s0 hne
    replace r0 := gr_cell hg r0 hne
    replace s1 := gr_frozen hg r1 s1 hne
    replace r1 := gr_cell hg r1 hne
    replace s2 := gr_frozen hg r2 s2 hne
    replace r2 := gr_cell hg r2 hne
    replace GR := grownBy_trans GR hg
    replace HC := Lib.hid hc
    clear hc hg
    go_wp2_with fail
    refine (l01Below_c _ g 6 HC.out (by omega) (by omega)).mono ?_
    rintro e3 w3 ⟨y, rfl, y0, y1, hc, hg⟩
    replace s0 := gr_frozen hg r0 s0 hne
    replace r0 := gr_cell hg r0 hne
    replace s1 := gr_frozen hg r1 s1 hne
    replace r1 := gr_cell hg r1 hne
    replace s2 := gr_frozen hg r2 s2 hne
    replace r2 := gr_cell hg r2 hne
    replace GR := grownBy_trans GR hg
    replace HC := Lib.hid hc
    clear hc hg
    obtain ⟨z, hz⟩ : ∃ z, z = (rof (x - 20) (1 + y)).1 := ⟨_, rfl⟩
    obtain ⟨d, hd⟩ : ∃ d, d = (rof (x - 20) (1 + y)).2 := ⟨_, rfl⟩
    have HS : Hid (Sz 1 z d) := by
      unfold Hid
      rw [hz, hd]; exact rof_sz (by omega) (by omega)
    have HZ := Lib.hid (And.intro hz hd)
    clear hz hd
    have hlt3 : w.heap.size < w3.heap.size := World.block_lt_of_cell? _ _ r0
    go_wp2_with fail
    refine (sRatOf_n _ (x - 20) (1 + y) (by omega) (by omega) (by omega) (by omega) z d HZ.out.1 HZ.out.2).mono ?_
    rintro e4 w9 ⟨u, v, rfl, ho1, ho2, ha, hb⟩
    have hzz := hb.size
    have HO := Lib.hid (And.intro (And.intro ho1 ho2) ha)
    replace s0 := keep_frozen hb r0 s0
    replace r0 := keep_cell hb r0
    replace s1 := keep_frozen hb r1 s1
    replace r1 := keep_cell hb r1
    replace s2 := keep_frozen hb r2 s2
    replace r2 := keep_cell hb r2
    have hlt : w.heap.size < w9.heap.size := World.block_lt_of_cell? _ _ r0
    have HG2 := Lib.hid (gr_bel GR hb)
    have HC2 := Lib.hid (HC.out.bel hb)
    obtain ⟨ua, uc, rfl, -, -, -, -, -⟩ := ho1.form
    obtain ⟨da, dc, rfl, -, -, -, -, -⟩ := ho2.form
    clear ho1 ho2 ha hb GR HC
    go_wp2
    exact bodyPost_ret (v := .agg #[.bool (ng z), .slice ua (limbs z.natAbs).length uc, .slice da (limbs d).length dc]) (by simp [results, Tryz.results27, go_sem, r0, r1, r2]) rfl (retN_end HS.out HG2.out hlt hgw HC2.out _ hlt3 HO.out.1.1 HO.out.1.2 HO.out.2)
  case false =>
    go_wp2_with fail
    refine (l01Below_c _ g 21 HC.out (by omega) (by omega)).mono ?_
    rintro e2 w3 ⟨x, rfl, x0, x1, hc, hg⟩
    replace s0 := gr_frozen hg r0 s0 hne
    replace r0 := gr_cell hg r0 hne
    replace s1 := gr_frozen hg r1 s1 hne
    replace r1 := gr_cell hg r1 hne
    replace s2 := gr_frozen hg r2 s2 hne
    replace r2 := gr_cell hg r2 hne
    replace GR := grownBy_trans GR hg
    replace HC := Lib.hid hc
    clear hc hg
    obtain ⟨z, hz⟩ : ∃ z, z = x - 10 := ⟨_, rfl⟩
    obtain ⟨d, hd⟩ : ∃ d : Nat, d = 1 := ⟨_, rfl⟩
    have HS : Hid (Sz 1 z d) := by
      unfold Hid
      rw [hz, hd]; exact int_sz (by omega)
    have HZ := Lib.hid (And.intro hz hd)
    clear hz hd
    have hlt3 : w.heap.size < w3.heap.size := World.block_lt_of_cell? _ _ r0
    go_wp2_with fail
    refine (sRatFromInt_v _ (x - 10) (by omega) (by omega) z d HZ.out).mono ?_
    rintro e4 w9 ⟨u, v, rfl, ho1, ho2, ha, hb⟩
    have hzz := hb.size
    have HO := Lib.hid (And.intro (And.intro ho1 ho2) ha)
    replace s0 := keep_frozen hb r0 s0
    replace r0 := keep_cell hb r0
    replace s1 := keep_frozen hb r1 s1
    replace r1 := keep_cell hb r1
    replace s2 := keep_frozen hb r2 s2
    replace r2 := keep_cell hb r2
    have hlt : w.heap.size < w9.heap.size := World.block_lt_of_cell? _ _ r0
    have HG2 := Lib.hid (gr_bel GR hb)
    have HC2 := Lib.hid (HC.out.bel hb)
    obtain ⟨ua, uc, rfl, -, -, -, -, -⟩ := ho1.form
    obtain ⟨da, dc, rfl, -, -, -, -, -⟩ := ho2.form
    clear ho1 ho2 ha hb GR HC
    go_wp2
    exact bodyPost_ret (v := .agg #[.bool (ng z), .slice ua (limbs z.natAbs).length uc, .slice da (limbs d).length dc]) (by simp [results, Tryz.results27, go_sem, r0, r1, r2]) rfl (retN_end HS.out HG2.out hlt hgw HC2.out _ hlt3 HO.out.1.1 HO.out.1.2 HO.out.2)

def RetMR (w : World) (e : Ending) (w' : World) : Prop := ∃ z d, Sz 1 z d ∧ RetQ w z d e w'
set_option maxHeartbeats 2000000 in
set_option maxRecDepth 100000 in
theorem makeRat_c (w : World) (v : Value) (x : List UInt8) (n : Int) (hr : RdY w w.heap.size v x) (hn : n ≤ 1000000) : Calls Tryz.prog 5 #[v, .int .i64 n] w (RetMR w) := by
  have BW : Below w.heap.size w (w.alloc (.cells #[.bool false, .slice none 0 0, .slice none 0 0] 27)) := alloc_bel _ _
  obtain ⟨r0, r1, r2, s0, s1, s2⟩ : (w.alloc (.cells #[.bool false, .slice none 0 0, .slice none 0 0] 27)).cell? ⟨w.heap.size, 0, none⟩ = some (.bool false) ∧ (w.alloc (.cells #[.bool false, .slice none 0 0, .slice none 0 0] 27)).cell? ⟨w.heap.size, 1, none⟩ = some (.slice none 0 0) ∧ (w.alloc (.cells #[.bool false, .slice none 0 0, .slice none 0 0] 27)).cell? ⟨w.heap.size, 2, none⟩ = some (.slice none 0 0) ∧ (w.alloc (.cells #[.bool false, .slice none 0 0, .slice none 0 0] 27)).frozen? ⟨w.heap.size, 0, none⟩ = false ∧ (w.alloc (.cells #[.bool false, .slice none 0 0, .slice none 0 0] 27)).frozen? ⟨w.heap.size, 1, none⟩ = false ∧ (w.alloc (.cells #[.bool false, .slice none 0 0, .slice none 0 0] 27)).frozen? ⟨w.heap.size, 2, none⟩ = false := by simp [go_sem]
  have HR := Lib.hid (hr.top BW.size BW)
  have hg0 : w.heap.size < (w.alloc (.cells #[.bool false, .slice none 0 0, .slice none 0 0] 27)).heap.size := by simp
  clear hr
  go_enter Tryz.func5, Tryz.ntmps5
  go_wp2_with fail
  generalize (w.alloc (.cells #[.bool false, .slice none 0 0, .slice none 0 0] 27)) = w0 at *
  refine (l30New_c _ v x n HR.out hn).mono ?_
  rintro e w1 ⟨g, rfl, hgg, hg1, hc, hb⟩
  have HC := Lib.hid hc
  have hne : g ≠ w.heap.size := by omega
  replace s0 := keep_frozen hb r0 s0
  replace r0 := keep_cell hb r0
  replace s1 := keep_frozen hb r1 s1
  replace r1 := keep_cell hb r1
  replace s2 := keep_frozen hb r2 s2
  replace r2 := keep_cell hb r2
  have B1 := hb
  clear hc hb
  go_wp2_with fail
  refine (l05Number_c _ g HC.out).mono ?_
  rintro e w9 ⟨z, d, u, v, rfl, hs, ho1, ho2, ha, hc, hg⟩
  replace s0 := gr_frozen hg r0 s0 hne
  replace r0 := gr_cell hg r0 hne
  replace s1 := gr_frozen hg r1 s1 hne
  replace r1 := gr_cell hg r1 hne
  replace s2 := gr_frozen hg r2 s2 hne
  replace r2 := gr_cell hg r2 hne
  have B2 : Below w0.heap.size w0 w9 := gr_below B1 hg hgg B1.size
  have HO := Lib.hid (And.intro (And.intro (ho1.mono B1.size) (ho2.mono B1.size)) (And.intro ha hs))
  obtain ⟨ua, uc, rfl, -, -, -, -, -⟩ := ho1.form
  obtain ⟨da, dc, rfl, -, -, -, -, -⟩ := ho2.form
  clear ho1 ho2 ha hc hg hs B1 HC
  go_wp2
  exact bodyPost_ret (v := .agg #[.bool (ng z), .slice ua (limbs z.natAbs).length uc, .slice da (limbs d).length dc]) (by simp [results, Tryz.results5, go_sem, r0, r1, r2]) rfl ⟨z, d, HO.out.2.2, retR_end BW (Nat.le_refl _) hg0 B2 HO.out.1.1 HO.out.1.2 HO.out.2.1⟩

/-- append(v, r) of an element whose limbs lie behind the vector. -/
theorem app_gen {w1 : World} {ops : Array Oper} {rest : List Oper} {o : Oper} {a : Act} {Q : Exit → Act → World → Prop} (hgd : o.guard = none) (x y : Operand)
    (ho : o.op = .call { callee := .builtin .append, args := #[x, y], argTypes := #[38, 38] })
    {v u d : Value} {lo hi n : Nat} {E : Nat → Ent} {R : Nat → Rc} {s : Bool} (hx : a.eval x = v) (hy : a.eval y = .slice (some ⟨w1.heap.size, 0, none⟩) 1 1) (h1 : VecF w1 lo hi v n E R) (hlo : lo ≤ hi)
    (hs : s = (R n).s) (ho1 : Own w1 hi u (R n).xs) (ho2 : Own w1 hi d (R n).ys) (ha : Apart u d) (hlen : n ≤ 1000000000000)
    (h : ∀ v' w', Vec w' lo w'.heap.size v' (n + 1) R → Below lo w1 w' → wpList Tryz.prog ops Q rest (a.put o.dst v') w') :
    wpList Tryz.prog ops Q (o :: rest) a (w1.alloc (.cells #[.bool s, u, d] 27)) := by
  have B1 := alloc_bel w1 (.cells #[.bool s, u, d] 27)
  obtain ⟨c0, c1, c2⟩ : (w1.alloc (.cells #[.bool s, u, d] 27)).cell? ⟨w1.heap.size, 0, none⟩ = some (.bool s) ∧ (w1.alloc (.cells #[.bool s, u, d] 27)).cell? ⟨w1.heap.size, 1, none⟩ = some u ∧ (w1.alloc (.cells #[.bool s, u, d] 27)).cell? ⟨w1.heap.size, 2, none⟩ = some d := by simp [go_sem]
  have hsz := B1.size
  have htop := h1.top
  refine wpList_plain hgd fun K hK => ?_
  obtain ⟨v', w', hr, hv, hbl, _⟩ := app_run _ o.type v lo hi n w1.heap.size E R ⟨s, u, d⟩ (h1.bel B1)
    ⟨hs, (ho1.alloc _).mono hlo, (ho2.alloc _).mono hlo, fun k hk => Nat.lt_of_lt_of_le (ho1.lt k hk).2 hsz, fun k hk => Nat.lt_of_lt_of_le (ho2.lt k hk).2 hsz⟩ ha (fun k hk => (ho1.lt k hk).1) (fun k hk => (ho2.lt k hk).1) c0 c1 c2 hlen (by omega)
  unfold Oper.wp
  simp only [execOp, ho, resolve, invoke, builtin, Sem.run_bind, Sem.run_pure, Result.andThen_ok, List.map_toArray, List.map_cons, List.map_nil, hx, hy, hr]
  exact hK _ _ (h v' w' hv ((B1.mono (by omega)).trans hbl))
theorem VecF.gr {w w' : World} {lo hi n g : Nat} {v : Value} {E : Nat → Ent} {R : Nat → Rc} (h : VecF w lo hi v n E R) (hg : w.grownBy w' (some g)) (hl : g < lo) : VecF w' lo hi v n E R :=
  h.same hg.size fun k hk hh => hg.block k (Nat.lt_of_lt_of_le hh h.top) (fun e => by have := Option.some.inj e; omega)
/-- Small fractions. -/
def RetD (w : World) (g n : Nat) (e : Ending) (w' : World) : Prop := ∃ (Z : Nat → Int) (D : Nat → Nat) (v : Value), e = .returned v ∧ (∀ j, j < n → Sz 1 (Z j) (D j)) ∧ Vec w' w.heap.size w'.heap.size v n (fun j => ⟨ng (Z j), limbs (Z j).natAbs, limbs (D j)⟩) ∧ w.grownBy w' (some g)

set_option maxHeartbeats 2000000 in
set_option maxRecDepth 100000 in
theorem l05Draw_c (w : World) (g n : Nat) (hc : Cur w g) (hn : n ≤ 1000) : Calls Tryz.prog 45 #[.pointer (some ⟨g, 0, none⟩), .int .i64 n] w (RetD w g n) := by
  have hgw := hc.lt
  have B0 := alloc_bel w (.cells #[] 27)
  have HC := Lib.hid (hc.bel B0)
  have GR : w.grownBy (w.alloc (.cells #[] 27)) (some g) := gr_of B0
  have h0 := VecF.lit0 w (lo := w.heap.size) (fun _ => ⟨false, .slice none 0 0, .slice none 0 0⟩) (fun _ => ⟨ng 0, limbs (Int.natAbs 0), limbs 1⟩) (Nat.le_refl _)
  have H0 := Lib.hid (h0.wider (Nat.le_refl _) (Nat.le_refl _) h0.top)
  clear h0 hc B0
  go_enter Tryz.func45, Tryz.ntmps45
  go_wp2
  go_loopw [5] (fun v wr => ∃ (i : Nat) (E : Nat → Ent) (Z : Nat → Int) (D : Nat → Nat) (ao : Option Addr) (cap : Nat), i ≤ n ∧ v = .slice ao i cap ∧ Hid (∀ j, j < i → Sz 1 (Z j) (D j)) ∧ Hid (VecF wr w.heap.size wr.heap.size (.slice ao i cap) i E (fun j => ⟨ng (Z j), limbs (Z j).natAbs, limbs (D j)⟩)) ∧ Hid (Cur wr g) ∧ Hid (w.grownBy wr (some g))) (fun v _ => n - lenOf v)
  case atStart => exact ⟨0, _, fun _ => 0, fun _ => 1, _, _, by omega, rfl, fun j hj => absurd hj (by omega), H0.out.wider (Nat.le_refl _) (by simp) (Nat.le_refl _), HC.out, GR⟩
  case round =>
    clear HC GR
    obtain ⟨i, E, Z, D, ao, cap, hi, rfl, HS, HF, HC, HG⟩ := hrel
    by_cases hlt : i < n
    · have t1 : (i : Int) < n := by omega
      have hsz := HG.out.size
      go_wp2_with fail
      refine (l05Number_c _ g HC.out).mono ?_
      rintro e w1 ⟨z, d, u, v, rfl, hs, ho1, ho2, ha, hc, hg⟩
      obtain ⟨ua, uc, rfl, -, -, -, -, -⟩ := ho1.form
      obtain ⟨da, dc, rfl, -, -, -, -, -⟩ := ho2.form
      obtain ⟨Z2, hZ2⟩ : ∃ Z2 : Nat → Int, Z2 = fun j => if j = i then z else Z j := ⟨_, rfl⟩
      obtain ⟨D2, hD2⟩ : ∃ D2 : Nat → Nat, D2 = fun j => if j = i then d else D j := ⟨_, rfl⟩
      have zi : Z2 i = z := by rw [hZ2]; exact if_pos rfl
      have di : D2 i = d := by rw [hD2]; exact if_pos rfl
      have zj : ∀ j, j < i → Z2 j = Z j := fun j hj => by rw [hZ2]; exact if_neg (by omega)
      have dj : ∀ j, j < i → D2 j = D j := fun j hj => by rw [hD2]; exact if_neg (by omega)
      have HF1 := Lib.hid ((HF.out.gr hg hgw).congr (R' := fun j => ⟨ng (Z2 j), limbs (Z2 j).natAbs, limbs (D2 j)⟩) fun j hj => by rw [zj j hj, dj j hj])
      have HS2 : Hid (∀ j, j < i + 1 → Sz 1 (Z2 j) (D2 j)) := fun j hj => by
        by_cases hji : j = i
        · rw [hji, zi, di]; exact hs
        · rw [zj j (by omega), dj j (by omega)]; exact HS.out j (by omega)
      obtain ⟨R2, hR2⟩ : ∃ R2 : Nat → Rc, R2 = fun j => ⟨ng (Z2 j), limbs (Z2 j).natAbs, limbs (D2 j)⟩ := ⟨_, rfl⟩
      rw [← hR2] at HF1
      have hR2i : R2 i = ⟨ng z, limbs z.natAbs, limbs d⟩ := by rw [hR2]; dsimp only; rw [zi, di]
      have HO := Lib.hid (show ng z = (R2 i).s ∧ Own w1 wr.heap.size (.slice ua (limbs z.natAbs).length uc) (R2 i).xs ∧ Own w1 wr.heap.size (.slice da (limbs d).length dc) (R2 i).ys ∧ Apart (.slice ua (limbs z.natAbs).length uc) (.slice da (limbs d).length dc) from by rw [hR2i]; exact ⟨rfl, ho1, ho2, ha⟩)
      have HR2 := Lib.hid hR2
      have HC1 := Lib.hid hc
      have HG1 := Lib.hid (grownBy_trans HG.out hg)
      clear hs ho1 ho2 ha hc hg hZ2 hD2 zi di zj dj hR2 hR2i HF HC HG HS
      go_wp2_with (at_builtin; refine app_gen rfl _ _ rfl rfl rfl HF1.out hsz HO.out.1 HO.out.2.1 HO.out.2.2.1 HO.out.2.2.2 (by omega) ?_)
      intro v' w2 hv hbl
      have HC2 := Lib.hid (HC1.out.same hbl.size fun k hk => hbl.block k (by omega))
      have HG2 := Lib.hid (gr_low HG1.out hbl)
      obtain ⟨G, hG⟩ := hv
      obtain ⟨ao2, cap2, rfl, -, -, -⟩ := hG.form
      have HVF := Lib.hid hG
      rw [HR2.out] at HVF
      clear hG hbl HF1 HO HC1 HG1 HR2
      go_wp2
      go_roundw
      case rel => exact ⟨i + 1, G, _, _, ao2, cap2, by omega, rfl, HS2.out, HVF.out, HC2.out, HG2.out⟩
      case measure => (simp [lenOf]) <;> omega
    · obtain rfl : i = n := by omega
      go_wp2
      go_ret
      exact ⟨Z, D, _, rfl, HS.out, ⟨_, HF.out⟩, HG.out⟩

def RetMV1 (w : World) (n : Nat) (e : Ending) (w' : World) : Prop := ∃ (Z : Nat → Int) (D : Nat → Nat), (∀ j, j < n → Sz 1 (Z j) (D j)) ∧ RetVec w n (fun j => ⟨ng (Z j), limbs (Z j).natAbs, limbs (D j)⟩) e w'
set_option maxHeartbeats 2000000 in
set_option maxRecDepth 100000 in
theorem makeVector_c (w : World) (v : Value) (x : List UInt8) (n : Int) (m : Nat) (hr : RdY w w.heap.size v x) (hn : n ≤ 1000000) (hm : m ≤ 1000) : Calls Tryz.prog 16 #[v, .int .i64 n, .int .i64 m] w (RetMV1 w m) := by
  have HR := Lib.hid hr
  clear hr
  go_enter Tryz.func16, Tryz.ntmps16
  go_wp2_with fail
  refine (l30New_c _ v x n HR.out hn).mono ?_
  rintro e w1 ⟨g, rfl, hgg, hg1, hc, hb⟩
  have HC := Lib.hid hc
  have B1 := hb
  clear hc hb
  go_wp2_with fail
  refine (l05Draw_c _ g m HC.out hm).mono ?_
  rintro e w2 ⟨Z, D, u, rfl, hs, hv, hg⟩
  have B2 : Below w.heap.size w w2 := gr_below B1 hg hgg B1.size
  have HV := Lib.hid (And.intro hs (hv.wider B1.size (Nat.le_refl _) (Nat.le_refl _)))
  clear hs hv hg HC B1
  go_wp2
  go_ret
  exact ⟨Z, D, HV.out.1, _, rfl, HV.out.2, B2⟩

end Go.Proofs.YtijeplcjbhkkoaaGreatDoor
