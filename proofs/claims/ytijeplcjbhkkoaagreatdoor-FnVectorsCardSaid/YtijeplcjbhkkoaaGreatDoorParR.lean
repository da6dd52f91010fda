/- ParseRat: the program's and the reference's. -/
import Derived.Test.YtijeplcjbhkkoaaGreatDoorFmtG
import Derived.Test.YtijeplcjbhkkoaaGreatDoorFmtH
import Derived.Test.YtijeplcjbhkkoaaGreatDoorMathG
namespace Go.Proofs.YtijeplcjbhkkoaaGreatDoor
open Go.RowKit Tx Go.Lib Lm

/-- A fraction and a bool. -/
def RetRB (w : World) (s : Bool) (xs ys : List Int) (c : Bool) (e : Ending) (w' : World) : Prop := ∃ u v, e = .returned (.tuple #[.agg #[.bool s, u, v], .bool c]) ∧ Own w' w.heap.size u xs ∧ Own w' w.heap.size v ys ∧ Apart u v ∧ Below w.heap.size w w'
theorem retRB_end {w w0 wk : World} {g : Nat} {s c : Bool} {u v : Value} {xs ys : List Int} (BW : Below w.heap.size w w0) (hg : w.heap.size ≤ g) (hg0 : g < w0.heap.size) (B0 : Below w0.heap.size w0 wk)
    (hu : Own wk w0.heap.size u xs) (hv : Own wk w0.heap.size v ys) (ha : Apart u v) :
    RetRB w s xs ys c (.returned (.tuple #[.agg #[.bool s, u, v], .bool c])) (((wk.setCell ⟨g, 0, none⟩ (.bool s)).setCell ⟨g, 1, none⟩ u).setCell ⟨g, 2, none⟩ v) :=
  ⟨u, v, rfl, (set3_own hu (ne_of_base hu hg0)).mono BW.size, (set3_own hv (ne_of_base hv hg0)).mono BW.size, ha, set3_below (BW.trans (B0.mono BW.size)) hg⟩
/-- Two strings and a bool. -/
def RetTTB (w : World) (a b : ByteArray) (c : Bool) (e : Ending) (w' : World) : Prop := e = .returned (.tuple #[.string a, .string b, .bool c]) ∧ Below w.heap.size w w'
/-- The library's own variable holds some int. -/
def Shp (w : World) : Prop := ∃ m, w.cell? ⟨0, 0, none⟩ = some (.int .i64 m)
theorem Shp.below {w w' : World} (h : Shp w) {B : Nat} (hb : Below B w w') (hB : w.heap.size ≤ B) : Shp w' := by
  obtain ⟨m, hm⟩ := h
  exact ⟨m, keep_cell (hb.mono hB) hm⟩
theorem cutS_c (w : World) (s a b : ByteArray) (m : Bool) (hl : s.size ≤ 1048576) (hC : Hid (Lib.cut s.data.toList [47] = (a.data.toList, b.data.toList, m))) (hS : Shp w) : Calls Tryz.prog 32 #[.string s, .string { data := #[47] }] w (RetTTB w a b m) := by
  obtain ⟨k, hk⟩ := hS
  refine (Tryz.strings_Cut s { data := #[47] } k w (by omega) hk).mono ?_
  rintro e w' ⟨rfl, n, rfl⟩
  have h := hC.out
  refine ⟨?_, below_drawn w n⟩
  show Ending.returned (.tuple #[.string (bs (Lib.cut s.data.toList [47]).1), .string (bs (Lib.cut s.data.toList [47]).2.1), .bool (Lib.cut s.data.toList [47]).2.2]) = _
  rw [h]
  show Ending.returned (.tuple #[.string (bs a.data.toList), .string (bs b.data.toList), .bool m]) = _
  rw [bs_list, bs_list]
theorem ParseBigInt_h (w : World) (a : ByteArray) (hl : a.size ≤ 1048576) (g : Bool) (xs : List Int) (ok : Bool) (h : Hid (AnsZ a g xs ok)) : Calls Tryz.prog 33 #[.string a] w (RetGB w g xs ok) := by
  obtain ⟨h1, h2, h3⟩ := h.out
  rw [h1, h2, h3]
  exact ParseBigInt_c w a hl
/-- The text's parts around its first slash. -/
noncomputable def cT (s : ByteArray) : List UInt8 := (Lib.cut s.data.toList [47]).1
noncomputable def cB (s : ByteArray) : List UInt8 := (Lib.cut s.data.toList [47]).2.1
noncomputable def cM (s : ByteArray) : Bool := (Lib.cut s.data.toList [47]).2.2
noncomputable def dnY (s : ByteArray) : List Int := if cM s = true then pNs (bs (cB s)) else [1]
noncomputable def dnB (s : ByteArray) : Bool := if cM s = true then pNb (bs (cB s)) else true
open Classical in
/-- ParseRat: does it succeed. -/
noncomputable def pRb (s : ByteArray) : Bool := decide (pZb (bs (cT s)) = true ∧ dnB s = true ∧ OkR (pZg (bs (cT s))) (pZs (bs (cT s))) (dnY s) ∧ fmtR (pZg (bs (cT s))) (pZs (bs (cT s))) (dnY s) = s.data.toList)
noncomputable def pRg (s : ByteArray) : Bool := if pRb s = true then pZg (bs (cT s)) else false
noncomputable def pRn (s : ByteArray) : List Int := if pRb s = true then pZs (bs (cT s)) else []
noncomputable def pRd (s : ByteArray) : List Int := if pRb s = true then dnY s else []
open Classical in
theorem pRb_iff (s : ByteArray) : pRb s = true ↔ (pZb (bs (cT s)) = true ∧ dnB s = true ∧ OkR (pZg (bs (cT s))) (pZs (bs (cT s))) (dnY s) ∧ fmtR (pZg (bs (cT s))) (pZs (bs (cT s))) (dnY s) = s.data.toList) := decide_eq_true_iff
theorem dnY_len (s : ByteArray) : (dnY s).length ≤ 60 := by
  unfold dnY
  split
  · exact pNs_len _
  · simp
theorem pR_len (s : ByteArray) : (pRn s).length ≤ 1000 ∧ (pRd s).length ≤ 1000 := by
  have := dnY_len s
  have := pZs_len (bs (cT s))
  unfold pRn pRd
  constructor <;> split <;> first | omega | simp
/-- What ParseRat answers. -/
def AnsR (s : ByteArray) (g : Bool) (xs ys : List Int) (b : Bool) : Prop := g = pRg s ∧ xs = pRn s ∧ ys = pRd s ∧ b = pRb s
theorem ansR_no {s : ByteArray} (h : ¬ pRb s = true) : AnsR s false [] [] false := by
  unfold AnsR pRg pRn pRd
  rw [if_neg h, if_neg h, if_neg h]
  exact ⟨rfl, rfl, rfl, by simpa using h⟩
theorem ansR_yes {s : ByteArray} (h : pRb s = true) : AnsR s (pZg (bs (cT s))) (pZs (bs (cT s))) (dnY s) true := by
  unfold AnsR pRg pRn pRd
  rw [if_pos h, if_pos h, if_pos h, h]
  exact ⟨rfl, rfl, rfl, rfl⟩
theorem retRB_of {w w' : World} {s : ByteArray} {g b : Bool} {xs ys : List Int} {e : Ending} (h : AnsR s g xs ys b) (k : RetRB w g xs ys b e w') : RetRB w (pRg s) (pRn s) (pRd s) (pRb s) e w' := by
  obtain ⟨h1, h2, h3, h4⟩ := h
  rw [← h1, ← h2, ← h3, ← h4]
  exact k
/-- The parts, as the program has them. -/
theorem cut_parts (s : ByteArray) : Lib.cut s.data.toList [47] = ((bs (cT s)).data.toList, (bs (cB s)).data.toList, cM s) := by
  rw [bs_data, bs_data]; rfl
theorem cT_size (s : ByteArray) : (bs (cT s)).size ≤ s.size ∧ (bs (cB s)).size ≤ s.size := by
  rw [bs_size, bs_size, size_list]
  unfold cT cB
  rcases cut_at s.data.toList 47 with ⟨_, h⟩ | ⟨a, b, h1, _, h⟩
  · rw [h]; simp
  · rw [h, h1]; simp; omega
theorem fmtZ_no {s : Bool} {xs : List Int} : 47 ∉ fmtZ s xs := by
  have h : 47 ∉ fmtN xs := fun hm => by have := dec_dg _ 47 hm; unfold Dg at this; have e : (47 : UInt8).toNat = 47 := rfl; omega
  unfold fmtZ
  split
  · simp [h]
  · exact h
theorem fmtN_no {xs : List Int} : 47 ∉ fmtN xs := by
  have := fmtZ_no (s := false) (xs := xs)
  exact this
/-- No fraction's text holds two slashes. -/
theorem fmtR_once {s : Bool} {xs ys : List Int} {a b : List UInt8} (h : fmtR s xs ys = a ++ 47 :: b) : 47 ∉ b := by
  have hc := congrArg (List.count 47) h
  have h0 : List.count 47 (fmtZ s xs) = 0 := List.count_eq_zero.2 fmtZ_no
  have h1 : List.count 47 (fmtN ys) = 0 := List.count_eq_zero.2 fmtN_no
  have h2 : List.count 47 (fmtR s xs ys) ≤ 1 := by
    unfold fmtR
    split
    · rw [List.append_nil, h0]; omega
    · rw [List.count_append, List.count_cons_self, h0, h1]; omega
  rw [hc, List.count_append, List.count_cons_self] at h2
  exact List.count_eq_zero.1 (by omega)
theorem slash_in (c : UInt8) : isIn { data := #[47] } c = (c == 47) := by
  unfold isIn
  show [47].contains c = _
  rw [Bool.eq_iff_iff]
  simp
theorem pcs_zero {s : ByteArray} (h : cM s = false) : pcs s { data := #[47] } = [bs (cT s)] := by
  unfold pcs cT
  unfold cM at h
  rcases cut_at s.data.toList 47 with ⟨h1, h2⟩ | ⟨a, b, _, _, h2⟩
  · rw [h2, spl_none _ _ _ (fun c hc => by rw [slash_in]; exact beq_eq_false_iff_ne.2 (fun e => h1 (e ▸ hc)))]
    rfl
  · rw [h2] at h; cases h
theorem pcs_some {s : ByteArray} (h : cM s = true) : ∃ r, pcs s { data := #[47] } = bs (cT s) :: r ∧ (47 ∉ cB s → r = [bs (cB s)]) ∧ 0 < r.length ∧ s.data.toList = cT s ++ 47 :: cB s := by
  unfold pcs cT cB
  unfold cM at h
  rcases cut_at s.data.toList 47 with ⟨_, h2⟩ | ⟨a, b, h1, h3, h2⟩
  · rw [h2] at h; cases h
  · rw [h2]
    refine ⟨(spl (isIn { data := #[47] }) [] b).map bs, ?_, ?_, ?_, h1⟩
    · rw [h1, spl_app _ _ _ _ _ (fun c hc => by rw [slash_in]; exact beq_eq_false_iff_ne.2 (fun e => h3 (e ▸ hc))) (by rw [slash_in]; rfl)]
      rfl
    · intro hn
      rw [spl_none _ _ _ (fun c hc => by rw [slash_in]; exact beq_eq_false_iff_ne.2 (fun e => hn (e ▸ hc)))]
      rfl
    · rw [List.length_map]
      exact List.length_pos_iff.2 (spl_ne _ _ _)
theorem fRs_empty_iff {g : Bool} {xs ys : List Int} (h : ¬ OkR g xs ys) : ByteArray.empty = fRs g xs ys := by unfold fRs; rw [if_neg h]
theorem fRs_some {g : Bool} {xs ys : List Int} (h : OkR g xs ys) : fRs g xs ys = bs (fmtR g xs ys) := by unfold fRs; rw [if_pos h]
theorem fmtR_ne (g : Bool) (xs ys : List Int) : fmtR g xs ys ≠ [] := by
  have h : fmtN xs ≠ [] := dec_ne _
  have h2 : fmtZ g xs ≠ [] := by
    unfold fmtZ
    split
    · simp
    · exact h
  unfold fmtR
  simp [h2]
theorem bs_full {l : List UInt8} (h : l ≠ []) : (bs l).toList.isEmpty = false := by
  rw [ByteArray.toList_eq, bs_data]
  cases l with
  | nil => exact absurd rfl h
  | cons c r => rfl

set_option maxHeartbeats 2000000 in
set_option maxRecDepth 100000 in
theorem parseRat_o1 (w : World) (s : ByteArray) (hl : s.size ≤ 1048576) (ht : Tabs w) (hs : Shp w) (a b : ByteArray) (hla : a.size ≤ 1048576) (_hlb : b.size ≤ 1048576) (hC : Lib.cut s.data.toList [47] = (a.data.toList, b.data.toList, false)) (g : Bool) (xs : List Int) (hZ : AnsZ a g xs false) (hA : AnsR s false [] [] false) :
    Calls Tryz.prog 8 #[.string s] w (RetRB w (pRg s) (pRn s) (pRd s) (pRb s)) := by
  have BW : Below w.heap.size w (w.alloc (.cells #[.bool false, .slice none 0 0, .slice none 0 0] 27)) := ((Below.refl w.heap.size w).alloc (Nat.le_refl _) _)
  obtain ⟨c0_0, c0_1, c0_2, q0, q1, q2⟩ : World.cell? (w.alloc (.cells #[.bool false, .slice none 0 0, .slice none 0 0] 27)) ⟨w.heap.size, 0, none⟩ = some (.bool false) ∧ World.cell? (w.alloc (.cells #[.bool false, .slice none 0 0, .slice none 0 0] 27)) ⟨w.heap.size, 1, none⟩ = some (.slice none 0 0) ∧ World.cell? (w.alloc (.cells #[.bool false, .slice none 0 0, .slice none 0 0] 27)) ⟨w.heap.size, 2, none⟩ = some (.slice none 0 0) ∧ World.frozen? (w.alloc (.cells #[.bool false, .slice none 0 0, .slice none 0 0] 27)) ⟨w.heap.size, 0, none⟩ = false ∧ World.frozen? (w.alloc (.cells #[.bool false, .slice none 0 0, .slice none 0 0] 27)) ⟨w.heap.size, 1, none⟩ = false ∧ World.frozen? (w.alloc (.cells #[.bool false, .slice none 0 0, .slice none 0 0] 27)) ⟨w.heap.size, 2, none⟩ = false := by simp [go_sem]
  have hg0 : w.heap.size < ((w.alloc (.cells #[.bool false, .slice none 0 0, .slice none 0 0] 27))).heap.size := World.block_lt_of_cell? _ _ c0_0
  have HT := Lib.hid (ht.below BW (Nat.le_refl _))
  have HS := Lib.hid (hs.below BW (Nat.le_refl _))
  clear ht hs
  have HANS := Lib.hid hA
  have HZ := Lib.hid hZ
  have HC := Lib.hid hC
  clear hA hZ hC
  go_enter Tryz.func8, Tryz.ntmps8
  go_wp2_with fail
  generalize (w.alloc (.cells #[.bool false, .slice none 0 0, .slice none 0 0] 27)) = w0 at *
  have B0 := Below.refl w0.heap.size w0
  refine (cutS_c _ s a b false hl HC HS.out).mono ?_
  rintro e w1 ⟨rfl, hb⟩
  replace q0 := keep_frozen (w1 := w1) hb c0_0 q0
  replace c0_0 := keep_cell (w1 := w1) hb c0_0
  replace q1 := keep_frozen (w1 := w1) hb c0_1 q1
  replace c0_1 := keep_cell (w1 := w1) hb c0_1
  replace q2 := keep_frozen (w1 := w1) hb c0_2 q2
  replace c0_2 := keep_cell (w1 := w1) hb c0_2
  replace HT := Lib.hid (HT.out.below hb (Nat.le_refl _))
  replace HS := Lib.hid (HS.out.below hb (Nat.le_refl _))
  replace B0 := B0.trans (hb.mono B0.size)
  clear hb
  go_wp2_with fail
  refine (ParseBigInt_h _ a hla g xs false HZ).mono ?_
  rintro e w2 ⟨vn, rfl, ho1, hb⟩
  replace q0 := keep_frozen (w1 := w2) hb c0_0 q0
  replace c0_0 := keep_cell (w1 := w2) hb c0_0
  replace q1 := keep_frozen (w1 := w2) hb c0_1 q1
  replace c0_1 := keep_cell (w1 := w2) hb c0_1
  replace q2 := keep_frozen (w1 := w2) hb c0_2 q2
  replace c0_2 := keep_cell (w1 := w2) hb c0_2
  replace HT := Lib.hid (HT.out.below hb (Nat.le_refl _))
  replace HS := Lib.hid (HS.out.below hb (Nat.le_refl _))
  have Hn := Lib.hid (ho1.mono B0.size)
  clear ho1
  obtain ⟨an, cn, rfl, -, -, -, -, -⟩ := Hn.out.form
  replace B0 := B0.trans (hb.mono B0.size)
  clear hb
  go_upto_region 7 with fail
  have hb := alloc_bel w2 (.cells #[.bool g, .slice an xs.length cn] 25)
  replace q0 := keep_frozen (w1 := _) hb c0_0 q0
  replace c0_0 := keep_cell (w1 := _) hb c0_0
  replace q1 := keep_frozen (w1 := _) hb c0_1 q1
  replace c0_1 := keep_cell (w1 := _) hb c0_1
  replace q2 := keep_frozen (w1 := _) hb c0_2 q2
  replace c0_2 := keep_cell (w1 := _) hb c0_2
  replace HT := Lib.hid (HT.out.below hb (Nat.le_refl _))
  replace HS := Lib.hid (HS.out.below hb (Nat.le_refl _))
  replace Hn := Lib.hid (Hn.out.below hb (Nat.le_refl _))
  obtain ⟨N_0, N_1⟩ : World.cell? (w2.alloc (.cells #[.bool g, .slice an xs.length cn] 25)) ⟨w2.heap.size, 0, none⟩ = some (.bool g) ∧ World.cell? (w2.alloc (.cells #[.bool g, .slice an xs.length cn] 25)) ⟨w2.heap.size, 1, none⟩ = some (.slice an xs.length cn) := by simp [go_sem]
  replace B0 := B0.trans (hb.mono B0.size)
  clear hb
  have ho1 := Own.lit1 (w2.alloc (.cells #[.bool g, .slice an xs.length cn] 25)) 1
  have hap := apart_new Hn.out (.inr rfl) ho1
  rw [show ((w2.alloc (.cells #[.bool g, .slice an xs.length cn] 25))).heap.size = w2.heap.size + 1 by simp] at ho1 hap
  have HAP := Lib.hid hap
  clear hap
  have hb := alloc_bel (w2.alloc (.cells #[.bool g, .slice an xs.length cn] 25)) (.cells #[.int .i64 1] 3)
  replace N_0 := keep_cell hb N_0
  replace N_1 := keep_cell hb N_1
  replace q0 := keep_frozen (w1 := _) hb c0_0 q0
  replace c0_0 := keep_cell (w1 := _) hb c0_0
  replace q1 := keep_frozen (w1 := _) hb c0_1 q1
  replace c0_1 := keep_cell (w1 := _) hb c0_1
  replace q2 := keep_frozen (w1 := _) hb c0_2 q2
  replace c0_2 := keep_cell (w1 := _) hb c0_2
  replace HT := Lib.hid (HT.out.below hb (Nat.le_refl _))
  replace HS := Lib.hid (HS.out.below hb (Nat.le_refl _))
  replace Hn := Lib.hid (Hn.out.below hb (Nat.le_refl _))
  have Hd := Lib.hid (ho1.mono (by have := B0.size; simp at this; omega))
  clear ho1
  replace B0 := B0.trans (hb.mono B0.size)
  clear hb
  have hb := alloc_bel ((w2.alloc (.cells #[.bool g, .slice an xs.length cn] 25)).alloc (.cells #[.int .i64 1] 3)) (.cells #[.bool g, .slice an xs.length cn, .slice (some ⟨w2.heap.size + 1, 0, none⟩) 1 1] 27)
  replace N_0 := keep_cell hb N_0
  replace N_1 := keep_cell hb N_1
  replace q0 := keep_frozen (w1 := _) hb c0_0 q0
  replace c0_0 := keep_cell (w1 := _) hb c0_0
  replace q1 := keep_frozen (w1 := _) hb c0_1 q1
  replace c0_1 := keep_cell (w1 := _) hb c0_1
  replace q2 := keep_frozen (w1 := _) hb c0_2 q2
  replace c0_2 := keep_cell (w1 := _) hb c0_2
  replace HT := Lib.hid (HT.out.below hb (Nat.le_refl _))
  replace HS := Lib.hid (HS.out.below hb (Nat.le_refl _))
  replace Hn := Lib.hid (Hn.out.below hb (Nat.le_refl _))
  replace Hd := Lib.hid (Hd.out.below hb (Nat.le_refl _))
  obtain ⟨R_0, R_1, R_2⟩ : World.cell? (((w2.alloc (.cells #[.bool g, .slice an xs.length cn] 25)).alloc (.cells #[.int .i64 1] 3)).alloc (.cells #[.bool g, .slice an xs.length cn, .slice (some ⟨w2.heap.size + 1, 0, none⟩) 1 1] 27)) ⟨w2.heap.size + 1 + 1, 0, none⟩ = some (.bool g) ∧ World.cell? (((w2.alloc (.cells #[.bool g, .slice an xs.length cn] 25)).alloc (.cells #[.int .i64 1] 3)).alloc (.cells #[.bool g, .slice an xs.length cn, .slice (some ⟨w2.heap.size + 1, 0, none⟩) 1 1] 27)) ⟨w2.heap.size + 1 + 1, 1, none⟩ = some (.slice an xs.length cn) ∧ World.cell? (((w2.alloc (.cells #[.bool g, .slice an xs.length cn] 25)).alloc (.cells #[.int .i64 1] 3)).alloc (.cells #[.bool g, .slice an xs.length cn, .slice (some ⟨w2.heap.size + 1, 0, none⟩) 1 1] 27)) ⟨w2.heap.size + 1 + 1, 2, none⟩ = some (.slice (some ⟨w2.heap.size + 1, 0, none⟩) 1 1) := by simp [go_sem]
  replace B0 := B0.trans (hb.mono B0.size)
  clear hb
  generalize (((w2.alloc (.cells #[.bool g, .slice an xs.length cn] 25)).alloc (.cells #[.int .i64 1] 3)).alloc (.cells #[.bool g, .slice an xs.length cn, .slice (some ⟨w2.heap.size + 1, 0, none⟩) 1 1] 27)) = w3 at *
  go_wp2
  exact bodyPost_ret (v := .tuple #[.agg #[.bool false, .slice none 0 0, .slice none 0 0], .bool false]) (by simp [results, Tryz.results8, go_sem, c0_0, c0_1, c0_2]) rfl (retRB_of HANS.out (retRB_end BW (by omega) hg0 B0 (Own.nil _ _) (Own.nil _ _) apart_nil))

set_option maxHeartbeats 2000000 in
set_option maxRecDepth 100000 in
theorem parseRat_o3 (w : World) (s : ByteArray) (hl : s.size ≤ 1048576) (ht : Tabs w) (hs : Shp w) (a b : ByteArray) (hla : a.size ≤ 1048576) (_hlb : b.size ≤ 1048576) (hC : Lib.cut s.data.toList [47] = (a.data.toList, b.data.toList, false)) (g : Bool) (xs : List Int) (hZ : AnsZ a g xs true) (hR : ¬ OkR g xs [1]) (hA : AnsR s false [] [] false) :
    Calls Tryz.prog 8 #[.string s] w (RetRB w (pRg s) (pRn s) (pRd s) (pRb s)) := by
  have BW : Below w.heap.size w (w.alloc (.cells #[.bool false, .slice none 0 0, .slice none 0 0] 27)) := ((Below.refl w.heap.size w).alloc (Nat.le_refl _) _)
  obtain ⟨c0_0, c0_1, c0_2, q0, q1, q2⟩ : World.cell? (w.alloc (.cells #[.bool false, .slice none 0 0, .slice none 0 0] 27)) ⟨w.heap.size, 0, none⟩ = some (.bool false) ∧ World.cell? (w.alloc (.cells #[.bool false, .slice none 0 0, .slice none 0 0] 27)) ⟨w.heap.size, 1, none⟩ = some (.slice none 0 0) ∧ World.cell? (w.alloc (.cells #[.bool false, .slice none 0 0, .slice none 0 0] 27)) ⟨w.heap.size, 2, none⟩ = some (.slice none 0 0) ∧ World.frozen? (w.alloc (.cells #[.bool false, .slice none 0 0, .slice none 0 0] 27)) ⟨w.heap.size, 0, none⟩ = false ∧ World.frozen? (w.alloc (.cells #[.bool false, .slice none 0 0, .slice none 0 0] 27)) ⟨w.heap.size, 1, none⟩ = false ∧ World.frozen? (w.alloc (.cells #[.bool false, .slice none 0 0, .slice none 0 0] 27)) ⟨w.heap.size, 2, none⟩ = false := by simp [go_sem]
  have hg0 : w.heap.size < ((w.alloc (.cells #[.bool false, .slice none 0 0, .slice none 0 0] 27))).heap.size := World.block_lt_of_cell? _ _ c0_0
  have HT := Lib.hid (ht.below BW (Nat.le_refl _))
  have HS := Lib.hid (hs.below BW (Nat.le_refl _))
  clear ht hs
  have HANS := Lib.hid hA
  have HZ := Lib.hid hZ
  have HC := Lib.hid hC
  have HR := Lib.hid hR
  clear hA hZ hC hR
  go_enter Tryz.func8, Tryz.ntmps8
  go_wp2_with fail
  generalize (w.alloc (.cells #[.bool false, .slice none 0 0, .slice none 0 0] 27)) = w0 at *
  have B0 := Below.refl w0.heap.size w0
  refine (cutS_c _ s a b false hl HC HS.out).mono ?_
  rintro e w1 ⟨rfl, hb⟩
  replace q0 := keep_frozen (w1 := w1) hb c0_0 q0
  replace c0_0 := keep_cell (w1 := w1) hb c0_0
  replace q1 := keep_frozen (w1 := w1) hb c0_1 q1
  replace c0_1 := keep_cell (w1 := w1) hb c0_1
  replace q2 := keep_frozen (w1 := w1) hb c0_2 q2
  replace c0_2 := keep_cell (w1 := w1) hb c0_2
  replace HT := Lib.hid (HT.out.below hb (Nat.le_refl _))
  replace HS := Lib.hid (HS.out.below hb (Nat.le_refl _))
  replace B0 := B0.trans (hb.mono B0.size)
  clear hb
  go_wp2_with fail
  refine (ParseBigInt_h _ a hla g xs true HZ).mono ?_
  rintro e w2 ⟨vn, rfl, ho1, hb⟩
  replace q0 := keep_frozen (w1 := w2) hb c0_0 q0
  replace c0_0 := keep_cell (w1 := w2) hb c0_0
  replace q1 := keep_frozen (w1 := w2) hb c0_1 q1
  replace c0_1 := keep_cell (w1 := w2) hb c0_1
  replace q2 := keep_frozen (w1 := w2) hb c0_2 q2
  replace c0_2 := keep_cell (w1 := w2) hb c0_2
  replace HT := Lib.hid (HT.out.below hb (Nat.le_refl _))
  replace HS := Lib.hid (HS.out.below hb (Nat.le_refl _))
  have Hn := Lib.hid (ho1.mono B0.size)
  clear ho1
  obtain ⟨an, cn, rfl, -, -, -, -, -⟩ := Hn.out.form
  replace B0 := B0.trans (hb.mono B0.size)
  clear hb
  go_upto_region 7 with fail
  have hb := alloc_bel w2 (.cells #[.bool g, .slice an xs.length cn] 25)
  replace q0 := keep_frozen (w1 := _) hb c0_0 q0
  replace c0_0 := keep_cell (w1 := _) hb c0_0
  replace q1 := keep_frozen (w1 := _) hb c0_1 q1
  replace c0_1 := keep_cell (w1 := _) hb c0_1
  replace q2 := keep_frozen (w1 := _) hb c0_2 q2
  replace c0_2 := keep_cell (w1 := _) hb c0_2
  replace HT := Lib.hid (HT.out.below hb (Nat.le_refl _))
  replace HS := Lib.hid (HS.out.below hb (Nat.le_refl _))
  replace Hn := Lib.hid (Hn.out.below hb (Nat.le_refl _))
  obtain ⟨N_0, N_1⟩ : World.cell? (w2.alloc (.cells #[.bool g, .slice an xs.length cn] 25)) ⟨w2.heap.size, 0, none⟩ = some (.bool g) ∧ World.cell? (w2.alloc (.cells #[.bool g, .slice an xs.length cn] 25)) ⟨w2.heap.size, 1, none⟩ = some (.slice an xs.length cn) := by simp [go_sem]
  replace B0 := B0.trans (hb.mono B0.size)
  clear hb
  have ho1 := Own.lit1 (w2.alloc (.cells #[.bool g, .slice an xs.length cn] 25)) 1
  have hap := apart_new Hn.out (.inr rfl) ho1
  rw [show ((w2.alloc (.cells #[.bool g, .slice an xs.length cn] 25))).heap.size = w2.heap.size + 1 by simp] at ho1 hap
  have HAP := Lib.hid hap
  clear hap
  have hb := alloc_bel (w2.alloc (.cells #[.bool g, .slice an xs.length cn] 25)) (.cells #[.int .i64 1] 3)
  replace N_0 := keep_cell hb N_0
  replace N_1 := keep_cell hb N_1
  replace q0 := keep_frozen (w1 := _) hb c0_0 q0
  replace c0_0 := keep_cell (w1 := _) hb c0_0
  replace q1 := keep_frozen (w1 := _) hb c0_1 q1
  replace c0_1 := keep_cell (w1 := _) hb c0_1
  replace q2 := keep_frozen (w1 := _) hb c0_2 q2
  replace c0_2 := keep_cell (w1 := _) hb c0_2
  replace HT := Lib.hid (HT.out.below hb (Nat.le_refl _))
  replace HS := Lib.hid (HS.out.below hb (Nat.le_refl _))
  replace Hn := Lib.hid (Hn.out.below hb (Nat.le_refl _))
  have Hd := Lib.hid (ho1.mono (by have := B0.size; simp at this; omega))
  clear ho1
  replace B0 := B0.trans (hb.mono B0.size)
  clear hb
  have hb := alloc_bel ((w2.alloc (.cells #[.bool g, .slice an xs.length cn] 25)).alloc (.cells #[.int .i64 1] 3)) (.cells #[.bool g, .slice an xs.length cn, .slice (some ⟨w2.heap.size + 1, 0, none⟩) 1 1] 27)
  replace N_0 := keep_cell hb N_0
  replace N_1 := keep_cell hb N_1
  replace q0 := keep_frozen (w1 := _) hb c0_0 q0
  replace c0_0 := keep_cell (w1 := _) hb c0_0
  replace q1 := keep_frozen (w1 := _) hb c0_1 q1
  replace c0_1 := keep_cell (w1 := _) hb c0_1
  replace q2 := keep_frozen (w1 := _) hb c0_2 q2
  replace c0_2 := keep_cell (w1 := _) hb c0_2
  replace HT := Lib.hid (HT.out.below hb (Nat.le_refl _))
  replace HS := Lib.hid (HS.out.below hb (Nat.le_refl _))
  replace Hn := Lib.hid (Hn.out.below hb (Nat.le_refl _))
  replace Hd := Lib.hid (Hd.out.below hb (Nat.le_refl _))
  obtain ⟨R_0, R_1, R_2⟩ : World.cell? (((w2.alloc (.cells #[.bool g, .slice an xs.length cn] 25)).alloc (.cells #[.int .i64 1] 3)).alloc (.cells #[.bool g, .slice an xs.length cn, .slice (some ⟨w2.heap.size + 1, 0, none⟩) 1 1] 27)) ⟨w2.heap.size + 1 + 1, 0, none⟩ = some (.bool g) ∧ World.cell? (((w2.alloc (.cells #[.bool g, .slice an xs.length cn] 25)).alloc (.cells #[.int .i64 1] 3)).alloc (.cells #[.bool g, .slice an xs.length cn, .slice (some ⟨w2.heap.size + 1, 0, none⟩) 1 1] 27)) ⟨w2.heap.size + 1 + 1, 1, none⟩ = some (.slice an xs.length cn) ∧ World.cell? (((w2.alloc (.cells #[.bool g, .slice an xs.length cn] 25)).alloc (.cells #[.int .i64 1] 3)).alloc (.cells #[.bool g, .slice an xs.length cn, .slice (some ⟨w2.heap.size + 1, 0, none⟩) 1 1] 27)) ⟨w2.heap.size + 1 + 1, 2, none⟩ = some (.slice (some ⟨w2.heap.size + 1, 0, none⟩) 1 1) := by simp [go_sem]
  replace B0 := B0.trans (hb.mono B0.size)
  clear hb
  generalize (((w2.alloc (.cells #[.bool g, .slice an xs.length cn] 25)).alloc (.cells #[.int .i64 1] 3)).alloc (.cells #[.bool g, .slice an xs.length cn, .slice (some ⟨w2.heap.size + 1, 0, none⟩) 1 1] 27)) = w3 at *
  go_wp2_with fail
  refine (ratOk_f _ _ _ _ _ _ _ _ Hn.out Hd.out HR.out).mono ?_
  rintro e w4 ⟨rfl, hb⟩
  replace N_0 := keep_cell hb N_0
  replace N_1 := keep_cell hb N_1
  replace R_0 := keep_cell hb R_0
  replace R_1 := keep_cell hb R_1
  replace R_2 := keep_cell hb R_2
  replace q0 := keep_frozen (w1 := w4) hb c0_0 q0
  replace c0_0 := keep_cell (w1 := w4) hb c0_0
  replace q1 := keep_frozen (w1 := w4) hb c0_1 q1
  replace c0_1 := keep_cell (w1 := w4) hb c0_1
  replace q2 := keep_frozen (w1 := w4) hb c0_2 q2
  replace c0_2 := keep_cell (w1 := w4) hb c0_2
  replace HT := Lib.hid (HT.out.below hb (Nat.le_refl _))
  replace HS := Lib.hid (HS.out.below hb (Nat.le_refl _))
  replace Hn := Lib.hid (Hn.out.below hb (Nat.le_refl _))
  replace Hd := Lib.hid (Hd.out.below hb (Nat.le_refl _))
  replace B0 := B0.trans (hb.mono B0.size)
  clear hb
  go_wp2
  exact bodyPost_ret (v := .tuple #[.agg #[.bool false, .slice none 0 0, .slice none 0 0], .bool false]) (by simp [results, Tryz.results8, go_sem, c0_0, c0_1, c0_2]) rfl (retRB_of HANS.out (retRB_end BW (by omega) hg0 B0 (Own.nil _ _) (Own.nil _ _) apart_nil))

set_option maxHeartbeats 2000000 in
set_option maxRecDepth 100000 in
theorem parseRat_o4 (w : World) (s : ByteArray) (hl : s.size ≤ 1048576) (ht : Tabs w) (hs : Shp w) (a b : ByteArray) (hla : a.size ≤ 1048576) (_hlb : b.size ≤ 1048576) (hC : Lib.cut s.data.toList [47] = (a.data.toList, b.data.toList, false)) (g : Bool) (xs : List Int) (hZ : AnsZ a g xs true) (hR : OkR g xs [1]) (t : ByteArray) (hT : t = bs (fmtR g xs [1])) (hne : t ≠ s) (hA : AnsR s false [] [] false) :
    Calls Tryz.prog 8 #[.string s] w (RetRB w (pRg s) (pRn s) (pRd s) (pRb s)) := by
  have BW : Below w.heap.size w (w.alloc (.cells #[.bool false, .slice none 0 0, .slice none 0 0] 27)) := ((Below.refl w.heap.size w).alloc (Nat.le_refl _) _)
  obtain ⟨c0_0, c0_1, c0_2, q0, q1, q2⟩ : World.cell? (w.alloc (.cells #[.bool false, .slice none 0 0, .slice none 0 0] 27)) ⟨w.heap.size, 0, none⟩ = some (.bool false) ∧ World.cell? (w.alloc (.cells #[.bool false, .slice none 0 0, .slice none 0 0] 27)) ⟨w.heap.size, 1, none⟩ = some (.slice none 0 0) ∧ World.cell? (w.alloc (.cells #[.bool false, .slice none 0 0, .slice none 0 0] 27)) ⟨w.heap.size, 2, none⟩ = some (.slice none 0 0) ∧ World.frozen? (w.alloc (.cells #[.bool false, .slice none 0 0, .slice none 0 0] 27)) ⟨w.heap.size, 0, none⟩ = false ∧ World.frozen? (w.alloc (.cells #[.bool false, .slice none 0 0, .slice none 0 0] 27)) ⟨w.heap.size, 1, none⟩ = false ∧ World.frozen? (w.alloc (.cells #[.bool false, .slice none 0 0, .slice none 0 0] 27)) ⟨w.heap.size, 2, none⟩ = false := by simp [go_sem]
  have hg0 : w.heap.size < ((w.alloc (.cells #[.bool false, .slice none 0 0, .slice none 0 0] 27))).heap.size := World.block_lt_of_cell? _ _ c0_0
  have HT := Lib.hid (ht.below BW (Nat.le_refl _))
  have HS := Lib.hid (hs.below BW (Nat.le_refl _))
  clear ht hs
  have HANS := Lib.hid hA
  have HZ := Lib.hid hZ
  have HC := Lib.hid hC
  have HR := Lib.hid hR
  have HT2 := Lib.hid hT
  have dq : (t.toList == s.toList) = false := strq_false hne
  clear hA hZ hC hR hne hT
  go_enter Tryz.func8, Tryz.ntmps8
  go_wp2_with fail
  generalize (w.alloc (.cells #[.bool false, .slice none 0 0, .slice none 0 0] 27)) = w0 at *
  have B0 := Below.refl w0.heap.size w0
  refine (cutS_c _ s a b false hl HC HS.out).mono ?_
  rintro e w1 ⟨rfl, hb⟩
  replace q0 := keep_frozen (w1 := w1) hb c0_0 q0
  replace c0_0 := keep_cell (w1 := w1) hb c0_0
  replace q1 := keep_frozen (w1 := w1) hb c0_1 q1
  replace c0_1 := keep_cell (w1 := w1) hb c0_1
  replace q2 := keep_frozen (w1 := w1) hb c0_2 q2
  replace c0_2 := keep_cell (w1 := w1) hb c0_2
  replace HT := Lib.hid (HT.out.below hb (Nat.le_refl _))
  replace HS := Lib.hid (HS.out.below hb (Nat.le_refl _))
  replace B0 := B0.trans (hb.mono B0.size)
  clear hb
  go_wp2_with fail
  refine (ParseBigInt_h _ a hla g xs true HZ).mono ?_
  rintro e w2 ⟨vn, rfl, ho1, hb⟩
  replace q0 := keep_frozen (w1 := w2) hb c0_0 q0
  replace c0_0 := keep_cell (w1 := w2) hb c0_0
  replace q1 := keep_frozen (w1 := w2) hb c0_1 q1
  replace c0_1 := keep_cell (w1 := w2) hb c0_1
  replace q2 := keep_frozen (w1 := w2) hb c0_2 q2
  replace c0_2 := keep_cell (w1 := w2) hb c0_2
  replace HT := Lib.hid (HT.out.below hb (Nat.le_refl _))
  replace HS := Lib.hid (HS.out.below hb (Nat.le_refl _))
  have Hn := Lib.hid (ho1.mono B0.size)
  clear ho1
  obtain ⟨an, cn, rfl, -, -, -, -, -⟩ := Hn.out.form
  replace B0 := B0.trans (hb.mono B0.size)
  clear hb
  go_upto_region 7 with fail
  have hb := alloc_bel w2 (.cells #[.bool g, .slice an xs.length cn] 25)
  replace q0 := keep_frozen (w1 := _) hb c0_0 q0
  replace c0_0 := keep_cell (w1 := _) hb c0_0
  replace q1 := keep_frozen (w1 := _) hb c0_1 q1
  replace c0_1 := keep_cell (w1 := _) hb c0_1
  replace q2 := keep_frozen (w1 := _) hb c0_2 q2
  replace c0_2 := keep_cell (w1 := _) hb c0_2
  replace HT := Lib.hid (HT.out.below hb (Nat.le_refl _))
  replace HS := Lib.hid (HS.out.below hb (Nat.le_refl _))
  replace Hn := Lib.hid (Hn.out.below hb (Nat.le_refl _))
  obtain ⟨N_0, N_1⟩ : World.cell? (w2.alloc (.cells #[.bool g, .slice an xs.length cn] 25)) ⟨w2.heap.size, 0, none⟩ = some (.bool g) ∧ World.cell? (w2.alloc (.cells #[.bool g, .slice an xs.length cn] 25)) ⟨w2.heap.size, 1, none⟩ = some (.slice an xs.length cn) := by simp [go_sem]
  replace B0 := B0.trans (hb.mono B0.size)
  clear hb
  have ho1 := Own.lit1 (w2.alloc (.cells #[.bool g, .slice an xs.length cn] 25)) 1
  have hap := apart_new Hn.out (.inr rfl) ho1
  rw [show ((w2.alloc (.cells #[.bool g, .slice an xs.length cn] 25))).heap.size = w2.heap.size + 1 by simp] at ho1 hap
  have HAP := Lib.hid hap
  clear hap
  have hb := alloc_bel (w2.alloc (.cells #[.bool g, .slice an xs.length cn] 25)) (.cells #[.int .i64 1] 3)
  replace N_0 := keep_cell hb N_0
  replace N_1 := keep_cell hb N_1
  replace q0 := keep_frozen (w1 := _) hb c0_0 q0
  replace c0_0 := keep_cell (w1 := _) hb c0_0
  replace q1 := keep_frozen (w1 := _) hb c0_1 q1
  replace c0_1 := keep_cell (w1 := _) hb c0_1
  replace q2 := keep_frozen (w1 := _) hb c0_2 q2
  replace c0_2 := keep_cell (w1 := _) hb c0_2
  replace HT := Lib.hid (HT.out.below hb (Nat.le_refl _))
  replace HS := Lib.hid (HS.out.below hb (Nat.le_refl _))
  replace Hn := Lib.hid (Hn.out.below hb (Nat.le_refl _))
  have Hd := Lib.hid (ho1.mono (by have := B0.size; simp at this; omega))
  clear ho1
  replace B0 := B0.trans (hb.mono B0.size)
  clear hb
  have hb := alloc_bel ((w2.alloc (.cells #[.bool g, .slice an xs.length cn] 25)).alloc (.cells #[.int .i64 1] 3)) (.cells #[.bool g, .slice an xs.length cn, .slice (some ⟨w2.heap.size + 1, 0, none⟩) 1 1] 27)
  replace N_0 := keep_cell hb N_0
  replace N_1 := keep_cell hb N_1
  replace q0 := keep_frozen (w1 := _) hb c0_0 q0
  replace c0_0 := keep_cell (w1 := _) hb c0_0
  replace q1 := keep_frozen (w1 := _) hb c0_1 q1
  replace c0_1 := keep_cell (w1 := _) hb c0_1
  replace q2 := keep_frozen (w1 := _) hb c0_2 q2
  replace c0_2 := keep_cell (w1 := _) hb c0_2
  replace HT := Lib.hid (HT.out.below hb (Nat.le_refl _))
  replace HS := Lib.hid (HS.out.below hb (Nat.le_refl _))
  replace Hn := Lib.hid (Hn.out.below hb (Nat.le_refl _))
  replace Hd := Lib.hid (Hd.out.below hb (Nat.le_refl _))
  obtain ⟨R_0, R_1, R_2⟩ : World.cell? (((w2.alloc (.cells #[.bool g, .slice an xs.length cn] 25)).alloc (.cells #[.int .i64 1] 3)).alloc (.cells #[.bool g, .slice an xs.length cn, .slice (some ⟨w2.heap.size + 1, 0, none⟩) 1 1] 27)) ⟨w2.heap.size + 1 + 1, 0, none⟩ = some (.bool g) ∧ World.cell? (((w2.alloc (.cells #[.bool g, .slice an xs.length cn] 25)).alloc (.cells #[.int .i64 1] 3)).alloc (.cells #[.bool g, .slice an xs.length cn, .slice (some ⟨w2.heap.size + 1, 0, none⟩) 1 1] 27)) ⟨w2.heap.size + 1 + 1, 1, none⟩ = some (.slice an xs.length cn) ∧ World.cell? (((w2.alloc (.cells #[.bool g, .slice an xs.length cn] 25)).alloc (.cells #[.int .i64 1] 3)).alloc (.cells #[.bool g, .slice an xs.length cn, .slice (some ⟨w2.heap.size + 1, 0, none⟩) 1 1] 27)) ⟨w2.heap.size + 1 + 1, 2, none⟩ = some (.slice (some ⟨w2.heap.size + 1, 0, none⟩) 1 1) := by simp [go_sem]
  replace B0 := B0.trans (hb.mono B0.size)
  clear hb
  generalize (((w2.alloc (.cells #[.bool g, .slice an xs.length cn] 25)).alloc (.cells #[.int .i64 1] 3)).alloc (.cells #[.bool g, .slice an xs.length cn, .slice (some ⟨w2.heap.size + 1, 0, none⟩) 1 1] 27)) = w3 at *
  go_wp2_with fail
  refine (ratOk_t _ _ _ _ _ _ _ _ Hn.out Hd.out HR.out).mono ?_
  rintro e w4 ⟨rfl, hb⟩
  replace N_0 := keep_cell hb N_0
  replace N_1 := keep_cell hb N_1
  replace R_0 := keep_cell hb R_0
  replace R_1 := keep_cell hb R_1
  replace R_2 := keep_cell hb R_2
  replace q0 := keep_frozen (w1 := w4) hb c0_0 q0
  replace c0_0 := keep_cell (w1 := w4) hb c0_0
  replace q1 := keep_frozen (w1 := w4) hb c0_1 q1
  replace c0_1 := keep_cell (w1 := w4) hb c0_1
  replace q2 := keep_frozen (w1 := w4) hb c0_2 q2
  replace c0_2 := keep_cell (w1 := w4) hb c0_2
  replace HT := Lib.hid (HT.out.below hb (Nat.le_refl _))
  replace HS := Lib.hid (HS.out.below hb (Nat.le_refl _))
  replace Hn := Lib.hid (Hn.out.below hb (Nat.le_refl _))
  replace Hd := Lib.hid (Hd.out.below hb (Nat.le_refl _))
  replace B0 := B0.trans (hb.mono B0.size)
  clear hb
  go_wp2_with fail
  refine (formatRat_c _ _ _ _ _ _ xs [1] Hn.out Hd.out HR.out.1.1 HR.out.2.1 HT.out t HT2).mono ?_
  rintro e w5 ⟨rfl, hb⟩
  replace N_0 := keep_cell hb N_0
  replace N_1 := keep_cell hb N_1
  replace R_0 := keep_cell hb R_0
  replace R_1 := keep_cell hb R_1
  replace R_2 := keep_cell hb R_2
  replace q0 := keep_frozen (w1 := w5) hb c0_0 q0
  replace c0_0 := keep_cell (w1 := w5) hb c0_0
  replace q1 := keep_frozen (w1 := w5) hb c0_1 q1
  replace c0_1 := keep_cell (w1 := w5) hb c0_1
  replace q2 := keep_frozen (w1 := w5) hb c0_2 q2
  replace c0_2 := keep_cell (w1 := w5) hb c0_2
  replace HT := Lib.hid (HT.out.below hb (Nat.le_refl _))
  replace HS := Lib.hid (HS.out.below hb (Nat.le_refl _))
  replace Hn := Lib.hid (Hn.out.below hb (Nat.le_refl _))
  replace Hd := Lib.hid (Hd.out.below hb (Nat.le_refl _))
  replace B0 := B0.trans (hb.mono B0.size)
  clear hb
  go_wp2
  exact bodyPost_ret (v := .tuple #[.agg #[.bool false, .slice none 0 0, .slice none 0 0], .bool false]) (by simp [results, Tryz.results8, go_sem, c0_0, c0_1, c0_2]) rfl (retRB_of HANS.out (retRB_end BW (by omega) hg0 B0 (Own.nil _ _) (Own.nil _ _) apart_nil))

set_option maxHeartbeats 2000000 in
set_option maxRecDepth 100000 in
theorem parseRat_o5 (w : World) (s : ByteArray) (hl : s.size ≤ 1048576) (ht : Tabs w) (hs : Shp w) (a b : ByteArray) (hla : a.size ≤ 1048576) (_hlb : b.size ≤ 1048576) (hC : Lib.cut s.data.toList [47] = (a.data.toList, b.data.toList, false)) (g : Bool) (xs : List Int) (hZ : AnsZ a g xs true) (hR : OkR g xs [1]) (t : ByteArray) (hT : t = bs (fmtR g xs [1])) (he : t = s) (hA : AnsR s g xs [1] true) :
    Calls Tryz.prog 8 #[.string s] w (RetRB w (pRg s) (pRn s) (pRd s) (pRb s)) := by
  have BW : Below w.heap.size w (w.alloc (.cells #[.bool false, .slice none 0 0, .slice none 0 0] 27)) := ((Below.refl w.heap.size w).alloc (Nat.le_refl _) _)
  obtain ⟨c0_0, c0_1, c0_2, q0, q1, q2⟩ : World.cell? (w.alloc (.cells #[.bool false, .slice none 0 0, .slice none 0 0] 27)) ⟨w.heap.size, 0, none⟩ = some (.bool false) ∧ World.cell? (w.alloc (.cells #[.bool false, .slice none 0 0, .slice none 0 0] 27)) ⟨w.heap.size, 1, none⟩ = some (.slice none 0 0) ∧ World.cell? (w.alloc (.cells #[.bool false, .slice none 0 0, .slice none 0 0] 27)) ⟨w.heap.size, 2, none⟩ = some (.slice none 0 0) ∧ World.frozen? (w.alloc (.cells #[.bool false, .slice none 0 0, .slice none 0 0] 27)) ⟨w.heap.size, 0, none⟩ = false ∧ World.frozen? (w.alloc (.cells #[.bool false, .slice none 0 0, .slice none 0 0] 27)) ⟨w.heap.size, 1, none⟩ = false ∧ World.frozen? (w.alloc (.cells #[.bool false, .slice none 0 0, .slice none 0 0] 27)) ⟨w.heap.size, 2, none⟩ = false := by simp [go_sem]
  have hg0 : w.heap.size < ((w.alloc (.cells #[.bool false, .slice none 0 0, .slice none 0 0] 27))).heap.size := World.block_lt_of_cell? _ _ c0_0
  have HT := Lib.hid (ht.below BW (Nat.le_refl _))
  have HS := Lib.hid (hs.below BW (Nat.le_refl _))
  clear ht hs
  have HANS := Lib.hid hA
  have HZ := Lib.hid hZ
  have HC := Lib.hid hC
  have HR := Lib.hid hR
  have HT2 := Lib.hid hT
  clear hA hZ hC hR hT
  subst he
  go_enter Tryz.func8, Tryz.ntmps8
  go_wp2_with fail
  generalize (w.alloc (.cells #[.bool false, .slice none 0 0, .slice none 0 0] 27)) = w0 at *
  have B0 := Below.refl w0.heap.size w0
  refine (cutS_c _ t a b false hl HC HS.out).mono ?_
  rintro e w1 ⟨rfl, hb⟩
  replace q0 := keep_frozen (w1 := w1) hb c0_0 q0
  replace c0_0 := keep_cell (w1 := w1) hb c0_0
  replace q1 := keep_frozen (w1 := w1) hb c0_1 q1
  replace c0_1 := keep_cell (w1 := w1) hb c0_1
  replace q2 := keep_frozen (w1 := w1) hb c0_2 q2
  replace c0_2 := keep_cell (w1 := w1) hb c0_2
  replace HT := Lib.hid (HT.out.below hb (Nat.le_refl _))
  replace HS := Lib.hid (HS.out.below hb (Nat.le_refl _))
  replace B0 := B0.trans (hb.mono B0.size)
  clear hb
  go_wp2_with fail
  refine (ParseBigInt_h _ a hla g xs true HZ).mono ?_
  rintro e w2 ⟨vn, rfl, ho1, hb⟩
  replace q0 := keep_frozen (w1 := w2) hb c0_0 q0
  replace c0_0 := keep_cell (w1 := w2) hb c0_0
  replace q1 := keep_frozen (w1 := w2) hb c0_1 q1
  replace c0_1 := keep_cell (w1 := w2) hb c0_1
  replace q2 := keep_frozen (w1 := w2) hb c0_2 q2
  replace c0_2 := keep_cell (w1 := w2) hb c0_2
  replace HT := Lib.hid (HT.out.below hb (Nat.le_refl _))
  replace HS := Lib.hid (HS.out.below hb (Nat.le_refl _))
  have Hn := Lib.hid (ho1.mono B0.size)
  clear ho1
  obtain ⟨an, cn, rfl, -, -, -, -, -⟩ := Hn.out.form
  replace B0 := B0.trans (hb.mono B0.size)
  clear hb
  go_upto_region 7 with fail
  have hb := alloc_bel w2 (.cells #[.bool g, .slice an xs.length cn] 25)
  replace q0 := keep_frozen (w1 := _) hb c0_0 q0
  replace c0_0 := keep_cell (w1 := _) hb c0_0
  replace q1 := keep_frozen (w1 := _) hb c0_1 q1
  replace c0_1 := keep_cell (w1 := _) hb c0_1
  replace q2 := keep_frozen (w1 := _) hb c0_2 q2
  replace c0_2 := keep_cell (w1 := _) hb c0_2
  replace HT := Lib.hid (HT.out.below hb (Nat.le_refl _))
  replace HS := Lib.hid (HS.out.below hb (Nat.le_refl _))
  replace Hn := Lib.hid (Hn.out.below hb (Nat.le_refl _))
  obtain ⟨N_0, N_1⟩ : World.cell? (w2.alloc (.cells #[.bool g, .slice an xs.length cn] 25)) ⟨w2.heap.size, 0, none⟩ = some (.bool g) ∧ World.cell? (w2.alloc (.cells #[.bool g, .slice an xs.length cn] 25)) ⟨w2.heap.size, 1, none⟩ = some (.slice an xs.length cn) := by simp [go_sem]
  replace B0 := B0.trans (hb.mono B0.size)
  clear hb
  have ho1 := Own.lit1 (w2.alloc (.cells #[.bool g, .slice an xs.length cn] 25)) 1
  have hap := apart_new Hn.out (.inr rfl) ho1
  rw [show ((w2.alloc (.cells #[.bool g, .slice an xs.length cn] 25))).heap.size = w2.heap.size + 1 by simp] at ho1 hap
  have HAP := Lib.hid hap
  clear hap
  have hb := alloc_bel (w2.alloc (.cells #[.bool g, .slice an xs.length cn] 25)) (.cells #[.int .i64 1] 3)
  replace N_0 := keep_cell hb N_0
  replace N_1 := keep_cell hb N_1
  replace q0 := keep_frozen (w1 := _) hb c0_0 q0
  replace c0_0 := keep_cell (w1 := _) hb c0_0
  replace q1 := keep_frozen (w1 := _) hb c0_1 q1
  replace c0_1 := keep_cell (w1 := _) hb c0_1
  replace q2 := keep_frozen (w1 := _) hb c0_2 q2
  replace c0_2 := keep_cell (w1 := _) hb c0_2
  replace HT := Lib.hid (HT.out.below hb (Nat.le_refl _))
  replace HS := Lib.hid (HS.out.below hb (Nat.le_refl _))
  replace Hn := Lib.hid (Hn.out.below hb (Nat.le_refl _))
  have Hd := Lib.hid (ho1.mono (by have := B0.size; simp at this; omega))
  clear ho1
  replace B0 := B0.trans (hb.mono B0.size)
  clear hb
  have hb := alloc_bel ((w2.alloc (.cells #[.bool g, .slice an xs.length cn] 25)).alloc (.cells #[.int .i64 1] 3)) (.cells #[.bool g, .slice an xs.length cn, .slice (some ⟨w2.heap.size + 1, 0, none⟩) 1 1] 27)
  replace N_0 := keep_cell hb N_0
  replace N_1 := keep_cell hb N_1
  replace q0 := keep_frozen (w1 := _) hb c0_0 q0
  replace c0_0 := keep_cell (w1 := _) hb c0_0
  replace q1 := keep_frozen (w1 := _) hb c0_1 q1
  replace c0_1 := keep_cell (w1 := _) hb c0_1
  replace q2 := keep_frozen (w1 := _) hb c0_2 q2
  replace c0_2 := keep_cell (w1 := _) hb c0_2
  replace HT := Lib.hid (HT.out.below hb (Nat.le_refl _))
  replace HS := Lib.hid (HS.out.below hb (Nat.le_refl _))
  replace Hn := Lib.hid (Hn.out.below hb (Nat.le_refl _))
  replace Hd := Lib.hid (Hd.out.below hb (Nat.le_refl _))
  obtain ⟨R_0, R_1, R_2⟩ : World.cell? (((w2.alloc (.cells #[.bool g, .slice an xs.length cn] 25)).alloc (.cells #[.int .i64 1] 3)).alloc (.cells #[.bool g, .slice an xs.length cn, .slice (some ⟨w2.heap.size + 1, 0, none⟩) 1 1] 27)) ⟨w2.heap.size + 1 + 1, 0, none⟩ = some (.bool g) ∧ World.cell? (((w2.alloc (.cells #[.bool g, .slice an xs.length cn] 25)).alloc (.cells #[.int .i64 1] 3)).alloc (.cells #[.bool g, .slice an xs.length cn, .slice (some ⟨w2.heap.size + 1, 0, none⟩) 1 1] 27)) ⟨w2.heap.size + 1 + 1, 1, none⟩ = some (.slice an xs.length cn) ∧ World.cell? (((w2.alloc (.cells #[.bool g, .slice an xs.length cn] 25)).alloc (.cells #[.int .i64 1] 3)).alloc (.cells #[.bool g, .slice an xs.length cn, .slice (some ⟨w2.heap.size + 1, 0, none⟩) 1 1] 27)) ⟨w2.heap.size + 1 + 1, 2, none⟩ = some (.slice (some ⟨w2.heap.size + 1, 0, none⟩) 1 1) := by simp [go_sem]
  replace B0 := B0.trans (hb.mono B0.size)
  clear hb
  generalize (((w2.alloc (.cells #[.bool g, .slice an xs.length cn] 25)).alloc (.cells #[.int .i64 1] 3)).alloc (.cells #[.bool g, .slice an xs.length cn, .slice (some ⟨w2.heap.size + 1, 0, none⟩) 1 1] 27)) = w3 at *
  go_wp2_with fail
  refine (ratOk_t _ _ _ _ _ _ _ _ Hn.out Hd.out HR.out).mono ?_
  rintro e w4 ⟨rfl, hb⟩
  replace N_0 := keep_cell hb N_0
  replace N_1 := keep_cell hb N_1
  replace R_0 := keep_cell hb R_0
  replace R_1 := keep_cell hb R_1
  replace R_2 := keep_cell hb R_2
  replace q0 := keep_frozen (w1 := w4) hb c0_0 q0
  replace c0_0 := keep_cell (w1 := w4) hb c0_0
  replace q1 := keep_frozen (w1 := w4) hb c0_1 q1
  replace c0_1 := keep_cell (w1 := w4) hb c0_1
  replace q2 := keep_frozen (w1 := w4) hb c0_2 q2
  replace c0_2 := keep_cell (w1 := w4) hb c0_2
  replace HT := Lib.hid (HT.out.below hb (Nat.le_refl _))
  replace HS := Lib.hid (HS.out.below hb (Nat.le_refl _))
  replace Hn := Lib.hid (Hn.out.below hb (Nat.le_refl _))
  replace Hd := Lib.hid (Hd.out.below hb (Nat.le_refl _))
  replace B0 := B0.trans (hb.mono B0.size)
  clear hb
  go_wp2_with fail
  refine (formatRat_c _ _ _ _ _ _ xs [1] Hn.out Hd.out HR.out.1.1 HR.out.2.1 HT.out t HT2).mono ?_
  rintro e w5 ⟨rfl, hb⟩
  replace N_0 := keep_cell hb N_0
  replace N_1 := keep_cell hb N_1
  replace R_0 := keep_cell hb R_0
  replace R_1 := keep_cell hb R_1
  replace R_2 := keep_cell hb R_2
  replace q0 := keep_frozen (w1 := w5) hb c0_0 q0
  replace c0_0 := keep_cell (w1 := w5) hb c0_0
  replace q1 := keep_frozen (w1 := w5) hb c0_1 q1
  replace c0_1 := keep_cell (w1 := w5) hb c0_1
  replace q2 := keep_frozen (w1 := w5) hb c0_2 q2
  replace c0_2 := keep_cell (w1 := w5) hb c0_2
  replace HT := Lib.hid (HT.out.below hb (Nat.le_refl _))
  replace HS := Lib.hid (HS.out.below hb (Nat.le_refl _))
  replace Hn := Lib.hid (Hn.out.below hb (Nat.le_refl _))
  replace Hd := Lib.hid (Hd.out.below hb (Nat.le_refl _))
  replace B0 := B0.trans (hb.mono B0.size)
  clear hb
  go_wp2
  exact bodyPost_ret (v := .tuple #[.agg #[.bool g, .slice an xs.length cn, .slice (some ⟨w2.heap.size + 1, 0, none⟩) 1 1], .bool true]) (by simp [results, Tryz.results8, go_sem, c0_0, c0_1, c0_2]) rfl (retRB_of HANS.out (retRB_end BW (by omega) hg0 B0 Hn.out Hd.out HAP.out))

set_option maxHeartbeats 2000000 in
set_option maxRecDepth 100000 in
theorem parseRat_m1 (w : World) (s : ByteArray) (hl : s.size ≤ 1048576) (ht : Tabs w) (hs : Shp w) (a b : ByteArray) (hla : a.size ≤ 1048576) (hlb : b.size ≤ 1048576) (hC : Lib.cut s.data.toList [47] = (a.data.toList, b.data.toList, true)) (g : Bool) (xs : List Int) (hZ : AnsZ a g xs false) (ys : List Int) (two : Bool) (hx : ys = pNs b) (hok : two = pNb b) (hA : AnsR s false [] [] false) :
    Calls Tryz.prog 8 #[.string s] w (RetRB w (pRg s) (pRn s) (pRd s) (pRb s)) := by
  have BW : Below w.heap.size w (w.alloc (.cells #[.bool false, .slice none 0 0, .slice none 0 0] 27)) := ((Below.refl w.heap.size w).alloc (Nat.le_refl _) _)
  obtain ⟨c0_0, c0_1, c0_2, q0, q1, q2⟩ : World.cell? (w.alloc (.cells #[.bool false, .slice none 0 0, .slice none 0 0] 27)) ⟨w.heap.size, 0, none⟩ = some (.bool false) ∧ World.cell? (w.alloc (.cells #[.bool false, .slice none 0 0, .slice none 0 0] 27)) ⟨w.heap.size, 1, none⟩ = some (.slice none 0 0) ∧ World.cell? (w.alloc (.cells #[.bool false, .slice none 0 0, .slice none 0 0] 27)) ⟨w.heap.size, 2, none⟩ = some (.slice none 0 0) ∧ World.frozen? (w.alloc (.cells #[.bool false, .slice none 0 0, .slice none 0 0] 27)) ⟨w.heap.size, 0, none⟩ = false ∧ World.frozen? (w.alloc (.cells #[.bool false, .slice none 0 0, .slice none 0 0] 27)) ⟨w.heap.size, 1, none⟩ = false ∧ World.frozen? (w.alloc (.cells #[.bool false, .slice none 0 0, .slice none 0 0] 27)) ⟨w.heap.size, 2, none⟩ = false := by simp [go_sem]
  have hg0 : w.heap.size < ((w.alloc (.cells #[.bool false, .slice none 0 0, .slice none 0 0] 27))).heap.size := World.block_lt_of_cell? _ _ c0_0
  have HT := Lib.hid (ht.below BW (Nat.le_refl _))
  have HS := Lib.hid (hs.below BW (Nat.le_refl _))
  clear ht hs
  have HANS := Lib.hid hA
  have HZ := Lib.hid hZ
  have HC := Lib.hid hC
  have HX := Lib.hid hx
  have HOK := Lib.hid hok
  clear hA hZ hC hx hok
  go_enter Tryz.func8, Tryz.ntmps8
  go_wp2_with fail
  generalize (w.alloc (.cells #[.bool false, .slice none 0 0, .slice none 0 0] 27)) = w0 at *
  have B0 := Below.refl w0.heap.size w0
  refine (cutS_c _ s a b true hl HC HS.out).mono ?_
  rintro e w1 ⟨rfl, hb⟩
  replace q0 := keep_frozen (w1 := w1) hb c0_0 q0
  replace c0_0 := keep_cell (w1 := w1) hb c0_0
  replace q1 := keep_frozen (w1 := w1) hb c0_1 q1
  replace c0_1 := keep_cell (w1 := w1) hb c0_1
  replace q2 := keep_frozen (w1 := w1) hb c0_2 q2
  replace c0_2 := keep_cell (w1 := w1) hb c0_2
  replace HT := Lib.hid (HT.out.below hb (Nat.le_refl _))
  replace HS := Lib.hid (HS.out.below hb (Nat.le_refl _))
  replace B0 := B0.trans (hb.mono B0.size)
  clear hb
  go_wp2_with fail
  refine (ParseBigInt_h _ a hla g xs false HZ).mono ?_
  rintro e w2 ⟨vn, rfl, ho1, hb⟩
  replace q0 := keep_frozen (w1 := w2) hb c0_0 q0
  replace c0_0 := keep_cell (w1 := w2) hb c0_0
  replace q1 := keep_frozen (w1 := w2) hb c0_1 q1
  replace c0_1 := keep_cell (w1 := w2) hb c0_1
  replace q2 := keep_frozen (w1 := w2) hb c0_2 q2
  replace c0_2 := keep_cell (w1 := w2) hb c0_2
  replace HT := Lib.hid (HT.out.below hb (Nat.le_refl _))
  replace HS := Lib.hid (HS.out.below hb (Nat.le_refl _))
  have Hn := Lib.hid (ho1.mono B0.size)
  clear ho1
  obtain ⟨an, cn, rfl, -, -, -, -, -⟩ := Hn.out.form
  replace B0 := B0.trans (hb.mono B0.size)
  clear hb
  go_wp2_with fail
  have hb := alloc_bel w2 (.cells #[.bool g, .slice an xs.length cn] 25)
  replace q0 := keep_frozen (w1 := _) hb c0_0 q0
  replace c0_0 := keep_cell (w1 := _) hb c0_0
  replace q1 := keep_frozen (w1 := _) hb c0_1 q1
  replace c0_1 := keep_cell (w1 := _) hb c0_1
  replace q2 := keep_frozen (w1 := _) hb c0_2 q2
  replace c0_2 := keep_cell (w1 := _) hb c0_2
  replace HT := Lib.hid (HT.out.below hb (Nat.le_refl _))
  replace HS := Lib.hid (HS.out.below hb (Nat.le_refl _))
  replace Hn := Lib.hid (Hn.out.below hb (Nat.le_refl _))
  obtain ⟨N_0, N_1⟩ : World.cell? (w2.alloc (.cells #[.bool g, .slice an xs.length cn] 25)) ⟨w2.heap.size, 0, none⟩ = some (.bool g) ∧ World.cell? (w2.alloc (.cells #[.bool g, .slice an xs.length cn] 25)) ⟨w2.heap.size, 1, none⟩ = some (.slice an xs.length cn) := by simp [go_sem]
  replace B0 := B0.trans (hb.mono B0.size)
  clear hb
  have ho1 := Own.lit1 (w2.alloc (.cells #[.bool g, .slice an xs.length cn] 25)) 1
  have hap := apart_new Hn.out (.inr rfl) ho1
  rw [show ((w2.alloc (.cells #[.bool g, .slice an xs.length cn] 25))).heap.size = w2.heap.size + 1 by simp] at ho1 hap
  have HAP := Lib.hid hap
  clear hap
  have hb := alloc_bel (w2.alloc (.cells #[.bool g, .slice an xs.length cn] 25)) (.cells #[.int .i64 1] 3)
  replace N_0 := keep_cell hb N_0
  replace N_1 := keep_cell hb N_1
  replace q0 := keep_frozen (w1 := _) hb c0_0 q0
  replace c0_0 := keep_cell (w1 := _) hb c0_0
  replace q1 := keep_frozen (w1 := _) hb c0_1 q1
  replace c0_1 := keep_cell (w1 := _) hb c0_1
  replace q2 := keep_frozen (w1 := _) hb c0_2 q2
  replace c0_2 := keep_cell (w1 := _) hb c0_2
  replace HT := Lib.hid (HT.out.below hb (Nat.le_refl _))
  replace HS := Lib.hid (HS.out.below hb (Nat.le_refl _))
  replace Hn := Lib.hid (Hn.out.below hb (Nat.le_refl _))
  have Hl := Lib.hid (ho1.mono (by have := B0.size; simp at this; omega))
  clear ho1
  replace B0 := B0.trans (hb.mono B0.size)
  clear hb
  generalize ((w2.alloc (.cells #[.bool g, .slice an xs.length cn] 25)).alloc (.cells #[.int .i64 1] 3)) = w3 at *
  clear HAP
  refine (parseNat_h _ b hlb ys two HX HOK).mono ?_
  rintro e w4 ⟨vd, rfl, ho1, hb⟩
  have HAP := Lib.hid (apart_new Hn.out (.inr rfl) ho1)
  replace N_0 := keep_cell hb N_0
  replace N_1 := keep_cell hb N_1
  replace q0 := keep_frozen (w1 := w4) hb c0_0 q0
  replace c0_0 := keep_cell (w1 := w4) hb c0_0
  replace q1 := keep_frozen (w1 := w4) hb c0_1 q1
  replace c0_1 := keep_cell (w1 := w4) hb c0_1
  replace q2 := keep_frozen (w1 := w4) hb c0_2 q2
  replace c0_2 := keep_cell (w1 := w4) hb c0_2
  replace HT := Lib.hid (HT.out.below hb (Nat.le_refl _))
  replace HS := Lib.hid (HS.out.below hb (Nat.le_refl _))
  replace Hn := Lib.hid (Hn.out.below hb (Nat.le_refl _))
  replace Hl := Lib.hid (Hl.out.below hb (Nat.le_refl _))
  have Hd := Lib.hid (ho1.mono B0.size)
  clear ho1
  obtain ⟨ad, cd, rfl, -, -, -, -, -⟩ := Hd.out.form
  replace B0 := B0.trans (hb.mono B0.size)
  clear hb
  skip
  go_upto_region 7 with fail
  have hb := alloc_bel w4 (.cells #[.bool g, .slice an xs.length cn, .slice ad ys.length cd] 27)
  replace N_0 := keep_cell hb N_0
  replace N_1 := keep_cell hb N_1
  replace q0 := keep_frozen (w1 := _) hb c0_0 q0
  replace c0_0 := keep_cell (w1 := _) hb c0_0
  replace q1 := keep_frozen (w1 := _) hb c0_1 q1
  replace c0_1 := keep_cell (w1 := _) hb c0_1
  replace q2 := keep_frozen (w1 := _) hb c0_2 q2
  replace c0_2 := keep_cell (w1 := _) hb c0_2
  replace HT := Lib.hid (HT.out.below hb (Nat.le_refl _))
  replace HS := Lib.hid (HS.out.below hb (Nat.le_refl _))
  replace Hn := Lib.hid (Hn.out.below hb (Nat.le_refl _))
  replace Hl := Lib.hid (Hl.out.below hb (Nat.le_refl _))
  replace Hd := Lib.hid (Hd.out.below hb (Nat.le_refl _))
  obtain ⟨R_0, R_1, R_2⟩ : World.cell? (w4.alloc (.cells #[.bool g, .slice an xs.length cn, .slice ad ys.length cd] 27)) ⟨w4.heap.size, 0, none⟩ = some (.bool g) ∧ World.cell? (w4.alloc (.cells #[.bool g, .slice an xs.length cn, .slice ad ys.length cd] 27)) ⟨w4.heap.size, 1, none⟩ = some (.slice an xs.length cn) ∧ World.cell? (w4.alloc (.cells #[.bool g, .slice an xs.length cn, .slice ad ys.length cd] 27)) ⟨w4.heap.size, 2, none⟩ = some (.slice ad ys.length cd) := by simp [go_sem]
  replace B0 := B0.trans (hb.mono B0.size)
  clear hb
  generalize (w4.alloc (.cells #[.bool g, .slice an xs.length cn, .slice ad ys.length cd] 27)) = w5 at *
  go_wp2
  exact bodyPost_ret (v := .tuple #[.agg #[.bool false, .slice none 0 0, .slice none 0 0], .bool false]) (by simp [results, Tryz.results8, go_sem, c0_0, c0_1, c0_2]) rfl (retRB_of HANS.out (retRB_end BW (by omega) hg0 B0 (Own.nil _ _) (Own.nil _ _) apart_nil))

set_option maxHeartbeats 2000000 in
set_option maxRecDepth 100000 in
theorem parseRat_m2 (w : World) (s : ByteArray) (hl : s.size ≤ 1048576) (ht : Tabs w) (hs : Shp w) (a b : ByteArray) (hla : a.size ≤ 1048576) (hlb : b.size ≤ 1048576) (hC : Lib.cut s.data.toList [47] = (a.data.toList, b.data.toList, true)) (g : Bool) (xs : List Int) (hZ : AnsZ a g xs true) (ys : List Int) (two : Bool) (hx : ys = pNs b) (hok : two = pNb b) (h2 : two = false) (hA : AnsR s false [] [] false) :
    Calls Tryz.prog 8 #[.string s] w (RetRB w (pRg s) (pRn s) (pRd s) (pRb s)) := by
  have BW : Below w.heap.size w (w.alloc (.cells #[.bool false, .slice none 0 0, .slice none 0 0] 27)) := ((Below.refl w.heap.size w).alloc (Nat.le_refl _) _)
  obtain ⟨c0_0, c0_1, c0_2, q0, q1, q2⟩ : World.cell? (w.alloc (.cells #[.bool false, .slice none 0 0, .slice none 0 0] 27)) ⟨w.heap.size, 0, none⟩ = some (.bool false) ∧ World.cell? (w.alloc (.cells #[.bool false, .slice none 0 0, .slice none 0 0] 27)) ⟨w.heap.size, 1, none⟩ = some (.slice none 0 0) ∧ World.cell? (w.alloc (.cells #[.bool false, .slice none 0 0, .slice none 0 0] 27)) ⟨w.heap.size, 2, none⟩ = some (.slice none 0 0) ∧ World.frozen? (w.alloc (.cells #[.bool false, .slice none 0 0, .slice none 0 0] 27)) ⟨w.heap.size, 0, none⟩ = false ∧ World.frozen? (w.alloc (.cells #[.bool false, .slice none 0 0, .slice none 0 0] 27)) ⟨w.heap.size, 1, none⟩ = false ∧ World.frozen? (w.alloc (.cells #[.bool false, .slice none 0 0, .slice none 0 0] 27)) ⟨w.heap.size, 2, none⟩ = false := by simp [go_sem]
  have hg0 : w.heap.size < ((w.alloc (.cells #[.bool false, .slice none 0 0, .slice none 0 0] 27))).heap.size := World.block_lt_of_cell? _ _ c0_0
  have HT := Lib.hid (ht.below BW (Nat.le_refl _))
  have HS := Lib.hid (hs.below BW (Nat.le_refl _))
  clear ht hs
  have HANS := Lib.hid hA
  have HZ := Lib.hid hZ
  have HC := Lib.hid hC
  have HX := Lib.hid hx
  have HOK := Lib.hid hok
  clear hA hZ hC hx hok
  subst h2
  go_enter Tryz.func8, Tryz.ntmps8
  go_wp2_with fail
  generalize (w.alloc (.cells #[.bool false, .slice none 0 0, .slice none 0 0] 27)) = w0 at *
  have B0 := Below.refl w0.heap.size w0
  refine (cutS_c _ s a b true hl HC HS.out).mono ?_
  rintro e w1 ⟨rfl, hb⟩
  replace q0 := keep_frozen (w1 := w1) hb c0_0 q0
  replace c0_0 := keep_cell (w1 := w1) hb c0_0
  replace q1 := keep_frozen (w1 := w1) hb c0_1 q1
  replace c0_1 := keep_cell (w1 := w1) hb c0_1
  replace q2 := keep_frozen (w1 := w1) hb c0_2 q2
  replace c0_2 := keep_cell (w1 := w1) hb c0_2
  replace HT := Lib.hid (HT.out.below hb (Nat.le_refl _))
  replace HS := Lib.hid (HS.out.below hb (Nat.le_refl _))
  replace B0 := B0.trans (hb.mono B0.size)
  clear hb
  go_wp2_with fail
  refine (ParseBigInt_h _ a hla g xs true HZ).mono ?_
  rintro e w2 ⟨vn, rfl, ho1, hb⟩
  replace q0 := keep_frozen (w1 := w2) hb c0_0 q0
  replace c0_0 := keep_cell (w1 := w2) hb c0_0
  replace q1 := keep_frozen (w1 := w2) hb c0_1 q1
  replace c0_1 := keep_cell (w1 := w2) hb c0_1
  replace q2 := keep_frozen (w1 := w2) hb c0_2 q2
  replace c0_2 := keep_cell (w1 := w2) hb c0_2
  replace HT := Lib.hid (HT.out.below hb (Nat.le_refl _))
  replace HS := Lib.hid (HS.out.below hb (Nat.le_refl _))
  have Hn := Lib.hid (ho1.mono B0.size)
  clear ho1
  obtain ⟨an, cn, rfl, -, -, -, -, -⟩ := Hn.out.form
  replace B0 := B0.trans (hb.mono B0.size)
  clear hb
  go_wp2_with fail
  have hb := alloc_bel w2 (.cells #[.bool g, .slice an xs.length cn] 25)
  replace q0 := keep_frozen (w1 := _) hb c0_0 q0
  replace c0_0 := keep_cell (w1 := _) hb c0_0
  replace q1 := keep_frozen (w1 := _) hb c0_1 q1
  replace c0_1 := keep_cell (w1 := _) hb c0_1
  replace q2 := keep_frozen (w1 := _) hb c0_2 q2
  replace c0_2 := keep_cell (w1 := _) hb c0_2
  replace HT := Lib.hid (HT.out.below hb (Nat.le_refl _))
  replace HS := Lib.hid (HS.out.below hb (Nat.le_refl _))
  replace Hn := Lib.hid (Hn.out.below hb (Nat.le_refl _))
  obtain ⟨N_0, N_1⟩ : World.cell? (w2.alloc (.cells #[.bool g, .slice an xs.length cn] 25)) ⟨w2.heap.size, 0, none⟩ = some (.bool g) ∧ World.cell? (w2.alloc (.cells #[.bool g, .slice an xs.length cn] 25)) ⟨w2.heap.size, 1, none⟩ = some (.slice an xs.length cn) := by simp [go_sem]
  replace B0 := B0.trans (hb.mono B0.size)
  clear hb
  have ho1 := Own.lit1 (w2.alloc (.cells #[.bool g, .slice an xs.length cn] 25)) 1
  have hap := apart_new Hn.out (.inr rfl) ho1
  rw [show ((w2.alloc (.cells #[.bool g, .slice an xs.length cn] 25))).heap.size = w2.heap.size + 1 by simp] at ho1 hap
  have HAP := Lib.hid hap
  clear hap
  have hb := alloc_bel (w2.alloc (.cells #[.bool g, .slice an xs.length cn] 25)) (.cells #[.int .i64 1] 3)
  replace N_0 := keep_cell hb N_0
  replace N_1 := keep_cell hb N_1
  replace q0 := keep_frozen (w1 := _) hb c0_0 q0
  replace c0_0 := keep_cell (w1 := _) hb c0_0
  replace q1 := keep_frozen (w1 := _) hb c0_1 q1
  replace c0_1 := keep_cell (w1 := _) hb c0_1
  replace q2 := keep_frozen (w1 := _) hb c0_2 q2
  replace c0_2 := keep_cell (w1 := _) hb c0_2
  replace HT := Lib.hid (HT.out.below hb (Nat.le_refl _))
  replace HS := Lib.hid (HS.out.below hb (Nat.le_refl _))
  replace Hn := Lib.hid (Hn.out.below hb (Nat.le_refl _))
  have Hl := Lib.hid (ho1.mono (by have := B0.size; simp at this; omega))
  clear ho1
  replace B0 := B0.trans (hb.mono B0.size)
  clear hb
  generalize ((w2.alloc (.cells #[.bool g, .slice an xs.length cn] 25)).alloc (.cells #[.int .i64 1] 3)) = w3 at *
  clear HAP
  refine (parseNat_h _ b hlb ys false HX HOK).mono ?_
  rintro e w4 ⟨vd, rfl, ho1, hb⟩
  have HAP := Lib.hid (apart_new Hn.out (.inr rfl) ho1)
  replace N_0 := keep_cell hb N_0
  replace N_1 := keep_cell hb N_1
  replace q0 := keep_frozen (w1 := w4) hb c0_0 q0
  replace c0_0 := keep_cell (w1 := w4) hb c0_0
  replace q1 := keep_frozen (w1 := w4) hb c0_1 q1
  replace c0_1 := keep_cell (w1 := w4) hb c0_1
  replace q2 := keep_frozen (w1 := w4) hb c0_2 q2
  replace c0_2 := keep_cell (w1 := w4) hb c0_2
  replace HT := Lib.hid (HT.out.below hb (Nat.le_refl _))
  replace HS := Lib.hid (HS.out.below hb (Nat.le_refl _))
  replace Hn := Lib.hid (Hn.out.below hb (Nat.le_refl _))
  replace Hl := Lib.hid (Hl.out.below hb (Nat.le_refl _))
  have Hd := Lib.hid (ho1.mono B0.size)
  clear ho1
  obtain ⟨ad, cd, rfl, -, -, -, -, -⟩ := Hd.out.form
  replace B0 := B0.trans (hb.mono B0.size)
  clear hb
  skip
  go_upto_region 7 with fail
  have hb := alloc_bel w4 (.cells #[.bool g, .slice an xs.length cn, .slice ad ys.length cd] 27)
  replace N_0 := keep_cell hb N_0
  replace N_1 := keep_cell hb N_1
  replace q0 := keep_frozen (w1 := _) hb c0_0 q0
  replace c0_0 := keep_cell (w1 := _) hb c0_0
  replace q1 := keep_frozen (w1 := _) hb c0_1 q1
  replace c0_1 := keep_cell (w1 := _) hb c0_1
  replace q2 := keep_frozen (w1 := _) hb c0_2 q2
  replace c0_2 := keep_cell (w1 := _) hb c0_2
  replace HT := Lib.hid (HT.out.below hb (Nat.le_refl _))
  replace HS := Lib.hid (HS.out.below hb (Nat.le_refl _))
  replace Hn := Lib.hid (Hn.out.below hb (Nat.le_refl _))
  replace Hl := Lib.hid (Hl.out.below hb (Nat.le_refl _))
  replace Hd := Lib.hid (Hd.out.below hb (Nat.le_refl _))
  obtain ⟨R_0, R_1, R_2⟩ : World.cell? (w4.alloc (.cells #[.bool g, .slice an xs.length cn, .slice ad ys.length cd] 27)) ⟨w4.heap.size, 0, none⟩ = some (.bool g) ∧ World.cell? (w4.alloc (.cells #[.bool g, .slice an xs.length cn, .slice ad ys.length cd] 27)) ⟨w4.heap.size, 1, none⟩ = some (.slice an xs.length cn) ∧ World.cell? (w4.alloc (.cells #[.bool g, .slice an xs.length cn, .slice ad ys.length cd] 27)) ⟨w4.heap.size, 2, none⟩ = some (.slice ad ys.length cd) := by simp [go_sem]
  replace B0 := B0.trans (hb.mono B0.size)
  clear hb
  generalize (w4.alloc (.cells #[.bool g, .slice an xs.length cn, .slice ad ys.length cd] 27)) = w5 at *
  go_wp2
  exact bodyPost_ret (v := .tuple #[.agg #[.bool false, .slice none 0 0, .slice none 0 0], .bool false]) (by simp [results, Tryz.results8, go_sem, c0_0, c0_1, c0_2]) rfl (retRB_of HANS.out (retRB_end BW (by omega) hg0 B0 (Own.nil _ _) (Own.nil _ _) apart_nil))

set_option maxHeartbeats 2000000 in
set_option maxRecDepth 100000 in
theorem parseRat_m3 (w : World) (s : ByteArray) (hl : s.size ≤ 1048576) (ht : Tabs w) (hs : Shp w) (a b : ByteArray) (hla : a.size ≤ 1048576) (hlb : b.size ≤ 1048576) (hC : Lib.cut s.data.toList [47] = (a.data.toList, b.data.toList, true)) (g : Bool) (xs : List Int) (hZ : AnsZ a g xs true) (ys : List Int) (two : Bool) (hx : ys = pNs b) (hok : two = pNb b) (h2 : two = true) (hR : ¬ OkR g xs ys) (hA : AnsR s false [] [] false) :
    Calls Tryz.prog 8 #[.string s] w (RetRB w (pRg s) (pRn s) (pRd s) (pRb s)) := by
  have BW : Below w.heap.size w (w.alloc (.cells #[.bool false, .slice none 0 0, .slice none 0 0] 27)) := ((Below.refl w.heap.size w).alloc (Nat.le_refl _) _)
  obtain ⟨c0_0, c0_1, c0_2, q0, q1, q2⟩ : World.cell? (w.alloc (.cells #[.bool false, .slice none 0 0, .slice none 0 0] 27)) ⟨w.heap.size, 0, none⟩ = some (.bool false) ∧ World.cell? (w.alloc (.cells #[.bool false, .slice none 0 0, .slice none 0 0] 27)) ⟨w.heap.size, 1, none⟩ = some (.slice none 0 0) ∧ World.cell? (w.alloc (.cells #[.bool false, .slice none 0 0, .slice none 0 0] 27)) ⟨w.heap.size, 2, none⟩ = some (.slice none 0 0) ∧ World.frozen? (w.alloc (.cells #[.bool false, .slice none 0 0, .slice none 0 0] 27)) ⟨w.heap.size, 0, none⟩ = false ∧ World.frozen? (w.alloc (.cells #[.bool false, .slice none 0 0, .slice none 0 0] 27)) ⟨w.heap.size, 1, none⟩ = false ∧ World.frozen? (w.alloc (.cells #[.bool false, .slice none 0 0, .slice none 0 0] 27)) ⟨w.heap.size, 2, none⟩ = false := by simp [go_sem]
  have hg0 : w.heap.size < ((w.alloc (.cells #[.bool false, .slice none 0 0, .slice none 0 0] 27))).heap.size := World.block_lt_of_cell? _ _ c0_0
  have HT := Lib.hid (ht.below BW (Nat.le_refl _))
  have HS := Lib.hid (hs.below BW (Nat.le_refl _))
  clear ht hs
  have HANS := Lib.hid hA
  have HZ := Lib.hid hZ
  have HC := Lib.hid hC
  have HX := Lib.hid hx
  have HOK := Lib.hid hok
  have HR := Lib.hid hR
  clear hA hZ hC hx hok hR
  subst h2
  go_enter Tryz.func8, Tryz.ntmps8
  go_wp2_with fail
  generalize (w.alloc (.cells #[.bool false, .slice none 0 0, .slice none 0 0] 27)) = w0 at *
  have B0 := Below.refl w0.heap.size w0
  refine (cutS_c _ s a b true hl HC HS.out).mono ?_
  rintro e w1 ⟨rfl, hb⟩
  replace q0 := keep_frozen (w1 := w1) hb c0_0 q0
  replace c0_0 := keep_cell (w1 := w1) hb c0_0
  replace q1 := keep_frozen (w1 := w1) hb c0_1 q1
  replace c0_1 := keep_cell (w1 := w1) hb c0_1
  replace q2 := keep_frozen (w1 := w1) hb c0_2 q2
  replace c0_2 := keep_cell (w1 := w1) hb c0_2
  replace HT := Lib.hid (HT.out.below hb (Nat.le_refl _))
  replace HS := Lib.hid (HS.out.below hb (Nat.le_refl _))
  replace B0 := B0.trans (hb.mono B0.size)
  clear hb
  go_wp2_with fail
  refine (ParseBigInt_h _ a hla g xs true HZ).mono ?_
  rintro e w2 ⟨vn, rfl, ho1, hb⟩
  replace q0 := keep_frozen (w1 := w2) hb c0_0 q0
  replace c0_0 := keep_cell (w1 := w2) hb c0_0
  replace q1 := keep_frozen (w1 := w2) hb c0_1 q1
  replace c0_1 := keep_cell (w1 := w2) hb c0_1
  replace q2 := keep_frozen (w1 := w2) hb c0_2 q2
  replace c0_2 := keep_cell (w1 := w2) hb c0_2
  replace HT := Lib.hid (HT.out.below hb (Nat.le_refl _))
  replace HS := Lib.hid (HS.out.below hb (Nat.le_refl _))
  have Hn := Lib.hid (ho1.mono B0.size)
  clear ho1
  obtain ⟨an, cn, rfl, -, -, -, -, -⟩ := Hn.out.form
  replace B0 := B0.trans (hb.mono B0.size)
  clear hb
  go_wp2_with fail
  have hb := alloc_bel w2 (.cells #[.bool g, .slice an xs.length cn] 25)
  replace q0 := keep_frozen (w1 := _) hb c0_0 q0
  replace c0_0 := keep_cell (w1 := _) hb c0_0
  replace q1 := keep_frozen (w1 := _) hb c0_1 q1
  replace c0_1 := keep_cell (w1 := _) hb c0_1
  replace q2 := keep_frozen (w1 := _) hb c0_2 q2
  replace c0_2 := keep_cell (w1 := _) hb c0_2
  replace HT := Lib.hid (HT.out.below hb (Nat.le_refl _))
  replace HS := Lib.hid (HS.out.below hb (Nat.le_refl _))
  replace Hn := Lib.hid (Hn.out.below hb (Nat.le_refl _))
  obtain ⟨N_0, N_1⟩ : World.cell? (w2.alloc (.cells #[.bool g, .slice an xs.length cn] 25)) ⟨w2.heap.size, 0, none⟩ = some (.bool g) ∧ World.cell? (w2.alloc (.cells #[.bool g, .slice an xs.length cn] 25)) ⟨w2.heap.size, 1, none⟩ = some (.slice an xs.length cn) := by simp [go_sem]
  replace B0 := B0.trans (hb.mono B0.size)
  clear hb
  have ho1 := Own.lit1 (w2.alloc (.cells #[.bool g, .slice an xs.length cn] 25)) 1
  have hap := apart_new Hn.out (.inr rfl) ho1
  rw [show ((w2.alloc (.cells #[.bool g, .slice an xs.length cn] 25))).heap.size = w2.heap.size + 1 by simp] at ho1 hap
  have HAP := Lib.hid hap
  clear hap
  have hb := alloc_bel (w2.alloc (.cells #[.bool g, .slice an xs.length cn] 25)) (.cells #[.int .i64 1] 3)
  replace N_0 := keep_cell hb N_0
  replace N_1 := keep_cell hb N_1
  replace q0 := keep_frozen (w1 := _) hb c0_0 q0
  replace c0_0 := keep_cell (w1 := _) hb c0_0
  replace q1 := keep_frozen (w1 := _) hb c0_1 q1
  replace c0_1 := keep_cell (w1 := _) hb c0_1
  replace q2 := keep_frozen (w1 := _) hb c0_2 q2
  replace c0_2 := keep_cell (w1 := _) hb c0_2
  replace HT := Lib.hid (HT.out.below hb (Nat.le_refl _))
  replace HS := Lib.hid (HS.out.below hb (Nat.le_refl _))
  replace Hn := Lib.hid (Hn.out.below hb (Nat.le_refl _))
  have Hl := Lib.hid (ho1.mono (by have := B0.size; simp at this; omega))
  clear ho1
  replace B0 := B0.trans (hb.mono B0.size)
  clear hb
  generalize ((w2.alloc (.cells #[.bool g, .slice an xs.length cn] 25)).alloc (.cells #[.int .i64 1] 3)) = w3 at *
  clear HAP
  refine (parseNat_h _ b hlb ys true HX HOK).mono ?_
  rintro e w4 ⟨vd, rfl, ho1, hb⟩
  have HAP := Lib.hid (apart_new Hn.out (.inr rfl) ho1)
  replace N_0 := keep_cell hb N_0
  replace N_1 := keep_cell hb N_1
  replace q0 := keep_frozen (w1 := w4) hb c0_0 q0
  replace c0_0 := keep_cell (w1 := w4) hb c0_0
  replace q1 := keep_frozen (w1 := w4) hb c0_1 q1
  replace c0_1 := keep_cell (w1 := w4) hb c0_1
  replace q2 := keep_frozen (w1 := w4) hb c0_2 q2
  replace c0_2 := keep_cell (w1 := w4) hb c0_2
  replace HT := Lib.hid (HT.out.below hb (Nat.le_refl _))
  replace HS := Lib.hid (HS.out.below hb (Nat.le_refl _))
  replace Hn := Lib.hid (Hn.out.below hb (Nat.le_refl _))
  replace Hl := Lib.hid (Hl.out.below hb (Nat.le_refl _))
  have Hd := Lib.hid (ho1.mono B0.size)
  clear ho1
  obtain ⟨ad, cd, rfl, -, -, -, -, -⟩ := Hd.out.form
  replace B0 := B0.trans (hb.mono B0.size)
  clear hb
  skip
  go_upto_region 7 with fail
  have hb := alloc_bel w4 (.cells #[.bool g, .slice an xs.length cn, .slice ad ys.length cd] 27)
  replace N_0 := keep_cell hb N_0
  replace N_1 := keep_cell hb N_1
  replace q0 := keep_frozen (w1 := _) hb c0_0 q0
  replace c0_0 := keep_cell (w1 := _) hb c0_0
  replace q1 := keep_frozen (w1 := _) hb c0_1 q1
  replace c0_1 := keep_cell (w1 := _) hb c0_1
  replace q2 := keep_frozen (w1 := _) hb c0_2 q2
  replace c0_2 := keep_cell (w1 := _) hb c0_2
  replace HT := Lib.hid (HT.out.below hb (Nat.le_refl _))
  replace HS := Lib.hid (HS.out.below hb (Nat.le_refl _))
  replace Hn := Lib.hid (Hn.out.below hb (Nat.le_refl _))
  replace Hl := Lib.hid (Hl.out.below hb (Nat.le_refl _))
  replace Hd := Lib.hid (Hd.out.below hb (Nat.le_refl _))
  obtain ⟨R_0, R_1, R_2⟩ : World.cell? (w4.alloc (.cells #[.bool g, .slice an xs.length cn, .slice ad ys.length cd] 27)) ⟨w4.heap.size, 0, none⟩ = some (.bool g) ∧ World.cell? (w4.alloc (.cells #[.bool g, .slice an xs.length cn, .slice ad ys.length cd] 27)) ⟨w4.heap.size, 1, none⟩ = some (.slice an xs.length cn) ∧ World.cell? (w4.alloc (.cells #[.bool g, .slice an xs.length cn, .slice ad ys.length cd] 27)) ⟨w4.heap.size, 2, none⟩ = some (.slice ad ys.length cd) := by simp [go_sem]
  replace B0 := B0.trans (hb.mono B0.size)
  clear hb
  generalize (w4.alloc (.cells #[.bool g, .slice an xs.length cn, .slice ad ys.length cd] 27)) = w5 at *
  go_wp2_with fail
  refine (ratOk_f _ _ _ _ _ _ _ _ Hn.out Hd.out HR.out).mono ?_
  rintro e w6 ⟨rfl, hb⟩
  replace N_0 := keep_cell hb N_0
  replace N_1 := keep_cell hb N_1
  replace R_0 := keep_cell hb R_0
  replace R_1 := keep_cell hb R_1
  replace R_2 := keep_cell hb R_2
  replace q0 := keep_frozen (w1 := w6) hb c0_0 q0
  replace c0_0 := keep_cell (w1 := w6) hb c0_0
  replace q1 := keep_frozen (w1 := w6) hb c0_1 q1
  replace c0_1 := keep_cell (w1 := w6) hb c0_1
  replace q2 := keep_frozen (w1 := w6) hb c0_2 q2
  replace c0_2 := keep_cell (w1 := w6) hb c0_2
  replace HT := Lib.hid (HT.out.below hb (Nat.le_refl _))
  replace HS := Lib.hid (HS.out.below hb (Nat.le_refl _))
  replace Hn := Lib.hid (Hn.out.below hb (Nat.le_refl _))
  replace Hl := Lib.hid (Hl.out.below hb (Nat.le_refl _))
  replace Hd := Lib.hid (Hd.out.below hb (Nat.le_refl _))
  replace B0 := B0.trans (hb.mono B0.size)
  clear hb
  go_wp2
  exact bodyPost_ret (v := .tuple #[.agg #[.bool false, .slice none 0 0, .slice none 0 0], .bool false]) (by simp [results, Tryz.results8, go_sem, c0_0, c0_1, c0_2]) rfl (retRB_of HANS.out (retRB_end BW (by omega) hg0 B0 (Own.nil _ _) (Own.nil _ _) apart_nil))

set_option maxHeartbeats 2000000 in
set_option maxRecDepth 100000 in
theorem parseRat_m4 (w : World) (s : ByteArray) (hl : s.size ≤ 1048576) (ht : Tabs w) (hs : Shp w) (a b : ByteArray) (hla : a.size ≤ 1048576) (hlb : b.size ≤ 1048576) (hC : Lib.cut s.data.toList [47] = (a.data.toList, b.data.toList, true)) (g : Bool) (xs : List Int) (hZ : AnsZ a g xs true) (ys : List Int) (two : Bool) (hx : ys = pNs b) (hok : two = pNb b) (h2 : two = true) (hR : OkR g xs ys) (t : ByteArray) (hT : t = bs (fmtR g xs ys)) (hne : t ≠ s) (hA : AnsR s false [] [] false) :
    Calls Tryz.prog 8 #[.string s] w (RetRB w (pRg s) (pRn s) (pRd s) (pRb s)) := by
  have BW : Below w.heap.size w (w.alloc (.cells #[.bool false, .slice none 0 0, .slice none 0 0] 27)) := ((Below.refl w.heap.size w).alloc (Nat.le_refl _) _)
  obtain ⟨c0_0, c0_1, c0_2, q0, q1, q2⟩ : World.cell? (w.alloc (.cells #[.bool false, .slice none 0 0, .slice none 0 0] 27)) ⟨w.heap.size, 0, none⟩ = some (.bool false) ∧ World.cell? (w.alloc (.cells #[.bool false, .slice none 0 0, .slice none 0 0] 27)) ⟨w.heap.size, 1, none⟩ = some (.slice none 0 0) ∧ World.cell? (w.alloc (.cells #[.bool false, .slice none 0 0, .slice none 0 0] 27)) ⟨w.heap.size, 2, none⟩ = some (.slice none 0 0) ∧ World.frozen? (w.alloc (.cells #[.bool false, .slice none 0 0, .slice none 0 0] 27)) ⟨w.heap.size, 0, none⟩ = false ∧ World.frozen? (w.alloc (.cells #[.bool false, .slice none 0 0, .slice none 0 0] 27)) ⟨w.heap.size, 1, none⟩ = false ∧ World.frozen? (w.alloc (.cells #[.bool false, .slice none 0 0, .slice none 0 0] 27)) ⟨w.heap.size, 2, none⟩ = false := by simp [go_sem]
  have hg0 : w.heap.size < ((w.alloc (.cells #[.bool false, .slice none 0 0, .slice none 0 0] 27))).heap.size := World.block_lt_of_cell? _ _ c0_0
  have HT := Lib.hid (ht.below BW (Nat.le_refl _))
  have HS := Lib.hid (hs.below BW (Nat.le_refl _))
  clear ht hs
  have HANS := Lib.hid hA
  have HZ := Lib.hid hZ
  have HC := Lib.hid hC
  have HX := Lib.hid hx
  have HOK := Lib.hid hok
  have HR := Lib.hid hR
  have HT2 := Lib.hid hT
  have dq : (t.toList == s.toList) = false := strq_false hne
  clear hA hZ hC hx hok hR hne hT
  subst h2
  go_enter Tryz.func8, Tryz.ntmps8
  go_wp2_with fail
  generalize (w.alloc (.cells #[.bool false, .slice none 0 0, .slice none 0 0] 27)) = w0 at *
  have B0 := Below.refl w0.heap.size w0
  refine (cutS_c _ s a b true hl HC HS.out).mono ?_
  rintro e w1 ⟨rfl, hb⟩
  replace q0 := keep_frozen (w1 := w1) hb c0_0 q0
  replace c0_0 := keep_cell (w1 := w1) hb c0_0
  replace q1 := keep_frozen (w1 := w1) hb c0_1 q1
  replace c0_1 := keep_cell (w1 := w1) hb c0_1
  replace q2 := keep_frozen (w1 := w1) hb c0_2 q2
  replace c0_2 := keep_cell (w1 := w1) hb c0_2
  replace HT := Lib.hid (HT.out.below hb (Nat.le_refl _))
  replace HS := Lib.hid (HS.out.below hb (Nat.le_refl _))
  replace B0 := B0.trans (hb.mono B0.size)
  clear hb
  go_wp2_with fail
  refine (ParseBigInt_h _ a hla g xs true HZ).mono ?_
  rintro e w2 ⟨vn, rfl, ho1, hb⟩
  replace q0 := keep_frozen (w1 := w2) hb c0_0 q0
  replace c0_0 := keep_cell (w1 := w2) hb c0_0
  replace q1 := keep_frozen (w1 := w2) hb c0_1 q1
  replace c0_1 := keep_cell (w1 := w2) hb c0_1
  replace q2 := keep_frozen (w1 := w2) hb c0_2 q2
  replace c0_2 := keep_cell (w1 := w2) hb c0_2
  replace HT := Lib.hid (HT.out.below hb (Nat.le_refl _))
  replace HS := Lib.hid (HS.out.below hb (Nat.le_refl _))
  have Hn := Lib.hid (ho1.mono B0.size)
  clear ho1
  obtain ⟨an, cn, rfl, -, -, -, -, -⟩ := Hn.out.form
  replace B0 := B0.trans (hb.mono B0.size)
  clear hb
  go_wp2_with fail
  have hb := alloc_bel w2 (.cells #[.bool g, .slice an xs.length cn] 25)
  replace q0 := keep_frozen (w1 := _) hb c0_0 q0
  replace c0_0 := keep_cell (w1 := _) hb c0_0
  replace q1 := keep_frozen (w1 := _) hb c0_1 q1
  replace c0_1 := keep_cell (w1 := _) hb c0_1
  replace q2 := keep_frozen (w1 := _) hb c0_2 q2
  replace c0_2 := keep_cell (w1 := _) hb c0_2
  replace HT := Lib.hid (HT.out.below hb (Nat.le_refl _))
  replace HS := Lib.hid (HS.out.below hb (Nat.le_refl _))
  replace Hn := Lib.hid (Hn.out.below hb (Nat.le_refl _))
  obtain ⟨N_0, N_1⟩ : World.cell? (w2.alloc (.cells #[.bool g, .slice an xs.length cn] 25)) ⟨w2.heap.size, 0, none⟩ = some (.bool g) ∧ World.cell? (w2.alloc (.cells #[.bool g, .slice an xs.length cn] 25)) ⟨w2.heap.size, 1, none⟩ = some (.slice an xs.length cn) := by simp [go_sem]
  replace B0 := B0.trans (hb.mono B0.size)
  clear hb
  have ho1 := Own.lit1 (w2.alloc (.cells #[.bool g, .slice an xs.length cn] 25)) 1
  have hap := apart_new Hn.out (.inr rfl) ho1
  rw [show ((w2.alloc (.cells #[.bool g, .slice an xs.length cn] 25))).heap.size = w2.heap.size + 1 by simp] at ho1 hap
  have HAP := Lib.hid hap
  clear hap
  have hb := alloc_bel (w2.alloc (.cells #[.bool g, .slice an xs.length cn] 25)) (.cells #[.int .i64 1] 3)
  replace N_0 := keep_cell hb N_0
  replace N_1 := keep_cell hb N_1
  replace q0 := keep_frozen (w1 := _) hb c0_0 q0
  replace c0_0 := keep_cell (w1 := _) hb c0_0
  replace q1 := keep_frozen (w1 := _) hb c0_1 q1
  replace c0_1 := keep_cell (w1 := _) hb c0_1
  replace q2 := keep_frozen (w1 := _) hb c0_2 q2
  replace c0_2 := keep_cell (w1 := _) hb c0_2
  replace HT := Lib.hid (HT.out.below hb (Nat.le_refl _))
  replace HS := Lib.hid (HS.out.below hb (Nat.le_refl _))
  replace Hn := Lib.hid (Hn.out.below hb (Nat.le_refl _))
  have Hl := Lib.hid (ho1.mono (by have := B0.size; simp at this; omega))
  clear ho1
  replace B0 := B0.trans (hb.mono B0.size)
  clear hb
  generalize ((w2.alloc (.cells #[.bool g, .slice an xs.length cn] 25)).alloc (.cells #[.int .i64 1] 3)) = w3 at *
  clear HAP
  refine (parseNat_h _ b hlb ys true HX HOK).mono ?_
  rintro e w4 ⟨vd, rfl, ho1, hb⟩
  have HAP := Lib.hid (apart_new Hn.out (.inr rfl) ho1)
  replace N_0 := keep_cell hb N_0
  replace N_1 := keep_cell hb N_1
  replace q0 := keep_frozen (w1 := w4) hb c0_0 q0
  replace c0_0 := keep_cell (w1 := w4) hb c0_0
  replace q1 := keep_frozen (w1 := w4) hb c0_1 q1
  replace c0_1 := keep_cell (w1 := w4) hb c0_1
  replace q2 := keep_frozen (w1 := w4) hb c0_2 q2
  replace c0_2 := keep_cell (w1 := w4) hb c0_2
  replace HT := Lib.hid (HT.out.below hb (Nat.le_refl _))
  replace HS := Lib.hid (HS.out.below hb (Nat.le_refl _))
  replace Hn := Lib.hid (Hn.out.below hb (Nat.le_refl _))
  replace Hl := Lib.hid (Hl.out.below hb (Nat.le_refl _))
  have Hd := Lib.hid (ho1.mono B0.size)
  clear ho1
  obtain ⟨ad, cd, rfl, -, -, -, -, -⟩ := Hd.out.form
  replace B0 := B0.trans (hb.mono B0.size)
  clear hb
  skip
  go_upto_region 7 with fail
  have hb := alloc_bel w4 (.cells #[.bool g, .slice an xs.length cn, .slice ad ys.length cd] 27)
  replace N_0 := keep_cell hb N_0
  replace N_1 := keep_cell hb N_1
  replace q0 := keep_frozen (w1 := _) hb c0_0 q0
  replace c0_0 := keep_cell (w1 := _) hb c0_0
  replace q1 := keep_frozen (w1 := _) hb c0_1 q1
  replace c0_1 := keep_cell (w1 := _) hb c0_1
  replace q2 := keep_frozen (w1 := _) hb c0_2 q2
  replace c0_2 := keep_cell (w1 := _) hb c0_2
  replace HT := Lib.hid (HT.out.below hb (Nat.le_refl _))
  replace HS := Lib.hid (HS.out.below hb (Nat.le_refl _))
  replace Hn := Lib.hid (Hn.out.below hb (Nat.le_refl _))
  replace Hl := Lib.hid (Hl.out.below hb (Nat.le_refl _))
  replace Hd := Lib.hid (Hd.out.below hb (Nat.le_refl _))
  obtain ⟨R_0, R_1, R_2⟩ : World.cell? (w4.alloc (.cells #[.bool g, .slice an xs.length cn, .slice ad ys.length cd] 27)) ⟨w4.heap.size, 0, none⟩ = some (.bool g) ∧ World.cell? (w4.alloc (.cells #[.bool g, .slice an xs.length cn, .slice ad ys.length cd] 27)) ⟨w4.heap.size, 1, none⟩ = some (.slice an xs.length cn) ∧ World.cell? (w4.alloc (.cells #[.bool g, .slice an xs.length cn, .slice ad ys.length cd] 27)) ⟨w4.heap.size, 2, none⟩ = some (.slice ad ys.length cd) := by simp [go_sem]
  replace B0 := B0.trans (hb.mono B0.size)
  clear hb
  generalize (w4.alloc (.cells #[.bool g, .slice an xs.length cn, .slice ad ys.length cd] 27)) = w5 at *
  go_wp2_with fail
  refine (ratOk_t _ _ _ _ _ _ _ _ Hn.out Hd.out HR.out).mono ?_
  rintro e w6 ⟨rfl, hb⟩
  replace N_0 := keep_cell hb N_0
  replace N_1 := keep_cell hb N_1
  replace R_0 := keep_cell hb R_0
  replace R_1 := keep_cell hb R_1
  replace R_2 := keep_cell hb R_2
  replace q0 := keep_frozen (w1 := w6) hb c0_0 q0
  replace c0_0 := keep_cell (w1 := w6) hb c0_0
  replace q1 := keep_frozen (w1 := w6) hb c0_1 q1
  replace c0_1 := keep_cell (w1 := w6) hb c0_1
  replace q2 := keep_frozen (w1 := w6) hb c0_2 q2
  replace c0_2 := keep_cell (w1 := w6) hb c0_2
  replace HT := Lib.hid (HT.out.below hb (Nat.le_refl _))
  replace HS := Lib.hid (HS.out.below hb (Nat.le_refl _))
  replace Hn := Lib.hid (Hn.out.below hb (Nat.le_refl _))
  replace Hl := Lib.hid (Hl.out.below hb (Nat.le_refl _))
  replace Hd := Lib.hid (Hd.out.below hb (Nat.le_refl _))
  replace B0 := B0.trans (hb.mono B0.size)
  clear hb
  go_wp2_with fail
  refine (formatRat_c _ _ _ _ _ _ xs ys Hn.out Hd.out HR.out.1.1 HR.out.2.1 HT.out t HT2).mono ?_
  rintro e w7 ⟨rfl, hb⟩
  replace N_0 := keep_cell hb N_0
  replace N_1 := keep_cell hb N_1
  replace R_0 := keep_cell hb R_0
  replace R_1 := keep_cell hb R_1
  replace R_2 := keep_cell hb R_2
  replace q0 := keep_frozen (w1 := w7) hb c0_0 q0
  replace c0_0 := keep_cell (w1 := w7) hb c0_0
  replace q1 := keep_frozen (w1 := w7) hb c0_1 q1
  replace c0_1 := keep_cell (w1 := w7) hb c0_1
  replace q2 := keep_frozen (w1 := w7) hb c0_2 q2
  replace c0_2 := keep_cell (w1 := w7) hb c0_2
  replace HT := Lib.hid (HT.out.below hb (Nat.le_refl _))
  replace HS := Lib.hid (HS.out.below hb (Nat.le_refl _))
  replace Hn := Lib.hid (Hn.out.below hb (Nat.le_refl _))
  replace Hl := Lib.hid (Hl.out.below hb (Nat.le_refl _))
  replace Hd := Lib.hid (Hd.out.below hb (Nat.le_refl _))
  replace B0 := B0.trans (hb.mono B0.size)
  clear hb
  go_wp2
  exact bodyPost_ret (v := .tuple #[.agg #[.bool false, .slice none 0 0, .slice none 0 0], .bool false]) (by simp [results, Tryz.results8, go_sem, c0_0, c0_1, c0_2]) rfl (retRB_of HANS.out (retRB_end BW (by omega) hg0 B0 (Own.nil _ _) (Own.nil _ _) apart_nil))

set_option maxHeartbeats 2000000 in
set_option maxRecDepth 100000 in
theorem parseRat_m5 (w : World) (s : ByteArray) (hl : s.size ≤ 1048576) (ht : Tabs w) (hs : Shp w) (a b : ByteArray) (hla : a.size ≤ 1048576) (hlb : b.size ≤ 1048576) (hC : Lib.cut s.data.toList [47] = (a.data.toList, b.data.toList, true)) (g : Bool) (xs : List Int) (hZ : AnsZ a g xs true) (ys : List Int) (two : Bool) (hx : ys = pNs b) (hok : two = pNb b) (h2 : two = true) (hR : OkR g xs ys) (t : ByteArray) (hT : t = bs (fmtR g xs ys)) (he : t = s) (hA : AnsR s g xs ys true) :
    Calls Tryz.prog 8 #[.string s] w (RetRB w (pRg s) (pRn s) (pRd s) (pRb s)) := by
  have BW : Below w.heap.size w (w.alloc (.cells #[.bool false, .slice none 0 0, .slice none 0 0] 27)) := ((Below.refl w.heap.size w).alloc (Nat.le_refl _) _)
  obtain ⟨c0_0, c0_1, c0_2, q0, q1, q2⟩ : World.cell? (w.alloc (.cells #[.bool false, .slice none 0 0, .slice none 0 0] 27)) ⟨w.heap.size, 0, none⟩ = some (.bool false) ∧ World.cell? (w.alloc (.cells #[.bool false, .slice none 0 0, .slice none 0 0] 27)) ⟨w.heap.size, 1, none⟩ = some (.slice none 0 0) ∧ World.cell? (w.alloc (.cells #[.bool false, .slice none 0 0, .slice none 0 0] 27)) ⟨w.heap.size, 2, none⟩ = some (.slice none 0 0) ∧ World.frozen? (w.alloc (.cells #[.bool false, .slice none 0 0, .slice none 0 0] 27)) ⟨w.heap.size, 0, none⟩ = false ∧ World.frozen? (w.alloc (.cells #[.bool false, .slice none 0 0, .slice none 0 0] 27)) ⟨w.heap.size, 1, none⟩ = false ∧ World.frozen? (w.alloc (.cells #[.bool false, .slice none 0 0, .slice none 0 0] 27)) ⟨w.heap.size, 2, none⟩ = false := by simp [go_sem]
  have hg0 : w.heap.size < ((w.alloc (.cells #[.bool false, .slice none 0 0, .slice none 0 0] 27))).heap.size := World.block_lt_of_cell? _ _ c0_0
  have HT := Lib.hid (ht.below BW (Nat.le_refl _))
  have HS := Lib.hid (hs.below BW (Nat.le_refl _))
  clear ht hs
  have HANS := Lib.hid hA
  have HZ := Lib.hid hZ
  have HC := Lib.hid hC
  have HX := Lib.hid hx
  have HOK := Lib.hid hok
  have HR := Lib.hid hR
  have HT2 := Lib.hid hT
  clear hA hZ hC hx hok hR hT
  subst h2
  subst he
  go_enter Tryz.func8, Tryz.ntmps8
  go_wp2_with fail
  generalize (w.alloc (.cells #[.bool false, .slice none 0 0, .slice none 0 0] 27)) = w0 at *
  have B0 := Below.refl w0.heap.size w0
  refine (cutS_c _ t a b true hl HC HS.out).mono ?_
  rintro e w1 ⟨rfl, hb⟩
  replace q0 := keep_frozen (w1 := w1) hb c0_0 q0
  replace c0_0 := keep_cell (w1 := w1) hb c0_0
  replace q1 := keep_frozen (w1 := w1) hb c0_1 q1
  replace c0_1 := keep_cell (w1 := w1) hb c0_1
  replace q2 := keep_frozen (w1 := w1) hb c0_2 q2
  replace c0_2 := keep_cell (w1 := w1) hb c0_2
  replace HT := Lib.hid (HT.out.below hb (Nat.le_refl _))
  replace HS := Lib.hid (HS.out.below hb (Nat.le_refl _))
  replace B0 := B0.trans (hb.mono B0.size)
  clear hb
  go_wp2_with fail
  refine (ParseBigInt_h _ a hla g xs true HZ).mono ?_
  rintro e w2 ⟨vn, rfl, ho1, hb⟩
  replace q0 := keep_frozen (w1 := w2) hb c0_0 q0
  replace c0_0 := keep_cell (w1 := w2) hb c0_0
  replace q1 := keep_frozen (w1 := w2) hb c0_1 q1
  replace c0_1 := keep_cell (w1 := w2) hb c0_1
  replace q2 := keep_frozen (w1 := w2) hb c0_2 q2
  replace c0_2 := keep_cell (w1 := w2) hb c0_2
  replace HT := Lib.hid (HT.out.below hb (Nat.le_refl _))
  replace HS := Lib.hid (HS.out.below hb (Nat.le_refl _))
  have Hn := Lib.hid (ho1.mono B0.size)
  clear ho1
  obtain ⟨an, cn, rfl, -, -, -, -, -⟩ := Hn.out.form
  replace B0 := B0.trans (hb.mono B0.size)
  clear hb
  go_wp2_with fail
  have hb := alloc_bel w2 (.cells #[.bool g, .slice an xs.length cn] 25)
  replace q0 := keep_frozen (w1 := _) hb c0_0 q0
  replace c0_0 := keep_cell (w1 := _) hb c0_0
  replace q1 := keep_frozen (w1 := _) hb c0_1 q1
  replace c0_1 := keep_cell (w1 := _) hb c0_1
  replace q2 := keep_frozen (w1 := _) hb c0_2 q2
  replace c0_2 := keep_cell (w1 := _) hb c0_2
  replace HT := Lib.hid (HT.out.below hb (Nat.le_refl _))
  replace HS := Lib.hid (HS.out.below hb (Nat.le_refl _))
  replace Hn := Lib.hid (Hn.out.below hb (Nat.le_refl _))
  obtain ⟨N_0, N_1⟩ : World.cell? (w2.alloc (.cells #[.bool g, .slice an xs.length cn] 25)) ⟨w2.heap.size, 0, none⟩ = some (.bool g) ∧ World.cell? (w2.alloc (.cells #[.bool g, .slice an xs.length cn] 25)) ⟨w2.heap.size, 1, none⟩ = some (.slice an xs.length cn) := by simp [go_sem]
  replace B0 := B0.trans (hb.mono B0.size)
  clear hb
  have ho1 := Own.lit1 (w2.alloc (.cells #[.bool g, .slice an xs.length cn] 25)) 1
  have hap := apart_new Hn.out (.inr rfl) ho1
  rw [show ((w2.alloc (.cells #[.bool g, .slice an xs.length cn] 25))).heap.size = w2.heap.size + 1 by simp] at ho1 hap
  have HAP := Lib.hid hap
  clear hap
  have hb := alloc_bel (w2.alloc (.cells #[.bool g, .slice an xs.length cn] 25)) (.cells #[.int .i64 1] 3)
  replace N_0 := keep_cell hb N_0
  replace N_1 := keep_cell hb N_1
  replace q0 := keep_frozen (w1 := _) hb c0_0 q0
  replace c0_0 := keep_cell (w1 := _) hb c0_0
  replace q1 := keep_frozen (w1 := _) hb c0_1 q1
  replace c0_1 := keep_cell (w1 := _) hb c0_1
  replace q2 := keep_frozen (w1 := _) hb c0_2 q2
  replace c0_2 := keep_cell (w1 := _) hb c0_2
  replace HT := Lib.hid (HT.out.below hb (Nat.le_refl _))
  replace HS := Lib.hid (HS.out.below hb (Nat.le_refl _))
  replace Hn := Lib.hid (Hn.out.below hb (Nat.le_refl _))
  have Hl := Lib.hid (ho1.mono (by have := B0.size; simp at this; omega))
  clear ho1
  replace B0 := B0.trans (hb.mono B0.size)
  clear hb
  generalize ((w2.alloc (.cells #[.bool g, .slice an xs.length cn] 25)).alloc (.cells #[.int .i64 1] 3)) = w3 at *
  clear HAP
  refine (parseNat_h _ b hlb ys true HX HOK).mono ?_
  rintro e w4 ⟨vd, rfl, ho1, hb⟩
  have HAP := Lib.hid (apart_new Hn.out (.inr rfl) ho1)
  replace N_0 := keep_cell hb N_0
  replace N_1 := keep_cell hb N_1
  replace q0 := keep_frozen (w1 := w4) hb c0_0 q0
  replace c0_0 := keep_cell (w1 := w4) hb c0_0
  replace q1 := keep_frozen (w1 := w4) hb c0_1 q1
  replace c0_1 := keep_cell (w1 := w4) hb c0_1
  replace q2 := keep_frozen (w1 := w4) hb c0_2 q2
  replace c0_2 := keep_cell (w1 := w4) hb c0_2
  replace HT := Lib.hid (HT.out.below hb (Nat.le_refl _))
  replace HS := Lib.hid (HS.out.below hb (Nat.le_refl _))
  replace Hn := Lib.hid (Hn.out.below hb (Nat.le_refl _))
  replace Hl := Lib.hid (Hl.out.below hb (Nat.le_refl _))
  have Hd := Lib.hid (ho1.mono B0.size)
  clear ho1
  obtain ⟨ad, cd, rfl, -, -, -, -, -⟩ := Hd.out.form
  replace B0 := B0.trans (hb.mono B0.size)
  clear hb
  skip
  go_upto_region 7 with fail
  have hb := alloc_bel w4 (.cells #[.bool g, .slice an xs.length cn, .slice ad ys.length cd] 27)
  replace N_0 := keep_cell hb N_0
  replace N_1 := keep_cell hb N_1
  replace q0 := keep_frozen (w1 := _) hb c0_0 q0
  replace c0_0 := keep_cell (w1 := _) hb c0_0
  replace q1 := keep_frozen (w1 := _) hb c0_1 q1
  replace c0_1 := keep_cell (w1 := _) hb c0_1
  replace q2 := keep_frozen (w1 := _) hb c0_2 q2
  replace c0_2 := keep_cell (w1 := _) hb c0_2
  replace HT := Lib.hid (HT.out.below hb (Nat.le_refl _))
  replace HS := Lib.hid (HS.out.below hb (Nat.le_refl _))
  replace Hn := Lib.hid (Hn.out.below hb (Nat.le_refl _))
  replace Hl := Lib.hid (Hl.out.below hb (Nat.le_refl _))
  replace Hd := Lib.hid (Hd.out.below hb (Nat.le_refl _))
  obtain ⟨R_0, R_1, R_2⟩ : World.cell? (w4.alloc (.cells #[.bool g, .slice an xs.length cn, .slice ad ys.length cd] 27)) ⟨w4.heap.size, 0, none⟩ = some (.bool g) ∧ World.cell? (w4.alloc (.cells #[.bool g, .slice an xs.length cn, .slice ad ys.length cd] 27)) ⟨w4.heap.size, 1, none⟩ = some (.slice an xs.length cn) ∧ World.cell? (w4.alloc (.cells #[.bool g, .slice an xs.length cn, .slice ad ys.length cd] 27)) ⟨w4.heap.size, 2, none⟩ = some (.slice ad ys.length cd) := by simp [go_sem]
  replace B0 := B0.trans (hb.mono B0.size)
  clear hb
  generalize (w4.alloc (.cells #[.bool g, .slice an xs.length cn, .slice ad ys.length cd] 27)) = w5 at *
  go_wp2_with fail
  refine (ratOk_t _ _ _ _ _ _ _ _ Hn.out Hd.out HR.out).mono ?_
  rintro e w6 ⟨rfl, hb⟩
  replace N_0 := keep_cell hb N_0
  replace N_1 := keep_cell hb N_1
  replace R_0 := keep_cell hb R_0
  replace R_1 := keep_cell hb R_1
  replace R_2 := keep_cell hb R_2
  replace q0 := keep_frozen (w1 := w6) hb c0_0 q0
  replace c0_0 := keep_cell (w1 := w6) hb c0_0
  replace q1 := keep_frozen (w1 := w6) hb c0_1 q1
  replace c0_1 := keep_cell (w1 := w6) hb c0_1
  replace q2 := keep_frozen (w1 := w6) hb c0_2 q2
  replace c0_2 := keep_cell (w1 := w6) hb c0_2
  replace HT := Lib.hid (HT.out.below hb (Nat.le_refl _))
  replace HS := Lib.hid (HS.out.below hb (Nat.le_refl _))
  replace Hn := Lib.hid (Hn.out.below hb (Nat.le_refl _))
  replace Hl := Lib.hid (Hl.out.below hb (Nat.le_refl _))
  replace Hd := Lib.hid (Hd.out.below hb (Nat.le_refl _))
  replace B0 := B0.trans (hb.mono B0.size)
  clear hb
  go_wp2_with fail
  refine (formatRat_c _ _ _ _ _ _ xs ys Hn.out Hd.out HR.out.1.1 HR.out.2.1 HT.out t HT2).mono ?_
  rintro e w7 ⟨rfl, hb⟩
  replace N_0 := keep_cell hb N_0
  replace N_1 := keep_cell hb N_1
  replace R_0 := keep_cell hb R_0
  replace R_1 := keep_cell hb R_1
  replace R_2 := keep_cell hb R_2
  replace q0 := keep_frozen (w1 := w7) hb c0_0 q0
  replace c0_0 := keep_cell (w1 := w7) hb c0_0
  replace q1 := keep_frozen (w1 := w7) hb c0_1 q1
  replace c0_1 := keep_cell (w1 := w7) hb c0_1
  replace q2 := keep_frozen (w1 := w7) hb c0_2 q2
  replace c0_2 := keep_cell (w1 := w7) hb c0_2
  replace HT := Lib.hid (HT.out.below hb (Nat.le_refl _))
  replace HS := Lib.hid (HS.out.below hb (Nat.le_refl _))
  replace Hn := Lib.hid (Hn.out.below hb (Nat.le_refl _))
  replace Hl := Lib.hid (Hl.out.below hb (Nat.le_refl _))
  replace Hd := Lib.hid (Hd.out.below hb (Nat.le_refl _))
  replace B0 := B0.trans (hb.mono B0.size)
  clear hb
  go_wp2
  exact bodyPost_ret (v := .tuple #[.agg #[.bool g, .slice an xs.length cn, .slice ad ys.length cd], .bool true]) (by simp [results, Tryz.results8, go_sem, c0_0, c0_1, c0_2]) rfl (retRB_of HANS.out (retRB_end BW (by omega) hg0 B0 Hn.out Hd.out HAP.out))

theorem dn_no {s : ByteArray} (h : cM s = false) : dnY s = [1] ∧ dnB s = true := by
  unfold dnY dnB
  rw [h]
  exact ⟨rfl, rfl⟩
theorem dn_yes {s : ByteArray} (h : cM s = true) : dnY s = pNs (bs (cB s)) ∧ dnB s = pNb (bs (cB s)) := by
  unfold dnY dnB
  rw [h]
  exact ⟨rfl, rfl⟩
theorem bool_no {b : Bool} (h : ¬ b = true) : b = false := by simpa using h
theorem fmt_list {l : List UInt8} {s : ByteArray} (h : bs l = s) : l = s.data.toList := bs_eq_iff.1 h
theorem ParseRat_c (w : World) (s : ByteArray) (hl : s.size ≤ 1048576) (ht : Tabs w) (hs : Shp w) : Calls Tryz.prog 8 #[.string s] w (RetRB w (pRg s) (pRn s) (pRd s) (pRb s)) := by
  have hC := cut_parts s
  obtain ⟨z1, z2⟩ := cT_size s
  have hla := Nat.le_trans z1 hl
  have hlb := Nat.le_trans z2 hl
  have hi := pRb_iff s
  by_cases hm : cM s = true
  · rw [hm] at hC
    obtain ⟨y1, y2⟩ := dn_yes hm
    rw [y1, y2] at hi
    by_cases h1 : pZb (bs (cT s)) = true
    · have hZ : AnsZ (bs (cT s)) _ _ true := ⟨rfl, rfl, h1.symm⟩
      by_cases h2 : pNb (bs (cB s)) = true
      · by_cases hR : OkR (pZg (bs (cT s))) (pZs (bs (cT s))) (pNs (bs (cB s)))
        · by_cases he : bs (fmtR (pZg (bs (cT s))) (pZs (bs (cT s))) (pNs (bs (cB s)))) = s
          · have hA := ansR_yes (hi.2 ⟨h1, h2, hR, fmt_list he⟩)
            rw [y1] at hA
            exact parseRat_m5 w s hl ht hs _ _ hla hlb hC _ _ hZ _ _ rfl rfl h2 hR _ rfl he hA
          · exact parseRat_m4 w s hl ht hs _ _ hla hlb hC _ _ hZ _ _ rfl rfl h2 hR _ rfl he (ansR_no (fun h => he (bs_eq_iff.2 (hi.1 h).2.2.2)))
        · exact parseRat_m3 w s hl ht hs _ _ hla hlb hC _ _ hZ _ _ rfl rfl h2 hR (ansR_no (fun h => hR (hi.1 h).2.2.1))
      · exact parseRat_m2 w s hl ht hs _ _ hla hlb hC _ _ hZ _ _ rfl rfl (bool_no h2) (ansR_no (fun h => h2 (hi.1 h).2.1))
    · exact parseRat_m1 w s hl ht hs _ _ hla hlb hC _ _ ⟨rfl, rfl, (bool_no h1).symm⟩ _ _ rfl rfl (ansR_no (fun h => h1 (hi.1 h).1))
  · rw [bool_no hm] at hC
    obtain ⟨y1, y2⟩ := dn_no (bool_no hm)
    rw [y1, y2] at hi
    by_cases h1 : pZb (bs (cT s)) = true
    · have hZ : AnsZ (bs (cT s)) _ _ true := ⟨rfl, rfl, h1.symm⟩
      by_cases hR : OkR (pZg (bs (cT s))) (pZs (bs (cT s))) [1]
      · by_cases he : bs (fmtR (pZg (bs (cT s))) (pZs (bs (cT s))) [1]) = s
        · have hA := ansR_yes (hi.2 ⟨h1, rfl, hR, fmt_list he⟩)
          rw [y1] at hA
          exact parseRat_o5 w s hl ht hs _ _ hla hlb hC _ _ hZ hR _ rfl he hA
        · exact parseRat_o4 w s hl ht hs _ _ hla hlb hC _ _ hZ hR _ rfl he (ansR_no (fun h => he (bs_eq_iff.2 (hi.1 h).2.2.2)))
      · exact parseRat_o3 w s hl ht hs _ _ hla hlb hC _ _ hZ hR (ansR_no (fun h => hR (hi.1 h).2.2.1))
    · exact parseRat_o1 w s hl ht hs _ _ hla hlb hC _ _ ⟨rfl, rfl, (bool_no h1).symm⟩ (ansR_no (fun h => h1 (hi.1 h).1))
theorem pcs_size {s t x : ByteArray} (h : x ∈ pcs s t) : x.size ≤ s.size := by
  obtain ⟨y, hy, rfl⟩ := List.mem_map.1 h
  have := spl_piece_len _ _ _ y hy
  rw [bs_size, size_list]
  simpa using this
end Go.Proofs.YtijeplcjbhkkoaaGreatDoor

