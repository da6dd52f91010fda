/- FormatBigInt: the program's and the reference's. -/
import Derived.Test.YtcmhpdhcpkhejaaDoorFmtN
import Derived.Test.YtcmhpdhcpkhejaaDoorBigS
import Derived.Test.YtcmhpdhcpkhejaaDoorBigV
namespace Go.Proofs.YtcmhpdhcpkhejaaDoor
open Go.RowKit Tx Go.Lib Lm

/-- A signed number's text. -/
def fmtZ (s : Bool) (xs : List Int) : List UInt8 := if s then 45 :: fmtN xs else fmtN xs
theorem fmtZ_len {s : Bool} {xs : List Int} (h : OkP xs) : (fmtZ s xs).length ≤ 542 := by
  have := fmtN_len h.2 h.1
  unfold fmtZ
  split
  · rw [List.length_cons]; omega
  · omega
open Classical in
noncomputable def fZs (s : Bool) (xs : List Int) : ByteArray := if OkG s xs then bs (fmtZ s xs) else ByteArray.empty

set_option maxHeartbeats 1000000 in
theorem formatBig_n (w : World) (b1 : Nat) (v1 : Value) (xs : List Int) (h1 : Own w b1 v1 xs) (hx : OkP xs) (ht : Tabs w) (t : ByteArray) (hT : t = bs (fmtZ true xs)) :
    Calls Tryd.prog 28 #[.agg #[.bool true, v1]] w (RetT w t) := by
  have BW : Below w.heap.size w (w.alloc (.cells #[.bool true, v1] 37)) := ((Below.refl w.heap.size w).alloc (Nat.le_refl _) _)
  obtain ⟨c0_0, c0_1⟩ : World.cell? (w.alloc (.cells #[.bool true, v1] 37)) ⟨w.heap.size, 0, none⟩ = some (.bool true) ∧ World.cell? (w.alloc (.cells #[.bool true, v1] 37)) ⟨w.heap.size, 1, none⟩ = some (v1) := by simp [go_sem]
  have Hv := Lib.hid (h1.below BW (Nat.le_refl _))
  have HT := Lib.hid (ht.below BW (Nat.le_refl _))
  clear h1 ht
  have HX := Lib.hid hx
  obtain ⟨u, hu⟩ : ∃ u, u = bs (fmtN xs) := ⟨_, rfl⟩
  have HU := Lib.hid hu
  have HC : Hid (({ data := #[45] } : ByteArray) ++ u = t) := by unfold Hid; rw [hT, hu, show ({ data := #[45] } : ByteArray) = bs [45] from rfl, bs_append]; rfl
  have hus : ({ data := #[45] } : ByteArray).size + u.size ≤ 9223372036854775807 := by have := fmtN_len hx.2 hx.1; rw [hu, bs_size]; show 1 + _ ≤ _; omega
  clear hx hu hT
  go_enter Tryd.func28, Tryd.ntmps28
  go_wp2_with fail
  generalize (w.alloc (.cells #[.bool true, v1] 37)) = w0 at *
  have B0 := Below.refl w0.heap.size w0
  refine (formatNat_c _ _ _ xs Hv.out HX.out HT.out u HU).mono ?_
  rintro e w1 ⟨rfl, hb⟩
  replace c0_0 := keep_cell hb c0_0
  replace c0_1 := keep_cell hb c0_1
  replace Hv := Lib.hid (Hv.out.below hb (Nat.le_refl _))
  replace HT := Lib.hid (HT.out.below hb (Nat.le_refl _))
  replace B0 := B0.trans (hb.mono B0.size)
  clear hb
  go_wp2
  go_ret
  exact retT HC.out (BW.trans (B0.mono BW.size))

set_option maxHeartbeats 1000000 in
theorem formatBig_p (w : World) (b1 : Nat) (v1 : Value) (xs : List Int) (h1 : Own w b1 v1 xs) (hx : OkP xs) (ht : Tabs w) (t : ByteArray) (hT : t = bs (fmtZ false xs)) :
    Calls Tryd.prog 28 #[.agg #[.bool false, v1]] w (RetT w t) := by
  have BW : Below w.heap.size w (w.alloc (.cells #[.bool false, v1] 37)) := ((Below.refl w.heap.size w).alloc (Nat.le_refl _) _)
  obtain ⟨c0_0, c0_1⟩ : World.cell? (w.alloc (.cells #[.bool false, v1] 37)) ⟨w.heap.size, 0, none⟩ = some (.bool false) ∧ World.cell? (w.alloc (.cells #[.bool false, v1] 37)) ⟨w.heap.size, 1, none⟩ = some (v1) := by simp [go_sem]
  have Hv := Lib.hid (h1.below BW (Nat.le_refl _))
  have HT := Lib.hid (ht.below BW (Nat.le_refl _))
  clear h1 ht
  have HX := Lib.hid hx
  have HU : Hid (t = bs (fmtN xs)) := hT
  clear hx hT
  go_enter Tryd.func28, Tryd.ntmps28
  go_wp2_with fail
  generalize (w.alloc (.cells #[.bool false, v1] 37)) = w0 at *
  have B0 := Below.refl w0.heap.size w0
  refine (formatNat_c _ _ _ xs Hv.out HX.out HT.out t HU).mono ?_
  rintro e w1 ⟨rfl, hb⟩
  replace c0_0 := keep_cell hb c0_0
  replace c0_1 := keep_cell hb c0_1
  replace Hv := Lib.hid (Hv.out.below hb (Nat.le_refl _))
  replace HT := Lib.hid (HT.out.below hb (Nat.le_refl _))
  replace B0 := B0.trans (hb.mono B0.size)
  clear hb
  go_wp2
  go_ret
  exact retT rfl (BW.trans (B0.mono BW.size))

theorem formatBig_c (w : World) (b1 : Nat) (s : Bool) (v1 : Value) (xs : List Int) (h1 : Own w b1 v1 xs) (hx : OkP xs) (ht : Tabs w) (t : ByteArray) (hT : Hid (t = bs (fmtZ s xs))) : Calls Tryd.prog 28 #[.agg #[.bool s, v1]] w (RetT w t) := by
  cases s with
  | false => exact formatBig_p w b1 v1 xs h1 hx ht t hT.out
  | true => exact formatBig_n w b1 v1 xs h1 hx ht t hT.out

theorem fNs_ok {xs : List Int} (h : OkP xs) : fNs xs = bs (fmtN xs) := by unfold fNs; rw [if_pos h]
theorem sFormatNat_t (w : World) (b1 : Nat) (v1 : Value) (xs : List Int) (h1 : Own w b1 v1 xs) (hx : OkP xs) (t : ByteArray) (hT : Hid (t = bs (fmtN xs))) : Calls Tryd.prog 23 #[v1] w (RetT w t) := by
  rw [hT.out, ← fNs_ok hx]
  exact sFormatNat_c w b1 v1 xs h1

set_option maxHeartbeats 1000000 in
theorem sFormatBigInt_t (w : World) (b1 : Nat) (v1 : Value) (xs : List Int) (h1 : Own w b1 v1 xs) (hx : OkG true xs) (t : ByteArray) (hT : t = bs (fmtZ true xs)) :
    Calls Tryd.prog 22 #[.agg #[.bool true, v1]] w (RetT w t) := by
  have BW : Below w.heap.size w (w.alloc (.cells #[.bool true, v1] 37)) := ((Below.refl w.heap.size w).alloc (Nat.le_refl _) _)
  obtain ⟨c0_0, c0_1⟩ : World.cell? (w.alloc (.cells #[.bool true, v1] 37)) ⟨w.heap.size, 0, none⟩ = some (.bool true) ∧ World.cell? (w.alloc (.cells #[.bool true, v1] 37)) ⟨w.heap.size, 1, none⟩ = some (v1) := by simp [go_sem]
  have Hv := Lib.hid (h1.below BW (Nat.le_refl _))
  clear h1
  have HX := Lib.hid hx
  replace hx := hx.1
  obtain ⟨u, hu⟩ : ∃ u, u = bs (fmtN xs) := ⟨_, rfl⟩
  have HU := Lib.hid hu
  have HC : Hid (({ data := #[45] } : ByteArray) ++ u = t) := by unfold Hid; rw [hT, hu, show ({ data := #[45] } : ByteArray) = bs [45] from rfl, bs_append]; rfl
  have hus : ({ data := #[45] } : ByteArray).size + u.size ≤ 9223372036854775807 := by have := fmtN_len hx.2 hx.1; rw [hu, bs_size]; show 1 + _ ≤ _; omega
  clear hx hu hT
  go_enter Tryd.func22, Tryd.ntmps22
  go_wp2_with fail
  generalize (w.alloc (.cells #[.bool true, v1] 37)) = w0 at *
  have B0 := Below.refl w0.heap.size w0
  refine (sBigIntOk_t _ _ _ _ _ Hv.out HX.out).mono ?_
  rintro e w1 ⟨rfl, hb⟩
  replace c0_0 := keep_cell hb c0_0
  replace c0_1 := keep_cell hb c0_1
  replace Hv := Lib.hid (Hv.out.below hb (Nat.le_refl _))
  replace B0 := B0.trans (hb.mono B0.size)
  clear hb
  go_wp2_with fail
  refine (sFormatNat_t _ _ _ xs Hv.out HX.out.1 u HU).mono ?_
  rintro e w2 ⟨rfl, hb⟩
  replace c0_0 := keep_cell hb c0_0
  replace c0_1 := keep_cell hb c0_1
  replace Hv := Lib.hid (Hv.out.below hb (Nat.le_refl _))
  replace B0 := B0.trans (hb.mono B0.size)
  clear hb
  go_wp2
  go_ret
  exact retT HC.out (BW.trans (B0.mono BW.size))

set_option maxHeartbeats 1000000 in
theorem sFormatBigInt_p (w : World) (b1 : Nat) (v1 : Value) (xs : List Int) (h1 : Own w b1 v1 xs) (hx : OkG false xs) (t : ByteArray) (hT : t = bs (fmtZ false xs)) :
    Calls Tryd.prog 22 #[.agg #[.bool false, v1]] w (RetT w t) := by
  have BW : Below w.heap.size w (w.alloc (.cells #[.bool false, v1] 37)) := ((Below.refl w.heap.size w).alloc (Nat.le_refl _) _)
  obtain ⟨c0_0, c0_1⟩ : World.cell? (w.alloc (.cells #[.bool false, v1] 37)) ⟨w.heap.size, 0, none⟩ = some (.bool false) ∧ World.cell? (w.alloc (.cells #[.bool false, v1] 37)) ⟨w.heap.size, 1, none⟩ = some (v1) := by simp [go_sem]
  have Hv := Lib.hid (h1.below BW (Nat.le_refl _))
  clear h1
  have HX := Lib.hid hx
  have HU : Hid (t = bs (fmtN xs)) := hT
  clear hx hT
  go_enter Tryd.func22, Tryd.ntmps22
  go_wp2_with fail
  generalize (w.alloc (.cells #[.bool false, v1] 37)) = w0 at *
  have B0 := Below.refl w0.heap.size w0
  refine (sBigIntOk_t _ _ _ _ _ Hv.out HX.out).mono ?_
  rintro e w1 ⟨rfl, hb⟩
  replace c0_0 := keep_cell hb c0_0
  replace c0_1 := keep_cell hb c0_1
  replace Hv := Lib.hid (Hv.out.below hb (Nat.le_refl _))
  replace B0 := B0.trans (hb.mono B0.size)
  clear hb
  go_wp2_with fail
  refine (sFormatNat_t _ _ _ xs Hv.out HX.out.1 t HU).mono ?_
  rintro e w2 ⟨rfl, hb⟩
  replace c0_0 := keep_cell hb c0_0
  replace c0_1 := keep_cell hb c0_1
  replace Hv := Lib.hid (Hv.out.below hb (Nat.le_refl _))
  replace B0 := B0.trans (hb.mono B0.size)
  clear hb
  go_wp2
  go_ret
  exact retT rfl (BW.trans (B0.mono BW.size))

set_option maxHeartbeats 1000000 in
theorem sFormatBigInt_n (w : World) (b1 : Nat) (s : Bool) (v1 : Value) (xs : List Int) (h1 : Own w b1 v1 xs) (hx : ¬ OkG s xs) :
    Calls Tryd.prog 22 #[.agg #[.bool s, v1]] w (RetT w ByteArray.empty) := by
  have BW : Below w.heap.size w (w.alloc (.cells #[.bool s, v1] 37)) := ((Below.refl w.heap.size w).alloc (Nat.le_refl _) _)
  obtain ⟨c0_0, c0_1⟩ : World.cell? (w.alloc (.cells #[.bool s, v1] 37)) ⟨w.heap.size, 0, none⟩ = some (.bool s) ∧ World.cell? (w.alloc (.cells #[.bool s, v1] 37)) ⟨w.heap.size, 1, none⟩ = some (v1) := by simp [go_sem]
  have Hv := Lib.hid (h1.below BW (Nat.le_refl _))
  clear h1
  have HX := Lib.hid hx
  clear hx
  go_enter Tryd.func22, Tryd.ntmps22
  go_wp2_with fail
  generalize (w.alloc (.cells #[.bool s, v1] 37)) = w0 at *
  have B0 := Below.refl w0.heap.size w0
  refine (sBigIntOk_f _ _ _ _ _ Hv.out HX.out).mono ?_
  rintro e w1 ⟨rfl, hb⟩
  replace c0_0 := keep_cell hb c0_0
  replace c0_1 := keep_cell hb c0_1
  replace Hv := Lib.hid (Hv.out.below hb (Nat.le_refl _))
  replace B0 := B0.trans (hb.mono B0.size)
  clear hb
  go_wp2
  go_ret
  exact retT rfl (BW.trans (B0.mono BW.size))

theorem sFormatBigInt_c (w : World) (b1 : Nat) (s : Bool) (v1 : Value) (xs : List Int) (h1 : Own w b1 v1 xs) : Calls Tryd.prog 22 #[.agg #[.bool s, v1]] w (RetT w (fZs s xs)) := by
  unfold fZs
  by_cases hx : OkG s xs
  · rw [if_pos hx]
    cases s with
    | false => exact sFormatBigInt_p w b1 v1 xs h1 hx _ rfl
    | true => exact sFormatBigInt_t w b1 v1 xs h1 hx _ rfl
  · rw [if_neg hx]; exact sFormatBigInt_n w b1 s v1 xs h1 hx
theorem fZs_ok {s : Bool} {xs : List Int} (h : OkG s xs) : fZs s xs = bs (fmtZ s xs) := by unfold fZs; rw [if_pos h]
theorem sFormatBig_t (w : World) (b1 : Nat) (s : Bool) (v1 : Value) (xs : List Int) (h1 : Own w b1 v1 xs) (hx : OkG s xs) (t : ByteArray) (hT : Hid (t = bs (fmtZ s xs))) : Calls Tryd.prog 22 #[.agg #[.bool s, v1]] w (RetT w t) := by
  rw [hT.out, ← fZs_ok hx]
  exact sFormatBigInt_c w b1 s v1 xs h1

end Go.Proofs.YtcmhpdhcpkhejaaDoor
