/- FnVectors: the inner product is symmetric and linear, and vectors are recovered from their text; for every input. -/
import Derived.Test.YtijeplcjbhkkoaaGreatDoorCurB
import Derived.Test.YtijeplcjbhkkoaaGreatDoorOpenY
import Derived.Test.YtijeplcjbhkkoaaGreatDoorFvC
import Derived.Test.YtijeplcjbhkkoaaGreatDoorShp
namespace Go.Proofs.YtijeplcjbhkkoaaGreatDoor.lawFnVectors
open Go.ChangeShapes Go.WideShapes Go.ChangeAt Go.RowKit Lm Go.Proofs.YtijeplcjbhkkoaaGreatDoor

theorem makeV3 (w : World) (v : Value) (x : List UInt8) (n : Int) (hr : RdY w w.heap.size v x) (hn : n ≤ 1000000) : Calls Tryz.prog 16 #[v, .int .i64 n, .int .i64 3] w (RetMV1 w 3) := makeVector_c w v x n 3 hr hn (by omega)
set_option maxHeartbeats 8000000 in
set_option maxRecDepth 100000 in
theorem walk (w : World) (v0 : Value) (x0 : List UInt8) (h0 : RdY0 w v0 x0) (ht : Tabs w) (_he : Errs w) (hsh : Shp w) :
    Calls Tryz.prog 4 #[v0] w (RetB w true) := by
  have HT := Lib.hid ht
  have HS := Lib.hid hsh
  obtain ⟨ao, cap, rfl, hr⟩ := h0
  clear ht hsh _he
  by_cases hl : x0.length ≤ 1048576
  case neg =>
    have d0 : decide ((1048576 : Int) < x0.length) = true := decide_eq_true (by omega)
    go_enter Tryz.func4, Tryz.ntmps4
    go_wp2
    go_ret
    exact retB rfl (Below.refl _ _)
  case pos =>
    have d0 : decide ((1048576 : Int) < x0.length) = false := decide_eq_false (by omega)
    have HR := Lib.hid (hr hl)
    have B := Below.refl w.heap.size w
    clear hr
    go_enter Tryz.func4, Tryz.ntmps4
    go_wp2_with fail
    refine (makeV3 _ _ x0 1 (HR.out.top B.size B) (by omega)).mono ?_
    rintro e w1 ⟨Za, Da, hz, va, rfl, ho, hb⟩
    replace B := B.trans (hb.mono B.size)
    clear hb
    have Ha := Lib.hid (show Vec w1 _ _ va 3 (fun j => qv (Za j) (Da j)) from ho)
    clear ho
    have Sa := Lib.hid hz
    clear hz
    go_wp2_with fail
    refine (makeV3 _ _ x0 12 (HR.out.top B.size B) (by omega)).mono ?_
    rintro e w2 ⟨Zb, Db, hz, vb, rfl, ho, hb⟩
    replace Ha := Lib.hid (Ha.out.bel hb)
    replace B := B.trans (hb.mono B.size)
    clear hb
    have Hb := Lib.hid (show Vec w2 _ _ vb 3 (fun j => qv (Zb j) (Db j)) from ho)
    clear ho
    have Sb := Lib.hid hz
    clear hz
    go_wp2_with fail
    refine (makeRat_c _ _ x0 30 (HR.out.top B.size B) (by omega)).mono ?_
    rintro e w3 ⟨zr, dr, hz, u, v, rfl, ho1, ho2, ha, hb⟩
    replace Ha := Lib.hid (Ha.out.bel hb)
    replace Hb := Lib.hid (Hb.out.bel hb)
    have HB := Lib.hid B.size
    replace B := B.trans (hb.mono B.size)
    clear hb
    obtain ⟨ar1, kr1, rfl, -, -, -, -, -⟩ := ho1.form
    obtain ⟨ar2, kr2, rfl, -, -, -, -, -⟩ := ho2.form
    have Hr := Lib.hid (And.intro (ho1.mono HB.out) (ho2.mono HB.out))
    clear ho1 ho2 ha HB
    have Sr := Lib.hid hz
    clear hz
    have hb := alloc_bel w3 (.cells #[.bool (ng zr), .slice ar1 (limbs zr.natAbs).length kr1, .slice ar2 (limbs dr).length kr2] 27)
    replace Hr := Lib.hid (And.intro (Hr.out.1.below hb (Nat.le_refl _)) (Hr.out.2.below hb (Nat.le_refl _)))
    replace Ha := Lib.hid (Ha.out.bel hb)
    replace Hb := Lib.hid (Hb.out.bel hb)
    obtain ⟨r_0, r_1, r_2⟩ : (w3.alloc (.cells #[.bool (ng zr), .slice ar1 (limbs zr.natAbs).length kr1, .slice ar2 (limbs dr).length kr2] 27)).cell? ⟨w3.heap.size, 0, none⟩ = some (.bool (ng zr)) ∧ (w3.alloc (.cells #[.bool (ng zr), .slice ar1 (limbs zr.natAbs).length kr1, .slice ar2 (limbs dr).length kr2] 27)).cell? ⟨w3.heap.size, 1, none⟩ = some (.slice ar1 (limbs zr.natAbs).length kr1) ∧ (w3.alloc (.cells #[.bool (ng zr), .slice ar1 (limbs zr.natAbs).length kr1, .slice ar2 (limbs dr).length kr2] 27)).cell? ⟨w3.heap.size, 2, none⟩ = some (.slice ar2 (limbs dr).length kr2) := by simp [go_sem]
    replace B := B.trans (hb.mono B.size)
    clear hb
    go_wp2_with fail
    generalize w3.alloc (.cells #[.bool (ng zr), .slice ar1 (limbs zr.natAbs).length kr1, .slice ar2 (limbs dr).length kr2] 27) = w4 at *
    obtain ⟨Zs, Zt, Ds, Dt, zx, zy, zz, zp, dx, dy, dz, dp, hvl⟩ := vlaw Sa.out Sb.out Sr.out
    have PL := Lib.hid hvl
    have Qa : Hid (∀ i, i < 3 → IsQ (Za i) (Da i)) := fun i hi => (Sa.out i hi).1
    have Qb : Hid (∀ i, i < 3 → IsQ (Zb i) (Db i)) := fun i hi => (Sb.out i hi).1
    have Qs : Hid (∀ i, i < 3 → IsQ (Zs i) (Ds i)) := fun i hi => (PL.out.s i hi).2
    have Qt : Hid (∀ i, i < 3 → IsQ (Zt i) (Dt i)) := fun i hi => (PL.out.t i hi).2
    clear hvl
    go_wp2_with fail
    refine (scale_k _ _ _ _ _ _ zr dr Za Zs Da Ds Hr.out.1 Hr.out.2 Ha.out Sr.out.1 Qa.out PL.out.s).mono ?_
    rintro e w5 ⟨vs, rfl, ho, hb⟩
    replace r_0 := keep_cell hb r_0
    replace r_1 := keep_cell hb r_1
    replace r_2 := keep_cell hb r_2
    replace Hr := Lib.hid (And.intro (Hr.out.1.below hb (Nat.le_refl _)) (Hr.out.2.below hb (Nat.le_refl _)))
    replace Ha := Lib.hid (Ha.out.bel hb)
    replace Hb := Lib.hid (Hb.out.bel hb)
    replace B := B.trans (hb.mono B.size)
    clear hb
    have Hs := Lib.hid (show Vec w5 _ _ vs 3 (fun j => qv (Zs j) (Ds j)) from ho)
    clear ho
    go_wp2_with fail
    refine (add_k _ _ _ Zs Zb Zt Ds Db Dt Hs.out Hb.out Qs.out Qb.out PL.out.t).mono ?_
    rintro e w6 ⟨vt, rfl, ho, hb⟩
    replace r_0 := keep_cell hb r_0
    replace r_1 := keep_cell hb r_1
    replace r_2 := keep_cell hb r_2
    replace Hr := Lib.hid (And.intro (Hr.out.1.below hb (Nat.le_refl _)) (Hr.out.2.below hb (Nat.le_refl _)))
    replace Ha := Lib.hid (Ha.out.bel hb)
    replace Hb := Lib.hid (Hb.out.bel hb)
    replace Hs := Lib.hid (Hs.out.bel hb)
    replace B := B.trans (hb.mono B.size)
    clear hb
    have Ht := Lib.hid (show Vec w6 _ _ vt 3 (fun j => qv (Zt j) (Dt j)) from ho)
    clear ho
    go_wp2_with fail
    refine (inner_k _ _ _ Zt Zb Dt Db Ht.out Hb.out Qt.out Qb.out zx dx ⟨PL.out.x.1, PL.out.x.2.1⟩ PL.out.x.2.2.1).mono ?_
    rintro e w7 ⟨u, v, rfl, ho1, ho2, ha, hb⟩
    replace r_0 := keep_cell hb r_0
    replace r_1 := keep_cell hb r_1
    replace r_2 := keep_cell hb r_2
    replace Hr := Lib.hid (And.intro (Hr.out.1.below hb (Nat.le_refl _)) (Hr.out.2.below hb (Nat.le_refl _)))
    replace Ha := Lib.hid (Ha.out.bel hb)
    replace Hb := Lib.hid (Hb.out.bel hb)
    replace Hs := Lib.hid (Hs.out.bel hb)
    replace Ht := Lib.hid (Ht.out.bel hb)
    have HB := Lib.hid B.size
    replace B := B.trans (hb.mono B.size)
    clear hb
    obtain ⟨ax1, kx1, rfl, -, -, -, -, -⟩ := ho1.form
    obtain ⟨ax2, kx2, rfl, -, -, -, -, -⟩ := ho2.form
    have Hx := Lib.hid (And.intro (ho1.mono HB.out) (ho2.mono HB.out))
    clear ho1 ho2 ha HB
    have hb := alloc_bel w7 (.cells #[.bool (ng zx), .slice ax1 (limbs zx.natAbs).length kx1, .slice ax2 (limbs dx).length kx2] 27)
    replace r_0 := keep_cell hb r_0
    replace r_1 := keep_cell hb r_1
    replace r_2 := keep_cell hb r_2
    replace Hr := Lib.hid (And.intro (Hr.out.1.below hb (Nat.le_refl _)) (Hr.out.2.below hb (Nat.le_refl _)))
    replace Hx := Lib.hid (And.intro (Hx.out.1.below hb (Nat.le_refl _)) (Hx.out.2.below hb (Nat.le_refl _)))
    replace Ha := Lib.hid (Ha.out.bel hb)
    replace Hb := Lib.hid (Hb.out.bel hb)
    replace Hs := Lib.hid (Hs.out.bel hb)
    replace Ht := Lib.hid (Ht.out.bel hb)
    obtain ⟨x_0, x_1, x_2⟩ : (w7.alloc (.cells #[.bool (ng zx), .slice ax1 (limbs zx.natAbs).length kx1, .slice ax2 (limbs dx).length kx2] 27)).cell? ⟨w7.heap.size, 0, none⟩ = some (.bool (ng zx)) ∧ (w7.alloc (.cells #[.bool (ng zx), .slice ax1 (limbs zx.natAbs).length kx1, .slice ax2 (limbs dx).length kx2] 27)).cell? ⟨w7.heap.size, 1, none⟩ = some (.slice ax1 (limbs zx.natAbs).length kx1) ∧ (w7.alloc (.cells #[.bool (ng zx), .slice ax1 (limbs zx.natAbs).length kx1, .slice ax2 (limbs dx).length kx2] 27)).cell? ⟨w7.heap.size, 2, none⟩ = some (.slice ax2 (limbs dx).length kx2) := by simp [go_sem]
    replace B := B.trans (hb.mono B.size)
    clear hb
    go_wp2_with fail
    generalize w7.alloc (.cells #[.bool (ng zx), .slice ax1 (limbs zx.natAbs).length kx1, .slice ax2 (limbs dx).length kx2] 27) = w8 at *
    go_wp2_with fail
    refine (inner_k _ _ _ Za Zb Da Db Ha.out Hb.out Qa.out Qb.out zy dy ⟨PL.out.y.1, PL.out.y.2.1⟩ PL.out.y.2.2.1).mono ?_
    rintro e w9 ⟨u, v, rfl, ho1, ho2, ha, hb⟩
    replace r_0 := keep_cell hb r_0
    replace r_1 := keep_cell hb r_1
    replace r_2 := keep_cell hb r_2
    replace x_0 := keep_cell hb x_0
    replace x_1 := keep_cell hb x_1
    replace x_2 := keep_cell hb x_2
    replace Hr := Lib.hid (And.intro (Hr.out.1.below hb (Nat.le_refl _)) (Hr.out.2.below hb (Nat.le_refl _)))
    replace Hx := Lib.hid (And.intro (Hx.out.1.below hb (Nat.le_refl _)) (Hx.out.2.below hb (Nat.le_refl _)))
    replace Ha := Lib.hid (Ha.out.bel hb)
    replace Hb := Lib.hid (Hb.out.bel hb)
    replace Hs := Lib.hid (Hs.out.bel hb)
    replace Ht := Lib.hid (Ht.out.bel hb)
    have HB := Lib.hid B.size
    replace B := B.trans (hb.mono B.size)
    clear hb
    obtain ⟨ay1, ky1, rfl, -, -, -, -, -⟩ := ho1.form
    obtain ⟨ay2, ky2, rfl, -, -, -, -, -⟩ := ho2.form
    have Hy := Lib.hid (And.intro (ho1.mono HB.out) (ho2.mono HB.out))
    clear ho1 ho2 ha HB
    have hb := alloc_bel w9 (.cells #[.bool (ng zy), .slice ay1 (limbs zy.natAbs).length ky1, .slice ay2 (limbs dy).length ky2] 27)
    replace r_0 := keep_cell hb r_0
    replace r_1 := keep_cell hb r_1
    replace r_2 := keep_cell hb r_2
    replace x_0 := keep_cell hb x_0
    replace x_1 := keep_cell hb x_1
    replace x_2 := keep_cell hb x_2
    replace Hr := Lib.hid (And.intro (Hr.out.1.below hb (Nat.le_refl _)) (Hr.out.2.below hb (Nat.le_refl _)))
    replace Hx := Lib.hid (And.intro (Hx.out.1.below hb (Nat.le_refl _)) (Hx.out.2.below hb (Nat.le_refl _)))
    replace Hy := Lib.hid (And.intro (Hy.out.1.below hb (Nat.le_refl _)) (Hy.out.2.below hb (Nat.le_refl _)))
    replace Ha := Lib.hid (Ha.out.bel hb)
    replace Hb := Lib.hid (Hb.out.bel hb)
    replace Hs := Lib.hid (Hs.out.bel hb)
    replace Ht := Lib.hid (Ht.out.bel hb)
    obtain ⟨y_0, y_1, y_2⟩ : (w9.alloc (.cells #[.bool (ng zy), .slice ay1 (limbs zy.natAbs).length ky1, .slice ay2 (limbs dy).length ky2] 27)).cell? ⟨w9.heap.size, 0, none⟩ = some (.bool (ng zy)) ∧ (w9.alloc (.cells #[.bool (ng zy), .slice ay1 (limbs zy.natAbs).length ky1, .slice ay2 (limbs dy).length ky2] 27)).cell? ⟨w9.heap.size, 1, none⟩ = some (.slice ay1 (limbs zy.natAbs).length ky1) ∧ (w9.alloc (.cells #[.bool (ng zy), .slice ay1 (limbs zy.natAbs).length ky1, .slice ay2 (limbs dy).length ky2] 27)).cell? ⟨w9.heap.size, 2, none⟩ = some (.slice ay2 (limbs dy).length ky2) := by simp [go_sem]
    replace B := B.trans (hb.mono B.size)
    clear hb
    go_wp2_with fail
    generalize w9.alloc (.cells #[.bool (ng zy), .slice ay1 (limbs zy.natAbs).length ky1, .slice ay2 (limbs dy).length ky2] 27) = w10 at *
    go_wp2_with fail
    refine (inner_k _ _ _ Zb Zb Db Db Hb.out Hb.out Qb.out Qb.out zz dz ⟨PL.out.z.1, PL.out.z.2.1⟩ PL.out.z.2.2.1).mono ?_
    rintro e w11 ⟨u, v, rfl, ho1, ho2, ha, hb⟩
    replace r_0 := keep_cell hb r_0
    replace r_1 := keep_cell hb r_1
    replace r_2 := keep_cell hb r_2
    replace x_0 := keep_cell hb x_0
    replace x_1 := keep_cell hb x_1
    replace x_2 := keep_cell hb x_2
    replace y_0 := keep_cell hb y_0
    replace y_1 := keep_cell hb y_1
    replace y_2 := keep_cell hb y_2
    replace Hr := Lib.hid (And.intro (Hr.out.1.below hb (Nat.le_refl _)) (Hr.out.2.below hb (Nat.le_refl _)))
    replace Hx := Lib.hid (And.intro (Hx.out.1.below hb (Nat.le_refl _)) (Hx.out.2.below hb (Nat.le_refl _)))
    replace Hy := Lib.hid (And.intro (Hy.out.1.below hb (Nat.le_refl _)) (Hy.out.2.below hb (Nat.le_refl _)))
    replace Ha := Lib.hid (Ha.out.bel hb)
    replace Hb := Lib.hid (Hb.out.bel hb)
    replace Hs := Lib.hid (Hs.out.bel hb)
    replace Ht := Lib.hid (Ht.out.bel hb)
    have HB := Lib.hid B.size
    replace B := B.trans (hb.mono B.size)
    clear hb
    obtain ⟨az1, kz1, rfl, -, -, -, -, -⟩ := ho1.form
    obtain ⟨az2, kz2, rfl, -, -, -, -, -⟩ := ho2.form
    have Hz := Lib.hid (And.intro (ho1.mono HB.out) (ho2.mono HB.out))
    clear ho1 ho2 ha HB
    have hb := alloc_bel w11 (.cells #[.bool (ng zz), .slice az1 (limbs zz.natAbs).length kz1, .slice az2 (limbs dz).length kz2] 27)
    replace r_0 := keep_cell hb r_0
    replace r_1 := keep_cell hb r_1
    replace r_2 := keep_cell hb r_2
    replace x_0 := keep_cell hb x_0
    replace x_1 := keep_cell hb x_1
    replace x_2 := keep_cell hb x_2
    replace y_0 := keep_cell hb y_0
    replace y_1 := keep_cell hb y_1
    replace y_2 := keep_cell hb y_2
    replace Hr := Lib.hid (And.intro (Hr.out.1.below hb (Nat.le_refl _)) (Hr.out.2.below hb (Nat.le_refl _)))
    replace Hx := Lib.hid (And.intro (Hx.out.1.below hb (Nat.le_refl _)) (Hx.out.2.below hb (Nat.le_refl _)))
    replace Hy := Lib.hid (And.intro (Hy.out.1.below hb (Nat.le_refl _)) (Hy.out.2.below hb (Nat.le_refl _)))
    replace Hz := Lib.hid (And.intro (Hz.out.1.below hb (Nat.le_refl _)) (Hz.out.2.below hb (Nat.le_refl _)))
    replace Ha := Lib.hid (Ha.out.bel hb)
    replace Hb := Lib.hid (Hb.out.bel hb)
    replace Hs := Lib.hid (Hs.out.bel hb)
    replace Ht := Lib.hid (Ht.out.bel hb)
    obtain ⟨z_0, z_1, z_2⟩ : (w11.alloc (.cells #[.bool (ng zz), .slice az1 (limbs zz.natAbs).length kz1, .slice az2 (limbs dz).length kz2] 27)).cell? ⟨w11.heap.size, 0, none⟩ = some (.bool (ng zz)) ∧ (w11.alloc (.cells #[.bool (ng zz), .slice az1 (limbs zz.natAbs).length kz1, .slice az2 (limbs dz).length kz2] 27)).cell? ⟨w11.heap.size, 1, none⟩ = some (.slice az1 (limbs zz.natAbs).length kz1) ∧ (w11.alloc (.cells #[.bool (ng zz), .slice az1 (limbs zz.natAbs).length kz1, .slice az2 (limbs dz).length kz2] 27)).cell? ⟨w11.heap.size, 2, none⟩ = some (.slice az2 (limbs dz).length kz2) := by simp [go_sem]
    replace B := B.trans (hb.mono B.size)
    clear hb
    go_wp2_with fail
    generalize w11.alloc (.cells #[.bool (ng zz), .slice az1 (limbs zz.natAbs).length kz1, .slice az2 (limbs dz).length kz2] 27) = w12 at *
    go_wp2_with fail
    refine (inner_k _ _ _ Zb Za Db Da Hb.out Ha.out Qb.out Qa.out zy dy PL.out.w PL.out.y.2.2.1).mono ?_
    rintro e w13 ⟨u, v, rfl, ho1, ho2, ha, hb⟩
    replace r_0 := keep_cell hb r_0
    replace r_1 := keep_cell hb r_1
    replace r_2 := keep_cell hb r_2
    replace x_0 := keep_cell hb x_0
    replace x_1 := keep_cell hb x_1
    replace x_2 := keep_cell hb x_2
    replace y_0 := keep_cell hb y_0
    replace y_1 := keep_cell hb y_1
    replace y_2 := keep_cell hb y_2
    replace z_0 := keep_cell hb z_0
    replace z_1 := keep_cell hb z_1
    replace z_2 := keep_cell hb z_2
    replace Hr := Lib.hid (And.intro (Hr.out.1.below hb (Nat.le_refl _)) (Hr.out.2.below hb (Nat.le_refl _)))
    replace Hx := Lib.hid (And.intro (Hx.out.1.below hb (Nat.le_refl _)) (Hx.out.2.below hb (Nat.le_refl _)))
    replace Hy := Lib.hid (And.intro (Hy.out.1.below hb (Nat.le_refl _)) (Hy.out.2.below hb (Nat.le_refl _)))
    replace Hz := Lib.hid (And.intro (Hz.out.1.below hb (Nat.le_refl _)) (Hz.out.2.below hb (Nat.le_refl _)))
    replace Ha := Lib.hid (Ha.out.bel hb)
    replace Hb := Lib.hid (Hb.out.bel hb)
    replace Hs := Lib.hid (Hs.out.bel hb)
    replace Ht := Lib.hid (Ht.out.bel hb)
    have HB := Lib.hid B.size
    replace B := B.trans (hb.mono B.size)
    clear hb
    obtain ⟨aw1, kw1, rfl, -, -, -, -, -⟩ := ho1.form
    obtain ⟨aw2, kw2, rfl, -, -, -, -, -⟩ := ho2.form
    have Hw := Lib.hid (And.intro (ho1.mono HB.out) (ho2.mono HB.out))
    clear ho1 ho2 ha HB
    have hb := alloc_bel w13 (.cells #[.bool (ng zy), .slice aw1 (limbs zy.natAbs).length kw1, .slice aw2 (limbs dy).length kw2] 27)
    replace r_0 := keep_cell hb r_0
    replace r_1 := keep_cell hb r_1
    replace r_2 := keep_cell hb r_2
    replace x_0 := keep_cell hb x_0
    replace x_1 := keep_cell hb x_1
    replace x_2 := keep_cell hb x_2
    replace y_0 := keep_cell hb y_0
    replace y_1 := keep_cell hb y_1
    replace y_2 := keep_cell hb y_2
    replace z_0 := keep_cell hb z_0
    replace z_1 := keep_cell hb z_1
    replace z_2 := keep_cell hb z_2
    replace Hr := Lib.hid (And.intro (Hr.out.1.below hb (Nat.le_refl _)) (Hr.out.2.below hb (Nat.le_refl _)))
    replace Hx := Lib.hid (And.intro (Hx.out.1.below hb (Nat.le_refl _)) (Hx.out.2.below hb (Nat.le_refl _)))
    replace Hy := Lib.hid (And.intro (Hy.out.1.below hb (Nat.le_refl _)) (Hy.out.2.below hb (Nat.le_refl _)))
    replace Hz := Lib.hid (And.intro (Hz.out.1.below hb (Nat.le_refl _)) (Hz.out.2.below hb (Nat.le_refl _)))
    replace Hw := Lib.hid (And.intro (Hw.out.1.below hb (Nat.le_refl _)) (Hw.out.2.below hb (Nat.le_refl _)))
    replace Ha := Lib.hid (Ha.out.bel hb)
    replace Hb := Lib.hid (Hb.out.bel hb)
    replace Hs := Lib.hid (Hs.out.bel hb)
    replace Ht := Lib.hid (Ht.out.bel hb)
    obtain ⟨w_0, w_1, w_2⟩ : (w13.alloc (.cells #[.bool (ng zy), .slice aw1 (limbs zy.natAbs).length kw1, .slice aw2 (limbs dy).length kw2] 27)).cell? ⟨w13.heap.size, 0, none⟩ = some (.bool (ng zy)) ∧ (w13.alloc (.cells #[.bool (ng zy), .slice aw1 (limbs zy.natAbs).length kw1, .slice aw2 (limbs dy).length kw2] 27)).cell? ⟨w13.heap.size, 1, none⟩ = some (.slice aw1 (limbs zy.natAbs).length kw1) ∧ (w13.alloc (.cells #[.bool (ng zy), .slice aw1 (limbs zy.natAbs).length kw1, .slice aw2 (limbs dy).length kw2] 27)).cell? ⟨w13.heap.size, 2, none⟩ = some (.slice aw2 (limbs dy).length kw2) := by simp [go_sem]
    replace B := B.trans (hb.mono B.size)
    clear hb
    go_wp2_with fail
    generalize w13.alloc (.cells #[.bool (ng zy), .slice aw1 (limbs zy.natAbs).length kw1, .slice aw2 (limbs dy).length kw2] 27) = w14 at *
    obtain ⟨t, hT⟩ : ∃ t, t = fV 3 (fun i => qv (Za i) (Da i)) := ⟨_, rfl⟩
    have PT := Lib.hid hT
    clear hT
    go_wp2_with fail
    refine (format_k _ _ Za Da Ha.out (HT.out.below B (Nat.le_refl _)) t PT.out).mono ?_
    rintro e w15 ⟨rfl, hb⟩
    replace r_0 := keep_cell hb r_0
    replace r_1 := keep_cell hb r_1
    replace r_2 := keep_cell hb r_2
    replace x_0 := keep_cell hb x_0
    replace x_1 := keep_cell hb x_1
    replace x_2 := keep_cell hb x_2
    replace y_0 := keep_cell hb y_0
    replace y_1 := keep_cell hb y_1
    replace y_2 := keep_cell hb y_2
    replace z_0 := keep_cell hb z_0
    replace z_1 := keep_cell hb z_1
    replace z_2 := keep_cell hb z_2
    replace w_0 := keep_cell hb w_0
    replace w_1 := keep_cell hb w_1
    replace w_2 := keep_cell hb w_2
    replace Hr := Lib.hid (And.intro (Hr.out.1.below hb (Nat.le_refl _)) (Hr.out.2.below hb (Nat.le_refl _)))
    replace Hx := Lib.hid (And.intro (Hx.out.1.below hb (Nat.le_refl _)) (Hx.out.2.below hb (Nat.le_refl _)))
    replace Hy := Lib.hid (And.intro (Hy.out.1.below hb (Nat.le_refl _)) (Hy.out.2.below hb (Nat.le_refl _)))
    replace Hz := Lib.hid (And.intro (Hz.out.1.below hb (Nat.le_refl _)) (Hz.out.2.below hb (Nat.le_refl _)))
    replace Hw := Lib.hid (And.intro (Hw.out.1.below hb (Nat.le_refl _)) (Hw.out.2.below hb (Nat.le_refl _)))
    replace Ha := Lib.hid (Ha.out.bel hb)
    replace Hb := Lib.hid (Hb.out.bel hb)
    replace Hs := Lib.hid (Hs.out.bel hb)
    replace Ht := Lib.hid (Ht.out.bel hb)
    replace B := B.trans (hb.mono B.size)
    clear hb
    go_wp2_with fail
    refine (parse_k _ Za Da Qa.out (HT.out.below B (Nat.le_refl _)) (HS.out.below B (Nat.le_refl _)) t PT.out).mono ?_
    rintro e w16 ⟨vu, rfl, ho, hb⟩
    replace r_0 := keep_cell hb r_0
    replace r_1 := keep_cell hb r_1
    replace r_2 := keep_cell hb r_2
    replace x_0 := keep_cell hb x_0
    replace x_1 := keep_cell hb x_1
    replace x_2 := keep_cell hb x_2
    replace y_0 := keep_cell hb y_0
    replace y_1 := keep_cell hb y_1
    replace y_2 := keep_cell hb y_2
    replace z_0 := keep_cell hb z_0
    replace z_1 := keep_cell hb z_1
    replace z_2 := keep_cell hb z_2
    replace w_0 := keep_cell hb w_0
    replace w_1 := keep_cell hb w_1
    replace w_2 := keep_cell hb w_2
    replace Hr := Lib.hid (And.intro (Hr.out.1.below hb (Nat.le_refl _)) (Hr.out.2.below hb (Nat.le_refl _)))
    replace Hx := Lib.hid (And.intro (Hx.out.1.below hb (Nat.le_refl _)) (Hx.out.2.below hb (Nat.le_refl _)))
    replace Hy := Lib.hid (And.intro (Hy.out.1.below hb (Nat.le_refl _)) (Hy.out.2.below hb (Nat.le_refl _)))
    replace Hz := Lib.hid (And.intro (Hz.out.1.below hb (Nat.le_refl _)) (Hz.out.2.below hb (Nat.le_refl _)))
    replace Hw := Lib.hid (And.intro (Hw.out.1.below hb (Nat.le_refl _)) (Hw.out.2.below hb (Nat.le_refl _)))
    replace Ha := Lib.hid (Ha.out.bel hb)
    replace Hb := Lib.hid (Hb.out.bel hb)
    replace Hs := Lib.hid (Hs.out.bel hb)
    replace Ht := Lib.hid (Ht.out.bel hb)
    replace B := B.trans (hb.mono B.size)
    clear hb
    have Hu := Lib.hid (show Vec w16 _ _ vu 3 (fun j => qv (Za j) (Da j)) from ho)
    clear ho
    go_wp2_with fail
    refine (sub_k _ _ _ Zt Zb Zs Dt Db Ds Ht.out Hb.out Qt.out Qb.out PL.out.d Qs.out).mono ?_
    rintro e w17 ⟨vd, rfl, ho, hb⟩
    replace r_0 := keep_cell hb r_0
    replace r_1 := keep_cell hb r_1
    replace r_2 := keep_cell hb r_2
    replace x_0 := keep_cell hb x_0
    replace x_1 := keep_cell hb x_1
    replace x_2 := keep_cell hb x_2
    replace y_0 := keep_cell hb y_0
    replace y_1 := keep_cell hb y_1
    replace y_2 := keep_cell hb y_2
    replace z_0 := keep_cell hb z_0
    replace z_1 := keep_cell hb z_1
    replace z_2 := keep_cell hb z_2
    replace w_0 := keep_cell hb w_0
    replace w_1 := keep_cell hb w_1
    replace w_2 := keep_cell hb w_2
    replace Hr := Lib.hid (And.intro (Hr.out.1.below hb (Nat.le_refl _)) (Hr.out.2.below hb (Nat.le_refl _)))
    replace Hx := Lib.hid (And.intro (Hx.out.1.below hb (Nat.le_refl _)) (Hx.out.2.below hb (Nat.le_refl _)))
    replace Hy := Lib.hid (And.intro (Hy.out.1.below hb (Nat.le_refl _)) (Hy.out.2.below hb (Nat.le_refl _)))
    replace Hz := Lib.hid (And.intro (Hz.out.1.below hb (Nat.le_refl _)) (Hz.out.2.below hb (Nat.le_refl _)))
    replace Hw := Lib.hid (And.intro (Hw.out.1.below hb (Nat.le_refl _)) (Hw.out.2.below hb (Nat.le_refl _)))
    replace Ha := Lib.hid (Ha.out.bel hb)
    replace Hb := Lib.hid (Hb.out.bel hb)
    replace Hs := Lib.hid (Hs.out.bel hb)
    replace Ht := Lib.hid (Ht.out.bel hb)
    replace Hu := Lib.hid (Hu.out.bel hb)
    replace B := B.trans (hb.mono B.size)
    clear hb
    have Hd := Lib.hid (show Vec w17 _ _ vd 3 (fun j => qv (Zs j) (Ds j)) from ho)
    clear ho
    go_upto_region 16 with fail
    have BC := below_drew (Below.refl w17.heap.size w17)
    have hc0 := B.size
    go_region_held3 (fun w' => w'.cell? ⟨w3.heap.size, 0, none⟩ = some (.bool (ng zr)) ∧ w'.cell? ⟨w3.heap.size, 1, none⟩ = some (.slice ar1 (limbs zr.natAbs).length kr1) ∧ w'.cell? ⟨w3.heap.size, 2, none⟩ = some (.slice ar2 (limbs dr).length kr2) ∧ w'.cell? ⟨w7.heap.size, 0, none⟩ = some (.bool (ng zx)) ∧ w'.cell? ⟨w7.heap.size, 1, none⟩ = some (.slice ax1 (limbs zx.natAbs).length kx1) ∧ w'.cell? ⟨w7.heap.size, 2, none⟩ = some (.slice ax2 (limbs dx).length kx2) ∧ w'.cell? ⟨w9.heap.size, 0, none⟩ = some (.bool (ng zy)) ∧ w'.cell? ⟨w9.heap.size, 1, none⟩ = some (.slice ay1 (limbs zy.natAbs).length ky1) ∧ w'.cell? ⟨w9.heap.size, 2, none⟩ = some (.slice ay2 (limbs dy).length ky2) ∧ w'.cell? ⟨w11.heap.size, 0, none⟩ = some (.bool (ng zz)) ∧ w'.cell? ⟨w11.heap.size, 1, none⟩ = some (.slice az1 (limbs zz.natAbs).length kz1) ∧ w'.cell? ⟨w11.heap.size, 2, none⟩ = some (.slice az2 (limbs dz).length kz2) ∧ w'.cell? ⟨w13.heap.size, 0, none⟩ = some (.bool (ng zy)) ∧ w'.cell? ⟨w13.heap.size, 1, none⟩ = some (.slice aw1 (limbs zy.natAbs).length kw1) ∧ w'.cell? ⟨w13.heap.size, 2, none⟩ = some (.slice aw2 (limbs dy).length kw2)) (first | exact ⟨keep_cell BC r_0, keep_cell BC r_1, keep_cell BC r_2, keep_cell BC x_0, keep_cell BC x_1, keep_cell BC x_2, keep_cell BC y_0, keep_cell BC y_1, keep_cell BC y_2, keep_cell BC z_0, keep_cell BC z_1, keep_cell BC z_2, keep_cell BC w_0, keep_cell BC w_1, keep_cell BC w_2⟩ | go_keep)
      (first | (go_at_call 23; refine (isVector_k _ _ Za Da (Ha.out.bel BC) Qa.out).mono ?_; rintro e wq1 ⟨rfl, hbq⟩; replace BC := BC.trans (hbq.mono BC.size); clear hbq) | (go_at_call_of 24 (vu); refine (equal_k _ _ _ _ (Hu.out.bel BC) (Ha.out.bel BC)).mono ?_; rintro e wq2 ⟨rfl, hbq⟩; replace BC := BC.trans (hbq.mono BC.size); clear hbq) | (go_at_call_of 24 (vd); refine (equal_k _ _ _ _ (Hd.out.bel BC) (Hs.out.bel BC)).mono ?_; rintro e wq3 ⟨rfl, hbq⟩; replace BC := BC.trans (hbq.mono BC.size); clear hbq) | (go_at_call_of 10 (Value.slice ay1 (limbs zy.natAbs).length ky1); refine (RatEqual_s _ _ _ _ _ _ _ _ (Hy.out.1.below BC (Nat.le_refl _)) (Hy.out.2.below BC (Nat.le_refl _)) _ _ _ _ (Hw.out.1.below BC (Nat.le_refl _)) (Hw.out.2.below BC (Nat.le_refl _))).mono ?_; rintro e wq4 ⟨rfl, hbq⟩; replace BC := BC.trans (hbq.mono BC.size); clear hbq) | (go_at_call 6; refine (RatMul_good _ _ _ _ _ zr dr (Hr.out.1.below BC (Nat.le_refl _)) (Hr.out.2.below BC (Nat.le_refl _)) _ _ _ _ zy dy (Hy.out.1.below BC (Nat.le_refl _)) (Hy.out.2.below BC (Nat.le_refl _)) Sr.out.1 PL.out.y.2.2 zp dp PL.out.p.1 PL.out.p.2.1).mono ?_; rintro e wq5 ⟨up, vp, rfl, ho1, ho2, ha, hbq⟩; have Hp := Lib.hid (And.intro ho1 ho2); clear ho1 ho2 ha; replace BC := BC.trans (hbq.mono BC.size); clear hbq) | (go_at_call 7; refine (RatAdd_good _ _ _ _ _ zp dp Hp.out.1 Hp.out.2 _ _ _ _ zz dz (Hz.out.1.below BC (Nat.le_refl _)) (Hz.out.2.below BC (Nat.le_refl _)) PL.out.p.2.2 PL.out.z.2.2 zx dx PL.out.e.1 PL.out.e.2).mono ?_; rintro e wq6 ⟨uq, vq, rfl, ho1, ho2, ha, hbq⟩; have Hq := Lib.hid (And.intro ho1 ho2); clear ho1 ho2 ha; replace BC := BC.trans (hbq.mono BC.size); clear hbq) | (go_at_call_of 10 (Value.slice ax1 (limbs zx.natAbs).length kx1); refine (RatEqual_s _ _ _ _ _ _ _ _ (Hx.out.1.below BC (Nat.le_refl _)) (Hx.out.2.below BC (Nat.le_refl _)) _ _ _ _ Hq.out.1 Hq.out.2).mono ?_; rintro e wq7 ⟨rfl, hbq⟩; replace BC := BC.trans (hbq.mono BC.size); clear hbq) | (go_at_call 25; refine (zero_k _).mono ?_; rintro e wq8 ⟨vz, rfl, ho, hbq⟩; obtain ⟨ab, cb, rfl, -, -, -⟩ := ho.form; clear ho; replace BC := BC.trans (hbq.mono BC.size); clear hbq) | (go_at_call 26; refine (unit_k _).mono ?_; rintro e wq9 ⟨vo, rfl, ho, hbq⟩; obtain ⟨ab, cb, rfl, -, -, -⟩ := ho.form; clear ho; replace BC := BC.trans (hbq.mono BC.size); clear hbq))
    go_wp2
    go_ret
    exact retB rfl (B.trans (BC.mono B.size))

theorem allPlain : (Rows.fnVectorsRow.laid.all fun x => x.2.handleName?.isNone) = true := by kernel_rfl
set_option maxRecDepth 100000 in
theorem lifted (os : Os) (started : os.Started) (H : Type) (enc : TypeId × Value → H) :
    ReturnsInHanded {} Tryz.checked os 4 .any (fun w args => (Rows.fnVectorsSpec.pre enc Tryz.prog Tryz.f4 Rows.fnVectorsRow.domain false w args ∧ laidMetH Tryz.prog Rows.fnVectorsRow.laid w) ∧ sizedMet enc Tryz.prog Tryz.f4 (OpenSpec.ofChange Rows.fnVectorsSpec) false w args) (Rows.fnVectorsSpec.post enc Tryz.prog Tryz.f4 false true false false) := by
  refine handed_of (C := Tryz.checked) (X := (fun w _ => laidMetH Tryz.prog Rows.fnVectorsRow.laid w)) (fun _ _ _ hh h => h.of_heap hh) Tryz.own started (by as_aux_lemma => kernel_rfl) Tryz.func4
    (ChangeSpec.witness_shaped (enc := enc) (C := Tryz.checked) (os := os) (X := (fun w _ => laidMetH Tryz.prog Rows.fnVectorsRow.laid w)) false (World.laidAll Tryz.prog os Rows.fnVectorsRow.laid) #[.slice none 0 0] 8 (World.laidAll_os _ _ _)
      (World.shaped_of_ZipB (by as_aux_lemma => kernel_rfl) (by as_aux_lemma => kernel_rfl)) (by as_aux_lemma => kernel_rfl) (by as_aux_lemma => kernel_rfl) (by as_aux_lemma => kernel_rfl)
      (by rw [MakeChecks.laidMetH_plain _ _ _ allPlain]; exact laidMet_laidAll _ (by as_aux_lemma => kernel_rfl) (by as_aux_lemma => kernel_rfl))) ?_
  intro W base args ds gs before hval0 hW hL hsh
  have hval : ∀ (j : Nat) t v, Tryz.f4.params[j]? = some t → args[j]? = some v → Value.okWide Tryz.prog W .any base t v := hval0
  have hW' := hW
  obtain ⟨p, q, hA0, hV, rfl, hfz, hnd⟩ := hW
  have hA : DataW.TrodAll enc Tryz.prog W 0 (fun _ => true) true Tryz.f4.params.toList args.toList ds p := hA0
  rw [Tryz.params4] at hA hval
  have HT : Tabs W := tabs_of_laid (l := Rows.fnVectorsRow.laid) hL allPlain (r := [("strconv.ErrRange", Rows.laid_strconv_ErrRange), ("strconv.ErrSyntax", Rows.laid_strconv_ErrSyntax)]) rfl
  have HS : Shp W := shp_of hsh
  have HE : Errs W := errs_of_laid (l := Rows.fnVectorsRow.laid) hL allPlain rfl
  obtain ⟨v0, vs0, d0, ds0, p0, q0, hargs, rfl, rfl, h0, r0⟩ := trodAll_cons hA
  obtain ⟨rfl, rfl, rfl⟩ := trodAll_nil r0
  obtain rfl : args = #[v0] := by cases args; simp_all
  obtain ⟨rfl, rfl⟩ := trodVars_none hV
  have lt0 : ∀ x ∈ p0, x.block < W.heap.size := by obtain ⟨m, hm⟩ := h0; exact DataW.trod_lt m _ _ _ hm
  obtain ⟨x0, w0⟩ := rdY_of_trod (hval 0 22 v0 rfl rfl) h0
  clear hA0 hval0
  refine (walk W v0 x0 w0 
    HT HE HS).mono fun e W' ⟨he, bel⟩ => ?_
  subst he
  exact ⟨_, rfl, _, _, _, [], _, [], hW', trodAll_mk1 (shut_bool Tryz.underlying4 _), (trodAll_cons_mk (Below.trod Tryz.laidOut (by as_aux_lemma => kernel_rfl) (of_decide_eq_true (by as_aux_lemma => kernel_rfl)) h0 bel lt0) trodAll_mk0), rfl, bel.frame _, fun h => by cases h⟩

theorem facts : joinedFacts Tryz.pinned.checked.prog 4 Tryz.f4 Rows.fnVectorsSpec Rows.fnVectorsRow = true := by
  unfold joinedFacts
  refine and_mk (and_mk (and_mk (and_mk (and_mk (and_mk (and_mk ?_ Tryz.mayEnter) ?_) ?_) ?_) ?_) ?_) ?_
  · kernel_rfl
  · rw [Tryz.liftsNone]; rfl
  · rw [Tryz.makeCut]; rfl
  · kernel_rfl
  · kernel_rfl
  · kernel_rfl
  · kernel_rfl

theorem row : Rows.FnVectorsSaid :=
  OpenClaim.holds_of_wide 4 Tryz.f4 rfl rfl rfl rfl rfl rfl rfl ⟨rfl, rfl, rfl, rfl, rfl⟩ rfl rfl rfl rfl rfl (by as_aux_lemma => kernel_rfl) Tryz.func4 facts
    (of_decide_eq_true (by as_aux_lemma => kernel_rfl)) (by unfold Func.isWrapper; rw [if_neg (of_decide_eq_false (by as_aux_lemma => kernel_rfl))]; exact ⟨rfl, rfl⟩)
    (fun os started H enc _ => lifted os started H enc)

theorem funcIs : Tryz.prog.funcNamed Rows.fnVectorsRow.func = some 4 := by kernel_rfl
theorem standIns : (Tryz.f4.params.toList.all fun u => !Tryz.prog.wantsStandIn u) = true := by kernel_rfl
theorem proved : Rows.FnVectorsCardSaid :=
  Claim7.holds_tied_plain_at .later [] _ _ _ _
    row (fun _ h => by cases h) (by as_aux_lemma => kernel_rfl) (fun _ h => by cases h) fnVectors_row_tie rfl ⟨rfl, rfl⟩ (by as_aux_lemma => kernel_rfl) rfl
    (fun f fn hf hfn => by
      obtain rfl : f = 4 := (Option.some.inj (funcIs.symm.trans hf)).symm
      obtain rfl : fn = Tryz.f4 := (Option.some.inj (Tryz.func4.symm.trans hfn)).symm
      exact ⟨by as_aux_lemma => kernel_rfl, fun j t ht => by
        have hm := Array.mem_of_getElem? ht
        exact (show Tryz.prog.wantsStandIn t = false by simpa using List.all_eq_true.1 standIns t (Array.mem_toList_iff.2 hm))⟩)
    (by as_aux_lemma => kernel_rfl)

end Go.Proofs.YtijeplcjbhkkoaaGreatDoor.lawFnVectors
