/- FnRats: fractions form a field, and are recovered from their text; for every input. -/
import Derived.Test.YtijeplcjbhkkoaaGreatDoorCurB
import Derived.Test.YtijeplcjbhkkoaaGreatDoorOpenY
import Derived.Test.YtijeplcjbhkkoaaGreatDoorRatF
import Derived.Test.YtijeplcjbhkkoaaGreatDoorShp
import Derived.Test.YtijeplcjbhkkoaaGreatDoorStrG
namespace Go.Proofs.YtijeplcjbhkkoaaGreatDoor.lawFnRats
open Go.ChangeShapes Go.WideShapes Go.ChangeAt Go.RowKit Lm Go.Proofs.YtijeplcjbhkkoaaGreatDoor

theorem sgn3_ne {x : Int} (h : x ≠ 0) : sgn3 x ≠ 0 := by
  unfold sgn3
  split
  · omega
  · split
    · omega
    · omega
set_option maxHeartbeats 8000000 in
set_option maxRecDepth 100000 in
theorem walk (w : World) (v0 : Value) (x0 : List UInt8) (h0 : RdY0 w v0 x0) (ht : Tabs w) (_he : Errs w) (hsh : Shp w) :
    Calls Tryz.prog 3 #[v0] w (RetB w true) := by
  have HT := Lib.hid ht
  have HS := Lib.hid hsh
  obtain ⟨ao, cap, rfl, hr⟩ := h0
  clear ht hsh _he
  by_cases hl : x0.length ≤ 1048576
  case neg =>
    have d0 : decide ((1048576 : Int) < x0.length) = true := decide_eq_true (by omega)
    go_enter Tryz.func3, Tryz.ntmps3
    go_wp2
    go_ret
    exact retB rfl (Below.refl _ _)
  case pos =>
    have d0 : decide ((1048576 : Int) < x0.length) = false := decide_eq_false (by omega)
    have HR := Lib.hid (hr hl)
    have B := Below.refl w.heap.size w
    clear hr
    go_enter Tryz.func3, Tryz.ntmps3
    go_wp2_with fail
    refine (makeRat_c _ _ x0 1 (HR.out.top B.size B) (by omega)).mono ?_
    rintro e w1 ⟨za, da, hz, ua, va, rfl, ho1, ho2, ha, hb⟩
    have HB := Lib.hid B.size
    replace B := B.trans (hb.mono B.size)
    clear hb
    obtain ⟨aa1, ka1, rfl, -, -, -, -, -⟩ := ho1.form
    obtain ⟨aa2, ka2, rfl, -, -, -, -, -⟩ := ho2.form
    have Sa := Lib.hid hz
    have Ha := Lib.hid (And.intro (ho1.mono HB.out) (ho2.mono HB.out))
    clear ho1 ho2 ha hz
    have hb := alloc_bel w1 (.cells #[.bool (ng za), .slice aa1 (limbs za.natAbs).length ka1, .slice aa2 (limbs da).length ka2] 27)
    replace Ha := Lib.hid (And.intro (Ha.out.1.below hb (Nat.le_refl _)) (Ha.out.2.below hb (Nat.le_refl _)))
    obtain ⟨a_0, a_1, a_2⟩ : (w1.alloc (.cells #[.bool (ng za), .slice aa1 (limbs za.natAbs).length ka1, .slice aa2 (limbs da).length ka2] 27)).cell? ⟨w1.heap.size, 0, none⟩ = some (.bool (ng za)) ∧ (w1.alloc (.cells #[.bool (ng za), .slice aa1 (limbs za.natAbs).length ka1, .slice aa2 (limbs da).length ka2] 27)).cell? ⟨w1.heap.size, 1, none⟩ = some (.slice aa1 (limbs za.natAbs).length ka1) ∧ (w1.alloc (.cells #[.bool (ng za), .slice aa1 (limbs za.natAbs).length ka1, .slice aa2 (limbs da).length ka2] 27)).cell? ⟨w1.heap.size, 2, none⟩ = some (.slice aa2 (limbs da).length ka2) := by simp [go_sem]
    replace B := B.trans (hb.mono B.size)
    clear hb
    go_wp2_with fail
    generalize w1.alloc (.cells #[.bool (ng za), .slice aa1 (limbs za.natAbs).length ka1, .slice aa2 (limbs da).length ka2] 27) = w2 at *
    go_wp2_with fail
    refine (makeRat_c _ _ x0 5 (HR.out.top B.size B) (by omega)).mono ?_
    rintro e w3 ⟨zb, db, hz, ub, vb, rfl, ho1, ho2, ha, hb⟩
    replace a_0 := keep_cell hb a_0
    replace a_1 := keep_cell hb a_1
    replace a_2 := keep_cell hb a_2
    replace Ha := Lib.hid (And.intro (Ha.out.1.below hb (Nat.le_refl _)) (Ha.out.2.below hb (Nat.le_refl _)))
    have HB := Lib.hid B.size
    replace B := B.trans (hb.mono B.size)
    clear hb
    obtain ⟨ab1, kb1, rfl, -, -, -, -, -⟩ := ho1.form
    obtain ⟨ab2, kb2, rfl, -, -, -, -, -⟩ := ho2.form
    have Sb := Lib.hid hz
    have Hb := Lib.hid (And.intro (ho1.mono HB.out) (ho2.mono HB.out))
    clear ho1 ho2 ha hz
    have hb := alloc_bel w3 (.cells #[.bool (ng zb), .slice ab1 (limbs zb.natAbs).length kb1, .slice ab2 (limbs db).length kb2] 27)
    replace a_0 := keep_cell hb a_0
    replace a_1 := keep_cell hb a_1
    replace a_2 := keep_cell hb a_2
    replace Ha := Lib.hid (And.intro (Ha.out.1.below hb (Nat.le_refl _)) (Ha.out.2.below hb (Nat.le_refl _)))
    replace Hb := Lib.hid (And.intro (Hb.out.1.below hb (Nat.le_refl _)) (Hb.out.2.below hb (Nat.le_refl _)))
    obtain ⟨b_0, b_1, b_2⟩ : (w3.alloc (.cells #[.bool (ng zb), .slice ab1 (limbs zb.natAbs).length kb1, .slice ab2 (limbs db).length kb2] 27)).cell? ⟨w3.heap.size, 0, none⟩ = some (.bool (ng zb)) ∧ (w3.alloc (.cells #[.bool (ng zb), .slice ab1 (limbs zb.natAbs).length kb1, .slice ab2 (limbs db).length kb2] 27)).cell? ⟨w3.heap.size, 1, none⟩ = some (.slice ab1 (limbs zb.natAbs).length kb1) ∧ (w3.alloc (.cells #[.bool (ng zb), .slice ab1 (limbs zb.natAbs).length kb1, .slice ab2 (limbs db).length kb2] 27)).cell? ⟨w3.heap.size, 2, none⟩ = some (.slice ab2 (limbs db).length kb2) := by simp [go_sem]
    replace B := B.trans (hb.mono B.size)
    clear hb
    go_wp2_with fail
    generalize w3.alloc (.cells #[.bool (ng zb), .slice ab1 (limbs zb.natAbs).length kb1, .slice ab2 (limbs db).length kb2] 27) = w4 at *
    go_wp2_with fail
    refine (makeRat_c _ _ x0 9 (HR.out.top B.size B) (by omega)).mono ?_
    rintro e w5 ⟨zc, dc, hz, uc, vc, rfl, ho1, ho2, ha, hb⟩
    replace a_0 := keep_cell hb a_0
    replace a_1 := keep_cell hb a_1
    replace a_2 := keep_cell hb a_2
    replace b_0 := keep_cell hb b_0
    replace b_1 := keep_cell hb b_1
    replace b_2 := keep_cell hb b_2
    replace Ha := Lib.hid (And.intro (Ha.out.1.below hb (Nat.le_refl _)) (Ha.out.2.below hb (Nat.le_refl _)))
    replace Hb := Lib.hid (And.intro (Hb.out.1.below hb (Nat.le_refl _)) (Hb.out.2.below hb (Nat.le_refl _)))
    have HB := Lib.hid B.size
    replace B := B.trans (hb.mono B.size)
    clear hb
    obtain ⟨ac1, kc1, rfl, -, -, -, -, -⟩ := ho1.form
    obtain ⟨ac2, kc2, rfl, -, -, -, -, -⟩ := ho2.form
    have Sc := Lib.hid hz
    have Hc := Lib.hid (And.intro (ho1.mono HB.out) (ho2.mono HB.out))
    clear ho1 ho2 ha hz
    have hb := alloc_bel w5 (.cells #[.bool (ng zc), .slice ac1 (limbs zc.natAbs).length kc1, .slice ac2 (limbs dc).length kc2] 27)
    replace a_0 := keep_cell hb a_0
    replace a_1 := keep_cell hb a_1
    replace a_2 := keep_cell hb a_2
    replace b_0 := keep_cell hb b_0
    replace b_1 := keep_cell hb b_1
    replace b_2 := keep_cell hb b_2
    replace Ha := Lib.hid (And.intro (Ha.out.1.below hb (Nat.le_refl _)) (Ha.out.2.below hb (Nat.le_refl _)))
    replace Hb := Lib.hid (And.intro (Hb.out.1.below hb (Nat.le_refl _)) (Hb.out.2.below hb (Nat.le_refl _)))
    replace Hc := Lib.hid (And.intro (Hc.out.1.below hb (Nat.le_refl _)) (Hc.out.2.below hb (Nat.le_refl _)))
    obtain ⟨c_0, c_1, c_2⟩ : (w5.alloc (.cells #[.bool (ng zc), .slice ac1 (limbs zc.natAbs).length kc1, .slice ac2 (limbs dc).length kc2] 27)).cell? ⟨w5.heap.size, 0, none⟩ = some (.bool (ng zc)) ∧ (w5.alloc (.cells #[.bool (ng zc), .slice ac1 (limbs zc.natAbs).length kc1, .slice ac2 (limbs dc).length kc2] 27)).cell? ⟨w5.heap.size, 1, none⟩ = some (.slice ac1 (limbs zc.natAbs).length kc1) ∧ (w5.alloc (.cells #[.bool (ng zc), .slice ac1 (limbs zc.natAbs).length kc1, .slice ac2 (limbs dc).length kc2] 27)).cell? ⟨w5.heap.size, 2, none⟩ = some (.slice ac2 (limbs dc).length kc2) := by simp [go_sem]
    replace B := B.trans (hb.mono B.size)
    clear hb
    go_upto_region 6 with fail
    generalize w5.alloc (.cells #[.bool (ng zc), .slice ac1 (limbs zc.natAbs).length kc1, .slice ac2 (limbs dc).length kc2] 27) = w6 at *
    obtain ⟨zs, ds, zx, dx, zp, dp, zr, dr, hs, hx, hp, hr, hy⟩ := fr_field Sa.out Sb.out Sc.out
    obtain ⟨zu, du, hu1, hu2, hu3, hu4⟩ := fr_sub Sa.out Sb.out
    have Ps := Lib.hid hs
    have Px := Lib.hid hx
    have Pp := Lib.hid hp
    have Pr := Lib.hid hr
    have Py := Lib.hid hy
    have Pu := Lib.hid (And.intro hu1 (And.intro hu2 (And.intro hu3 hu4)))
    clear hs hx hp hr hy hu1 hu2 hu3 hu4
    go_cut [6] (fun o wx => ∃ (g : Nat) (a1 : Option Addr) (c1 : Nat) (a2 : Option Addr) (c2 : Nat), o = .pointer (some ⟨g, 0, none⟩) ∧ wx.cell? ⟨g, 0, none⟩ = some (.bool (ng zx)) ∧ wx.cell? ⟨g, 1, none⟩ = some (.slice a1 (limbs zx.natAbs).length c1) ∧ wx.cell? ⟨g, 2, none⟩ = some (.slice a2 (limbs dx).length c2) ∧ Hid (Own wx w.heap.size (.slice a1 (limbs zx.natAbs).length c1) (limbs zx.natAbs) ∧ Own wx w.heap.size (.slice a2 (limbs dx).length c2) (limbs dx)) ∧ Below w6.heap.size w6 wx)
    case first =>
      have BC := below_drew (Below.refl w6.heap.size w6)
      have hc0 := B.size
      go_region_held3 (fun w' => w'.cell? ⟨w1.heap.size, 0, none⟩ = some (.bool (ng za)) ∧ w'.cell? ⟨w1.heap.size, 1, none⟩ = some (.slice aa1 (limbs za.natAbs).length ka1) ∧ w'.cell? ⟨w1.heap.size, 2, none⟩ = some (.slice aa2 (limbs da).length ka2) ∧ w'.cell? ⟨w3.heap.size, 0, none⟩ = some (.bool (ng zb)) ∧ w'.cell? ⟨w3.heap.size, 1, none⟩ = some (.slice ab1 (limbs zb.natAbs).length kb1) ∧ w'.cell? ⟨w3.heap.size, 2, none⟩ = some (.slice ab2 (limbs db).length kb2) ∧ w'.cell? ⟨w5.heap.size, 0, none⟩ = some (.bool (ng zc)) ∧ w'.cell? ⟨w5.heap.size, 1, none⟩ = some (.slice ac1 (limbs zc.natAbs).length kc1) ∧ w'.cell? ⟨w5.heap.size, 2, none⟩ = some (.slice ac2 (limbs dc).length kc2)) (first | exact ⟨keep_cell (BC) a_0, keep_cell (BC) a_1, keep_cell (BC) a_2, keep_cell (BC) b_0, keep_cell (BC) b_1, keep_cell (BC) b_2, keep_cell (BC) c_0, keep_cell (BC) c_1, keep_cell (BC) c_2⟩ | exact ⟨keep_cell (BC.alloc BC.size _) a_0, keep_cell (BC.alloc BC.size _) a_1, keep_cell (BC.alloc BC.size _) a_2, keep_cell (BC.alloc BC.size _) b_0, keep_cell (BC.alloc BC.size _) b_1, keep_cell (BC.alloc BC.size _) b_2, keep_cell (BC.alloc BC.size _) c_0, keep_cell (BC.alloc BC.size _) c_1, keep_cell (BC.alloc BC.size _) c_2⟩ | exact ⟨keep_cell (below_drew ((below_undrew BC).alloc BC.size _)) a_0, keep_cell (below_drew ((below_undrew BC).alloc BC.size _)) a_1, keep_cell (below_drew ((below_undrew BC).alloc BC.size _)) a_2, keep_cell (below_drew ((below_undrew BC).alloc BC.size _)) b_0, keep_cell (below_drew ((below_undrew BC).alloc BC.size _)) b_1, keep_cell (below_drew ((below_undrew BC).alloc BC.size _)) b_2, keep_cell (below_drew ((below_undrew BC).alloc BC.size _)) c_0, keep_cell (below_drew ((below_undrew BC).alloc BC.size _)) c_1, keep_cell (below_drew ((below_undrew BC).alloc BC.size _)) c_2⟩ | exact ⟨keep_cell (BC.setCell hgz _) a_0, keep_cell (BC.setCell hgz _) a_1, keep_cell (BC.setCell hgz _) a_2, keep_cell (BC.setCell hgz _) b_0, keep_cell (BC.setCell hgz _) b_1, keep_cell (BC.setCell hgz _) b_2, keep_cell (BC.setCell hgz _) c_0, keep_cell (BC.setCell hgz _) c_1, keep_cell (BC.setCell hgz _) c_2⟩ | exact ⟨keep_cell ((BC.setCell hgz _).setCell hgz _) a_0, keep_cell ((BC.setCell hgz _).setCell hgz _) a_1, keep_cell ((BC.setCell hgz _).setCell hgz _) a_2, keep_cell ((BC.setCell hgz _).setCell hgz _) b_0, keep_cell ((BC.setCell hgz _).setCell hgz _) b_1, keep_cell ((BC.setCell hgz _).setCell hgz _) b_2, keep_cell ((BC.setCell hgz _).setCell hgz _) c_0, keep_cell ((BC.setCell hgz _).setCell hgz _) c_1, keep_cell ((BC.setCell hgz _).setCell hgz _) c_2⟩ | exact ⟨keep_cell (((BC.setCell hgz _).setCell hgz _).setCell hgz _) a_0, keep_cell (((BC.setCell hgz _).setCell hgz _).setCell hgz _) a_1, keep_cell (((BC.setCell hgz _).setCell hgz _).setCell hgz _) a_2, keep_cell (((BC.setCell hgz _).setCell hgz _).setCell hgz _) b_0, keep_cell (((BC.setCell hgz _).setCell hgz _).setCell hgz _) b_1, keep_cell (((BC.setCell hgz _).setCell hgz _).setCell hgz _) b_2, keep_cell (((BC.setCell hgz _).setCell hgz _).setCell hgz _) c_0, keep_cell (((BC.setCell hgz _).setCell hgz _).setCell hgz _) c_1, keep_cell (((BC.setCell hgz _).setCell hgz _).setCell hgz _) c_2⟩ | go_keep)
        (first | (go_at_call 7; refine (RatAdd_good _ _ _ _ _ zb db (by first | exact Hb.out.1.below BC (Nat.le_refl _) | exact (Hb.out.1.below BC (Nat.le_refl _)).alloc _ | exact Own.drew ((Hb.out.1.below (below_undrew BC) (Nat.le_refl _)).alloc _)) (by first | exact Hb.out.2.below BC (Nat.le_refl _) | exact (Hb.out.2.below BC (Nat.le_refl _)).alloc _ | exact Own.drew ((Hb.out.2.below (below_undrew BC) (Nat.le_refl _)).alloc _)) _ _ _ _ zc dc (by first | exact Hc.out.1.below BC (Nat.le_refl _) | exact (Hc.out.1.below BC (Nat.le_refl _)).alloc _ | exact Own.drew ((Hc.out.1.below (below_undrew BC) (Nat.le_refl _)).alloc _)) (by first | exact Hc.out.2.below BC (Nat.le_refl _) | exact (Hc.out.2.below BC (Nat.le_refl _)).alloc _ | exact Own.drew ((Hc.out.2.below (below_undrew BC) (Nat.le_refl _)).alloc _)) Sb.out.1 Sc.out.1 zs ds Ps.out.1 Ps.out.2.1).mono ?_; rintro e wq1 ⟨us, vs, rfl, ho1, ho2, ha, hb1⟩; (first | (replace f0 := keep_frozen hb1 k0 f0; replace k0 := keep_cell hb1 k0; replace f1 := keep_frozen hb1 k1 f1; replace k1 := keep_cell hb1 k1; replace f2 := keep_frozen hb1 k2 f2; replace k2 := keep_cell hb1 k2) | (with_reducible have hk := new_box3 hb1; obtain ⟨k0, k1, k2, f0, f1, f2⟩ := hk; have hgz := BC.size) | (with_reducible have hk := new_box3d hb1; obtain ⟨k0, k1, k2, f0, f1, f2⟩ := hk; have hgz := BC.size) | skip); (first | (with_reducible replace ho1 := Own.unalloc ho1) | (with_reducible replace ho1 := Own.unallocd ho1) | skip); (first | (with_reducible replace ho2 := Own.unalloc ho2) | (with_reducible replace ho2 := Own.unallocd ho2) | skip); (first | (with_reducible replace hb1 := alloc_below hb1) | (with_reducible replace hb1 := alloc_belowd hb1) | skip); have Hs := Lib.hid (And.intro (ho1.mono (Nat.le_trans hc0 BC.size)) (ho2.mono (Nat.le_trans hc0 BC.size))); clear ho1 ho2 ha; replace BC := BC.trans (hb1.mono BC.size); clear hb1) | (go_at_call 6; refine (RatMul_good _ _ _ _ _ za da (by first | exact Ha.out.1.below BC (Nat.le_refl _) | exact (Ha.out.1.below BC (Nat.le_refl _)).alloc _ | exact Own.drew ((Ha.out.1.below (below_undrew BC) (Nat.le_refl _)).alloc _)) (by first | exact Ha.out.2.below BC (Nat.le_refl _) | exact (Ha.out.2.below BC (Nat.le_refl _)).alloc _ | exact Own.drew ((Ha.out.2.below (below_undrew BC) (Nat.le_refl _)).alloc _)) _ _ _ _ zs ds (by first | exact Hs.out.1 | exact Hs.out.1.alloc _) (by first | exact Hs.out.2 | exact Hs.out.2.alloc _) Sa.out.1 Ps.out.2.2 zx dx Px.out.1 Px.out.2.1).mono ?_; rintro e wq2 ⟨un, vn, rfl, ho1, ho2, ha, hb2⟩; (first | (have hne1 := own_ne_old k0 ho1; have hne2 := own_ne_old k0 ho2) | (with_reducible have hne1 := own_ne_alloc ho1; with_reducible have hne2 := own_ne_alloc ho2) | (with_reducible have hne1 := own_ne_allocd ho1; with_reducible have hne2 := own_ne_allocd ho2) | skip); (first | (replace f0 := keep_frozen hb2 k0 f0; replace k0 := keep_cell hb2 k0; replace f1 := keep_frozen hb2 k1 f1; replace k1 := keep_cell hb2 k1; replace f2 := keep_frozen hb2 k2 f2; replace k2 := keep_cell hb2 k2) | (with_reducible have hk := new_box3 hb2; obtain ⟨k0, k1, k2, f0, f1, f2⟩ := hk; have hgz := BC.size) | (with_reducible have hk := new_box3d hb2; obtain ⟨k0, k1, k2, f0, f1, f2⟩ := hk; have hgz := BC.size) | skip); (first | (with_reducible replace ho1 := Own.unalloc ho1) | (with_reducible replace ho1 := Own.unallocd ho1) | skip); (first | (with_reducible replace ho2 := Own.unalloc ho2) | (with_reducible replace ho2 := Own.unallocd ho2) | skip); (first | (with_reducible replace hb2 := alloc_below hb2) | (with_reducible replace hb2 := alloc_belowd hb2) | skip); replace Hs := Lib.hid (And.intro (Hs.out.1.below hb2 (Nat.le_refl _)) (Hs.out.2.below hb2 (Nat.le_refl _))); have Hn := Lib.hid (And.intro (ho1.mono (Nat.le_trans hc0 BC.size)) (ho2.mono (Nat.le_trans hc0 BC.size))); clear ho1 ho2 ha; obtain ⟨an1, kn1, rfl, -, -, -, -, -⟩ := Hn.out.1.form; obtain ⟨an2, kn2, rfl, -, -, -, -, -⟩ := Hn.out.2.form; replace BC := BC.trans (hb2.mono BC.size); clear hb2))
      all_goals
        go_wp2_with fail
        go_meet
        first | exact ⟨_, _, _, _, _, rfl, (by simp [go_sem]), (by simp [go_sem]), (by simp [go_sem]), And.intro (Hn.out.1.alloc _) (Hn.out.2.alloc _), BC.alloc BC.size _⟩ | exact ⟨_, _, _, _, _, rfl, (set_box3 k0 k1 k2).1, (set_box3 k0 k1 k2).2.1, (set_box3 k0 k1 k2).2.2, And.intro (((Hn.out.1.setOther hne1 _).setOther hne1 _).setOther hne1 _) (((Hn.out.2.setOther hne2 _).setOther hne2 _).setOther hne2 _), ((BC.setCell hgz _).setCell hgz _).setCell hgz _⟩
    case rest =>
      obtain ⟨gx, ax1, kx1, ax2, kx2, rfl, x_0, x_1, x_2, Hx, hb⟩ := hcut
      generalize wc = w7 at *
      replace a_0 := keep_cell hb a_0
      replace a_1 := keep_cell hb a_1
      replace a_2 := keep_cell hb a_2
      replace b_0 := keep_cell hb b_0
      replace b_1 := keep_cell hb b_1
      replace b_2 := keep_cell hb b_2
      replace c_0 := keep_cell hb c_0
      replace c_1 := keep_cell hb c_1
      replace c_2 := keep_cell hb c_2
      replace Ha := Lib.hid (And.intro (Ha.out.1.below hb (Nat.le_refl _)) (Ha.out.2.below hb (Nat.le_refl _)))
      replace Hb := Lib.hid (And.intro (Hb.out.1.below hb (Nat.le_refl _)) (Hb.out.2.below hb (Nat.le_refl _)))
      replace Hc := Lib.hid (And.intro (Hc.out.1.below hb (Nat.le_refl _)) (Hc.out.2.below hb (Nat.le_refl _)))
      replace B := B.trans (hb.mono B.size)
      clear hb
      go_upto_region 7 with fail
      go_cut [7] (fun o wx => ∃ (g : Nat) (a1 : Option Addr) (c1 : Nat) (a2 : Option Addr) (c2 : Nat), o = .pointer (some ⟨g, 0, none⟩) ∧ wx.cell? ⟨g, 0, none⟩ = some (.bool (ng zx)) ∧ wx.cell? ⟨g, 1, none⟩ = some (.slice a1 (limbs zx.natAbs).length c1) ∧ wx.cell? ⟨g, 2, none⟩ = some (.slice a2 (limbs dx).length c2) ∧ Hid (Own wx w.heap.size (.slice a1 (limbs zx.natAbs).length c1) (limbs zx.natAbs) ∧ Own wx w.heap.size (.slice a2 (limbs dx).length c2) (limbs dx)) ∧ Below w7.heap.size w7 wx)
      case first =>
        have BC := below_drew (Below.refl w7.heap.size w7)
        have hc0 := B.size
        go_region_held3 (fun w' => w'.cell? ⟨w1.heap.size, 0, none⟩ = some (.bool (ng za)) ∧ w'.cell? ⟨w1.heap.size, 1, none⟩ = some (.slice aa1 (limbs za.natAbs).length ka1) ∧ w'.cell? ⟨w1.heap.size, 2, none⟩ = some (.slice aa2 (limbs da).length ka2) ∧ w'.cell? ⟨w3.heap.size, 0, none⟩ = some (.bool (ng zb)) ∧ w'.cell? ⟨w3.heap.size, 1, none⟩ = some (.slice ab1 (limbs zb.natAbs).length kb1) ∧ w'.cell? ⟨w3.heap.size, 2, none⟩ = some (.slice ab2 (limbs db).length kb2) ∧ w'.cell? ⟨w5.heap.size, 0, none⟩ = some (.bool (ng zc)) ∧ w'.cell? ⟨w5.heap.size, 1, none⟩ = some (.slice ac1 (limbs zc.natAbs).length kc1) ∧ w'.cell? ⟨w5.heap.size, 2, none⟩ = some (.slice ac2 (limbs dc).length kc2)) (first | exact ⟨keep_cell (BC) a_0, keep_cell (BC) a_1, keep_cell (BC) a_2, keep_cell (BC) b_0, keep_cell (BC) b_1, keep_cell (BC) b_2, keep_cell (BC) c_0, keep_cell (BC) c_1, keep_cell (BC) c_2⟩ | exact ⟨keep_cell (BC.alloc BC.size _) a_0, keep_cell (BC.alloc BC.size _) a_1, keep_cell (BC.alloc BC.size _) a_2, keep_cell (BC.alloc BC.size _) b_0, keep_cell (BC.alloc BC.size _) b_1, keep_cell (BC.alloc BC.size _) b_2, keep_cell (BC.alloc BC.size _) c_0, keep_cell (BC.alloc BC.size _) c_1, keep_cell (BC.alloc BC.size _) c_2⟩ | exact ⟨keep_cell (below_drew ((below_undrew BC).alloc BC.size _)) a_0, keep_cell (below_drew ((below_undrew BC).alloc BC.size _)) a_1, keep_cell (below_drew ((below_undrew BC).alloc BC.size _)) a_2, keep_cell (below_drew ((below_undrew BC).alloc BC.size _)) b_0, keep_cell (below_drew ((below_undrew BC).alloc BC.size _)) b_1, keep_cell (below_drew ((below_undrew BC).alloc BC.size _)) b_2, keep_cell (below_drew ((below_undrew BC).alloc BC.size _)) c_0, keep_cell (below_drew ((below_undrew BC).alloc BC.size _)) c_1, keep_cell (below_drew ((below_undrew BC).alloc BC.size _)) c_2⟩ | exact ⟨keep_cell (BC.setCell hgz _) a_0, keep_cell (BC.setCell hgz _) a_1, keep_cell (BC.setCell hgz _) a_2, keep_cell (BC.setCell hgz _) b_0, keep_cell (BC.setCell hgz _) b_1, keep_cell (BC.setCell hgz _) b_2, keep_cell (BC.setCell hgz _) c_0, keep_cell (BC.setCell hgz _) c_1, keep_cell (BC.setCell hgz _) c_2⟩ | exact ⟨keep_cell ((BC.setCell hgz _).setCell hgz _) a_0, keep_cell ((BC.setCell hgz _).setCell hgz _) a_1, keep_cell ((BC.setCell hgz _).setCell hgz _) a_2, keep_cell ((BC.setCell hgz _).setCell hgz _) b_0, keep_cell ((BC.setCell hgz _).setCell hgz _) b_1, keep_cell ((BC.setCell hgz _).setCell hgz _) b_2, keep_cell ((BC.setCell hgz _).setCell hgz _) c_0, keep_cell ((BC.setCell hgz _).setCell hgz _) c_1, keep_cell ((BC.setCell hgz _).setCell hgz _) c_2⟩ | exact ⟨keep_cell (((BC.setCell hgz _).setCell hgz _).setCell hgz _) a_0, keep_cell (((BC.setCell hgz _).setCell hgz _).setCell hgz _) a_1, keep_cell (((BC.setCell hgz _).setCell hgz _).setCell hgz _) a_2, keep_cell (((BC.setCell hgz _).setCell hgz _).setCell hgz _) b_0, keep_cell (((BC.setCell hgz _).setCell hgz _).setCell hgz _) b_1, keep_cell (((BC.setCell hgz _).setCell hgz _).setCell hgz _) b_2, keep_cell (((BC.setCell hgz _).setCell hgz _).setCell hgz _) c_0, keep_cell (((BC.setCell hgz _).setCell hgz _).setCell hgz _) c_1, keep_cell (((BC.setCell hgz _).setCell hgz _).setCell hgz _) c_2⟩ | go_keep)
          (first | (go_at_call_of 6 (Value.slice ab1 (limbs zb.natAbs).length kb1); refine (RatMul_good _ _ _ _ _ za da (by first | exact Ha.out.1.below BC (Nat.le_refl _) | exact (Ha.out.1.below BC (Nat.le_refl _)).alloc _ | exact Own.drew ((Ha.out.1.below (below_undrew BC) (Nat.le_refl _)).alloc _)) (by first | exact Ha.out.2.below BC (Nat.le_refl _) | exact (Ha.out.2.below BC (Nat.le_refl _)).alloc _ | exact Own.drew ((Ha.out.2.below (below_undrew BC) (Nat.le_refl _)).alloc _)) _ _ _ _ zb db (by first | exact Hb.out.1.below BC (Nat.le_refl _) | exact (Hb.out.1.below BC (Nat.le_refl _)).alloc _ | exact Own.drew ((Hb.out.1.below (below_undrew BC) (Nat.le_refl _)).alloc _)) (by first | exact Hb.out.2.below BC (Nat.le_refl _) | exact (Hb.out.2.below BC (Nat.le_refl _)).alloc _ | exact Own.drew ((Hb.out.2.below (below_undrew BC) (Nat.le_refl _)).alloc _)) Sa.out.1 Sb.out.1 zp dp Pp.out.1 Pp.out.2.1).mono ?_; rintro e wq1 ⟨up, vp, rfl, ho1, ho2, ha, hb1⟩; (first | (replace f0 := keep_frozen hb1 k0 f0; replace k0 := keep_cell hb1 k0; replace f1 := keep_frozen hb1 k1 f1; replace k1 := keep_cell hb1 k1; replace f2 := keep_frozen hb1 k2 f2; replace k2 := keep_cell hb1 k2) | (with_reducible have hk := new_box3 hb1; obtain ⟨k0, k1, k2, f0, f1, f2⟩ := hk; have hgz := BC.size) | (with_reducible have hk := new_box3d hb1; obtain ⟨k0, k1, k2, f0, f1, f2⟩ := hk; have hgz := BC.size) | skip); (first | (with_reducible replace ho1 := Own.unalloc ho1) | (with_reducible replace ho1 := Own.unallocd ho1) | skip); (first | (with_reducible replace ho2 := Own.unalloc ho2) | (with_reducible replace ho2 := Own.unallocd ho2) | skip); (first | (with_reducible replace hb1 := alloc_below hb1) | (with_reducible replace hb1 := alloc_belowd hb1) | skip); have Hp := Lib.hid (And.intro (ho1.mono (Nat.le_trans hc0 BC.size)) (ho2.mono (Nat.le_trans hc0 BC.size))); clear ho1 ho2 ha; replace BC := BC.trans (hb1.mono BC.size); clear hb1) | (go_at_call_of 6 (Value.slice ac1 (limbs zc.natAbs).length kc1); refine (RatMul_good _ _ _ _ _ za da (by first | exact Ha.out.1.below BC (Nat.le_refl _) | exact (Ha.out.1.below BC (Nat.le_refl _)).alloc _ | exact Own.drew ((Ha.out.1.below (below_undrew BC) (Nat.le_refl _)).alloc _)) (by first | exact Ha.out.2.below BC (Nat.le_refl _) | exact (Ha.out.2.below BC (Nat.le_refl _)).alloc _ | exact Own.drew ((Ha.out.2.below (below_undrew BC) (Nat.le_refl _)).alloc _)) _ _ _ _ zc dc (by first | exact Hc.out.1.below BC (Nat.le_refl _) | exact (Hc.out.1.below BC (Nat.le_refl _)).alloc _ | exact Own.drew ((Hc.out.1.below (below_undrew BC) (Nat.le_refl _)).alloc _)) (by first | exact Hc.out.2.below BC (Nat.le_refl _) | exact (Hc.out.2.below BC (Nat.le_refl _)).alloc _ | exact Own.drew ((Hc.out.2.below (below_undrew BC) (Nat.le_refl _)).alloc _)) Sa.out.1 Sc.out.1 zr dr Pr.out.1 Pr.out.2.1).mono ?_; rintro e wq2 ⟨ur, vr, rfl, ho1, ho2, ha, hb2⟩; (first | (replace f0 := keep_frozen hb2 k0 f0; replace k0 := keep_cell hb2 k0; replace f1 := keep_frozen hb2 k1 f1; replace k1 := keep_cell hb2 k1; replace f2 := keep_frozen hb2 k2 f2; replace k2 := keep_cell hb2 k2) | (with_reducible have hk := new_box3 hb2; obtain ⟨k0, k1, k2, f0, f1, f2⟩ := hk; have hgz := BC.size) | (with_reducible have hk := new_box3d hb2; obtain ⟨k0, k1, k2, f0, f1, f2⟩ := hk; have hgz := BC.size) | skip); (first | (with_reducible replace ho1 := Own.unalloc ho1) | (with_reducible replace ho1 := Own.unallocd ho1) | skip); (first | (with_reducible replace ho2 := Own.unalloc ho2) | (with_reducible replace ho2 := Own.unallocd ho2) | skip); (first | (with_reducible replace hb2 := alloc_below hb2) | (with_reducible replace hb2 := alloc_belowd hb2) | skip); replace Hp := Lib.hid (And.intro (Hp.out.1.below hb2 (Nat.le_refl _)) (Hp.out.2.below hb2 (Nat.le_refl _))); have Hr := Lib.hid (And.intro (ho1.mono (Nat.le_trans hc0 BC.size)) (ho2.mono (Nat.le_trans hc0 BC.size))); clear ho1 ho2 ha; replace BC := BC.trans (hb2.mono BC.size); clear hb2) | (go_at_call 7; refine (RatAdd_good _ _ _ _ _ zp dp (by first | exact Hp.out.1 | exact Hp.out.1.alloc _) (by first | exact Hp.out.2 | exact Hp.out.2.alloc _) _ _ _ _ zr dr (by first | exact Hr.out.1 | exact Hr.out.1.alloc _) (by first | exact Hr.out.2 | exact Hr.out.2.alloc _) Pp.out.2.2 Pr.out.2.2 zx dx Py.out.1 Py.out.2).mono ?_; rintro e wq3 ⟨un, vn, rfl, ho1, ho2, ha, hb3⟩; (first | (have hne1 := own_ne_old k0 ho1; have hne2 := own_ne_old k0 ho2) | (with_reducible have hne1 := own_ne_alloc ho1; with_reducible have hne2 := own_ne_alloc ho2) | (with_reducible have hne1 := own_ne_allocd ho1; with_reducible have hne2 := own_ne_allocd ho2) | skip); (first | (replace f0 := keep_frozen hb3 k0 f0; replace k0 := keep_cell hb3 k0; replace f1 := keep_frozen hb3 k1 f1; replace k1 := keep_cell hb3 k1; replace f2 := keep_frozen hb3 k2 f2; replace k2 := keep_cell hb3 k2) | (with_reducible have hk := new_box3 hb3; obtain ⟨k0, k1, k2, f0, f1, f2⟩ := hk; have hgz := BC.size) | (with_reducible have hk := new_box3d hb3; obtain ⟨k0, k1, k2, f0, f1, f2⟩ := hk; have hgz := BC.size) | skip); (first | (with_reducible replace ho1 := Own.unalloc ho1) | (with_reducible replace ho1 := Own.unallocd ho1) | skip); (first | (with_reducible replace ho2 := Own.unalloc ho2) | (with_reducible replace ho2 := Own.unallocd ho2) | skip); (first | (with_reducible replace hb3 := alloc_below hb3) | (with_reducible replace hb3 := alloc_belowd hb3) | skip); replace Hp := Lib.hid (And.intro (Hp.out.1.below hb3 (Nat.le_refl _)) (Hp.out.2.below hb3 (Nat.le_refl _))); replace Hr := Lib.hid (And.intro (Hr.out.1.below hb3 (Nat.le_refl _)) (Hr.out.2.below hb3 (Nat.le_refl _))); have Hn := Lib.hid (And.intro (ho1.mono (Nat.le_trans hc0 BC.size)) (ho2.mono (Nat.le_trans hc0 BC.size))); clear ho1 ho2 ha; obtain ⟨an1, kn1, rfl, -, -, -, -, -⟩ := Hn.out.1.form; obtain ⟨an2, kn2, rfl, -, -, -, -, -⟩ := Hn.out.2.form; replace BC := BC.trans (hb3.mono BC.size); clear hb3))
        all_goals
          go_wp2_with fail
          go_meet
          first | exact ⟨_, _, _, _, _, rfl, (by simp [go_sem]), (by simp [go_sem]), (by simp [go_sem]), And.intro (Hn.out.1.alloc _) (Hn.out.2.alloc _), BC.alloc BC.size _⟩ | exact ⟨_, _, _, _, _, rfl, (set_box3 k0 k1 k2).1, (set_box3 k0 k1 k2).2.1, (set_box3 k0 k1 k2).2.2, And.intro (((Hn.out.1.setOther hne1 _).setOther hne1 _).setOther hne1 _) (((Hn.out.2.setOther hne2 _).setOther hne2 _).setOther hne2 _), ((BC.setCell hgz _).setCell hgz _).setCell hgz _⟩
      case rest =>
        obtain ⟨gy, ay1, ky1, ay2, ky2, rfl, y_0, y_1, y_2, Hy, hb⟩ := hcut
        generalize wc = w8 at *
        replace a_0 := keep_cell hb a_0
        replace a_1 := keep_cell hb a_1
        replace a_2 := keep_cell hb a_2
        replace b_0 := keep_cell hb b_0
        replace b_1 := keep_cell hb b_1
        replace b_2 := keep_cell hb b_2
        replace c_0 := keep_cell hb c_0
        replace c_1 := keep_cell hb c_1
        replace c_2 := keep_cell hb c_2
        replace x_0 := keep_cell hb x_0
        replace x_1 := keep_cell hb x_1
        replace x_2 := keep_cell hb x_2
        replace Ha := Lib.hid (And.intro (Ha.out.1.below hb (Nat.le_refl _)) (Ha.out.2.below hb (Nat.le_refl _)))
        replace Hb := Lib.hid (And.intro (Hb.out.1.below hb (Nat.le_refl _)) (Hb.out.2.below hb (Nat.le_refl _)))
        replace Hc := Lib.hid (And.intro (Hc.out.1.below hb (Nat.le_refl _)) (Hc.out.2.below hb (Nat.le_refl _)))
        replace Hx := Lib.hid (And.intro (Hx.out.1.below hb (Nat.le_refl _)) (Hx.out.2.below hb (Nat.le_refl _)))
        replace B := B.trans (hb.mono B.size)
        clear hb
        obtain ⟨t, hT⟩ : ∃ t, t = bs (fmtR (ng za) (limbs za.natAbs) (limbs da)) := ⟨_, rfl⟩
        have PT := Lib.hid hT
        clear hT
        go_wp2_with fail
        refine (FormatRat_b _ _ _ _ _ za da Ha.out.1 Ha.out.2 Sa.out.1 (HT.out.below B (Nat.le_refl _)) t PT.out).mono ?_
        rintro e w9 ⟨rfl, hb⟩
        replace a_0 := keep_cell hb a_0
        replace a_1 := keep_cell hb a_1
        replace a_2 := keep_cell hb a_2
        replace b_0 := keep_cell hb b_0
        replace b_1 := keep_cell hb b_1
        replace b_2 := keep_cell hb b_2
        replace c_0 := keep_cell hb c_0
        replace c_1 := keep_cell hb c_1
        replace c_2 := keep_cell hb c_2
        replace x_0 := keep_cell hb x_0
        replace x_1 := keep_cell hb x_1
        replace x_2 := keep_cell hb x_2
        replace y_0 := keep_cell hb y_0
        replace y_1 := keep_cell hb y_1
        replace y_2 := keep_cell hb y_2
        replace Ha := Lib.hid (And.intro (Ha.out.1.below hb (Nat.le_refl _)) (Ha.out.2.below hb (Nat.le_refl _)))
        replace Hb := Lib.hid (And.intro (Hb.out.1.below hb (Nat.le_refl _)) (Hb.out.2.below hb (Nat.le_refl _)))
        replace Hc := Lib.hid (And.intro (Hc.out.1.below hb (Nat.le_refl _)) (Hc.out.2.below hb (Nat.le_refl _)))
        replace Hx := Lib.hid (And.intro (Hx.out.1.below hb (Nat.le_refl _)) (Hx.out.2.below hb (Nat.le_refl _)))
        replace Hy := Lib.hid (And.intro (Hy.out.1.below hb (Nat.le_refl _)) (Hy.out.2.below hb (Nat.le_refl _)))
        replace B := B.trans (hb.mono B.size)
        clear hb
        go_wp2_with fail
        refine (ParseRat_b _ t za da Sa.out.1 PT.out (HT.out.below B (Nat.le_refl _)) (HS.out.below B (Nat.le_refl _))).mono ?_
        rintro e w10 ⟨ud, vd, rfl, ho1, ho2, ha, hb⟩
        replace a_0 := keep_cell hb a_0
        replace a_1 := keep_cell hb a_1
        replace a_2 := keep_cell hb a_2
        replace b_0 := keep_cell hb b_0
        replace b_1 := keep_cell hb b_1
        replace b_2 := keep_cell hb b_2
        replace c_0 := keep_cell hb c_0
        replace c_1 := keep_cell hb c_1
        replace c_2 := keep_cell hb c_2
        replace x_0 := keep_cell hb x_0
        replace x_1 := keep_cell hb x_1
        replace x_2 := keep_cell hb x_2
        replace y_0 := keep_cell hb y_0
        replace y_1 := keep_cell hb y_1
        replace y_2 := keep_cell hb y_2
        replace Ha := Lib.hid (And.intro (Ha.out.1.below hb (Nat.le_refl _)) (Ha.out.2.below hb (Nat.le_refl _)))
        replace Hb := Lib.hid (And.intro (Hb.out.1.below hb (Nat.le_refl _)) (Hb.out.2.below hb (Nat.le_refl _)))
        replace Hc := Lib.hid (And.intro (Hc.out.1.below hb (Nat.le_refl _)) (Hc.out.2.below hb (Nat.le_refl _)))
        replace Hx := Lib.hid (And.intro (Hx.out.1.below hb (Nat.le_refl _)) (Hx.out.2.below hb (Nat.le_refl _)))
        replace Hy := Lib.hid (And.intro (Hy.out.1.below hb (Nat.le_refl _)) (Hy.out.2.below hb (Nat.le_refl _)))
        have HB := Lib.hid B.size
        replace B := B.trans (hb.mono B.size)
        clear hb
        obtain ⟨ad1, kd1, rfl, -, -, -, -, -⟩ := ho1.form
        obtain ⟨ad2, kd2, rfl, -, -, -, -, -⟩ := ho2.form
        have Hd := Lib.hid (And.intro (ho1.mono HB.out) (ho2.mono HB.out))
        clear ho1 ho2 ha
        have hb := alloc_bel w10 (.cells #[.bool (ng za), .slice ad1 (limbs za.natAbs).length kd1, .slice ad2 (limbs da).length kd2] 27)
        replace a_0 := keep_cell hb a_0
        replace a_1 := keep_cell hb a_1
        replace a_2 := keep_cell hb a_2
        replace b_0 := keep_cell hb b_0
        replace b_1 := keep_cell hb b_1
        replace b_2 := keep_cell hb b_2
        replace c_0 := keep_cell hb c_0
        replace c_1 := keep_cell hb c_1
        replace c_2 := keep_cell hb c_2
        replace x_0 := keep_cell hb x_0
        replace x_1 := keep_cell hb x_1
        replace x_2 := keep_cell hb x_2
        replace y_0 := keep_cell hb y_0
        replace y_1 := keep_cell hb y_1
        replace y_2 := keep_cell hb y_2
        replace Ha := Lib.hid (And.intro (Ha.out.1.below hb (Nat.le_refl _)) (Ha.out.2.below hb (Nat.le_refl _)))
        replace Hb := Lib.hid (And.intro (Hb.out.1.below hb (Nat.le_refl _)) (Hb.out.2.below hb (Nat.le_refl _)))
        replace Hc := Lib.hid (And.intro (Hc.out.1.below hb (Nat.le_refl _)) (Hc.out.2.below hb (Nat.le_refl _)))
        replace Hx := Lib.hid (And.intro (Hx.out.1.below hb (Nat.le_refl _)) (Hx.out.2.below hb (Nat.le_refl _)))
        replace Hy := Lib.hid (And.intro (Hy.out.1.below hb (Nat.le_refl _)) (Hy.out.2.below hb (Nat.le_refl _)))
        replace Hd := Lib.hid (And.intro (Hd.out.1.below hb (Nat.le_refl _)) (Hd.out.2.below hb (Nat.le_refl _)))
        obtain ⟨d_0, d_1, d_2⟩ : (w10.alloc (.cells #[.bool (ng za), .slice ad1 (limbs za.natAbs).length kd1, .slice ad2 (limbs da).length kd2] 27)).cell? ⟨w10.heap.size, 0, none⟩ = some (.bool (ng za)) ∧ (w10.alloc (.cells #[.bool (ng za), .slice ad1 (limbs za.natAbs).length kd1, .slice ad2 (limbs da).length kd2] 27)).cell? ⟨w10.heap.size, 1, none⟩ = some (.slice ad1 (limbs za.natAbs).length kd1) ∧ (w10.alloc (.cells #[.bool (ng za), .slice ad1 (limbs za.natAbs).length kd1, .slice ad2 (limbs da).length kd2] 27)).cell? ⟨w10.heap.size, 2, none⟩ = some (.slice ad2 (limbs da).length kd2) := by simp [go_sem]
        replace B := B.trans (hb.mono B.size)
        clear hb
        go_upto_region 9 with fail
        generalize w10.alloc (.cells #[.bool (ng za), .slice ad1 (limbs za.natAbs).length kd1, .slice ad2 (limbs da).length kd2] 27) = w11 at *
        have BC := below_drew (Below.refl w11.heap.size w11)
        have hc0 := B.size
        go_region_held3 (fun w' => w'.cell? ⟨w1.heap.size, 0, none⟩ = some (.bool (ng za)) ∧ w'.cell? ⟨w1.heap.size, 1, none⟩ = some (.slice aa1 (limbs za.natAbs).length ka1) ∧ w'.cell? ⟨w1.heap.size, 2, none⟩ = some (.slice aa2 (limbs da).length ka2) ∧ w'.cell? ⟨w3.heap.size, 0, none⟩ = some (.bool (ng zb)) ∧ w'.cell? ⟨w3.heap.size, 1, none⟩ = some (.slice ab1 (limbs zb.natAbs).length kb1) ∧ w'.cell? ⟨w3.heap.size, 2, none⟩ = some (.slice ab2 (limbs db).length kb2) ∧ w'.cell? ⟨w10.heap.size, 0, none⟩ = some (.bool (ng za)) ∧ w'.cell? ⟨w10.heap.size, 1, none⟩ = some (.slice ad1 (limbs za.natAbs).length kd1) ∧ w'.cell? ⟨w10.heap.size, 2, none⟩ = some (.slice ad2 (limbs da).length kd2) ∧ w'.cell? ⟨gx, 0, none⟩ = some (.bool (ng zx)) ∧ w'.cell? ⟨gx, 1, none⟩ = some (.slice ax1 (limbs zx.natAbs).length kx1) ∧ w'.cell? ⟨gx, 2, none⟩ = some (.slice ax2 (limbs dx).length kx2) ∧ w'.cell? ⟨gy, 0, none⟩ = some (.bool (ng zx)) ∧ w'.cell? ⟨gy, 1, none⟩ = some (.slice ay1 (limbs zx.natAbs).length ky1) ∧ w'.cell? ⟨gy, 2, none⟩ = some (.slice ay2 (limbs dx).length ky2)) (first | exact ⟨keep_cell BC a_0, keep_cell BC a_1, keep_cell BC a_2, keep_cell BC b_0, keep_cell BC b_1, keep_cell BC b_2, keep_cell BC d_0, keep_cell BC d_1, keep_cell BC d_2, keep_cell BC x_0, keep_cell BC x_1, keep_cell BC x_2, keep_cell BC y_0, keep_cell BC y_1, keep_cell BC y_2⟩ | go_keep)
          (first | (go_at_call_of 10 (Value.slice ad1 (limbs za.natAbs).length kd1); refine (RatEqual_s _ _ _ _ _ _ _ _ (Hd.out.1.below BC (Nat.le_refl _)) (Hd.out.2.below BC (Nat.le_refl _)) _ _ _ _ (Ha.out.1.below BC (Nat.le_refl _)) (Ha.out.2.below BC (Nat.le_refl _))).mono ?_; rintro e wq1 ⟨rfl, hbq⟩; replace BC := BC.trans (hbq.mono BC.size); clear hbq) | (go_at_call 11; refine (ratOk_q _ _ _ _ _ zx dx (Hx.out.1.below BC (Nat.le_refl _)) (Hx.out.2.below BC (Nat.le_refl _)) Px.out.2.2).mono ?_; rintro e wq2 ⟨rfl, hbq⟩; replace BC := BC.trans (hbq.mono BC.size); clear hbq) | (go_at_call_of 10 (Value.slice ax1 (limbs zx.natAbs).length kx1); refine (RatEqual_s _ _ _ _ _ _ _ _ (Hx.out.1.below BC (Nat.le_refl _)) (Hx.out.2.below BC (Nat.le_refl _)) _ _ _ _ (Hy.out.1.below BC (Nat.le_refl _)) (Hy.out.2.below BC (Nat.le_refl _))).mono ?_; rintro e wq3 ⟨rfl, hbq⟩; replace BC := BC.trans (hbq.mono BC.size); clear hbq) | (go_at_call 13; refine (RatSub_good _ _ _ _ _ za da (Ha.out.1.below BC (Nat.le_refl _)) (Ha.out.2.below BC (Nat.le_refl _)) _ _ _ _ zb db (Hb.out.1.below BC (Nat.le_refl _)) (Hb.out.2.below BC (Nat.le_refl _)) Sa.out.1 Sb.out.1 zu du Pu.out.1 Pu.out.2.1).mono ?_; rintro e wq4 ⟨uu, vu, rfl, ho1, ho2, ha, hbq⟩; have Hu := Lib.hid (And.intro ho1 ho2); clear ho1 ho2 ha; replace BC := BC.trans (hbq.mono BC.size); clear hbq) | (go_at_call 12; refine (RatSign_good _ _ _ _ _ zu du Hu.out.1 Hu.out.2 Pu.out.2.2.1 (qcmp za da zb db) Pu.out.2.2.2.symm).mono ?_; rintro e wq5 ⟨rfl, hbq⟩; replace BC := BC.trans (hbq.mono BC.size); clear hbq) | (go_at_call 14; refine (RatCmp_good _ _ _ _ _ za da (Ha.out.1.below BC (Nat.le_refl _)) (Ha.out.2.below BC (Nat.le_refl _)) _ _ _ _ zb db (Hb.out.1.below BC (Nat.le_refl _)) (Hb.out.2.below BC (Nat.le_refl _)) Sa.out.1 Sb.out.1 (qcmp za da zb db) rfl).mono ?_; rintro e wq6 ⟨rfl, hbq⟩; replace BC := BC.trans (hbq.mono BC.size); clear hbq))
        replace B := B.trans (BC.mono B.size)
        replace a_0 := keep_cell BC a_0
        replace a_1 := keep_cell BC a_1
        replace a_2 := keep_cell BC a_2
        replace b_0 := keep_cell BC b_0
        replace b_1 := keep_cell BC b_1
        replace b_2 := keep_cell BC b_2
        replace c_0 := keep_cell BC c_0
        replace c_1 := keep_cell BC c_1
        replace c_2 := keep_cell BC c_2
        replace x_0 := keep_cell BC x_0
        replace x_1 := keep_cell BC x_1
        replace x_2 := keep_cell BC x_2
        replace y_0 := keep_cell BC y_0
        replace y_1 := keep_cell BC y_1
        replace y_2 := keep_cell BC y_2
        replace d_0 := keep_cell BC d_0
        replace d_1 := keep_cell BC d_1
        replace d_2 := keep_cell BC d_2
        replace Ha := Lib.hid (And.intro (Ha.out.1.below BC (Nat.le_refl _)) (Ha.out.2.below BC (Nat.le_refl _)))
        replace Hb := Lib.hid (And.intro (Hb.out.1.below BC (Nat.le_refl _)) (Hb.out.2.below BC (Nat.le_refl _)))
        replace Hc := Lib.hid (And.intro (Hc.out.1.below BC (Nat.le_refl _)) (Hc.out.2.below BC (Nat.le_refl _)))
        replace Hx := Lib.hid (And.intro (Hx.out.1.below BC (Nat.le_refl _)) (Hx.out.2.below BC (Nat.le_refl _)))
        replace Hy := Lib.hid (And.intro (Hy.out.1.below BC (Nat.le_refl _)) (Hy.out.2.below BC (Nat.le_refl _)))
        replace Hd := Lib.hid (And.intro (Hd.out.1.below BC (Nat.le_refl _)) (Hd.out.2.below BC (Nat.le_refl _)))
        clear BC hc0
        go_upto_region 11 with fail
        by_cases hz0 : zb = 0
        case pos =>
          obtain ⟨c, hc⟩ : ∃ c, c = sgn3 zb := ⟨_, rfl⟩
          have dz : (c == 0) = true := by rw [hc, hz0]; rfl
          have PC := Lib.hid hc
          clear hc hz0
          have BC := below_drew (Below.refl wq6.heap.size wq6)
          refine wp_region_held_drew (S := fun w' => w'.cell? ⟨w3.heap.size, 0, none⟩ = some (.bool (ng zb)) ∧ w'.cell? ⟨w3.heap.size, 1, none⟩ = some (.slice ab1 (limbs zb.natAbs).length kb1) ∧ w'.cell? ⟨w3.heap.size, 2, none⟩ = some (.slice ab2 (limbs db).length kb2)) (by kernel_rfl) ?_ (fun hHeld => ?_)
          · (first | exact ⟨keep_cell BC b_0, keep_cell BC b_1, keep_cell BC b_2⟩ | assumption)
          refine wpAnyH_take (i := 0) (v := ?v0) rfl (by kernel_rfl) (by kernel_rfl) (by kernel_rfl) (fun _ _ _ h => h) (Or.inl ⟨by rfl, ?hy0⟩) (by assumption) ?rest0
          case hy0 => (intro w hSw; (try dsimp only at hSw); go_simp; (try with_reducible rfl))
          (try simp only [Act.put, List.getElem_toArray, List.getElem_cons_zero, List.setIfInBounds_toArray, List.set_cons_zero, List.set_cons_succ])
          refine wpAnyH_ready (rs := [1]) (by kernel_rfl) (by simp) ?_
          refine AllReadyH.cons rfl (fun K hK => ?_) AllReadyH.nil
          go_simp; (go_at_call 12; refine (RatSign_good _ _ _ _ _ zb db (Hb.out.1.below BC (Nat.le_refl _)) (Hb.out.2.below BC (Nat.le_refl _)) Sb.out.1 c PC.out).mono ?_; rintro e wq1 ⟨rfl, hbq⟩; replace BC := BC.trans (hbq.mono BC.size); clear hbq)
          refine hK.out _ _ ?_ (fun hHeld => ?_)
          · (first | exact ⟨keep_cell BC b_0, keep_cell BC b_1, keep_cell BC b_2⟩ | assumption)
          clear hK K
          (try simp only [Act.put, List.getElem_toArray, List.getElem_cons_zero, List.getElem_cons_succ, List.setIfInBounds_toArray, List.set_cons_zero, List.set_cons_succ])
          refine wpAnyH_take (i := 2) (v := .bool true) rfl (by kernel_rfl) (by kernel_rfl) (by kernel_rfl) (fun _ _ _ h => h) (Or.inl ⟨by rfl, ?hy2⟩) (by assumption) ?rest2
          case hy2 => (intro w hSw; (try dsimp only at hSw); go_simp; (try with_reducible rfl))
          (try simp only [Act.put, List.getElem_toArray, List.getElem_cons_zero, List.getElem_cons_succ, List.setIfInBounds_toArray, List.set_cons_zero, List.set_cons_succ])
          refine wpAnyH_take (i := 3) (v := ?v3) rfl (by kernel_rfl) (by kernel_rfl) (by kernel_rfl) (fun _ _ _ h => h) (Or.inl ⟨by rfl, ?hy3⟩) (by assumption) ?rest3
          case hy3 => (intro w hSw; (try dsimp only at hSw); go_simp; (try with_reducible rfl))
          (try simp only [Act.put, List.getElem_toArray, List.getElem_cons_zero, List.getElem_cons_succ, List.setIfInBounds_toArray, List.set_cons_zero, List.set_cons_succ])
          refine wpAnyH_take (i := 4) (v := undef) rfl (by kernel_rfl) (by kernel_rfl) (by kernel_rfl) (fun _ _ _ h => h) (Or.inr ⟨by rfl, rfl⟩) (by assumption) ?_
          (try simp only [Act.put, List.getElem_toArray, List.getElem_cons_zero, List.getElem_cons_succ, List.setIfInBounds_toArray, List.set_cons_zero, List.set_cons_succ])
          refine wpAnyH_take (i := 5) (v := undef) rfl (by kernel_rfl) (by kernel_rfl) (by kernel_rfl) (fun _ _ _ h => h) (Or.inr ⟨by rfl, rfl⟩) (by assumption) ?_
          (try simp only [Act.put, List.getElem_toArray, List.getElem_cons_zero, List.getElem_cons_succ, List.setIfInBounds_toArray, List.set_cons_zero, List.set_cons_succ])
          refine wpAnyH_take (i := 7) (v := undef) rfl (by kernel_rfl) (by kernel_rfl) (by kernel_rfl) (fun _ _ _ h => h) (Or.inr ⟨by rfl, rfl⟩) (by assumption) ?_
          (try simp only [Act.put, List.getElem_toArray, List.getElem_cons_zero, List.getElem_cons_succ, List.setIfInBounds_toArray, List.set_cons_zero, List.set_cons_succ])
          refine wpAnyH_take (i := 9) (v := undef) rfl (by kernel_rfl) (by kernel_rfl) (by kernel_rfl) (fun _ _ _ h => h) (Or.inr ⟨by rfl, rfl⟩) (by assumption) ?_
          (try simp only [Act.put, List.getElem_toArray, List.getElem_cons_zero, List.getElem_cons_succ, List.setIfInBounds_toArray, List.set_cons_zero, List.set_cons_succ])
          refine wpAnyH_ready (rs := [6]) (by kernel_rfl) (by simp) ?_
          refine AllReadyH.cons rfl (fun K hK => ?_) AllReadyH.nil
          go_simp
          refine hK.out _ _ ?_ (fun hHeld => ?_)
          · (first | exact ⟨keep_cell BC b_0, keep_cell BC b_1, keep_cell BC b_2⟩ | assumption)
          clear hK K
          (try simp only [Act.put, List.getElem_toArray, List.getElem_cons_zero, List.getElem_cons_succ, List.setIfInBounds_toArray, List.set_cons_zero, List.set_cons_succ])
          refine wpAnyH_ready (rs := [8]) (by kernel_rfl) (by simp) ?_
          refine AllReadyH.cons rfl (fun K hK => ?_) AllReadyH.nil
          go_simp
          refine hK.out _ _ ?_ (fun hHeld => ?_)
          · (first | exact ⟨keep_cell BC b_0, keep_cell BC b_1, keep_cell BC b_2⟩ | assumption)
          clear hK K
          (try simp only [Act.put, List.getElem_toArray, List.getElem_cons_zero, List.getElem_cons_succ, List.setIfInBounds_toArray, List.set_cons_zero, List.set_cons_succ])
          refine wpAnyH_ready (rs := [10]) (by kernel_rfl) (by simp) ?_
          refine AllReadyH.cons rfl (fun K hK => ?_) AllReadyH.nil
          go_simp
          refine hK.out _ _ ?_ (fun hHeld => ?_)
          · (first | exact ⟨keep_cell BC b_0, keep_cell BC b_1, keep_cell BC b_2⟩ | assumption)
          clear hK K
          (try simp only [Act.put, List.getElem_toArray, List.getElem_cons_zero, List.getElem_cons_succ, List.setIfInBounds_toArray, List.set_cons_zero, List.set_cons_succ])
          refine wpAnyH_take (i := 11) (v := .bool true) rfl (by kernel_rfl) (by kernel_rfl) (by kernel_rfl) (fun _ _ _ h => h) (Or.inl ⟨by rfl, ?hy11⟩) (by assumption) ?rest11
          case hy11 => (intro w hSw; (try dsimp only at hSw); go_simp; (try with_reducible rfl))
          (try simp only [Act.put, List.getElem_toArray, List.getElem_cons_zero, List.getElem_cons_succ, List.setIfInBounds_toArray, List.set_cons_zero, List.set_cons_succ])
          refine wpAnyH_take (i := 12) (v := .bool true) rfl (by kernel_rfl) (by kernel_rfl) (by kernel_rfl) (fun _ _ _ h => h) (Or.inl ⟨by rfl, ?hy12⟩) (by assumption) ?rest12
          case hy12 => (intro w hSw; (try dsimp only at hSw); go_simp; (try with_reducible rfl))
          (try simp only [Act.put, List.getElem_toArray, List.getElem_cons_zero, List.getElem_cons_succ, List.setIfInBounds_toArray, List.set_cons_zero, List.set_cons_succ])
          refine wpAnyH_done (by kernel_rfl) ?_ _
          go_wp2
          go_ret
          first | exact retB rfl (B.trans (BC.mono B.size)) | exact ⟨rfl, B.trans (BC.mono B.size)⟩ | exact ⟨by simp, B.trans (BC.mono B.size)⟩
        case neg =>
          obtain ⟨zv, dv, hv1, hv2, hv3, hv4, hv5⟩ := fr_div Sa.out Sb.out hz0
          have Pv := Lib.hid (And.intro hv1 (And.intro hv2 (And.intro hv3 (And.intro hv4 hv5))))
          obtain ⟨c, hc⟩ : ∃ c, c = sgn3 zb := ⟨_, rfl⟩
          have hcn : c ≠ 0 := by rw [hc]; exact sgn3_ne hz0
          have PC := Lib.hid hc
          clear hv1 hv2 hv3 hv4 hv5 hc hz0
          have dz : (c == 0) = false := beq_false_of_ne hcn
          have BC := below_drew (Below.refl wq6.heap.size wq6)
          go_region_held3 (fun w' => w'.cell? ⟨w1.heap.size, 0, none⟩ = some (.bool (ng za)) ∧ w'.cell? ⟨w1.heap.size, 1, none⟩ = some (.slice aa1 (limbs za.natAbs).length ka1) ∧ w'.cell? ⟨w1.heap.size, 2, none⟩ = some (.slice aa2 (limbs da).length ka2) ∧ w'.cell? ⟨w3.heap.size, 0, none⟩ = some (.bool (ng zb)) ∧ w'.cell? ⟨w3.heap.size, 1, none⟩ = some (.slice ab1 (limbs zb.natAbs).length kb1) ∧ w'.cell? ⟨w3.heap.size, 2, none⟩ = some (.slice ab2 (limbs db).length kb2)) (first | exact ⟨keep_cell BC a_0, keep_cell BC a_1, keep_cell BC a_2, keep_cell BC b_0, keep_cell BC b_1, keep_cell BC b_2⟩ | go_keep) (first | (go_at_call 12; refine (RatSign_good _ _ _ _ _ zb db (Hb.out.1.below BC (Nat.le_refl _)) (Hb.out.2.below BC (Nat.le_refl _)) Sb.out.1 c PC.out).mono ?_; rintro e wq1 ⟨rfl, hbq⟩; replace BC := BC.trans (hbq.mono BC.size); clear hbq) | (go_at_call 15; refine (RatDiv_good _ _ _ _ _ za da (Ha.out.1.below BC (Nat.le_refl _)) (Ha.out.2.below BC (Nat.le_refl _)) _ _ _ _ zb db (Hb.out.1.below BC (Nat.le_refl _)) (Hb.out.2.below BC (Nat.le_refl _)) Sa.out.1 Sb.out.1 zv dv Pv.out.1 Pv.out.2.1).mono ?_; rintro e wq2 ⟨uv, vv, rfl, ho1, ho2, ha, hbq⟩; have Hv := Lib.hid (And.intro ho1 ho2); clear ho1 ho2 ha; replace BC := BC.trans (hbq.mono BC.size); clear hbq) | (go_at_call 6; refine (RatMul_good _ _ _ _ _ zv dv Hv.out.1 Hv.out.2 _ _ _ _ zb db (Hb.out.1.below BC (Nat.le_refl _)) (Hb.out.2.below BC (Nat.le_refl _)) Pv.out.2.2.1 Sb.out.1 za da Pv.out.2.2.2.1 Pv.out.2.2.2.2).mono ?_; rintro e wq3 ⟨um, vm, rfl, ho1, ho2, ha, hbq⟩; have Hm := Lib.hid (And.intro ho1 ho2); clear ho1 ho2 ha; replace BC := BC.trans (hbq.mono BC.size); clear hbq) | (go_at_call 10; refine (RatEqual_s _ _ _ _ _ _ _ _ Hm.out.1 Hm.out.2 _ _ _ _ (Ha.out.1.below BC (Nat.le_refl _)) (Ha.out.2.below BC (Nat.le_refl _))).mono ?_; rintro e wq4 ⟨rfl, hbq⟩; replace BC := BC.trans (hbq.mono BC.size); clear hbq))
          go_wp2
          go_ret
          exact retB rfl (B.trans (BC.mono B.size))

theorem allPlain : (Rows.fnRatsRow.laid.all fun x => x.2.handleName?.isNone) = true := by kernel_rfl
set_option maxRecDepth 100000 in
theorem lifted (os : Os) (started : os.Started) (H : Type) (enc : TypeId × Value → H) :
    ReturnsInHanded {} Tryz.checked os 3 .any (fun w args => (Rows.fnRatsSpec.pre enc Tryz.prog Tryz.f3 Rows.fnRatsRow.domain false w args ∧ laidMetH Tryz.prog Rows.fnRatsRow.laid w) ∧ sizedMet enc Tryz.prog Tryz.f3 (OpenSpec.ofChange Rows.fnRatsSpec) false w args) (Rows.fnRatsSpec.post enc Tryz.prog Tryz.f3 false true false false) := by
  refine handed_of (C := Tryz.checked) (X := (fun w _ => laidMetH Tryz.prog Rows.fnRatsRow.laid w)) (fun _ _ _ hh h => h.of_heap hh) Tryz.own started (by as_aux_lemma => kernel_rfl) Tryz.func3
    (ChangeSpec.witness_shaped (enc := enc) (C := Tryz.checked) (os := os) (X := (fun w _ => laidMetH Tryz.prog Rows.fnRatsRow.laid w)) false (World.laidAll Tryz.prog os Rows.fnRatsRow.laid) #[.slice none 0 0] 8 (World.laidAll_os _ _ _)
      (World.shaped_of_ZipB (by as_aux_lemma => kernel_rfl) (by as_aux_lemma => kernel_rfl)) (by as_aux_lemma => kernel_rfl) (by as_aux_lemma => kernel_rfl) (by as_aux_lemma => kernel_rfl)
      (by rw [MakeChecks.laidMetH_plain _ _ _ allPlain]; exact laidMet_laidAll _ (by as_aux_lemma => kernel_rfl) (by as_aux_lemma => kernel_rfl))) ?_
  intro W base args ds gs before hval0 hW hL hsh
  have hval : ∀ (j : Nat) t v, Tryz.f3.params[j]? = some t → args[j]? = some v → Value.okWide Tryz.prog W .any base t v := hval0
  have hW' := hW
  obtain ⟨p, q, hA0, hV, rfl, hfz, hnd⟩ := hW
  have hA : DataW.TrodAll enc Tryz.prog W 0 (fun _ => true) true Tryz.f3.params.toList args.toList ds p := hA0
  rw [Tryz.params3] at hA hval
  have HT : Tabs W := tabs_of_laid (l := Rows.fnRatsRow.laid) hL allPlain (r := [("strconv.ErrRange", Rows.laid_strconv_ErrRange), ("strconv.ErrSyntax", Rows.laid_strconv_ErrSyntax)]) rfl
  have HS : Shp W := shp_of hsh
  have HE : Errs W := errs_of_laid (l := Rows.fnRatsRow.laid) hL allPlain rfl
  obtain ⟨v0, vs0, d0, ds0, p0, q0, hargs, rfl, rfl, h0, r0⟩ := trodAll_cons hA
  obtain ⟨rfl, rfl, rfl⟩ := trodAll_nil r0
  obtain rfl : args = #[v0] := by cases args; simp_all
  obtain ⟨rfl, rfl⟩ := trodVars_none hV
  have lt0 : ∀ x ∈ p0, x.block < W.heap.size := by obtain ⟨m, hm⟩ := h0; exact DataW.trod_lt m _ _ _ hm
  obtain ⟨x0, w0⟩ := rdY_of_trod (hval 0 22 v0 rfl rfl) h0
  clear hA0 hval0
  refine (walk W v0 x0 w0 
    HT HE HS).mono fun e W' ⟨he, bel⟩ => ?_
  subst he
  exact ⟨_, rfl, _, _, _, [], _, [], hW', trodAll_mk1 (shut_bool Tryz.underlying4 _), (trodAll_cons_mk (Below.trod Tryz.laidOut (by as_aux_lemma => kernel_rfl) (of_decide_eq_true (by as_aux_lemma => kernel_rfl)) h0 bel lt0) trodAll_mk0), rfl, bel.frame _, fun h => by cases h⟩

theorem facts : joinedFacts Tryz.pinned.checked.prog 3 Tryz.f3 Rows.fnRatsSpec Rows.fnRatsRow = true := by
  unfold joinedFacts
  refine and_mk (and_mk (and_mk (and_mk (and_mk (and_mk (and_mk ?_ Tryz.mayEnter) ?_) ?_) ?_) ?_) ?_) ?_
  · kernel_rfl
  · rw [Tryz.liftsNone]; rfl
  · rw [Tryz.makeCut]; rfl
  · kernel_rfl
  · kernel_rfl
  · kernel_rfl
  · kernel_rfl

theorem row : Rows.FnRatsSaid :=
  OpenClaim.holds_of_wide 3 Tryz.f3 rfl rfl rfl rfl rfl rfl rfl ⟨rfl, rfl, rfl, rfl, rfl⟩ rfl rfl rfl rfl rfl (by as_aux_lemma => kernel_rfl) Tryz.func3 facts
    (of_decide_eq_true (by as_aux_lemma => kernel_rfl)) (by unfold Func.isWrapper; rw [if_neg (of_decide_eq_false (by as_aux_lemma => kernel_rfl))]; exact ⟨rfl, rfl⟩)
    (fun os started H enc _ => lifted os started H enc)

theorem funcIs : Tryz.prog.funcNamed Rows.fnRatsRow.func = some 3 := by kernel_rfl
theorem standIns : (Tryz.f3.params.toList.all fun u => !Tryz.prog.wantsStandIn u) = true := by kernel_rfl
theorem proved : Rows.FnRatsCardSaid :=
  Claim7.holds_tied_plain_at .later [] _ _ _ _
    row (fun _ h => by cases h) (by as_aux_lemma => kernel_rfl) (fun _ h => by cases h) fnRats_row_tie rfl ⟨rfl, rfl⟩ (by as_aux_lemma => kernel_rfl) rfl
    (fun f fn hf hfn => by
      obtain rfl : f = 3 := (Option.some.inj (funcIs.symm.trans hf)).symm
      obtain rfl : fn = Tryz.f3 := (Option.some.inj (Tryz.func3.symm.trans hfn)).symm
      exact ⟨by as_aux_lemma => kernel_rfl, fun j t ht => by
        have hm := Array.mem_of_getElem? ht
        exact (show Tryz.prog.wantsStandIn t = false by simpa using List.all_eq_true.1 standIns t (Array.mem_toList_iff.2 hm))⟩)
    (by as_aux_lemma => kernel_rfl)

end Go.Proofs.YtijeplcjbhkkoaaGreatDoor.lawFnRats
