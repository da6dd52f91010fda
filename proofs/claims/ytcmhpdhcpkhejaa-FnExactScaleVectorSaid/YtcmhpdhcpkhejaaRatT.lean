/- The reference's fractions: the operations. -/
import Derived.Test.YtcmhpdhcpkhejaaRatS
import Derived.Test.YtcmhpdhcpkhejaaRatE
namespace Go.Proofs.Ytcmhpdhcpkhejaa
open Go.RowKit Lm

theorem l04Low_x (w : World) (b1 b2 : Nat) (v1 v2 : Value) (x y t : Int) (h1 : Own w b1 v1 (limbs x.natAbs)) (h2 : Own w b2 v2 (limbs y.natAbs)) (hl1 : (limbs x.natAbs).length ≤ 900) (hl2 : (limbs y.natAbs).length ≤ 900) (ht : Hid (t = turn x y)) (z : Int) (e : Nat) (hz : Hid (z = lowZ t y.natAbs)) (he : Hid (e = lowD t y.natAbs)) :
    Calls Try.prog 81 #[.bool (ng x != ng y), v1, v2] w (RetQ w z e) := by
  have ht := ht.out
  subst ht
  refine l04Low_c w b1 b2 _ v1 v2 (turn x y) y.natAbs (by rw [turn_abs]; exact h1) h2 (by rw [turn_abs]; exact hl1) hl2 z e hz he ?_
  exact turn_ng

theorem retLit {w w0 wk : World} {g : Nat} {s : Bool} {u : Value} {xs : List Int} (BW : Below w.heap.size w w0) (hg : w.heap.size ≤ g) (hg0 : g < w0.heap.size) (B0 : Below w0.heap.size w0 wk) (hu : Own wk w0.heap.size u xs) :
    RetR w s xs (limbs 1) (.returned (.agg #[.bool s, u, .slice (some ⟨wk.heap.size, 0, none⟩) 1 1])) ((((wk.setCell ⟨g, 0, none⟩ (.bool s)).setCell ⟨g, 1, none⟩ u).setCell ⟨g, 2, none⟩ (.slice (some ⟨wk.heap.size, 0, none⟩) 1 1)).alloc (.cells #[.int .i64 1] 3)) := by
  have hs := set3_own (a := .bool s) (b := u) (c := .slice (some ⟨wk.heap.size, 0, none⟩) 1 1) hu (ne_of_base hu hg0)
  have hB := set3_below (a := .bool s) (b := u) (c := .slice (some ⟨wk.heap.size, 0, none⟩) 1 1) (BW.trans (B0.mono BW.size)) hg
  have hz : (((wk.setCell ⟨g, 0, none⟩ (.bool s)).setCell ⟨g, 1, none⟩ u).setCell ⟨g, 2, none⟩ (.slice (some ⟨wk.heap.size, 0, none⟩) 1 1)).heap.size = wk.heap.size := by simp [World.setCell]
  have h1 := own_one_at _ _ hz
  refine ⟨_, _, rfl, (hs.alloc _).mono BW.size, h1.mono hB.size, ?_, hB.alloc hB.size _⟩
  exact apart_new hs (.inr rfl) h1
set_option maxHeartbeats 2000000 in
theorem sRatFromInt_n (w : World) (n : Int) (n0 : -9223372036854775808 ≤ n) (n1 : n ≤ 9223372036854775807) : Calls Try.prog 44 #[.int .i64 n] w (RetQ w n 1) := by
  have BW : Below w.heap.size w (w.alloc (.cells #[.bool false, .slice none 0 0, .slice none 0 0] 45)) := ((Below.refl w.heap.size w).alloc (Nat.le_refl _) _)
  obtain ⟨c0_0, c0_1, c0_2, q0, q1, q2⟩ : World.cell? (w.alloc (.cells #[.bool false, .slice none 0 0, .slice none 0 0] 45)) ⟨w.heap.size, 0, none⟩ = some (.bool false) ∧ World.cell? (w.alloc (.cells #[.bool false, .slice none 0 0, .slice none 0 0] 45)) ⟨w.heap.size, 1, none⟩ = some (.slice none 0 0) ∧ World.cell? (w.alloc (.cells #[.bool false, .slice none 0 0, .slice none 0 0] 45)) ⟨w.heap.size, 2, none⟩ = some (.slice none 0 0) ∧ World.frozen? (w.alloc (.cells #[.bool false, .slice none 0 0, .slice none 0 0] 45)) ⟨w.heap.size, 0, none⟩ = false ∧ World.frozen? (w.alloc (.cells #[.bool false, .slice none 0 0, .slice none 0 0] 45)) ⟨w.heap.size, 1, none⟩ = false ∧ World.frozen? (w.alloc (.cells #[.bool false, .slice none 0 0, .slice none 0 0] 45)) ⟨w.heap.size, 2, none⟩ = false := by simp [go_sem]
  have hg0 : w.heap.size < ((w.alloc (.cells #[.bool false, .slice none 0 0, .slice none 0 0] 45))).heap.size := World.block_lt_of_cell? _ _ c0_0
  go_enter Try.func44, Try.ntmps44
  go_wp2_with fail
  generalize (w.alloc (.cells #[.bool false, .slice none 0 0, .slice none 0 0] 45)) = w0 at *
  have B0 := Below.refl w0.heap.size w0
  refine (sBigIntOf_c _ n n0 n1).mono ?_
  rintro e w1 ⟨vr, rfl, ho1, hb⟩
  replace q0 := keep_frozen (w1 := w1) hb c0_0 q0
  replace c0_0 := keep_cell (w1 := w1) hb c0_0
  replace q1 := keep_frozen (w1 := w1) hb c0_1 q1
  replace c0_1 := keep_cell (w1 := w1) hb c0_1
  replace q2 := keep_frozen (w1 := w1) hb c0_2 q2
  replace c0_2 := keep_cell (w1 := w1) hb c0_2
  have Hr := Lib.hid (ho1.mono B0.size)
  clear ho1
  obtain ⟨ar, cr, rfl, -, -, -, -, -⟩ := Hr.out.form
  replace B0 := B0.trans (hb.mono B0.size)
  clear hb
  have hg3 := Nat.lt_of_lt_of_le hg0 B0.size
  go_wp2
  obtain ⟨k0, k1, k2⟩ := set_box3 (a := .bool (ng n)) (b := .slice ar (limbs n.natAbs).length cr) (c := .slice (some ⟨w1.heap.size, 0, none⟩) 1 1) c0_0 c0_1 c0_2
  replace k0 := keep_cell (alloc_bel _ (.cells #[.int .i64 1] 3)) k0
  replace k1 := keep_cell (alloc_bel _ (.cells #[.int .i64 1] 3)) k1
  replace k2 := keep_cell (alloc_bel _ (.cells #[.int .i64 1] 3)) k2
  refine bodyPost_ret (v := .agg #[.bool (ng n), .slice ar (limbs n.natAbs).length cr, .slice (some ⟨w1.heap.size, 0, none⟩) 1 1]) ?_ rfl (retLit BW (by omega) hg0 B0 Hr.out)
  simp [results, Try.results44, go_sem, k0, k1, k2]

theorem l04Low_m (w : World) (b1 b2 : Nat) (v1 v2 : Value) (x y t : Int) (d : Nat) (n : Nat) (h1 : Own w b1 v1 (limbs n)) (h2 : Own w b2 v2 (limbs d)) (hn : Hid (n = t.natAbs)) (hs : Hid (t ≠ 0 → (ng x != ng y) = ng t)) (hl1 : (limbs t.natAbs).length ≤ 900) (hl2 : (limbs d).length ≤ 900) (z : Int) (e : Nat) (hz : Hid (z = lowZ t d)) (he : Hid (e = lowD t d)) :
    Calls Try.prog 81 #[.bool (ng x != ng y), v1, v2] w (RetQ w z e) := by
  have hn := hn.out
  subst hn
  exact l04Low_c w b1 b2 _ v1 v2 t d h1 h2 hl1 hl2 z e hz he hs
theorem l02Mul_t (w : World) (b1 b2 : Nat) (v1 v2 : Value) (a b t : Nat) (h1 : Own w b1 v1 (limbs a)) (h2 : Own w b2 v2 (limbs b)) (hs1 : (limbs a).length ≤ 1000) (hs2 : (limbs b).length ≤ 1000) (ht : Hid (a * b = t)) :
    Calls Try.prog 82 #[v1, v2] w (RetS w (limbs t)) := by
  rw [← ht.out]; exact l02Mul_c w b1 b2 v1 v2 a b h1 h2 hs1 hs2

set_option maxHeartbeats 2000000 in
theorem l04Mul_n (w : World) (b1 e1 : Nat) (v1 u1 : Value) (x : Int) (d : Nat) (h1 : Own w b1 v1 (limbs x.natAbs)) (k1 : Own w e1 u1 (limbs d)) (b2 e2 : Nat) (v2 u2 : Value) (y : Int) (f : Nat) (h2 : Own w b2 v2 (limbs y.natAbs)) (k2 : Own w e2 u2 (limbs f)) (l1 : (limbs x.natAbs).length ≤ 24) (l2 : (limbs d).length ≤ 24) (l3 : (limbs y.natAbs).length ≤ 24) (l4 : (limbs f).length ≤ 24) (z : Int) (e : Nat) (hz : z = lowZ (x * y) (d * f)) (he : e = lowD (x * y) (d * f)) :
    Calls Try.prog 49 #[.agg #[.bool (ng x), v1, u1], .agg #[.bool (ng y), v2, u2]] w (RetQ w z e) := by
  have BW : Below w.heap.size w (((w.alloc (.cells #[.bool (ng x), v1, u1] 45)).alloc (.cells #[.bool (ng y), v2, u2] 45)).alloc (.cells #[.bool false, .slice none 0 0, .slice none 0 0] 45)) := ((((Below.refl w.heap.size w).alloc (Nat.le_refl _) _).alloc (by simp) _).alloc (by simp; omega) _)
  obtain ⟨c0_0, c0_1, c0_2, c1_0, c1_1, c1_2, c2_0, c2_1, c2_2, q0, q1, q2⟩ : World.cell? (((w.alloc (.cells #[.bool (ng x), v1, u1] 45)).alloc (.cells #[.bool (ng y), v2, u2] 45)).alloc (.cells #[.bool false, .slice none 0 0, .slice none 0 0] 45)) ⟨w.heap.size, 0, none⟩ = some (.bool (ng x)) ∧ World.cell? (((w.alloc (.cells #[.bool (ng x), v1, u1] 45)).alloc (.cells #[.bool (ng y), v2, u2] 45)).alloc (.cells #[.bool false, .slice none 0 0, .slice none 0 0] 45)) ⟨w.heap.size, 1, none⟩ = some (v1) ∧ World.cell? (((w.alloc (.cells #[.bool (ng x), v1, u1] 45)).alloc (.cells #[.bool (ng y), v2, u2] 45)).alloc (.cells #[.bool false, .slice none 0 0, .slice none 0 0] 45)) ⟨w.heap.size, 2, none⟩ = some (u1) ∧ World.cell? (((w.alloc (.cells #[.bool (ng x), v1, u1] 45)).alloc (.cells #[.bool (ng y), v2, u2] 45)).alloc (.cells #[.bool false, .slice none 0 0, .slice none 0 0] 45)) ⟨w.heap.size + 1, 0, none⟩ = some (.bool (ng y)) ∧ World.cell? (((w.alloc (.cells #[.bool (ng x), v1, u1] 45)).alloc (.cells #[.bool (ng y), v2, u2] 45)).alloc (.cells #[.bool false, .slice none 0 0, .slice none 0 0] 45)) ⟨w.heap.size + 1, 1, none⟩ = some (v2) ∧ World.cell? (((w.alloc (.cells #[.bool (ng x), v1, u1] 45)).alloc (.cells #[.bool (ng y), v2, u2] 45)).alloc (.cells #[.bool false, .slice none 0 0, .slice none 0 0] 45)) ⟨w.heap.size + 1, 2, none⟩ = some (u2) ∧ World.cell? (((w.alloc (.cells #[.bool (ng x), v1, u1] 45)).alloc (.cells #[.bool (ng y), v2, u2] 45)).alloc (.cells #[.bool false, .slice none 0 0, .slice none 0 0] 45)) ⟨w.heap.size + 1 + 1, 0, none⟩ = some (.bool false) ∧ World.cell? (((w.alloc (.cells #[.bool (ng x), v1, u1] 45)).alloc (.cells #[.bool (ng y), v2, u2] 45)).alloc (.cells #[.bool false, .slice none 0 0, .slice none 0 0] 45)) ⟨w.heap.size + 1 + 1, 1, none⟩ = some (.slice none 0 0) ∧ World.cell? (((w.alloc (.cells #[.bool (ng x), v1, u1] 45)).alloc (.cells #[.bool (ng y), v2, u2] 45)).alloc (.cells #[.bool false, .slice none 0 0, .slice none 0 0] 45)) ⟨w.heap.size + 1 + 1, 2, none⟩ = some (.slice none 0 0) ∧ World.frozen? (((w.alloc (.cells #[.bool (ng x), v1, u1] 45)).alloc (.cells #[.bool (ng y), v2, u2] 45)).alloc (.cells #[.bool false, .slice none 0 0, .slice none 0 0] 45)) ⟨w.heap.size + 1 + 1, 0, none⟩ = false ∧ World.frozen? (((w.alloc (.cells #[.bool (ng x), v1, u1] 45)).alloc (.cells #[.bool (ng y), v2, u2] 45)).alloc (.cells #[.bool false, .slice none 0 0, .slice none 0 0] 45)) ⟨w.heap.size + 1 + 1, 1, none⟩ = false ∧ World.frozen? (((w.alloc (.cells #[.bool (ng x), v1, u1] 45)).alloc (.cells #[.bool (ng y), v2, u2] 45)).alloc (.cells #[.bool false, .slice none 0 0, .slice none 0 0] 45)) ⟨w.heap.size + 1 + 1, 2, none⟩ = false := by simp [go_sem]
  have hg0 : w.heap.size + 1 + 1 < ((((w.alloc (.cells #[.bool (ng x), v1, u1] 45)).alloc (.cells #[.bool (ng y), v2, u2] 45)).alloc (.cells #[.bool false, .slice none 0 0, .slice none 0 0] 45))).heap.size := World.block_lt_of_cell? _ _ c2_0
  have Ha := Lib.hid (h1.below BW (Nat.le_refl _))
  have Hb := Lib.hid (k1.below BW (Nat.le_refl _))
  have Hc := Lib.hid (h2.below BW (Nat.le_refl _))
  have Hd := Lib.hid (k2.below BW (Nat.le_refl _))
  clear h1 k1 h2 k2
  obtain ⟨t, ht⟩ : ∃ t : Int, t = x * y := ⟨_, rfl⟩
  obtain ⟨u, hu⟩ : ∃ u : Nat, u = d * f := ⟨_, rfl⟩
  obtain ⟨n, hn⟩ : ∃ n : Nat, n = x.natAbs * y.natAbs := ⟨_, rfl⟩
  have lt : (limbs t.natAbs).length ≤ 900 := by rw [ht]; have := len_mulI l1 l3; omega
  have lu : (limbs u).length ≤ 900 := by rw [hu]; have := len_mul l2 l4; omega
  have HZ : Hid (z = lowZ t u) := by unfold Hid; rw [ht, hu]; exact hz
  have HE : Hid (e = lowD t u) := by unfold Hid; rw [ht, hu]; exact he
  have HN : Hid (n = t.natAbs) := by unfold Hid; rw [hn, ht, Int.natAbs_mul]
  have HS : Hid (t ≠ 0 → (ng x != ng y) = ng t) := mul_s ht
  have HU : Hid (d * f = u) := hu.symm
  have HNN : Hid (x.natAbs * y.natAbs = n) := hn.symm
  clear ht hu hn hz he
  go_enter Try.func49, Try.ntmps49
  go_wp2_with fail
  generalize (((w.alloc (.cells #[.bool (ng x), v1, u1] 45)).alloc (.cells #[.bool (ng y), v2, u2] 45)).alloc (.cells #[.bool false, .slice none 0 0, .slice none 0 0] 45)) = w0 at *
  have B0 := Below.refl w0.heap.size w0
  replace Ha := Lib.hid Ha.out.drew
  replace Hb := Lib.hid Hb.out.drew
  replace Hc := Lib.hid Hc.out.drew
  replace Hd := Lib.hid Hd.out.drew
  replace B0 := below_drew B0
  replace q0 := frozen_drew q0
  replace c2_0 := cell_drew c2_0
  replace q1 := frozen_drew q1
  replace c2_1 := cell_drew c2_1
  replace q2 := frozen_drew q2
  replace c2_2 := cell_drew c2_2
  replace c0_0 := cell_drew c0_0
  replace c0_1 := cell_drew c0_1
  replace c0_2 := cell_drew c0_2
  replace c1_0 := cell_drew c1_0
  replace c1_1 := cell_drew c1_1
  replace c1_2 := cell_drew c1_2
  go_region_held3 (fun w' => w'.cell? ⟨w.heap.size, 0, none⟩ = some (.bool (ng x)) ∧ w'.cell? ⟨w.heap.size, 1, none⟩ = some (v1) ∧ w'.cell? ⟨w.heap.size, 2, none⟩ = some (u1) ∧ w'.cell? ⟨w.heap.size + 1, 0, none⟩ = some (.bool (ng y)) ∧ w'.cell? ⟨w.heap.size + 1, 1, none⟩ = some (v2) ∧ w'.cell? ⟨w.heap.size + 1, 2, none⟩ = some (u2)) (first | exact ⟨c0_0, c0_1, c0_2, c1_0, c1_1, c1_2⟩ | (go_split_ands; exact ⟨(set_far (set_far ‹_› (by dsimp only; omega)) (by dsimp only; omega)), (set_far (set_far ‹_› (by dsimp only; omega)) (by dsimp only; omega)), (set_far (set_far ‹_› (by dsimp only; omega)) (by dsimp only; omega)), (set_far (set_far ‹_› (by dsimp only; omega)) (by dsimp only; omega)), (set_far (set_far ‹_› (by dsimp only; omega)) (by dsimp only; omega)), (set_far (set_far ‹_› (by dsimp only; omega)) (by dsimp only; omega))⟩) | (go_split_ands; exact ⟨(set_far (set_far (set_far ‹_› (by dsimp only; omega)) (by dsimp only; omega)) (by dsimp only; omega)), (set_far (set_far (set_far ‹_› (by dsimp only; omega)) (by dsimp only; omega)) (by dsimp only; omega)), (set_far (set_far (set_far ‹_› (by dsimp only; omega)) (by dsimp only; omega)) (by dsimp only; omega)), (set_far (set_far (set_far ‹_› (by dsimp only; omega)) (by dsimp only; omega)) (by dsimp only; omega)), (set_far (set_far (set_far ‹_› (by dsimp only; omega)) (by dsimp only; omega)) (by dsimp only; omega)), (set_far (set_far (set_far ‹_› (by dsimp only; omega)) (by dsimp only; omega)) (by dsimp only; omega))⟩) | (go_split_ands; exact ⟨(set_far ‹_› (by dsimp only; omega)), (set_far ‹_› (by dsimp only; omega)), (set_far ‹_› (by dsimp only; omega)), (set_far ‹_› (by dsimp only; omega)), (set_far ‹_› (by dsimp only; omega)), (set_far ‹_› (by dsimp only; omega))⟩) | go_keep)
    (first | (go_at_call_of 82 (v1); refine (l02Mul_t _ _ _ _ _ x.natAbs y.natAbs n Ha.out Hc.out (by omega) (by omega) HNN).mono ?_; rintro e w1 ⟨vo, rfl, ho1, hb1⟩; replace q0 := keep_frozen (w1 := w1) hb1 c2_0 q0; replace c2_0 := keep_cell (w1 := w1) hb1 c2_0; replace q1 := keep_frozen (w1 := w1) hb1 c2_1 q1; replace c2_1 := keep_cell (w1 := w1) hb1 c2_1; replace q2 := keep_frozen (w1 := w1) hb1 c2_2 q2; replace c2_2 := keep_cell (w1 := w1) hb1 c2_2; replace c0_0 := keep_cell (w1 := w1) hb1 c0_0; replace c0_1 := keep_cell (w1 := w1) hb1 c0_1; replace c0_2 := keep_cell (w1 := w1) hb1 c0_2; replace c1_0 := keep_cell (w1 := w1) hb1 c1_0; replace c1_1 := keep_cell (w1 := w1) hb1 c1_1; replace c1_2 := keep_cell (w1 := w1) hb1 c1_2; replace Ha := Lib.hid (Ha.out.below hb1 (Nat.le_refl _)); replace Hb := Lib.hid (Hb.out.below hb1 (Nat.le_refl _)); replace Hc := Lib.hid (Hc.out.below hb1 (Nat.le_refl _)); replace Hd := Lib.hid (Hd.out.below hb1 (Nat.le_refl _)); (try (replace Ht := Lib.hid (Ht.out.below hb1 (Nat.le_refl _)))); (try (replace Hr := Lib.hid (Hr.out.below hb1 (Nat.le_refl _)))); (try (replace Hs := Lib.hid (Hs.out.below hb1 (Nat.le_refl _)))); have Ho := Lib.hid (ho1.mono B0.size); clear ho1; replace B0 := B0.trans (hb1.mono B0.size); clear hb1) | (go_at_call_of 82 (u1); refine (l02Mul_t _ _ _ _ _ d f u Hb.out Hd.out (by omega) (by omega) HU).mono ?_; rintro e w2 ⟨vt, rfl, ho1, hb2⟩; replace q0 := keep_frozen (w1 := w2) hb2 c2_0 q0; replace c2_0 := keep_cell (w1 := w2) hb2 c2_0; replace q1 := keep_frozen (w1 := w2) hb2 c2_1 q1; replace c2_1 := keep_cell (w1 := w2) hb2 c2_1; replace q2 := keep_frozen (w1 := w2) hb2 c2_2 q2; replace c2_2 := keep_cell (w1 := w2) hb2 c2_2; replace c0_0 := keep_cell (w1 := w2) hb2 c0_0; replace c0_1 := keep_cell (w1 := w2) hb2 c0_1; replace c0_2 := keep_cell (w1 := w2) hb2 c0_2; replace c1_0 := keep_cell (w1 := w2) hb2 c1_0; replace c1_1 := keep_cell (w1 := w2) hb2 c1_1; replace c1_2 := keep_cell (w1 := w2) hb2 c1_2; replace Ha := Lib.hid (Ha.out.below hb2 (Nat.le_refl _)); replace Hb := Lib.hid (Hb.out.below hb2 (Nat.le_refl _)); replace Hc := Lib.hid (Hc.out.below hb2 (Nat.le_refl _)); replace Hd := Lib.hid (Hd.out.below hb2 (Nat.le_refl _)); (try (replace Ho := Lib.hid (Ho.out.below hb2 (Nat.le_refl _)))); (try (replace Hr := Lib.hid (Hr.out.below hb2 (Nat.le_refl _)))); (try (replace Hs := Lib.hid (Hs.out.below hb2 (Nat.le_refl _)))); have Ht := Lib.hid (ho1.mono B0.size); clear ho1; replace B0 := B0.trans (hb2.mono B0.size); clear hb2) | (go_at_call 81; refine (l04Low_m _ _ _ _ _ x y t u n Ho.out Ht.out HN HS lt lu z e HZ HE).mono ?_; rintro e w3 ⟨vr, vs, rfl, ho1, ho2, HAP, hb3⟩; replace q0 := keep_frozen (w1 := w3) hb3 c2_0 q0; replace c2_0 := keep_cell (w1 := w3) hb3 c2_0; replace q1 := keep_frozen (w1 := w3) hb3 c2_1 q1; replace c2_1 := keep_cell (w1 := w3) hb3 c2_1; replace q2 := keep_frozen (w1 := w3) hb3 c2_2 q2; replace c2_2 := keep_cell (w1 := w3) hb3 c2_2; replace c0_0 := keep_cell (w1 := w3) hb3 c0_0; replace c0_1 := keep_cell (w1 := w3) hb3 c0_1; replace c0_2 := keep_cell (w1 := w3) hb3 c0_2; replace c1_0 := keep_cell (w1 := w3) hb3 c1_0; replace c1_1 := keep_cell (w1 := w3) hb3 c1_1; replace c1_2 := keep_cell (w1 := w3) hb3 c1_2; replace Ha := Lib.hid (Ha.out.below hb3 (Nat.le_refl _)); replace Hb := Lib.hid (Hb.out.below hb3 (Nat.le_refl _)); replace Hc := Lib.hid (Hc.out.below hb3 (Nat.le_refl _)); replace Hd := Lib.hid (Hd.out.below hb3 (Nat.le_refl _)); (try (replace Ho := Lib.hid (Ho.out.below hb3 (Nat.le_refl _)))); (try (replace Ht := Lib.hid (Ht.out.below hb3 (Nat.le_refl _)))); have Hr := Lib.hid (ho1.mono B0.size); clear ho1; have Hs := Lib.hid (ho2.mono B0.size); clear ho2; obtain ⟨ar, cr, rfl, -, -, -, -, -⟩ := Hr.out.form; obtain ⟨aS, cS, rfl, -, -, -, -, -⟩ := Hs.out.form; replace B0 := B0.trans (hb3.mono B0.size); clear hb3))
  go_wp2
  exact bodyPost_ret (v := .agg #[.bool (ng z), .slice ar (limbs z.natAbs).length cr, .slice aS (limbs e).length cS]) (by simp [results, Try.results49, go_sem, c2_0, c2_1, c2_2]) rfl (retR_end BW (by omega) hg0 B0 Hr.out Hs.out HAP)

theorem l04Mul_c (w : World) (b1 e1 : Nat) (v1 u1 : Value) (x : Int) (d : Nat) (h1 : Own w b1 v1 (limbs x.natAbs)) (k1 : Own w e1 u1 (limbs d)) (b2 e2 : Nat) (v2 u2 : Value) (y : Int) (f : Nat) (h2 : Own w b2 v2 (limbs y.natAbs)) (k2 : Own w e2 u2 (limbs f)) (hq : IsQ0 x d) (hk : IsQ0 y f) (z : Int) (e : Nat) (hz : z = (qmul x d y f).1) (he : e = (qmul x d y f).2) :
    Calls Try.prog 49 #[.agg #[.bool (ng x), v1, u1], .agg #[.bool (ng y), v2, u2]] w (RetQ w z e) :=
  l04Mul_n w b1 e1 v1 u1 x d h1 k1 b2 e2 v2 u2 y f h2 k2 hq.len.1 hq.len.2 hk.len.1 hk.len.2 z e hz he

theorem div_s {x y : Int} {f : Nat} (hf : 0 < f) {t : Int} (ht : t = x * sgnd y f) (h0 : t ≠ 0) : (ng x != ng y) = ng t := by
  rw [← sgnd_ng (y := y) hf]; exact mul_s ht h0
theorem div_n {x y : Int} {f : Nat} {t : Int} (ht : t = x * sgnd y f) : x.natAbs * f = t.natAbs := by
  rw [ht, Int.natAbs_mul, sgnd_abs]

theorem mulN_s {x p : Int} {f : Nat} (hp : p = x * (f : Int)) (h0 : p ≠ 0) : ng x = ng p := by
  have := mul_s hp h0
  rw [ng_nat] at this
  rw [← this]; cases ng x <;> rfl
theorem mulN_n {x p : Int} {f : Nat} (hp : p = x * (f : Int)) : x.natAbs * f = p.natAbs := by rw [hp, Int.natAbs_mul, Int.natAbs_natCast]
theorem fit_abs {p : Int} {n : Nat} (hn : n = p.natAbs) (hl : (limbs p.natAbs).length ≤ 60) : p.natAbs = if (limbs n).length ≤ 60 then n else 0 := by
  subst hn; rw [if_pos hl]

set_option maxHeartbeats 2000000 in
theorem sRatEqual_1 (w : World) (s t : Bool) (v1 u1 v2 u2 : Value) (hs : s ≠ t) : Calls Try.prog 37 #[.agg #[.bool s, v1, u1], .agg #[.bool t, v2, u2]] w (RetB w false) := by
  have ds : (s == t) = false := by simpa using hs
  clear hs
  go_enter Try.func37, Try.ntmps37
  go_wp2
  go_ret
  exact retB rfl (((Below.refl _ _).alloc (Nat.le_refl _) _).alloc (by simp) _)

set_option maxHeartbeats 2000000 in
theorem sRatEqual_2 (w : World) (b1 e1 : Nat) (s : Bool) (v1 u1 : Value) (xs ys : List Int) (h1 : Own w b1 v1 xs) (k1 : Own w e1 u1 ys) (b2 e2 : Nat) (v2 u2 : Value) (zs ws : List Int) (h2 : Own w b2 v2 zs) (k2 : Own w e2 u2 ws) (hx : xs ≠ zs) :
    Calls Try.prog 37 #[.agg #[.bool s, v1, u1], .agg #[.bool s, v2, u2]] w (RetB w false) := by
  have BW : Below w.heap.size w ((w.alloc (.cells #[.bool s, v1, u1] 45)).alloc (.cells #[.bool s, v2, u2] 45)) := (((Below.refl w.heap.size w).alloc (Nat.le_refl _) _).alloc (by simp) _)
  obtain ⟨c0_0, c0_1, c0_2, c1_0, c1_1, c1_2⟩ : World.cell? ((w.alloc (.cells #[.bool s, v1, u1] 45)).alloc (.cells #[.bool s, v2, u2] 45)) ⟨w.heap.size, 0, none⟩ = some (.bool s) ∧ World.cell? ((w.alloc (.cells #[.bool s, v1, u1] 45)).alloc (.cells #[.bool s, v2, u2] 45)) ⟨w.heap.size, 1, none⟩ = some (v1) ∧ World.cell? ((w.alloc (.cells #[.bool s, v1, u1] 45)).alloc (.cells #[.bool s, v2, u2] 45)) ⟨w.heap.size, 2, none⟩ = some (u1) ∧ World.cell? ((w.alloc (.cells #[.bool s, v1, u1] 45)).alloc (.cells #[.bool s, v2, u2] 45)) ⟨w.heap.size + 1, 0, none⟩ = some (.bool s) ∧ World.cell? ((w.alloc (.cells #[.bool s, v1, u1] 45)).alloc (.cells #[.bool s, v2, u2] 45)) ⟨w.heap.size + 1, 1, none⟩ = some (v2) ∧ World.cell? ((w.alloc (.cells #[.bool s, v1, u1] 45)).alloc (.cells #[.bool s, v2, u2] 45)) ⟨w.heap.size + 1, 2, none⟩ = some (u2) := by simp [go_sem]
  have Ha := Lib.hid (h1.below BW (Nat.le_refl _))
  have Hb := Lib.hid (k1.below BW (Nat.le_refl _))
  have Hc := Lib.hid (h2.below BW (Nat.le_refl _))
  have Hd := Lib.hid (k2.below BW (Nat.le_refl _))
  clear h1 k1 h2 k2
  have HE : Hid (false = decide (xs = zs)) := (decide_eq_false hx).symm
  clear hx
  go_enter Try.func37, Try.ntmps37
  go_wp2_with fail
  generalize ((w.alloc (.cells #[.bool s, v1, u1] 45)).alloc (.cells #[.bool s, v2, u2] 45)) = w0 at *
  have B0 := Below.refl w0.heap.size w0
  refine (l04List_c _ _ _ _ _ xs zs false HE Ha.out Hc.out).mono ?_
  rintro e w1 ⟨rfl, hb⟩
  replace c0_0 := keep_cell hb c0_0
  replace c0_1 := keep_cell hb c0_1
  replace c0_2 := keep_cell hb c0_2
  replace c1_0 := keep_cell hb c1_0
  replace c1_1 := keep_cell hb c1_1
  replace c1_2 := keep_cell hb c1_2
  replace Ha := Lib.hid (Ha.out.below hb (Nat.le_refl _))
  replace Hb := Lib.hid (Hb.out.below hb (Nat.le_refl _))
  replace Hc := Lib.hid (Hc.out.below hb (Nat.le_refl _))
  replace Hd := Lib.hid (Hd.out.below hb (Nat.le_refl _))
  replace B0 := B0.trans (hb.mono B0.size)
  clear hb
  go_wp2
  go_ret
  exact retB rfl (BW.trans (B0.mono BW.size))

theorem l04List_s (w : World) (b1 b2 : Nat) (v1 v2 : Value) (xs : List Int) (h1 : Own w b1 v1 xs) (h2 : Own w b2 v2 xs) : Calls Try.prog 68 #[v1, v2] w (RetB w true) :=
  l04List_c w b1 b2 v1 v2 xs xs true (by simp [Hid]) h1 h2

set_option maxHeartbeats 2000000 in
theorem sRatEqual_3 (w : World) (b1 e1 : Nat) (s : Bool) (v1 u1 : Value) (xs ys : List Int) (h1 : Own w b1 v1 xs) (k1 : Own w e1 u1 ys) (b2 e2 : Nat) (v2 u2 : Value) (ws : List Int) (h2 : Own w b2 v2 xs) (k2 : Own w e2 u2 ws) (c : Bool) (hc : c = decide (ys = ws)) :
    Calls Try.prog 37 #[.agg #[.bool s, v1, u1], .agg #[.bool s, v2, u2]] w (RetB w c) := by
  have BW : Below w.heap.size w ((w.alloc (.cells #[.bool s, v1, u1] 45)).alloc (.cells #[.bool s, v2, u2] 45)) := (((Below.refl w.heap.size w).alloc (Nat.le_refl _) _).alloc (by simp) _)
  obtain ⟨c0_0, c0_1, c0_2, c1_0, c1_1, c1_2⟩ : World.cell? ((w.alloc (.cells #[.bool s, v1, u1] 45)).alloc (.cells #[.bool s, v2, u2] 45)) ⟨w.heap.size, 0, none⟩ = some (.bool s) ∧ World.cell? ((w.alloc (.cells #[.bool s, v1, u1] 45)).alloc (.cells #[.bool s, v2, u2] 45)) ⟨w.heap.size, 1, none⟩ = some (v1) ∧ World.cell? ((w.alloc (.cells #[.bool s, v1, u1] 45)).alloc (.cells #[.bool s, v2, u2] 45)) ⟨w.heap.size, 2, none⟩ = some (u1) ∧ World.cell? ((w.alloc (.cells #[.bool s, v1, u1] 45)).alloc (.cells #[.bool s, v2, u2] 45)) ⟨w.heap.size + 1, 0, none⟩ = some (.bool s) ∧ World.cell? ((w.alloc (.cells #[.bool s, v1, u1] 45)).alloc (.cells #[.bool s, v2, u2] 45)) ⟨w.heap.size + 1, 1, none⟩ = some (v2) ∧ World.cell? ((w.alloc (.cells #[.bool s, v1, u1] 45)).alloc (.cells #[.bool s, v2, u2] 45)) ⟨w.heap.size + 1, 2, none⟩ = some (u2) := by simp [go_sem]
  have Ha := Lib.hid (h1.below BW (Nat.le_refl _))
  have Hb := Lib.hid (k1.below BW (Nat.le_refl _))
  have Hc := Lib.hid (h2.below BW (Nat.le_refl _))
  have Hd := Lib.hid (k2.below BW (Nat.le_refl _))
  clear h1 k1 h2 k2
  have HT : Hid (c = decide (ys = ws)) := hc
  clear hc
  go_enter Try.func37, Try.ntmps37
  go_wp2_with fail
  generalize ((w.alloc (.cells #[.bool s, v1, u1] 45)).alloc (.cells #[.bool s, v2, u2] 45)) = w0 at *
  have B0 := Below.refl w0.heap.size w0
  refine (l04List_s _ _ _ _ _ xs Ha.out Hc.out).mono ?_
  rintro e w1 ⟨rfl, hb⟩
  replace c0_0 := keep_cell hb c0_0
  replace c0_1 := keep_cell hb c0_1
  replace c0_2 := keep_cell hb c0_2
  replace c1_0 := keep_cell hb c1_0
  replace c1_1 := keep_cell hb c1_1
  replace c1_2 := keep_cell hb c1_2
  replace Ha := Lib.hid (Ha.out.below hb (Nat.le_refl _))
  replace Hb := Lib.hid (Hb.out.below hb (Nat.le_refl _))
  replace Hc := Lib.hid (Hc.out.below hb (Nat.le_refl _))
  replace Hd := Lib.hid (Hd.out.below hb (Nat.le_refl _))
  replace B0 := B0.trans (hb.mono B0.size)
  clear hb
  go_wp2_with fail
  refine (l04List_c _ _ _ _ _ ys ws c HT Hb.out Hd.out).mono ?_
  rintro e w2 ⟨rfl, hb⟩
  replace c0_0 := keep_cell hb c0_0
  replace c0_1 := keep_cell hb c0_1
  replace c0_2 := keep_cell hb c0_2
  replace c1_0 := keep_cell hb c1_0
  replace c1_1 := keep_cell hb c1_1
  replace c1_2 := keep_cell hb c1_2
  replace Ha := Lib.hid (Ha.out.below hb (Nat.le_refl _))
  replace Hb := Lib.hid (Hb.out.below hb (Nat.le_refl _))
  replace Hc := Lib.hid (Hc.out.below hb (Nat.le_refl _))
  replace Hd := Lib.hid (Hd.out.below hb (Nat.le_refl _))
  replace B0 := B0.trans (hb.mono B0.size)
  clear hb
  go_wp2
  go_ret
  exact retB rfl (BW.trans (B0.mono BW.size))

theorem sRatEqual_c (w : World) (b1 e1 : Nat) (s : Bool) (v1 u1 : Value) (xs ys : List Int) (h1 : Own w b1 v1 xs) (k1 : Own w e1 u1 ys) (b2 e2 : Nat) (t : Bool) (v2 u2 : Value) (zs ws : List Int) (h2 : Own w b2 v2 zs) (k2 : Own w e2 u2 ws) : Calls Try.prog 37 #[.agg #[.bool s, v1, u1], .agg #[.bool t, v2, u2]] w (RetB w (reqB s xs ys t zs ws)) := by
  by_cases hs : s = t
  · subst hs
    by_cases hx : xs = zs
    · subst hx
      exact sRatEqual_3 w b1 e1 s v1 u1 xs ys h1 k1 b2 e2 v2 u2 ws h2 k2 _ (by simp [reqB])
    · rw [show reqB s xs ys s zs ws = false by simp [reqB, hx]]
      exact sRatEqual_2 w b1 e1 s v1 u1 xs ys h1 k1 b2 e2 v2 u2 zs ws h2 k2 hx
  · rw [show reqB s xs ys t zs ws = false by simp [reqB, hs]]
    exact sRatEqual_1 w s t v1 u1 v2 u2 hs

end Go.Proofs.Ytcmhpdhcpkhejaa
