/- The reference's fractions: l04Neg, l04Copy, l04Add and what leans on them. -/
import Derived.Test.YtcmhpdhcpkhejaaRatT
import Derived.Test.YtcmhpdhcpkhejaaApp
namespace Go.Proofs.Ytcmhpdhcpkhejaa
open Go.RowKit Lm

/-! An empty literal that was made inside a region, and what is made beside it. -/
def litV (w : World) : Value := .slice (some ⟨w.heap.size, 0, none⟩) 0 0
theorem lit_new {w : World} {b : Nat} {u : Value} {xs : List Int} (h : Own w b u xs) : Apart (.slice (some ⟨w.heap.size, 0, none⟩) 0 0) u := fun k hk hu => by
  have h1 := (h.lt k hu).2
  have h2 : w.heap.size = k := Option.some.inj hk
  omega
theorem lit_apart {w w' : World} {o : Obj} {u : Value} {xs : List Int} (h : Own w' (w.alloc o).heap.size u xs) : Apart (.slice (some ⟨w.heap.size, 0, none⟩) 0 0) u := fun k hk hu => by
  have h1 := (h.lt k hu).1
  have h2 : w.heap.size = k := Option.some.inj hk
  have : (w.alloc o).heap.size = w.heap.size + 1 := by simp
  omega
theorem lit_apartd {w w' : World} {o : Obj} {u : Value} {xs : List Int} (h : Own w' (w.alloc o).drew.heap.size u xs) : Apart (.slice (some ⟨w.heap.size, 0, none⟩) 0 0) u := lit_apart h
theorem lit_bel {w0 w w' : World} (hb : Below (w.alloc (.cells #[] 3)).heap.size (w.alloc (.cells #[] 3)) w') (B : Below w0.heap.size w0 w) : Own w' w0.heap.size (.slice (some ⟨w.heap.size, 0, none⟩) 0 0) [] :=
  ((Own.lit0 w).below hb (Nat.le_refl _)).mono B.size
theorem lit_beld {w0 w w' : World} (hb : Below (w.alloc (.cells #[] 3)).drew.heap.size (w.alloc (.cells #[] 3)).drew w') (B : Below w0.heap.size w0 w.drew) : Own w' w0.heap.size (.slice (some ⟨w.heap.size, 0, none⟩) 0 0) [] :=
  ((Own.lit0 w).below (undrew_below hb) (Nat.le_refl _)).mono B.size
theorem lit_own {w0 w : World} (B : Below w0.heap.size w0 w) : Own (w.alloc (.cells #[] 3)) w0.heap.size (.slice (some ⟨w.heap.size, 0, none⟩) 0 0) [] := (Own.lit0 w).mono B.size
theorem lit_ownd {w0 w : World} (B : Below w0.heap.size w0 w.drew) : Own (w.alloc (.cells #[] 3)).drew w0.heap.size (.slice (some ⟨w.heap.size, 0, none⟩) 0 0) [] := Own.drew ((Own.lit0 w).mono B.size)
theorem lit_grown {w0 w w' : World} (B : Below w0.heap.size w0 w) (hg : (w.alloc (.cells #[] 3)).grownBy w' (Value.ownBlock (.slice (some ⟨w.heap.size, 0, none⟩) 0 0))) : Below w0.heap.size w0 w' :=
  (lit_own B).grownBelow (B.alloc B.size _) hg (Nat.le_refl _) (Nat.le_trans B.size (heap_le_alloc _ _))
theorem lit_grownd {w0 w w' : World} (B : Below w0.heap.size w0 w.drew) (hg : (w.alloc (.cells #[] 3)).drew.grownBy w' (Value.ownBlock (.slice (some ⟨w.heap.size, 0, none⟩) 0 0))) : Below w0.heap.size w0 w' :=
  (lit_ownd B).grownBelow (below_drew ((below_undrew B).alloc B.size _)) hg (Nat.le_refl _) (Nat.le_trans B.size (heap_le_alloc w _))
theorem ne_of_apart {L u : Value} (h : Apart L u) : u.ownBlock = none ∨ u.ownBlock ≠ L.ownBlock := by
  cases hu : u.ownBlock with
  | none => exact .inl rfl
  | some k => exact .inr fun e => h k e.symm hu
theorem apart_app {W : World} {b : Nat} {L u v : Value} {xs : List Int} (hat : v.ownBlock = L.ownBlock ∨ v.ownBlock = some W.heap.size) (hu : Own W b u xs) (hL : Apart L u) : Apart u v := fun k hk hv => by
  rcases hat with h | h
  · rw [h] at hv; exact hL k hv hk
  · rw [h] at hv
    cases hv
    have := (hu.lt _ hk).2
    omega
theorem alloc_size_le {w0 w : World} (B : Below w0.heap.size w0 w) (o : Obj) : w0.heap.size ≤ (w.alloc o).heap.size := Nat.le_trans B.size (heap_le_alloc _ _)

/-! Two literals. -/
theorem alloc2_size (w : World) (o1 o2 : Obj) : ((w.alloc o1).alloc o2).heap.size = w.heap.size + 1 + 1 := by simp
theorem alloc1_size (w : World) (o1 : Obj) : (w.alloc o1).heap.size = w.heap.size + 1 := by simp
theorem lit2a {w0 w : World} (B : Below w0.heap.size w0 w.drew) : Own ((w.alloc (.cells #[] 3)).alloc (.cells #[] 3)).drew w0.heap.size (.slice (some ⟨w.heap.size, 0, none⟩) 0 0) [] := Own.drew (((Own.lit0 w).mono B.size).alloc _)
theorem lit2b {w0 w : World} (B : Below w0.heap.size w0 w.drew) : Own ((w.alloc (.cells #[] 3)).alloc (.cells #[] 3)).drew w0.heap.size (.slice (some ⟨w.heap.size + 1, 0, none⟩) 0 0) [] := by
  rw [← alloc1_size w (.cells #[] 3)]
  exact Own.drew ((Own.lit0 (w.alloc (.cells #[] 3))).mono (Nat.le_trans B.size (heap_le_alloc w _)))
theorem below2 {w0 w : World} (B : Below w0.heap.size w0 w.drew) : Below w0.heap.size w0 ((w.alloc (.cells #[] 3)).alloc (.cells #[] 3)).drew :=
  below_drew (((below_undrew B).alloc B.size _).alloc (Nat.le_trans B.size (heap_le_alloc w _)) _)
theorem size2 {w0 w : World} (B : Below w0.heap.size w0 w.drew) : w0.heap.size ≤ ((w.alloc (.cells #[] 3)).alloc (.cells #[] 3)).drew.heap.size := (below2 B).size
theorem lit2a_keep {w0 w w' : World} {v : Value} (B : Below w0.heap.size w0 w.drew) (hg : ((w.alloc (.cells #[] 3)).alloc (.cells #[] 3)).drew.grownBy w' (Value.ownBlock (.slice (some ⟨w.heap.size + 1, 0, none⟩) 0 0)))
    (hat : v.ownBlock = Value.ownBlock (.slice (some ⟨w.heap.size + 1, 0, none⟩) 0 0) ∨ v.ownBlock = some ((w.alloc (.cells #[] 3)).alloc (.cells #[] 3)).drew.heap.size) :
    Own w' w0.heap.size (.slice (some ⟨w.heap.size, 0, none⟩) 0 0) [] ∧ Apart (.slice (some ⟨w.heap.size, 0, none⟩) 0 0) v ∧ Below w0.heap.size w0 w' := by
  refine ⟨(lit2a B).grown hg (.inr fun e => ?_), fun k hk hv => ?_, (lit2b B).grownBelow (below2 B) hg (Nat.le_refl _) (below2 B).size⟩
  · have : w.heap.size = w.heap.size + 1 := Option.some.inj e
    omega
  · have h1 : w.heap.size = k := Option.some.inj hk
    rcases hat with h | h
    · have h2 : w.heap.size + 1 = k := Option.some.inj (h.symm.trans hv)
      omega
    · have h2 : ((w.alloc (.cells #[] 3)).alloc (.cells #[] 3)).heap.size = k := Option.some.inj (h.symm.trans hv)
      rw [alloc2_size] at h2
      omega
theorem lit2b_keep {w0 w w' : World} {v : Value} (B : Below w0.heap.size w0 w.drew) (hg : ((w.alloc (.cells #[] 3)).alloc (.cells #[] 3)).drew.grownBy w' (Value.ownBlock (.slice (some ⟨w.heap.size, 0, none⟩) 0 0)))
    (hat : v.ownBlock = Value.ownBlock (.slice (some ⟨w.heap.size, 0, none⟩) 0 0) ∨ v.ownBlock = some ((w.alloc (.cells #[] 3)).alloc (.cells #[] 3)).drew.heap.size) :
    Own w' w0.heap.size (.slice (some ⟨w.heap.size + 1, 0, none⟩) 0 0) [] ∧ Apart (.slice (some ⟨w.heap.size + 1, 0, none⟩) 0 0) v ∧ Below w0.heap.size w0 w' := by
  refine ⟨(lit2b B).grown hg (.inr fun e => ?_), fun k hk hv => ?_, (lit2a B).grownBelow (below2 B) hg (Nat.le_refl _) (below2 B).size⟩
  · have : w.heap.size + 1 = w.heap.size := Option.some.inj e
    omega
  · have h1 : w.heap.size + 1 = k := Option.some.inj hk
    rcases hat with h | h
    · have h2 : w.heap.size = k := Option.some.inj (h.symm.trans hv)
      omega
    · have h2 : ((w.alloc (.cells #[] 3)).alloc (.cells #[] 3)).heap.size = k := Option.some.inj (h.symm.trans hv)
      rw [alloc2_size] at h2
      omega

theorem neg_sgn {x z : Int} (hz : z = -x) (h0 : z ≠ 0) : (!ng x) = ng z := by
  rcases ng_cases x with ⟨h, e⟩ | ⟨h, e⟩ <;> rw [e]
  · rw [ng_nonneg (by omega)]; rfl
  · rw [ng_neg (by omega)]; rfl

set_option maxHeartbeats 4000000 in
set_option maxRecDepth 100000 in
theorem l04Neg_f (w : World) (b1 e1 : Nat) (v1 u1 : Value) (x : Int) (d : Nat) (h1 : Own w b1 v1 (limbs x.natAbs)) (k1 : Own w e1 u1 (limbs d)) (l1 : (limbs x.natAbs).length ≤ 24) (l2 : (limbs d).length ≤ 24) (z : Int) (hz : z = -x) :
    Calls Try.prog 95 #[.agg #[.bool (ng x), v1, u1]] w (RetQ w z d) := by
  have BW : Below w.heap.size w ((w.alloc (.cells #[.bool (ng x), v1, u1] 45)).alloc (.cells #[.bool false, .slice none 0 0, .slice none 0 0] 45)) := (((Below.refl w.heap.size w).alloc (Nat.le_refl _) _).alloc (by simp) _)
  obtain ⟨c0_0, c0_1, c0_2, c1_0, c1_1, c1_2, q0, q1, q2⟩ : World.cell? ((w.alloc (.cells #[.bool (ng x), v1, u1] 45)).alloc (.cells #[.bool false, .slice none 0 0, .slice none 0 0] 45)) ⟨w.heap.size, 0, none⟩ = some (.bool (ng x)) ∧ World.cell? ((w.alloc (.cells #[.bool (ng x), v1, u1] 45)).alloc (.cells #[.bool false, .slice none 0 0, .slice none 0 0] 45)) ⟨w.heap.size, 1, none⟩ = some (v1) ∧ World.cell? ((w.alloc (.cells #[.bool (ng x), v1, u1] 45)).alloc (.cells #[.bool false, .slice none 0 0, .slice none 0 0] 45)) ⟨w.heap.size, 2, none⟩ = some (u1) ∧ World.cell? ((w.alloc (.cells #[.bool (ng x), v1, u1] 45)).alloc (.cells #[.bool false, .slice none 0 0, .slice none 0 0] 45)) ⟨w.heap.size + 1, 0, none⟩ = some (.bool false) ∧ World.cell? ((w.alloc (.cells #[.bool (ng x), v1, u1] 45)).alloc (.cells #[.bool false, .slice none 0 0, .slice none 0 0] 45)) ⟨w.heap.size + 1, 1, none⟩ = some (.slice none 0 0) ∧ World.cell? ((w.alloc (.cells #[.bool (ng x), v1, u1] 45)).alloc (.cells #[.bool false, .slice none 0 0, .slice none 0 0] 45)) ⟨w.heap.size + 1, 2, none⟩ = some (.slice none 0 0) ∧ World.frozen? ((w.alloc (.cells #[.bool (ng x), v1, u1] 45)).alloc (.cells #[.bool false, .slice none 0 0, .slice none 0 0] 45)) ⟨w.heap.size + 1, 0, none⟩ = false ∧ World.frozen? ((w.alloc (.cells #[.bool (ng x), v1, u1] 45)).alloc (.cells #[.bool false, .slice none 0 0, .slice none 0 0] 45)) ⟨w.heap.size + 1, 1, none⟩ = false ∧ World.frozen? ((w.alloc (.cells #[.bool (ng x), v1, u1] 45)).alloc (.cells #[.bool false, .slice none 0 0, .slice none 0 0] 45)) ⟨w.heap.size + 1, 2, none⟩ = false := by simp [go_sem]
  have hg0 : w.heap.size + 1 < (((w.alloc (.cells #[.bool (ng x), v1, u1] 45)).alloc (.cells #[.bool false, .slice none 0 0, .slice none 0 0] 45))).heap.size := World.block_lt_of_cell? _ _ c1_0
  have Ha := Lib.hid (h1.below BW (Nat.le_refl _))
  have Hb := Lib.hid (k1.below BW (Nat.le_refl _))
  clear h1 k1
  have HN : Hid (z.natAbs = if (limbs x.natAbs).length ≤ 60 then x.natAbs else 0) := fit_len (by rw [hz, Int.natAbs_neg]) (by omega)
  have HS : Hid (z ≠ 0 → (!ng x) = ng z) := neg_sgn hz
  clear hz
  go_enter Try.func95, Try.ntmps95
  go_wp2_with fail
  generalize ((w.alloc (.cells #[.bool (ng x), v1, u1] 45)).alloc (.cells #[.bool false, .slice none 0 0, .slice none 0 0] 45)) = w0 at *
  have B0 := Below.refl w0.heap.size w0
  go_wp2_with fail
  have C0 := Lib.hid c1_0
  have Q0 := Lib.hid q0
  clear c1_0 q0
  have C1 := Lib.hid c1_1
  have Q1 := Lib.hid q1
  clear c1_1 q1
  have C2 := Lib.hid c1_2
  have Q2 := Lib.hid q2
  clear c1_2 q2
  have Dc0_0 := Lib.hid c0_0
  clear c0_0
  have Dc0_1 := Lib.hid c0_1
  clear c0_1
  have Dc0_2 := Lib.hid c0_2
  clear c0_2
  replace B0 := below_drew B0
  go_region_held3 (fun w' => w'.cell? ⟨w.heap.size, 0, none⟩ = some (.bool (ng x)) ∧ w'.cell? ⟨w.heap.size, 1, none⟩ = some (v1) ∧ w'.cell? ⟨w.heap.size, 2, none⟩ = some (u1)) (first | exact ⟨keep_cell B0 Dc0_0.out, keep_cell B0 Dc0_1.out, keep_cell B0 Dc0_2.out⟩ | exact ⟨keep_cell (B0.alloc B0.size _) Dc0_0.out, keep_cell (B0.alloc B0.size _) Dc0_1.out, keep_cell (B0.alloc B0.size _) Dc0_2.out⟩ | exact ⟨keep_cell (below_drew ((below_undrew B0).alloc B0.size _)) Dc0_0.out, keep_cell (below_drew ((below_undrew B0).alloc B0.size _)) Dc0_1.out, keep_cell (below_drew ((below_undrew B0).alloc B0.size _)) Dc0_2.out⟩ | exact ⟨keep_cell ((B0.alloc B0.size _).alloc (alloc_size_le B0 _) _) Dc0_0.out, keep_cell ((B0.alloc B0.size _).alloc (alloc_size_le B0 _) _) Dc0_1.out, keep_cell ((B0.alloc B0.size _).alloc (alloc_size_le B0 _) _) Dc0_2.out⟩ | (go_split_ands; exact ⟨(set_far (set_far ‹_› (by dsimp only; omega)) (by dsimp only; omega)), (set_far (set_far ‹_› (by dsimp only; omega)) (by dsimp only; omega)), (set_far (set_far ‹_› (by dsimp only; omega)) (by dsimp only; omega))⟩) | (go_split_ands; exact ⟨(set_far (set_far (set_far ‹_› (by dsimp only; omega)) (by dsimp only; omega)) (by dsimp only; omega)), (set_far (set_far (set_far ‹_› (by dsimp only; omega)) (by dsimp only; omega)) (by dsimp only; omega)), (set_far (set_far (set_far ‹_› (by dsimp only; omega)) (by dsimp only; omega)) (by dsimp only; omega))⟩) | (go_split_ands; exact ⟨(set_far ‹_› (by dsimp only; omega)), (set_far ‹_› (by dsimp only; omega)), (set_far ‹_› (by dsimp only; omega))⟩) | go_keep)
    (first | (go_at_call 87; refine (l03Make_n _ _ (!ng x) _ x.natAbs z (by first | exact Ha.out.below B0 (Nat.le_refl _) | exact Own.drew ((Ha.out.below (below_undrew B0) (Nat.le_refl _)).alloc _) | exact (Ha.out.below B0 (Nat.le_refl _)).alloc _) HN HS).mono ?_; rintro e wa ⟨vm, rfl, ho1, hba⟩; (first | (with_reducible have HL0 := lit_beld hba B0; have HL := Lib.hid HL0; clear HL0; have HLA := Lib.hid (lit_apartd ho1)) | (with_reducible have HL0 := lit_bel hba B0; have HL := Lib.hid HL0; clear HL0; have HLA := Lib.hid (lit_apart ho1)) | skip); (first | (with_reducible replace ho1 := Own.unallocd ho1) | (with_reducible replace ho1 := Own.unalloc ho1) | skip); (first | (with_reducible replace hba := alloc_belowd hba) | (with_reducible replace hba := alloc_below hba) | skip); have Hm := Lib.hid (ho1.mono B0.size); clear ho1; obtain ⟨am, cm, rfl, -, -, -, -, -⟩ := Hm.out.form; replace B0 := B0.trans (hba.mono B0.size); clear hba; (try clear y0 z0); have y0 := keep_cell B0 C0.out; have z0 := keep_frozen B0 C0.out Q0.out; (try clear y1 z1); have y1 := keep_cell B0 C1.out; have z1 := keep_frozen B0 C1.out Q1.out; (try clear y2 z2); have y2 := keep_cell B0 C2.out; have z2 := keep_frozen B0 C2.out Q2.out) | (refine app_step rfl _ _ rfl _ u1 w0.heap.size e1 [] (limbs d) rfl rfl (by first | exact HL.out | exact lit_own B0 | exact lit_ownd B0) (by first | exact Hb.out.below B0 (Nat.le_refl _) | exact Own.drew ((Hb.out.below (below_undrew B0) (Nat.le_refl _)).alloc _) | exact (Hb.out.below B0 (Nat.le_refl _)).alloc _) (by simp; omega) (by first | exact B0.size | exact alloc_size_le B0 _ | exact alloc_size_le (below_undrew B0) _) ?_; intro vn wn hx hg hat; rw [List.nil_append] at hx; have B1 : Below w0.heap.size w0 wn := (by first | exact HL.out.grownBelow B0 hg (Nat.le_refl _) B0.size | exact lit_grown B0 hg | exact lit_grownd B0 hg); (first | (have HAP := Lib.hid (apart_app hat Hm.out HLA.out); replace Hm := Lib.hid (Hm.out.grown hg (ne_of_apart HLA.out))) | (have HAP := Lib.hid (apart_app hat (Hm.out.alloc _) (lit_new Hm.out)); replace Hm := Lib.hid ((Hm.out.alloc _).grown hg (ne_of_apart (lit_new Hm.out)))) | skip); have Hn := Lib.hid hx; obtain ⟨an, cn, rfl, -, -, -, -, -⟩ := Hn.out.form; replace B0 := B1; clear hx hg hat B1; (try clear y0 z0); have y0 := keep_cell B0 C0.out; have z0 := keep_frozen B0 C0.out Q0.out; (try clear y1 z1); have y1 := keep_cell B0 C1.out; have z1 := keep_frozen B0 C1.out Q1.out; (try clear y2 z2); have y2 := keep_cell B0 C2.out; have z2 := keep_frozen B0 C2.out Q2.out))
  all_goals
    go_wp2
    exact bodyPost_ret (v := .agg #[.bool (ng z), .slice am (limbs z.natAbs).length cm, .slice an (limbs d).length cn]) (by simp [results, Try.results95, go_sem, y0, y1, y2]) rfl (retR_end BW (by omega) hg0 B0 Hm.out Hn.out HAP.out)

set_option maxHeartbeats 4000000 in
set_option maxRecDepth 100000 in
theorem l04Add_w (w : World) (b1 e1 : Nat) (v1 u1 : Value) (x : Int) (h1 : Own w b1 v1 (limbs x.natAbs)) (k1 : Own w e1 u1 (limbs 1)) (b2 e2 : Nat) (v2 u2 : Value) (y : Int) (h2 : Own w b2 v2 (limbs y.natAbs)) (k2 : Own w e2 u2 (limbs 1)) (l1 : (limbs x.natAbs).length ≤ 24) (l3 : (limbs y.natAbs).length ≤ 24) (z : Int) (e : Nat) (hz : z = lowZ (x + y) (1)) (he : e = lowD (x + y) (1)) :
    Calls Try.prog 58 #[.agg #[.bool (ng x), v1, u1], .agg #[.bool (ng y), v2, u2]] w (RetQ w z e) := by
  have BW : Below w.heap.size w (((w.alloc (.cells #[.bool (ng x), v1, u1] 45)).alloc (.cells #[.bool (ng y), v2, u2] 45)).alloc (.cells #[.bool false, .slice none 0 0, .slice none 0 0] 45)) := ((((Below.refl w.heap.size w).alloc (Nat.le_refl _) _).alloc (by simp) _).alloc (by simp; omega) _)
  obtain ⟨c0_0, c0_1, c0_2, c1_0, c1_1, c1_2, c2_0, c2_1, c2_2, q0, q1, q2⟩ : World.cell? (((w.alloc (.cells #[.bool (ng x), v1, u1] 45)).alloc (.cells #[.bool (ng y), v2, u2] 45)).alloc (.cells #[.bool false, .slice none 0 0, .slice none 0 0] 45)) ⟨w.heap.size, 0, none⟩ = some (.bool (ng x)) ∧ World.cell? (((w.alloc (.cells #[.bool (ng x), v1, u1] 45)).alloc (.cells #[.bool (ng y), v2, u2] 45)).alloc (.cells #[.bool false, .slice none 0 0, .slice none 0 0] 45)) ⟨w.heap.size, 1, none⟩ = some (v1) ∧ World.cell? (((w.alloc (.cells #[.bool (ng x), v1, u1] 45)).alloc (.cells #[.bool (ng y), v2, u2] 45)).alloc (.cells #[.bool false, .slice none 0 0, .slice none 0 0] 45)) ⟨w.heap.size, 2, none⟩ = some (u1) ∧ World.cell? (((w.alloc (.cells #[.bool (ng x), v1, u1] 45)).alloc (.cells #[.bool (ng y), v2, u2] 45)).alloc (.cells #[.bool false, .slice none 0 0, .slice none 0 0] 45)) ⟨w.heap.size + 1, 0, none⟩ = some (.bool (ng y)) ∧ World.cell? (((w.alloc (.cells #[.bool (ng x), v1, u1] 45)).alloc (.cells #[.bool (ng y), v2, u2] 45)).alloc (.cells #[.bool false, .slice none 0 0, .slice none 0 0] 45)) ⟨w.heap.size + 1, 1, none⟩ = some (v2) ∧ World.cell? (((w.alloc (.cells #[.bool (ng x), v1, u1] 45)).alloc (.cells #[.bool (ng y), v2, u2] 45)).alloc (.cells #[.bool false, .slice none 0 0, .slice none 0 0] 45)) ⟨w.heap.size + 1, 2, none⟩ = some (u2) ∧ World.cell? (((w.alloc (.cells #[.bool (ng x), v1, u1] 45)).alloc (.cells #[.bool (ng y), v2, u2] 45)).alloc (.cells #[.bool false, .slice none 0 0, .slice none 0 0] 45)) ⟨w.heap.size + 1 + 1, 0, none⟩ = some (.bool false) ∧ World.cell? (((w.alloc (.cells #[.bool (ng x), v1, u1] 45)).alloc (.cells #[.bool (ng y), v2, u2] 45)).alloc (.cells #[.bool false, .slice none 0 0, .slice none 0 0] 45)) ⟨w.heap.size + 1 + 1, 1, none⟩ = some (.slice none 0 0) ∧ World.cell? (((w.alloc (.cells #[.bool (ng x), v1, u1] 45)).alloc (.cells #[.bool (ng y), v2, u2] 45)).alloc (.cells #[.bool false, .slice none 0 0, .slice none 0 0] 45)) ⟨w.heap.size + 1 + 1, 2, none⟩ = some (.slice none 0 0) ∧ World.frozen? (((w.alloc (.cells #[.bool (ng x), v1, u1] 45)).alloc (.cells #[.bool (ng y), v2, u2] 45)).alloc (.cells #[.bool false, .slice none 0 0, .slice none 0 0] 45)) ⟨w.heap.size + 1 + 1, 0, none⟩ = false ∧ World.frozen? (((w.alloc (.cells #[.bool (ng x), v1, u1] 45)).alloc (.cells #[.bool (ng y), v2, u2] 45)).alloc (.cells #[.bool false, .slice none 0 0, .slice none 0 0] 45)) ⟨w.heap.size + 1 + 1, 1, none⟩ = false ∧ World.frozen? (((w.alloc (.cells #[.bool (ng x), v1, u1] 45)).alloc (.cells #[.bool (ng y), v2, u2] 45)).alloc (.cells #[.bool false, .slice none 0 0, .slice none 0 0] 45)) ⟨w.heap.size + 1 + 1, 2, none⟩ = false := by simp [go_sem]
  have hg0 : w.heap.size + 1 + 1 < ((((w.alloc (.cells #[.bool (ng x), v1, u1] 45)).alloc (.cells #[.bool (ng y), v2, u2] 45)).alloc (.cells #[.bool false, .slice none 0 0, .slice none 0 0] 45))).heap.size := World.block_lt_of_cell? _ _ c2_0
  have Ha := Lib.hid (h1.below BW (Nat.le_refl _))
  have Hb := Lib.hid (k1.below BW (Nat.le_refl _))
  have Hc := Lib.hid (h2.below BW (Nat.le_refl _))
  have Hd := Lib.hid (k2.below BW (Nat.le_refl _))
  clear h1 k1 h2 k2
  obtain ⟨s, hs⟩ : ∃ s : Int, s = x + y := ⟨_, rfl⟩
  have ls : (limbs s.natAbs).length ≤ 25 := by rw [hs]; exact len_addI l1 l3
  have HS : Hid (s = fitZ (x + y)) := by unfold Hid; rw [← hs, fitZ_yes (by omega)]
  have HZ : Hid (z = lowZ s 1) := by unfold Hid; rw [hs]; exact hz
  have HE : Hid (e = lowD s 1) := by unfold Hid; rw [hs]; exact he
  clear hs hz he
  go_enter Try.func58, Try.ntmps58
  go_wp2_with fail
  generalize (((w.alloc (.cells #[.bool (ng x), v1, u1] 45)).alloc (.cells #[.bool (ng y), v2, u2] 45)).alloc (.cells #[.bool false, .slice none 0 0, .slice none 0 0] 45)) = w0 at *
  have B0 := Below.refl w0.heap.size w0
  refine (l04One_t _ _ _ Hb.out).mono ?_
  rintro e w1 ⟨rfl, hb⟩
  replace c0_0 := keep_cell hb c0_0
  replace c0_1 := keep_cell hb c0_1
  replace c0_2 := keep_cell hb c0_2
  replace c1_0 := keep_cell hb c1_0
  replace c1_1 := keep_cell hb c1_1
  replace c1_2 := keep_cell hb c1_2
  replace q0 := keep_frozen (w1 := w1) hb c2_0 q0
  replace c2_0 := keep_cell (w1 := w1) hb c2_0
  replace q1 := keep_frozen (w1 := w1) hb c2_1 q1
  replace c2_1 := keep_cell (w1 := w1) hb c2_1
  replace q2 := keep_frozen (w1 := w1) hb c2_2 q2
  replace c2_2 := keep_cell (w1 := w1) hb c2_2
  replace Ha := Lib.hid (Ha.out.below hb (Nat.le_refl _))
  replace Hb := Lib.hid (Hb.out.below hb (Nat.le_refl _))
  replace Hc := Lib.hid (Hc.out.below hb (Nat.le_refl _))
  replace Hd := Lib.hid (Hd.out.below hb (Nat.le_refl _))
  replace B0 := B0.trans (hb.mono B0.size)
  clear hb
  go_wp2_with fail
  refine (l04One_t _ _ _ Hd.out).mono ?_
  rintro e w2 ⟨rfl, hb⟩
  replace c0_0 := keep_cell hb c0_0
  replace c0_1 := keep_cell hb c0_1
  replace c0_2 := keep_cell hb c0_2
  replace c1_0 := keep_cell hb c1_0
  replace c1_1 := keep_cell hb c1_1
  replace c1_2 := keep_cell hb c1_2
  replace q0 := keep_frozen (w1 := w2) hb c2_0 q0
  replace c2_0 := keep_cell (w1 := w2) hb c2_0
  replace q1 := keep_frozen (w1 := w2) hb c2_1 q1
  replace c2_1 := keep_cell (w1 := w2) hb c2_1
  replace q2 := keep_frozen (w1 := w2) hb c2_2 q2
  replace c2_2 := keep_cell (w1 := w2) hb c2_2
  replace Ha := Lib.hid (Ha.out.below hb (Nat.le_refl _))
  replace Hb := Lib.hid (Hb.out.below hb (Nat.le_refl _))
  replace Hc := Lib.hid (Hc.out.below hb (Nat.le_refl _))
  replace Hd := Lib.hid (Hd.out.below hb (Nat.le_refl _))
  replace B0 := B0.trans (hb.mono B0.size)
  clear hb
  go_wp2_with fail
  refine (l03Add_c _ _ _ _ _ x y Ha.out Hc.out (by omega) (by omega) s HS.out).mono ?_
  rintro e w3 ⟨vs, rfl, ho1, hb⟩
  replace c0_0 := keep_cell hb c0_0
  replace c0_1 := keep_cell hb c0_1
  replace c0_2 := keep_cell hb c0_2
  replace c1_0 := keep_cell hb c1_0
  replace c1_1 := keep_cell hb c1_1
  replace c1_2 := keep_cell hb c1_2
  replace q0 := keep_frozen (w1 := w3) hb c2_0 q0
  replace c2_0 := keep_cell (w1 := w3) hb c2_0
  replace q1 := keep_frozen (w1 := w3) hb c2_1 q1
  replace c2_1 := keep_cell (w1 := w3) hb c2_1
  replace q2 := keep_frozen (w1 := w3) hb c2_2 q2
  replace c2_2 := keep_cell (w1 := w3) hb c2_2
  replace Ha := Lib.hid (Ha.out.below hb (Nat.le_refl _))
  replace Hb := Lib.hid (Hb.out.below hb (Nat.le_refl _))
  replace Hc := Lib.hid (Hc.out.below hb (Nat.le_refl _))
  replace Hd := Lib.hid (Hd.out.below hb (Nat.le_refl _))
  have Hs := Lib.hid (ho1.mono B0.size)
  clear ho1
  obtain ⟨asx, csx, rfl, -, -, -, -, -⟩ := Hs.out.form
  replace B0 := B0.trans (hb.mono B0.size)
  clear hb
  have hz_ln : w0.heap.size ≤ w3.heap.size := B0.size
  have hb := alloc_bel w3 (.cells #[.bool (ng s), .slice asx (limbs s.natAbs).length csx] 43)
  replace c0_0 := keep_cell hb c0_0
  replace c0_1 := keep_cell hb c0_1
  replace c0_2 := keep_cell hb c0_2
  replace c1_0 := keep_cell hb c1_0
  replace c1_1 := keep_cell hb c1_1
  replace c1_2 := keep_cell hb c1_2
  replace q0 := keep_frozen (w1 := _) hb c2_0 q0
  replace c2_0 := keep_cell (w1 := _) hb c2_0
  replace q1 := keep_frozen (w1 := _) hb c2_1 q1
  replace c2_1 := keep_cell (w1 := _) hb c2_1
  replace q2 := keep_frozen (w1 := _) hb c2_2 q2
  replace c2_2 := keep_cell (w1 := _) hb c2_2
  replace Ha := Lib.hid (Ha.out.below hb (Nat.le_refl _))
  replace Hb := Lib.hid (Hb.out.below hb (Nat.le_refl _))
  replace Hc := Lib.hid (Hc.out.below hb (Nat.le_refl _))
  replace Hd := Lib.hid (Hd.out.below hb (Nat.le_refl _))
  replace Hs := Lib.hid (Hs.out.below hb (Nat.le_refl _))
  obtain ⟨ln_0, ln_1⟩ : World.cell? (w3.alloc (.cells #[.bool (ng s), .slice asx (limbs s.natAbs).length csx] 43)) ⟨w3.heap.size, 0, none⟩ = some (.bool (ng s)) ∧ World.cell? (w3.alloc (.cells #[.bool (ng s), .slice asx (limbs s.natAbs).length csx] 43)) ⟨w3.heap.size, 1, none⟩ = some (.slice asx (limbs s.natAbs).length csx) := by simp [go_sem]
  replace B0 := B0.trans (hb.mono B0.size)
  clear hb
  have HSZ : Hid ((w3.alloc (.cells #[.bool (ng s), .slice asx (limbs s.natAbs).length csx] 43)).heap.size = w3.heap.size + 1) := by simp [Hid]
  go_wp2_with fail
  generalize w3.alloc (.cells #[.bool (ng s), .slice asx (limbs s.natAbs).length csx] 43) = w4 at *
  refine (l04Low_c _ _ _ _ _ _ s 1 (Hs.out.alloc _) (by rw [limbs_one, ← HSZ.out]; exact Own.lit1 _ _) (by omega) (by rw [limbs_one]; simp) z e HZ HE (show Hid (s ≠ 0 → ng s = ng s) from fun _ => rfl)).mono ?_
  rintro e w5 ⟨vr, vs, rfl, ho1, ho2, HAP, hb⟩
  replace hb := alloc_below hb
  replace c0_0 := keep_cell hb c0_0
  replace c0_1 := keep_cell hb c0_1
  replace c0_2 := keep_cell hb c0_2
  replace c1_0 := keep_cell hb c1_0
  replace c1_1 := keep_cell hb c1_1
  replace c1_2 := keep_cell hb c1_2
  replace ln_0 := keep_cell hb ln_0
  replace ln_1 := keep_cell hb ln_1
  replace q0 := keep_frozen (w1 := w5) hb c2_0 q0
  replace c2_0 := keep_cell (w1 := w5) hb c2_0
  replace q1 := keep_frozen (w1 := w5) hb c2_1 q1
  replace c2_1 := keep_cell (w1 := w5) hb c2_1
  replace q2 := keep_frozen (w1 := w5) hb c2_2 q2
  replace c2_2 := keep_cell (w1 := w5) hb c2_2
  replace Ha := Lib.hid (Ha.out.below hb (Nat.le_refl _))
  replace Hb := Lib.hid (Hb.out.below hb (Nat.le_refl _))
  replace Hc := Lib.hid (Hc.out.below hb (Nat.le_refl _))
  replace Hd := Lib.hid (Hd.out.below hb (Nat.le_refl _))
  replace Hs := Lib.hid (Hs.out.below hb (Nat.le_refl _))
  have Hr := Lib.hid (ho1.mono (Nat.le_trans B0.size (heap_le_alloc _ _)))
  clear ho1
  have Hs := Lib.hid (ho2.mono (Nat.le_trans B0.size (heap_le_alloc _ _)))
  clear ho2
  obtain ⟨ar, cr, rfl, -, -, -, -, -⟩ := Hr.out.form
  obtain ⟨aS, cS, rfl, -, -, -, -, -⟩ := Hs.out.form
  replace B0 := B0.trans (hb.mono B0.size)
  clear hb
  go_wp2
  exact bodyPost_ret (v := .agg #[.bool (ng z), .slice ar (limbs z.natAbs).length cr, .slice aS (limbs e).length cS]) (by simp [results, Try.results58, go_sem, c2_0, c2_1, c2_2]) rfl (retR_end BW (by omega) hg0 B0 Hr.out Hs.out HAP)

set_option maxHeartbeats 4000000 in
set_option maxRecDepth 100000 in
theorem l04Add_1 (w : World) (b1 e1 : Nat) (v1 u1 : Value) (x : Int) (d : Nat) (h1 : Own w b1 v1 (limbs x.natAbs)) (k1 : Own w e1 u1 (limbs d)) (b2 e2 : Nat) (v2 u2 : Value) (y : Int) (f : Nat) (h2 : Own w b2 v2 (limbs y.natAbs)) (k2 : Own w e2 u2 (limbs f)) (hd : d ≠ 1) (l1 : (limbs x.natAbs).length ≤ 24) (l2 : (limbs d).length ≤ 24) (l3 : (limbs y.natAbs).length ≤ 24) (l4 : (limbs f).length ≤ 24) (z : Int) (e : Nat) (hz : z = lowZ (x * (f : Int) + y * (d : Int)) (d * f)) (he : e = lowD (x * (f : Int) + y * (d : Int)) (d * f)) :
    Calls Try.prog 58 #[.agg #[.bool (ng x), v1, u1], .agg #[.bool (ng y), v2, u2]] w (RetQ w z e) := by
  have BW : Below w.heap.size w (((w.alloc (.cells #[.bool (ng x), v1, u1] 45)).alloc (.cells #[.bool (ng y), v2, u2] 45)).alloc (.cells #[.bool false, .slice none 0 0, .slice none 0 0] 45)) := ((((Below.refl w.heap.size w).alloc (Nat.le_refl _) _).alloc (by simp) _).alloc (by simp; omega) _)
  obtain ⟨c0_0, c0_1, c0_2, c1_0, c1_1, c1_2, c2_0, c2_1, c2_2, q0, q1, q2⟩ : World.cell? (((w.alloc (.cells #[.bool (ng x), v1, u1] 45)).alloc (.cells #[.bool (ng y), v2, u2] 45)).alloc (.cells #[.bool false, .slice none 0 0, .slice none 0 0] 45)) ⟨w.heap.size, 0, none⟩ = some (.bool (ng x)) ∧ World.cell? (((w.alloc (.cells #[.bool (ng x), v1, u1] 45)).alloc (.cells #[.bool (ng y), v2, u2] 45)).alloc (.cells #[.bool false, .slice none 0 0, .slice none 0 0] 45)) ⟨w.heap.size, 1, none⟩ = some (v1) ∧ World.cell? (((w.alloc (.cells #[.bool (ng x), v1, u1] 45)).alloc (.cells #[.bool (ng y), v2, u2] 45)).alloc (.cells #[.bool false, .slice none 0 0, .slice none 0 0] 45)) ⟨w.heap.size, 2, none⟩ = some (u1) ∧ World.cell? (((w.alloc (.cells #[.bool (ng x), v1, u1] 45)).alloc (.cells #[.bool (ng y), v2, u2] 45)).alloc (.cells #[.bool false, .slice none 0 0, .slice none 0 0] 45)) ⟨w.heap.size + 1, 0, none⟩ = some (.bool (ng y)) ∧ World.cell? (((w.alloc (.cells #[.bool (ng x), v1, u1] 45)).alloc (.cells #[.bool (ng y), v2, u2] 45)).alloc (.cells #[.bool false, .slice none 0 0, .slice none 0 0] 45)) ⟨w.heap.size + 1, 1, none⟩ = some (v2) ∧ World.cell? (((w.alloc (.cells #[.bool (ng x), v1, u1] 45)).alloc (.cells #[.bool (ng y), v2, u2] 45)).alloc (.cells #[.bool false, .slice none 0 0, .slice none 0 0] 45)) ⟨w.heap.size + 1, 2, none⟩ = some (u2) ∧ World.cell? (((w.alloc (.cells #[.bool (ng x), v1, u1] 45)).alloc (.cells #[.bool (ng y), v2, u2] 45)).alloc (.cells #[.bool false, .slice none 0 0, .slice none 0 0] 45)) ⟨w.heap.size + 1 + 1, 0, none⟩ = some (.bool false) ∧ World.cell? (((w.alloc (.cells #[.bool (ng x), v1, u1] 45)).alloc (.cells #[.bool (ng y), v2, u2] 45)).alloc (.cells #[.bool false, .slice none 0 0, .slice none 0 0] 45)) ⟨w.heap.size + 1 + 1, 1, none⟩ = some (.slice none 0 0) ∧ World.cell? (((w.alloc (.cells #[.bool (ng x), v1, u1] 45)).alloc (.cells #[.bool (ng y), v2, u2] 45)).alloc (.cells #[.bool false, .slice none 0 0, .slice none 0 0] 45)) ⟨w.heap.size + 1 + 1, 2, none⟩ = some (.slice none 0 0) ∧ World.frozen? (((w.alloc (.cells #[.bool (ng x), v1, u1] 45)).alloc (.cells #[.bool (ng y), v2, u2] 45)).alloc (.cells #[.bool false, .slice none 0 0, .slice none 0 0] 45)) ⟨w.heap.size + 1 + 1, 0, none⟩ = false ∧ World.frozen? (((w.alloc (.cells #[.bool (ng x), v1, u1] 45)).alloc (.cells #[.bool (ng y), v2, u2] 45)).alloc (.cells #[.bool false, .slice none 0 0, .slice none 0 0] 45)) ⟨w.heap.size + 1 + 1, 1, none⟩ = false ∧ World.frozen? (((w.alloc (.cells #[.bool (ng x), v1, u1] 45)).alloc (.cells #[.bool (ng y), v2, u2] 45)).alloc (.cells #[.bool false, .slice none 0 0, .slice none 0 0] 45)) ⟨w.heap.size + 1 + 1, 2, none⟩ = false := by simp [go_sem]
  have hg0 : w.heap.size + 1 + 1 < ((((w.alloc (.cells #[.bool (ng x), v1, u1] 45)).alloc (.cells #[.bool (ng y), v2, u2] 45)).alloc (.cells #[.bool false, .slice none 0 0, .slice none 0 0] 45))).heap.size := World.block_lt_of_cell? _ _ c2_0
  have Ha := Lib.hid (h1.below BW (Nat.le_refl _))
  have Hb := Lib.hid (k1.below BW (Nat.le_refl _))
  have Hc := Lib.hid (h2.below BW (Nat.le_refl _))
  have Hd := Lib.hid (k2.below BW (Nat.le_refl _))
  clear h1 k1 h2 k2
  obtain ⟨p, hp⟩ : ∃ p : Int, p = x * (f : Int) := ⟨_, rfl⟩
  obtain ⟨q, hq0⟩ : ∃ q : Int, q = y * (d : Int) := ⟨_, rfl⟩
  obtain ⟨s, hs⟩ : ∃ s : Int, s = p + q := ⟨_, rfl⟩
  obtain ⟨t, ht⟩ : ∃ t : Nat, t = d * f := ⟨_, rfl⟩
  obtain ⟨n, hn⟩ : ∃ n : Nat, n = p.natAbs := ⟨_, rfl⟩
  obtain ⟨m, hm⟩ : ∃ m : Nat, m = q.natAbs := ⟨_, rfl⟩
  have lp : (limbs p.natAbs).length ≤ 48 := by rw [hp]; exact len_mulN l1 l4
  have lq : (limbs q.natAbs).length ≤ 48 := by rw [hq0]; exact len_mulN l3 l2
  have ls : (limbs s.natAbs).length ≤ 49 := by rw [hs]; exact len_addI lp lq
  have lt : (limbs t).length ≤ 900 := by rw [ht]; have := len_mul l2 l4; omega
  have HP1 : Hid (x.natAbs * f = n) := by unfold Hid; rw [hn, mulN_n hp]
  have HQ1 : Hid (y.natAbs * d = m) := by unfold Hid; rw [hm, mulN_n hq0]
  have HP2 := Lib.hid (fit_abs hn (by omega))
  have HQ2 := Lib.hid (fit_abs hm (by omega))
  have HP3 : Hid (p ≠ 0 → ng x = ng p) := mulN_s hp
  have HQ3 : Hid (q ≠ 0 → ng y = ng q) := mulN_s hq0
  have HS : Hid (s = fitZ (p + q)) := by unfold Hid; rw [← hs, fitZ_yes (by omega)]
  have HT : Hid (d * f = t) := ht.symm
  have HZ : Hid (z = lowZ s t) := by unfold Hid; rw [hs, hp, hq0, ht]; exact hz
  have HE : Hid (e = lowD s t) := by unfold Hid; rw [hs, hp, hq0, ht]; exact he
  have n1 : (limbs p.natAbs).length ≤ 900 := by omega
  have n2 : (limbs q.natAbs).length ≤ 900 := by omega
  have n3 : (limbs s.natAbs).length ≤ 900 := by omega
  clear hp hq0 hs ht hn hm hz he
  have HD := Lib.hid hd
  clear hd
  go_enter Try.func58, Try.ntmps58
  go_wp2_with fail
  generalize (((w.alloc (.cells #[.bool (ng x), v1, u1] 45)).alloc (.cells #[.bool (ng y), v2, u2] 45)).alloc (.cells #[.bool false, .slice none 0 0, .slice none 0 0] 45)) = w0 at *
  have B0 := Below.refl w0.heap.size w0
  refine (l04One_f _ _ _ d Hb.out HD.out).mono ?_
  rintro e w1 ⟨rfl, hb⟩
  replace c0_0 := keep_cell hb c0_0
  replace c0_1 := keep_cell hb c0_1
  replace c0_2 := keep_cell hb c0_2
  replace c1_0 := keep_cell hb c1_0
  replace c1_1 := keep_cell hb c1_1
  replace c1_2 := keep_cell hb c1_2
  replace q0 := keep_frozen (w1 := w1) hb c2_0 q0
  replace c2_0 := keep_cell (w1 := w1) hb c2_0
  replace q1 := keep_frozen (w1 := w1) hb c2_1 q1
  replace c2_1 := keep_cell (w1 := w1) hb c2_1
  replace q2 := keep_frozen (w1 := w1) hb c2_2 q2
  replace c2_2 := keep_cell (w1 := w1) hb c2_2
  replace Ha := Lib.hid (Ha.out.below hb (Nat.le_refl _))
  replace Hb := Lib.hid (Hb.out.below hb (Nat.le_refl _))
  replace Hc := Lib.hid (Hc.out.below hb (Nat.le_refl _))
  replace Hd := Lib.hid (Hd.out.below hb (Nat.le_refl _))
  replace B0 := B0.trans (hb.mono B0.size)
  clear hb
  go_upto_region 4 with fail
  go_cut [6] (fun o wx => ∃ (g : Nat) (v : Value), o = .pointer (some ⟨g, 0, none⟩) ∧ wx.cell? ⟨g, 0, none⟩ = some (.bool (ng p)) ∧ wx.cell? ⟨g, 1, none⟩ = some v ∧ Hid (Own wx w0.heap.size v (limbs p.natAbs)) ∧ Below w1.heap.size w1 wx)
  case first =>
    have BC := below_drew (Below.refl w1.heap.size w1)
    have hc0 := B0.size
    go_region_held3 (fun w' => w'.cell? ⟨w.heap.size, 0, none⟩ = some (.bool (ng x)) ∧ w'.cell? ⟨w.heap.size, 1, none⟩ = some (v1) ∧ w'.cell? ⟨w.heap.size, 2, none⟩ = some (u1) ∧ w'.cell? ⟨w.heap.size + 1, 0, none⟩ = some (.bool (ng y)) ∧ w'.cell? ⟨w.heap.size + 1, 1, none⟩ = some (v2) ∧ w'.cell? ⟨w.heap.size + 1, 2, none⟩ = some (u2)) (first | exact ⟨keep_cell (BC) c0_0, keep_cell (BC) c0_1, keep_cell (BC) c0_2, keep_cell (BC) c1_0, keep_cell (BC) c1_1, keep_cell (BC) c1_2⟩ | exact ⟨keep_cell (BC.alloc BC.size _) c0_0, keep_cell (BC.alloc BC.size _) c0_1, keep_cell (BC.alloc BC.size _) c0_2, keep_cell (BC.alloc BC.size _) c1_0, keep_cell (BC.alloc BC.size _) c1_1, keep_cell (BC.alloc BC.size _) c1_2⟩ | exact ⟨keep_cell (below_drew ((below_undrew BC).alloc BC.size _)) c0_0, keep_cell (below_drew ((below_undrew BC).alloc BC.size _)) c0_1, keep_cell (below_drew ((below_undrew BC).alloc BC.size _)) c0_2, keep_cell (below_drew ((below_undrew BC).alloc BC.size _)) c1_0, keep_cell (below_drew ((below_undrew BC).alloc BC.size _)) c1_1, keep_cell (below_drew ((below_undrew BC).alloc BC.size _)) c1_2⟩ | exact ⟨keep_cell (BC.setCell hgz _) c0_0, keep_cell (BC.setCell hgz _) c0_1, keep_cell (BC.setCell hgz _) c0_2, keep_cell (BC.setCell hgz _) c1_0, keep_cell (BC.setCell hgz _) c1_1, keep_cell (BC.setCell hgz _) c1_2⟩ | exact ⟨keep_cell ((BC.setCell hgz _).setCell hgz _) c0_0, keep_cell ((BC.setCell hgz _).setCell hgz _) c0_1, keep_cell ((BC.setCell hgz _).setCell hgz _) c0_2, keep_cell ((BC.setCell hgz _).setCell hgz _) c1_0, keep_cell ((BC.setCell hgz _).setCell hgz _) c1_1, keep_cell ((BC.setCell hgz _).setCell hgz _) c1_2⟩ | go_keep)
          (first | (go_at_call 82; refine (l02Mul_t _ _ _ _ _ x.natAbs f n (by first | exact Ha.out.below BC (Nat.le_refl _) | exact (Ha.out.below BC (Nat.le_refl _)).alloc _ | exact Own.drew ((Ha.out.below (below_undrew BC) (Nat.le_refl _)).alloc _)) (by first | exact Hd.out.below BC (Nat.le_refl _) | exact (Hd.out.below BC (Nat.le_refl _)).alloc _ | exact Own.drew ((Hd.out.below (below_undrew BC) (Nat.le_refl _)).alloc _)) (by omega) (by omega) HP1).mono ?_; rintro e wq1 ⟨vmm, rfl, ho1, hb1⟩; (first | (replace f0 := keep_frozen hb1 k0 f0; replace f1 := keep_frozen hb1 k1 f1; replace k0 := keep_cell hb1 k0; replace k1 := keep_cell hb1 k1) | (with_reducible have hk := new_box2 hb1; obtain ⟨k0, k1, f0, f1⟩ := hk; have hgz := BC.size) | (with_reducible have hk := new_box2d hb1; obtain ⟨k0, k1, f0, f1⟩ := hk; have hgz := BC.size) | skip); (first | (with_reducible replace ho1 := Own.unalloc ho1) | (with_reducible replace ho1 := Own.unallocd ho1) | skip); (first | (with_reducible replace hb1 := alloc_below hb1) | (with_reducible replace hb1 := alloc_belowd hb1) | skip); have Hmm := Lib.hid (ho1.mono (Nat.le_trans hc0 BC.size)); clear ho1; replace BC := BC.trans (hb1.mono BC.size); clear hb1) | (go_at_call 87; refine (l03Make_n _ _ (ng x) _ n p (by first | exact Hmm.out | exact Hmm.out.alloc _) HP2 HP3).mono ?_; rintro e wq2 ⟨vzz, rfl, ho2, hb2⟩; (first | (have hne := own_ne_old k0 ho2) | (with_reducible have hne := own_ne_alloc ho2) | (with_reducible have hne := own_ne_allocd ho2) | skip); (first | (replace f0 := keep_frozen hb2 k0 f0; replace f1 := keep_frozen hb2 k1 f1; replace k0 := keep_cell hb2 k0; replace k1 := keep_cell hb2 k1) | (with_reducible have hk := new_box2 hb2; obtain ⟨k0, k1, f0, f1⟩ := hk; have hgz := BC.size) | (with_reducible have hk := new_box2d hb2; obtain ⟨k0, k1, f0, f1⟩ := hk; have hgz := BC.size) | skip); (first | (with_reducible replace ho2 := Own.unalloc ho2) | (with_reducible replace ho2 := Own.unallocd ho2) | skip); (first | (with_reducible replace hb2 := alloc_below hb2) | (with_reducible replace hb2 := alloc_belowd hb2) | skip); have Hzz := Lib.hid (ho2.mono (Nat.le_trans hc0 BC.size)); clear ho2; obtain ⟨azz, czz, rfl, -, -, -, -, -⟩ := Hzz.out.form; replace BC := BC.trans (hb2.mono BC.size); clear hb2))
    all_goals
      go_wp2_with fail
      go_meet
      first | exact ⟨_, _, rfl, (by simp [go_sem]), (by simp [go_sem]), Hzz.out.alloc _, BC.alloc BC.size _⟩ | exact ⟨_, _, rfl, (set_box2 k0 k1).1, (set_box2 k0 k1).2, (Hzz.out.setOther hne _).setOther hne _, (BC.setCell hgz _).setCell hgz _⟩
  case rest =>
    obtain ⟨glx, vlx, rfl, lx_0, lx_1, Hp, hb⟩ := hcut
    generalize wc = w2 at *
    replace c0_0 := keep_cell hb c0_0
    replace c0_1 := keep_cell hb c0_1
    replace c0_2 := keep_cell hb c0_2
    replace c1_0 := keep_cell hb c1_0
    replace c1_1 := keep_cell hb c1_1
    replace c1_2 := keep_cell hb c1_2
    replace q0 := keep_frozen (w1 := w2) hb c2_0 q0
    replace c2_0 := keep_cell (w1 := w2) hb c2_0
    replace q1 := keep_frozen (w1 := w2) hb c2_1 q1
    replace c2_1 := keep_cell (w1 := w2) hb c2_1
    replace q2 := keep_frozen (w1 := w2) hb c2_2 q2
    replace c2_2 := keep_cell (w1 := w2) hb c2_2
    replace Ha := Lib.hid (Ha.out.below hb (Nat.le_refl _))
    replace Hb := Lib.hid (Hb.out.below hb (Nat.le_refl _))
    replace Hc := Lib.hid (Hc.out.below hb (Nat.le_refl _))
    replace Hd := Lib.hid (Hd.out.below hb (Nat.le_refl _))
    obtain ⟨ap, cp, rfl, -, -, -, -, -⟩ := Hp.out.form
    replace B0 := B0.trans (hb.mono B0.size)
    clear hb
    go_upto_region 5 with fail
    go_cut [7] (fun o wx => ∃ (g : Nat) (v : Value), o = .pointer (some ⟨g, 0, none⟩) ∧ wx.cell? ⟨g, 0, none⟩ = some (.bool (ng q)) ∧ wx.cell? ⟨g, 1, none⟩ = some v ∧ Hid (Own wx w0.heap.size v (limbs q.natAbs)) ∧ Below w2.heap.size w2 wx)
    case first =>
      have BC := below_drew (Below.refl w2.heap.size w2)
      have hc0 := B0.size
      go_region_held3 (fun w' => w'.cell? ⟨w.heap.size, 0, none⟩ = some (.bool (ng x)) ∧ w'.cell? ⟨w.heap.size, 1, none⟩ = some (v1) ∧ w'.cell? ⟨w.heap.size, 2, none⟩ = some (u1) ∧ w'.cell? ⟨w.heap.size + 1, 0, none⟩ = some (.bool (ng y)) ∧ w'.cell? ⟨w.heap.size + 1, 1, none⟩ = some (v2) ∧ w'.cell? ⟨w.heap.size + 1, 2, none⟩ = some (u2)) (first | exact ⟨keep_cell (BC) c0_0, keep_cell (BC) c0_1, keep_cell (BC) c0_2, keep_cell (BC) c1_0, keep_cell (BC) c1_1, keep_cell (BC) c1_2⟩ | exact ⟨keep_cell (BC.alloc BC.size _) c0_0, keep_cell (BC.alloc BC.size _) c0_1, keep_cell (BC.alloc BC.size _) c0_2, keep_cell (BC.alloc BC.size _) c1_0, keep_cell (BC.alloc BC.size _) c1_1, keep_cell (BC.alloc BC.size _) c1_2⟩ | exact ⟨keep_cell (below_drew ((below_undrew BC).alloc BC.size _)) c0_0, keep_cell (below_drew ((below_undrew BC).alloc BC.size _)) c0_1, keep_cell (below_drew ((below_undrew BC).alloc BC.size _)) c0_2, keep_cell (below_drew ((below_undrew BC).alloc BC.size _)) c1_0, keep_cell (below_drew ((below_undrew BC).alloc BC.size _)) c1_1, keep_cell (below_drew ((below_undrew BC).alloc BC.size _)) c1_2⟩ | exact ⟨keep_cell (BC.setCell hgz _) c0_0, keep_cell (BC.setCell hgz _) c0_1, keep_cell (BC.setCell hgz _) c0_2, keep_cell (BC.setCell hgz _) c1_0, keep_cell (BC.setCell hgz _) c1_1, keep_cell (BC.setCell hgz _) c1_2⟩ | exact ⟨keep_cell ((BC.setCell hgz _).setCell hgz _) c0_0, keep_cell ((BC.setCell hgz _).setCell hgz _) c0_1, keep_cell ((BC.setCell hgz _).setCell hgz _) c0_2, keep_cell ((BC.setCell hgz _).setCell hgz _) c1_0, keep_cell ((BC.setCell hgz _).setCell hgz _) c1_1, keep_cell ((BC.setCell hgz _).setCell hgz _) c1_2⟩ | go_keep)
              (first | (go_at_call 82; refine (l02Mul_t _ _ _ _ _ y.natAbs d m (by first | exact Hc.out.below BC (Nat.le_refl _) | exact (Hc.out.below BC (Nat.le_refl _)).alloc _ | exact Own.drew ((Hc.out.below (below_undrew BC) (Nat.le_refl _)).alloc _)) (by first | exact Hb.out.below BC (Nat.le_refl _) | exact (Hb.out.below BC (Nat.le_refl _)).alloc _ | exact Own.drew ((Hb.out.below (below_undrew BC) (Nat.le_refl _)).alloc _)) (by omega) (by omega) HQ1).mono ?_; rintro e wq1 ⟨vmm, rfl, ho1, hb1⟩; (first | (replace f0 := keep_frozen hb1 k0 f0; replace f1 := keep_frozen hb1 k1 f1; replace k0 := keep_cell hb1 k0; replace k1 := keep_cell hb1 k1) | (with_reducible have hk := new_box2 hb1; obtain ⟨k0, k1, f0, f1⟩ := hk; have hgz := BC.size) | (with_reducible have hk := new_box2d hb1; obtain ⟨k0, k1, f0, f1⟩ := hk; have hgz := BC.size) | skip); (first | (with_reducible replace ho1 := Own.unalloc ho1) | (with_reducible replace ho1 := Own.unallocd ho1) | skip); (first | (with_reducible replace hb1 := alloc_below hb1) | (with_reducible replace hb1 := alloc_belowd hb1) | skip); have Hmm := Lib.hid (ho1.mono (Nat.le_trans hc0 BC.size)); clear ho1; replace BC := BC.trans (hb1.mono BC.size); clear hb1) | (go_at_call 87; refine (l03Make_n _ _ (ng y) _ m q (by first | exact Hmm.out | exact Hmm.out.alloc _) HQ2 HQ3).mono ?_; rintro e wq2 ⟨vzz, rfl, ho2, hb2⟩; (first | (have hne := own_ne_old k0 ho2) | (with_reducible have hne := own_ne_alloc ho2) | (with_reducible have hne := own_ne_allocd ho2) | skip); (first | (replace f0 := keep_frozen hb2 k0 f0; replace f1 := keep_frozen hb2 k1 f1; replace k0 := keep_cell hb2 k0; replace k1 := keep_cell hb2 k1) | (with_reducible have hk := new_box2 hb2; obtain ⟨k0, k1, f0, f1⟩ := hk; have hgz := BC.size) | (with_reducible have hk := new_box2d hb2; obtain ⟨k0, k1, f0, f1⟩ := hk; have hgz := BC.size) | skip); (first | (with_reducible replace ho2 := Own.unalloc ho2) | (with_reducible replace ho2 := Own.unallocd ho2) | skip); (first | (with_reducible replace hb2 := alloc_below hb2) | (with_reducible replace hb2 := alloc_belowd hb2) | skip); have Hzz := Lib.hid (ho2.mono (Nat.le_trans hc0 BC.size)); clear ho2; obtain ⟨azz, czz, rfl, -, -, -, -, -⟩ := Hzz.out.form; replace BC := BC.trans (hb2.mono BC.size); clear hb2))
      all_goals
        go_wp2_with fail
        go_meet
        first | exact ⟨_, _, rfl, (by simp [go_sem]), (by simp [go_sem]), Hzz.out.alloc _, BC.alloc BC.size _⟩ | exact ⟨_, _, rfl, (set_box2 k0 k1).1, (set_box2 k0 k1).2, (Hzz.out.setOther hne _).setOther hne _, (BC.setCell hgz _).setCell hgz _⟩
    case rest =>
      obtain ⟨gly, vly, rfl, ly_0, ly_1, Hq, hb⟩ := hcut
      generalize wc = w3 at *
      replace c0_0 := keep_cell hb c0_0
      replace c0_1 := keep_cell hb c0_1
      replace c0_2 := keep_cell hb c0_2
      replace c1_0 := keep_cell hb c1_0
      replace c1_1 := keep_cell hb c1_1
      replace c1_2 := keep_cell hb c1_2
      replace lx_0 := keep_cell hb lx_0
      replace lx_1 := keep_cell hb lx_1
      replace q0 := keep_frozen (w1 := w3) hb c2_0 q0
      replace c2_0 := keep_cell (w1 := w3) hb c2_0
      replace q1 := keep_frozen (w1 := w3) hb c2_1 q1
      replace c2_1 := keep_cell (w1 := w3) hb c2_1
      replace q2 := keep_frozen (w1 := w3) hb c2_2 q2
      replace c2_2 := keep_cell (w1 := w3) hb c2_2
      replace Ha := Lib.hid (Ha.out.below hb (Nat.le_refl _))
      replace Hb := Lib.hid (Hb.out.below hb (Nat.le_refl _))
      replace Hc := Lib.hid (Hc.out.below hb (Nat.le_refl _))
      replace Hd := Lib.hid (Hd.out.below hb (Nat.le_refl _))
      replace Hp := Lib.hid (Hp.out.below hb (Nat.le_refl _))
      obtain ⟨aq, cq, rfl, -, -, -, -, -⟩ := Hq.out.form
      replace B0 := B0.trans (hb.mono B0.size)
      clear hb
      go_wp2_with fail
      refine (l03Add_c _ _ _ _ _ p q Hp.out Hq.out n1 n2 s HS.out).mono ?_
      rintro e w4 ⟨vs, rfl, ho1, hb⟩
      replace c0_0 := keep_cell hb c0_0
      replace c0_1 := keep_cell hb c0_1
      replace c0_2 := keep_cell hb c0_2
      replace c1_0 := keep_cell hb c1_0
      replace c1_1 := keep_cell hb c1_1
      replace c1_2 := keep_cell hb c1_2
      replace lx_0 := keep_cell hb lx_0
      replace lx_1 := keep_cell hb lx_1
      replace ly_0 := keep_cell hb ly_0
      replace ly_1 := keep_cell hb ly_1
      replace q0 := keep_frozen (w1 := w4) hb c2_0 q0
      replace c2_0 := keep_cell (w1 := w4) hb c2_0
      replace q1 := keep_frozen (w1 := w4) hb c2_1 q1
      replace c2_1 := keep_cell (w1 := w4) hb c2_1
      replace q2 := keep_frozen (w1 := w4) hb c2_2 q2
      replace c2_2 := keep_cell (w1 := w4) hb c2_2
      replace Ha := Lib.hid (Ha.out.below hb (Nat.le_refl _))
      replace Hb := Lib.hid (Hb.out.below hb (Nat.le_refl _))
      replace Hc := Lib.hid (Hc.out.below hb (Nat.le_refl _))
      replace Hd := Lib.hid (Hd.out.below hb (Nat.le_refl _))
      replace Hp := Lib.hid (Hp.out.below hb (Nat.le_refl _))
      replace Hq := Lib.hid (Hq.out.below hb (Nat.le_refl _))
      have Hs := Lib.hid (ho1.mono B0.size)
      clear ho1
      obtain ⟨asx, csx, rfl, -, -, -, -, -⟩ := Hs.out.form
      replace B0 := B0.trans (hb.mono B0.size)
      clear hb
      have hz_ln : w0.heap.size ≤ w4.heap.size := B0.size
      have hb := alloc_bel w4 (.cells #[.bool (ng s), .slice asx (limbs s.natAbs).length csx] 43)
      replace c0_0 := keep_cell hb c0_0
      replace c0_1 := keep_cell hb c0_1
      replace c0_2 := keep_cell hb c0_2
      replace c1_0 := keep_cell hb c1_0
      replace c1_1 := keep_cell hb c1_1
      replace c1_2 := keep_cell hb c1_2
      replace lx_0 := keep_cell hb lx_0
      replace lx_1 := keep_cell hb lx_1
      replace ly_0 := keep_cell hb ly_0
      replace ly_1 := keep_cell hb ly_1
      replace q0 := keep_frozen (w1 := _) hb c2_0 q0
      replace c2_0 := keep_cell (w1 := _) hb c2_0
      replace q1 := keep_frozen (w1 := _) hb c2_1 q1
      replace c2_1 := keep_cell (w1 := _) hb c2_1
      replace q2 := keep_frozen (w1 := _) hb c2_2 q2
      replace c2_2 := keep_cell (w1 := _) hb c2_2
      replace Ha := Lib.hid (Ha.out.below hb (Nat.le_refl _))
      replace Hb := Lib.hid (Hb.out.below hb (Nat.le_refl _))
      replace Hc := Lib.hid (Hc.out.below hb (Nat.le_refl _))
      replace Hd := Lib.hid (Hd.out.below hb (Nat.le_refl _))
      replace Hp := Lib.hid (Hp.out.below hb (Nat.le_refl _))
      replace Hq := Lib.hid (Hq.out.below hb (Nat.le_refl _))
      replace Hs := Lib.hid (Hs.out.below hb (Nat.le_refl _))
      obtain ⟨ln_0, ln_1⟩ : World.cell? (w4.alloc (.cells #[.bool (ng s), .slice asx (limbs s.natAbs).length csx] 43)) ⟨w4.heap.size, 0, none⟩ = some (.bool (ng s)) ∧ World.cell? (w4.alloc (.cells #[.bool (ng s), .slice asx (limbs s.natAbs).length csx] 43)) ⟨w4.heap.size, 1, none⟩ = some (.slice asx (limbs s.natAbs).length csx) := by simp [go_sem]
      replace B0 := B0.trans (hb.mono B0.size)
      clear hb
      go_wp2_with fail
      generalize w4.alloc (.cells #[.bool (ng s), .slice asx (limbs s.natAbs).length csx] 43) = w5 at *
      replace Ha := Lib.hid Ha.out.drew
      replace Hb := Lib.hid Hb.out.drew
      replace Hc := Lib.hid Hc.out.drew
      replace Hd := Lib.hid Hd.out.drew
      replace Hp := Lib.hid Hp.out.drew
      replace Hq := Lib.hid Hq.out.drew
      replace Hs := Lib.hid Hs.out.drew
      replace B0 := below_drew B0
      replace q0 := frozen_drew q0
      replace c2_0 := cell_drew c2_0
      replace q1 := frozen_drew q1
      replace c2_1 := cell_drew c2_1
      replace q2 := frozen_drew q2
      replace c2_2 := cell_drew c2_2
      replace c0_2 := cell_drew c0_2
      replace c1_2 := cell_drew c1_2
      replace ln_0 := cell_drew ln_0
      replace ln_1 := cell_drew ln_1
      go_region_held3 (fun w' => w'.cell? ⟨w.heap.size, 2, none⟩ = some (u1) ∧ w'.cell? ⟨w.heap.size + 1, 2, none⟩ = some (u2) ∧ w'.cell? ⟨w4.heap.size, 0, none⟩ = some (.bool (ng s)) ∧ w'.cell? ⟨w4.heap.size, 1, none⟩ = some (.slice asx (limbs s.natAbs).length csx)) (first | exact ⟨c0_2, c1_2, ln_0, ln_1⟩ | (go_split_ands; exact ⟨(set_far (set_far ‹_› (by dsimp only; omega)) (by dsimp only; omega)), (set_far (set_far ‹_› (by dsimp only; omega)) (by dsimp only; omega)), (set_far (set_far ‹_› (by dsimp only; omega)) (by dsimp only; omega)), (set_far (set_far ‹_› (by dsimp only; omega)) (by dsimp only; omega))⟩) | (go_split_ands; exact ⟨(set_far (set_far (set_far ‹_› (by dsimp only; omega)) (by dsimp only; omega)) (by dsimp only; omega)), (set_far (set_far (set_far ‹_› (by dsimp only; omega)) (by dsimp only; omega)) (by dsimp only; omega)), (set_far (set_far (set_far ‹_› (by dsimp only; omega)) (by dsimp only; omega)) (by dsimp only; omega)), (set_far (set_far (set_far ‹_› (by dsimp only; omega)) (by dsimp only; omega)) (by dsimp only; omega))⟩) | (go_split_ands; exact ⟨(set_far ‹_› (by dsimp only; omega)), (set_far ‹_› (by dsimp only; omega)), (set_far ‹_› (by dsimp only; omega)), (set_far ‹_› (by dsimp only; omega))⟩) | go_keep)
        (first | (go_at_call 82; refine (l02Mul_t _ _ _ _ _ d f t Hb.out Hd.out (by omega) (by omega) HT).mono ?_; rintro e w6 ⟨vt, rfl, ho1, hb6⟩; replace q0 := keep_frozen (w1 := w6) hb6 c2_0 q0; replace c2_0 := keep_cell (w1 := w6) hb6 c2_0; replace q1 := keep_frozen (w1 := w6) hb6 c2_1 q1; replace c2_1 := keep_cell (w1 := w6) hb6 c2_1; replace q2 := keep_frozen (w1 := w6) hb6 c2_2 q2; replace c2_2 := keep_cell (w1 := w6) hb6 c2_2; replace c0_2 := keep_cell (w1 := w6) hb6 c0_2; replace c1_2 := keep_cell (w1 := w6) hb6 c1_2; replace ln_0 := keep_cell (w1 := w6) hb6 ln_0; replace ln_1 := keep_cell (w1 := w6) hb6 ln_1; replace Ha := Lib.hid (Ha.out.below hb6 (Nat.le_refl _)); replace Hb := Lib.hid (Hb.out.below hb6 (Nat.le_refl _)); replace Hc := Lib.hid (Hc.out.below hb6 (Nat.le_refl _)); replace Hd := Lib.hid (Hd.out.below hb6 (Nat.le_refl _)); replace Hp := Lib.hid (Hp.out.below hb6 (Nat.le_refl _)); replace Hq := Lib.hid (Hq.out.below hb6 (Nat.le_refl _)); replace Hs := Lib.hid (Hs.out.below hb6 (Nat.le_refl _)); (try (replace Hr := Lib.hid (Hr.out.below hb6 (Nat.le_refl _)))); (try (replace Hs := Lib.hid (Hs.out.below hb6 (Nat.le_refl _)))); have Ht := Lib.hid (ho1.mono B0.size); clear ho1; replace B0 := B0.trans (hb6.mono B0.size); clear hb6) | (go_at_call 81; refine (l04Low_c _ _ _ _ _ _ s t Hs.out Ht.out n3 lt z e HZ HE (show Hid (s ≠ 0 → ng s = ng s) from fun _ => rfl)).mono ?_; rintro e w7 ⟨vr, vs, rfl, ho1, ho2, HAP, hb7⟩; replace q0 := keep_frozen (w1 := w7) hb7 c2_0 q0; replace c2_0 := keep_cell (w1 := w7) hb7 c2_0; replace q1 := keep_frozen (w1 := w7) hb7 c2_1 q1; replace c2_1 := keep_cell (w1 := w7) hb7 c2_1; replace q2 := keep_frozen (w1 := w7) hb7 c2_2 q2; replace c2_2 := keep_cell (w1 := w7) hb7 c2_2; replace c0_2 := keep_cell (w1 := w7) hb7 c0_2; replace c1_2 := keep_cell (w1 := w7) hb7 c1_2; replace ln_0 := keep_cell (w1 := w7) hb7 ln_0; replace ln_1 := keep_cell (w1 := w7) hb7 ln_1; replace Ha := Lib.hid (Ha.out.below hb7 (Nat.le_refl _)); replace Hb := Lib.hid (Hb.out.below hb7 (Nat.le_refl _)); replace Hc := Lib.hid (Hc.out.below hb7 (Nat.le_refl _)); replace Hd := Lib.hid (Hd.out.below hb7 (Nat.le_refl _)); replace Hp := Lib.hid (Hp.out.below hb7 (Nat.le_refl _)); replace Hq := Lib.hid (Hq.out.below hb7 (Nat.le_refl _)); replace Hs := Lib.hid (Hs.out.below hb7 (Nat.le_refl _)); (try (replace Ht := Lib.hid (Ht.out.below hb7 (Nat.le_refl _)))); have Hr := Lib.hid (ho1.mono B0.size); clear ho1; have Hs := Lib.hid (ho2.mono B0.size); clear ho2; obtain ⟨ar, cr, rfl, -, -, -, -, -⟩ := Hr.out.form; obtain ⟨aS, cS, rfl, -, -, -, -, -⟩ := Hs.out.form; replace B0 := B0.trans (hb7.mono B0.size); clear hb7))
      go_wp2
      exact bodyPost_ret (v := .agg #[.bool (ng z), .slice ar (limbs z.natAbs).length cr, .slice aS (limbs e).length cS]) (by simp [results, Try.results58, go_sem, c2_0, c2_1, c2_2]) rfl (retR_end BW (by omega) hg0 B0 Hr.out Hs.out HAP)

theorem l04One_tt (w : World) (b1 : Nat) (v1 : Value) (n : Nat) (h1 : Own w b1 v1 (limbs n)) (hn : n = 1) : Calls Try.prog 75 #[v1] w (RetB w true) := by
  subst hn; exact l04One_t w b1 v1 h1

set_option maxHeartbeats 4000000 in
set_option maxRecDepth 100000 in
theorem l04Add_2 (w : World) (b1 e1 : Nat) (v1 u1 : Value) (x : Int) (d : Nat) (h1 : Own w b1 v1 (limbs x.natAbs)) (k1 : Own w e1 u1 (limbs d)) (b2 e2 : Nat) (v2 u2 : Value) (y : Int) (f : Nat) (h2 : Own w b2 v2 (limbs y.natAbs)) (k2 : Own w e2 u2 (limbs f)) (hd : d = 1) (hf : f ≠ 1) (l1 : (limbs x.natAbs).length ≤ 24) (l2 : (limbs d).length ≤ 24) (l3 : (limbs y.natAbs).length ≤ 24) (l4 : (limbs f).length ≤ 24) (z : Int) (e : Nat) (hz : z = lowZ (x * (f : Int) + y * (d : Int)) (d * f)) (he : e = lowD (x * (f : Int) + y * (d : Int)) (d * f)) :
    Calls Try.prog 58 #[.agg #[.bool (ng x), v1, u1], .agg #[.bool (ng y), v2, u2]] w (RetQ w z e) := by
  have BW : Below w.heap.size w (((w.alloc (.cells #[.bool (ng x), v1, u1] 45)).alloc (.cells #[.bool (ng y), v2, u2] 45)).alloc (.cells #[.bool false, .slice none 0 0, .slice none 0 0] 45)) := ((((Below.refl w.heap.size w).alloc (Nat.le_refl _) _).alloc (by simp) _).alloc (by simp; omega) _)
  obtain ⟨c0_0, c0_1, c0_2, c1_0, c1_1, c1_2, c2_0, c2_1, c2_2, q0, q1, q2⟩ : World.cell? (((w.alloc (.cells #[.bool (ng x), v1, u1] 45)).alloc (.cells #[.bool (ng y), v2, u2] 45)).alloc (.cells #[.bool false, .slice none 0 0, .slice none 0 0] 45)) ⟨w.heap.size, 0, none⟩ = some (.bool (ng x)) ∧ World.cell? (((w.alloc (.cells #[.bool (ng x), v1, u1] 45)).alloc (.cells #[.bool (ng y), v2, u2] 45)).alloc (.cells #[.bool false, .slice none 0 0, .slice none 0 0] 45)) ⟨w.heap.size, 1, none⟩ = some (v1) ∧ World.cell? (((w.alloc (.cells #[.bool (ng x), v1, u1] 45)).alloc (.cells #[.bool (ng y), v2, u2] 45)).alloc (.cells #[.bool false, .slice none 0 0, .slice none 0 0] 45)) ⟨w.heap.size, 2, none⟩ = some (u1) ∧ World.cell? (((w.alloc (.cells #[.bool (ng x), v1, u1] 45)).alloc (.cells #[.bool (ng y), v2, u2] 45)).alloc (.cells #[.bool false, .slice none 0 0, .slice none 0 0] 45)) ⟨w.heap.size + 1, 0, none⟩ = some (.bool (ng y)) ∧ World.cell? (((w.alloc (.cells #[.bool (ng x), v1, u1] 45)).alloc (.cells #[.bool (ng y), v2, u2] 45)).alloc (.cells #[.bool false, .slice none 0 0, .slice none 0 0] 45)) ⟨w.heap.size + 1, 1, none⟩ = some (v2) ∧ World.cell? (((w.alloc (.cells #[.bool (ng x), v1, u1] 45)).alloc (.cells #[.bool (ng y), v2, u2] 45)).alloc (.cells #[.bool false, .slice none 0 0, .slice none 0 0] 45)) ⟨w.heap.size + 1, 2, none⟩ = some (u2) ∧ World.cell? (((w.alloc (.cells #[.bool (ng x), v1, u1] 45)).alloc (.cells #[.bool (ng y), v2, u2] 45)).alloc (.cells #[.bool false, .slice none 0 0, .slice none 0 0] 45)) ⟨w.heap.size + 1 + 1, 0, none⟩ = some (.bool false) ∧ World.cell? (((w.alloc (.cells #[.bool (ng x), v1, u1] 45)).alloc (.cells #[.bool (ng y), v2, u2] 45)).alloc (.cells #[.bool false, .slice none 0 0, .slice none 0 0] 45)) ⟨w.heap.size + 1 + 1, 1, none⟩ = some (.slice none 0 0) ∧ World.cell? (((w.alloc (.cells #[.bool (ng x), v1, u1] 45)).alloc (.cells #[.bool (ng y), v2, u2] 45)).alloc (.cells #[.bool false, .slice none 0 0, .slice none 0 0] 45)) ⟨w.heap.size + 1 + 1, 2, none⟩ = some (.slice none 0 0) ∧ World.frozen? (((w.alloc (.cells #[.bool (ng x), v1, u1] 45)).alloc (.cells #[.bool (ng y), v2, u2] 45)).alloc (.cells #[.bool false, .slice none 0 0, .slice none 0 0] 45)) ⟨w.heap.size + 1 + 1, 0, none⟩ = false ∧ World.frozen? (((w.alloc (.cells #[.bool (ng x), v1, u1] 45)).alloc (.cells #[.bool (ng y), v2, u2] 45)).alloc (.cells #[.bool false, .slice none 0 0, .slice none 0 0] 45)) ⟨w.heap.size + 1 + 1, 1, none⟩ = false ∧ World.frozen? (((w.alloc (.cells #[.bool (ng x), v1, u1] 45)).alloc (.cells #[.bool (ng y), v2, u2] 45)).alloc (.cells #[.bool false, .slice none 0 0, .slice none 0 0] 45)) ⟨w.heap.size + 1 + 1, 2, none⟩ = false := by simp [go_sem]
  have hg0 : w.heap.size + 1 + 1 < ((((w.alloc (.cells #[.bool (ng x), v1, u1] 45)).alloc (.cells #[.bool (ng y), v2, u2] 45)).alloc (.cells #[.bool false, .slice none 0 0, .slice none 0 0] 45))).heap.size := World.block_lt_of_cell? _ _ c2_0
  have Ha := Lib.hid (h1.below BW (Nat.le_refl _))
  have Hb := Lib.hid (k1.below BW (Nat.le_refl _))
  have Hc := Lib.hid (h2.below BW (Nat.le_refl _))
  have Hd := Lib.hid (k2.below BW (Nat.le_refl _))
  clear h1 k1 h2 k2
  obtain ⟨p, hp⟩ : ∃ p : Int, p = x * (f : Int) := ⟨_, rfl⟩
  obtain ⟨q, hq0⟩ : ∃ q : Int, q = y * (d : Int) := ⟨_, rfl⟩
  obtain ⟨s, hs⟩ : ∃ s : Int, s = p + q := ⟨_, rfl⟩
  obtain ⟨t, ht⟩ : ∃ t : Nat, t = d * f := ⟨_, rfl⟩
  obtain ⟨n, hn⟩ : ∃ n : Nat, n = p.natAbs := ⟨_, rfl⟩
  obtain ⟨m, hm⟩ : ∃ m : Nat, m = q.natAbs := ⟨_, rfl⟩
  have lp : (limbs p.natAbs).length ≤ 48 := by rw [hp]; exact len_mulN l1 l4
  have lq : (limbs q.natAbs).length ≤ 48 := by rw [hq0]; exact len_mulN l3 l2
  have ls : (limbs s.natAbs).length ≤ 49 := by rw [hs]; exact len_addI lp lq
  have lt : (limbs t).length ≤ 900 := by rw [ht]; have := len_mul l2 l4; omega
  have HP1 : Hid (x.natAbs * f = n) := by unfold Hid; rw [hn, mulN_n hp]
  have HQ1 : Hid (y.natAbs * d = m) := by unfold Hid; rw [hm, mulN_n hq0]
  have HP2 := Lib.hid (fit_abs hn (by omega))
  have HQ2 := Lib.hid (fit_abs hm (by omega))
  have HP3 : Hid (p ≠ 0 → ng x = ng p) := mulN_s hp
  have HQ3 : Hid (q ≠ 0 → ng y = ng q) := mulN_s hq0
  have HS : Hid (s = fitZ (p + q)) := by unfold Hid; rw [← hs, fitZ_yes (by omega)]
  have HT : Hid (d * f = t) := ht.symm
  have HZ : Hid (z = lowZ s t) := by unfold Hid; rw [hs, hp, hq0, ht]; exact hz
  have HE : Hid (e = lowD s t) := by unfold Hid; rw [hs, hp, hq0, ht]; exact he
  have n1 : (limbs p.natAbs).length ≤ 900 := by omega
  have n2 : (limbs q.natAbs).length ≤ 900 := by omega
  have n3 : (limbs s.natAbs).length ≤ 900 := by omega
  clear hp hq0 hs ht hn hm hz he
  have HD := Lib.hid hd
  have HF := Lib.hid hf
  clear hd hf
  go_enter Try.func58, Try.ntmps58
  go_wp2_with fail
  generalize (((w.alloc (.cells #[.bool (ng x), v1, u1] 45)).alloc (.cells #[.bool (ng y), v2, u2] 45)).alloc (.cells #[.bool false, .slice none 0 0, .slice none 0 0] 45)) = w0 at *
  have B0 := Below.refl w0.heap.size w0
  refine (l04One_tt _ _ _ d Hb.out HD.out).mono ?_
  rintro e w1 ⟨rfl, hb⟩
  replace c0_0 := keep_cell hb c0_0
  replace c0_1 := keep_cell hb c0_1
  replace c0_2 := keep_cell hb c0_2
  replace c1_0 := keep_cell hb c1_0
  replace c1_1 := keep_cell hb c1_1
  replace c1_2 := keep_cell hb c1_2
  replace q0 := keep_frozen (w1 := w1) hb c2_0 q0
  replace c2_0 := keep_cell (w1 := w1) hb c2_0
  replace q1 := keep_frozen (w1 := w1) hb c2_1 q1
  replace c2_1 := keep_cell (w1 := w1) hb c2_1
  replace q2 := keep_frozen (w1 := w1) hb c2_2 q2
  replace c2_2 := keep_cell (w1 := w1) hb c2_2
  replace Ha := Lib.hid (Ha.out.below hb (Nat.le_refl _))
  replace Hb := Lib.hid (Hb.out.below hb (Nat.le_refl _))
  replace Hc := Lib.hid (Hc.out.below hb (Nat.le_refl _))
  replace Hd := Lib.hid (Hd.out.below hb (Nat.le_refl _))
  replace B0 := B0.trans (hb.mono B0.size)
  clear hb
  go_wp2_with fail
  refine (l04One_f _ _ _ f Hd.out HF.out).mono ?_
  rintro e w2 ⟨rfl, hb⟩
  replace c0_0 := keep_cell hb c0_0
  replace c0_1 := keep_cell hb c0_1
  replace c0_2 := keep_cell hb c0_2
  replace c1_0 := keep_cell hb c1_0
  replace c1_1 := keep_cell hb c1_1
  replace c1_2 := keep_cell hb c1_2
  replace q0 := keep_frozen (w1 := w2) hb c2_0 q0
  replace c2_0 := keep_cell (w1 := w2) hb c2_0
  replace q1 := keep_frozen (w1 := w2) hb c2_1 q1
  replace c2_1 := keep_cell (w1 := w2) hb c2_1
  replace q2 := keep_frozen (w1 := w2) hb c2_2 q2
  replace c2_2 := keep_cell (w1 := w2) hb c2_2
  replace Ha := Lib.hid (Ha.out.below hb (Nat.le_refl _))
  replace Hb := Lib.hid (Hb.out.below hb (Nat.le_refl _))
  replace Hc := Lib.hid (Hc.out.below hb (Nat.le_refl _))
  replace Hd := Lib.hid (Hd.out.below hb (Nat.le_refl _))
  replace B0 := B0.trans (hb.mono B0.size)
  clear hb
  go_upto_region 4 with fail
  go_cut [6] (fun o wx => ∃ (g : Nat) (v : Value), o = .pointer (some ⟨g, 0, none⟩) ∧ wx.cell? ⟨g, 0, none⟩ = some (.bool (ng p)) ∧ wx.cell? ⟨g, 1, none⟩ = some v ∧ Hid (Own wx w0.heap.size v (limbs p.natAbs)) ∧ Below w2.heap.size w2 wx)
  case first =>
    have BC := below_drew (Below.refl w2.heap.size w2)
    have hc0 := B0.size
    go_region_held3 (fun w' => w'.cell? ⟨w.heap.size, 0, none⟩ = some (.bool (ng x)) ∧ w'.cell? ⟨w.heap.size, 1, none⟩ = some (v1) ∧ w'.cell? ⟨w.heap.size, 2, none⟩ = some (u1) ∧ w'.cell? ⟨w.heap.size + 1, 0, none⟩ = some (.bool (ng y)) ∧ w'.cell? ⟨w.heap.size + 1, 1, none⟩ = some (v2) ∧ w'.cell? ⟨w.heap.size + 1, 2, none⟩ = some (u2)) (first | exact ⟨keep_cell (BC) c0_0, keep_cell (BC) c0_1, keep_cell (BC) c0_2, keep_cell (BC) c1_0, keep_cell (BC) c1_1, keep_cell (BC) c1_2⟩ | exact ⟨keep_cell (BC.alloc BC.size _) c0_0, keep_cell (BC.alloc BC.size _) c0_1, keep_cell (BC.alloc BC.size _) c0_2, keep_cell (BC.alloc BC.size _) c1_0, keep_cell (BC.alloc BC.size _) c1_1, keep_cell (BC.alloc BC.size _) c1_2⟩ | exact ⟨keep_cell (below_drew ((below_undrew BC).alloc BC.size _)) c0_0, keep_cell (below_drew ((below_undrew BC).alloc BC.size _)) c0_1, keep_cell (below_drew ((below_undrew BC).alloc BC.size _)) c0_2, keep_cell (below_drew ((below_undrew BC).alloc BC.size _)) c1_0, keep_cell (below_drew ((below_undrew BC).alloc BC.size _)) c1_1, keep_cell (below_drew ((below_undrew BC).alloc BC.size _)) c1_2⟩ | exact ⟨keep_cell (BC.setCell hgz _) c0_0, keep_cell (BC.setCell hgz _) c0_1, keep_cell (BC.setCell hgz _) c0_2, keep_cell (BC.setCell hgz _) c1_0, keep_cell (BC.setCell hgz _) c1_1, keep_cell (BC.setCell hgz _) c1_2⟩ | exact ⟨keep_cell ((BC.setCell hgz _).setCell hgz _) c0_0, keep_cell ((BC.setCell hgz _).setCell hgz _) c0_1, keep_cell ((BC.setCell hgz _).setCell hgz _) c0_2, keep_cell ((BC.setCell hgz _).setCell hgz _) c1_0, keep_cell ((BC.setCell hgz _).setCell hgz _) c1_1, keep_cell ((BC.setCell hgz _).setCell hgz _) c1_2⟩ | go_keep)
          (first | (go_at_call 82; refine (l02Mul_t _ _ _ _ _ x.natAbs f n (by first | exact Ha.out.below BC (Nat.le_refl _) | exact (Ha.out.below BC (Nat.le_refl _)).alloc _ | exact Own.drew ((Ha.out.below (below_undrew BC) (Nat.le_refl _)).alloc _)) (by first | exact Hd.out.below BC (Nat.le_refl _) | exact (Hd.out.below BC (Nat.le_refl _)).alloc _ | exact Own.drew ((Hd.out.below (below_undrew BC) (Nat.le_refl _)).alloc _)) (by omega) (by omega) HP1).mono ?_; rintro e wq1 ⟨vmm, rfl, ho1, hb1⟩; (first | (replace f0 := keep_frozen hb1 k0 f0; replace f1 := keep_frozen hb1 k1 f1; replace k0 := keep_cell hb1 k0; replace k1 := keep_cell hb1 k1) | (with_reducible have hk := new_box2 hb1; obtain ⟨k0, k1, f0, f1⟩ := hk; have hgz := BC.size) | (with_reducible have hk := new_box2d hb1; obtain ⟨k0, k1, f0, f1⟩ := hk; have hgz := BC.size) | skip); (first | (with_reducible replace ho1 := Own.unalloc ho1) | (with_reducible replace ho1 := Own.unallocd ho1) | skip); (first | (with_reducible replace hb1 := alloc_below hb1) | (with_reducible replace hb1 := alloc_belowd hb1) | skip); have Hmm := Lib.hid (ho1.mono (Nat.le_trans hc0 BC.size)); clear ho1; replace BC := BC.trans (hb1.mono BC.size); clear hb1) | (go_at_call 87; refine (l03Make_n _ _ (ng x) _ n p (by first | exact Hmm.out | exact Hmm.out.alloc _) HP2 HP3).mono ?_; rintro e wq2 ⟨vzz, rfl, ho2, hb2⟩; (first | (have hne := own_ne_old k0 ho2) | (with_reducible have hne := own_ne_alloc ho2) | (with_reducible have hne := own_ne_allocd ho2) | skip); (first | (replace f0 := keep_frozen hb2 k0 f0; replace f1 := keep_frozen hb2 k1 f1; replace k0 := keep_cell hb2 k0; replace k1 := keep_cell hb2 k1) | (with_reducible have hk := new_box2 hb2; obtain ⟨k0, k1, f0, f1⟩ := hk; have hgz := BC.size) | (with_reducible have hk := new_box2d hb2; obtain ⟨k0, k1, f0, f1⟩ := hk; have hgz := BC.size) | skip); (first | (with_reducible replace ho2 := Own.unalloc ho2) | (with_reducible replace ho2 := Own.unallocd ho2) | skip); (first | (with_reducible replace hb2 := alloc_below hb2) | (with_reducible replace hb2 := alloc_belowd hb2) | skip); have Hzz := Lib.hid (ho2.mono (Nat.le_trans hc0 BC.size)); clear ho2; obtain ⟨azz, czz, rfl, -, -, -, -, -⟩ := Hzz.out.form; replace BC := BC.trans (hb2.mono BC.size); clear hb2))
    all_goals
      go_wp2_with fail
      go_meet
      first | exact ⟨_, _, rfl, (by simp [go_sem]), (by simp [go_sem]), Hzz.out.alloc _, BC.alloc BC.size _⟩ | exact ⟨_, _, rfl, (set_box2 k0 k1).1, (set_box2 k0 k1).2, (Hzz.out.setOther hne _).setOther hne _, (BC.setCell hgz _).setCell hgz _⟩
  case rest =>
    obtain ⟨glx, vlx, rfl, lx_0, lx_1, Hp, hb⟩ := hcut
    generalize wc = w3 at *
    replace c0_0 := keep_cell hb c0_0
    replace c0_1 := keep_cell hb c0_1
    replace c0_2 := keep_cell hb c0_2
    replace c1_0 := keep_cell hb c1_0
    replace c1_1 := keep_cell hb c1_1
    replace c1_2 := keep_cell hb c1_2
    replace q0 := keep_frozen (w1 := w3) hb c2_0 q0
    replace c2_0 := keep_cell (w1 := w3) hb c2_0
    replace q1 := keep_frozen (w1 := w3) hb c2_1 q1
    replace c2_1 := keep_cell (w1 := w3) hb c2_1
    replace q2 := keep_frozen (w1 := w3) hb c2_2 q2
    replace c2_2 := keep_cell (w1 := w3) hb c2_2
    replace Ha := Lib.hid (Ha.out.below hb (Nat.le_refl _))
    replace Hb := Lib.hid (Hb.out.below hb (Nat.le_refl _))
    replace Hc := Lib.hid (Hc.out.below hb (Nat.le_refl _))
    replace Hd := Lib.hid (Hd.out.below hb (Nat.le_refl _))
    obtain ⟨ap, cp, rfl, -, -, -, -, -⟩ := Hp.out.form
    replace B0 := B0.trans (hb.mono B0.size)
    clear hb
    go_upto_region 5 with fail
    go_cut [7] (fun o wx => ∃ (g : Nat) (v : Value), o = .pointer (some ⟨g, 0, none⟩) ∧ wx.cell? ⟨g, 0, none⟩ = some (.bool (ng q)) ∧ wx.cell? ⟨g, 1, none⟩ = some v ∧ Hid (Own wx w0.heap.size v (limbs q.natAbs)) ∧ Below w3.heap.size w3 wx)
    case first =>
      have BC := below_drew (Below.refl w3.heap.size w3)
      have hc0 := B0.size
      go_region_held3 (fun w' => w'.cell? ⟨w.heap.size, 0, none⟩ = some (.bool (ng x)) ∧ w'.cell? ⟨w.heap.size, 1, none⟩ = some (v1) ∧ w'.cell? ⟨w.heap.size, 2, none⟩ = some (u1) ∧ w'.cell? ⟨w.heap.size + 1, 0, none⟩ = some (.bool (ng y)) ∧ w'.cell? ⟨w.heap.size + 1, 1, none⟩ = some (v2) ∧ w'.cell? ⟨w.heap.size + 1, 2, none⟩ = some (u2)) (first | exact ⟨keep_cell (BC) c0_0, keep_cell (BC) c0_1, keep_cell (BC) c0_2, keep_cell (BC) c1_0, keep_cell (BC) c1_1, keep_cell (BC) c1_2⟩ | exact ⟨keep_cell (BC.alloc BC.size _) c0_0, keep_cell (BC.alloc BC.size _) c0_1, keep_cell (BC.alloc BC.size _) c0_2, keep_cell (BC.alloc BC.size _) c1_0, keep_cell (BC.alloc BC.size _) c1_1, keep_cell (BC.alloc BC.size _) c1_2⟩ | exact ⟨keep_cell (below_drew ((below_undrew BC).alloc BC.size _)) c0_0, keep_cell (below_drew ((below_undrew BC).alloc BC.size _)) c0_1, keep_cell (below_drew ((below_undrew BC).alloc BC.size _)) c0_2, keep_cell (below_drew ((below_undrew BC).alloc BC.size _)) c1_0, keep_cell (below_drew ((below_undrew BC).alloc BC.size _)) c1_1, keep_cell (below_drew ((below_undrew BC).alloc BC.size _)) c1_2⟩ | exact ⟨keep_cell (BC.setCell hgz _) c0_0, keep_cell (BC.setCell hgz _) c0_1, keep_cell (BC.setCell hgz _) c0_2, keep_cell (BC.setCell hgz _) c1_0, keep_cell (BC.setCell hgz _) c1_1, keep_cell (BC.setCell hgz _) c1_2⟩ | exact ⟨keep_cell ((BC.setCell hgz _).setCell hgz _) c0_0, keep_cell ((BC.setCell hgz _).setCell hgz _) c0_1, keep_cell ((BC.setCell hgz _).setCell hgz _) c0_2, keep_cell ((BC.setCell hgz _).setCell hgz _) c1_0, keep_cell ((BC.setCell hgz _).setCell hgz _) c1_1, keep_cell ((BC.setCell hgz _).setCell hgz _) c1_2⟩ | go_keep)
              (first | (go_at_call 82; refine (l02Mul_t _ _ _ _ _ y.natAbs d m (by first | exact Hc.out.below BC (Nat.le_refl _) | exact (Hc.out.below BC (Nat.le_refl _)).alloc _ | exact Own.drew ((Hc.out.below (below_undrew BC) (Nat.le_refl _)).alloc _)) (by first | exact Hb.out.below BC (Nat.le_refl _) | exact (Hb.out.below BC (Nat.le_refl _)).alloc _ | exact Own.drew ((Hb.out.below (below_undrew BC) (Nat.le_refl _)).alloc _)) (by omega) (by omega) HQ1).mono ?_; rintro e wq1 ⟨vmm, rfl, ho1, hb1⟩; (first | (replace f0 := keep_frozen hb1 k0 f0; replace f1 := keep_frozen hb1 k1 f1; replace k0 := keep_cell hb1 k0; replace k1 := keep_cell hb1 k1) | (with_reducible have hk := new_box2 hb1; obtain ⟨k0, k1, f0, f1⟩ := hk; have hgz := BC.size) | (with_reducible have hk := new_box2d hb1; obtain ⟨k0, k1, f0, f1⟩ := hk; have hgz := BC.size) | skip); (first | (with_reducible replace ho1 := Own.unalloc ho1) | (with_reducible replace ho1 := Own.unallocd ho1) | skip); (first | (with_reducible replace hb1 := alloc_below hb1) | (with_reducible replace hb1 := alloc_belowd hb1) | skip); have Hmm := Lib.hid (ho1.mono (Nat.le_trans hc0 BC.size)); clear ho1; replace BC := BC.trans (hb1.mono BC.size); clear hb1) | (go_at_call 87; refine (l03Make_n _ _ (ng y) _ m q (by first | exact Hmm.out | exact Hmm.out.alloc _) HQ2 HQ3).mono ?_; rintro e wq2 ⟨vzz, rfl, ho2, hb2⟩; (first | (have hne := own_ne_old k0 ho2) | (with_reducible have hne := own_ne_alloc ho2) | (with_reducible have hne := own_ne_allocd ho2) | skip); (first | (replace f0 := keep_frozen hb2 k0 f0; replace f1 := keep_frozen hb2 k1 f1; replace k0 := keep_cell hb2 k0; replace k1 := keep_cell hb2 k1) | (with_reducible have hk := new_box2 hb2; obtain ⟨k0, k1, f0, f1⟩ := hk; have hgz := BC.size) | (with_reducible have hk := new_box2d hb2; obtain ⟨k0, k1, f0, f1⟩ := hk; have hgz := BC.size) | skip); (first | (with_reducible replace ho2 := Own.unalloc ho2) | (with_reducible replace ho2 := Own.unallocd ho2) | skip); (first | (with_reducible replace hb2 := alloc_below hb2) | (with_reducible replace hb2 := alloc_belowd hb2) | skip); have Hzz := Lib.hid (ho2.mono (Nat.le_trans hc0 BC.size)); clear ho2; obtain ⟨azz, czz, rfl, -, -, -, -, -⟩ := Hzz.out.form; replace BC := BC.trans (hb2.mono BC.size); clear hb2))
      all_goals
        go_wp2_with fail
        go_meet
        first | exact ⟨_, _, rfl, (by simp [go_sem]), (by simp [go_sem]), Hzz.out.alloc _, BC.alloc BC.size _⟩ | exact ⟨_, _, rfl, (set_box2 k0 k1).1, (set_box2 k0 k1).2, (Hzz.out.setOther hne _).setOther hne _, (BC.setCell hgz _).setCell hgz _⟩
    case rest =>
      obtain ⟨gly, vly, rfl, ly_0, ly_1, Hq, hb⟩ := hcut
      generalize wc = w4 at *
      replace c0_0 := keep_cell hb c0_0
      replace c0_1 := keep_cell hb c0_1
      replace c0_2 := keep_cell hb c0_2
      replace c1_0 := keep_cell hb c1_0
      replace c1_1 := keep_cell hb c1_1
      replace c1_2 := keep_cell hb c1_2
      replace lx_0 := keep_cell hb lx_0
      replace lx_1 := keep_cell hb lx_1
      replace q0 := keep_frozen (w1 := w4) hb c2_0 q0
      replace c2_0 := keep_cell (w1 := w4) hb c2_0
      replace q1 := keep_frozen (w1 := w4) hb c2_1 q1
      replace c2_1 := keep_cell (w1 := w4) hb c2_1
      replace q2 := keep_frozen (w1 := w4) hb c2_2 q2
      replace c2_2 := keep_cell (w1 := w4) hb c2_2
      replace Ha := Lib.hid (Ha.out.below hb (Nat.le_refl _))
      replace Hb := Lib.hid (Hb.out.below hb (Nat.le_refl _))
      replace Hc := Lib.hid (Hc.out.below hb (Nat.le_refl _))
      replace Hd := Lib.hid (Hd.out.below hb (Nat.le_refl _))
      replace Hp := Lib.hid (Hp.out.below hb (Nat.le_refl _))
      obtain ⟨aq, cq, rfl, -, -, -, -, -⟩ := Hq.out.form
      replace B0 := B0.trans (hb.mono B0.size)
      clear hb
      go_wp2_with fail
      refine (l03Add_c _ _ _ _ _ p q Hp.out Hq.out n1 n2 s HS.out).mono ?_
      rintro e w5 ⟨vs, rfl, ho1, hb⟩
      replace c0_0 := keep_cell hb c0_0
      replace c0_1 := keep_cell hb c0_1
      replace c0_2 := keep_cell hb c0_2
      replace c1_0 := keep_cell hb c1_0
      replace c1_1 := keep_cell hb c1_1
      replace c1_2 := keep_cell hb c1_2
      replace lx_0 := keep_cell hb lx_0
      replace lx_1 := keep_cell hb lx_1
      replace ly_0 := keep_cell hb ly_0
      replace ly_1 := keep_cell hb ly_1
      replace q0 := keep_frozen (w1 := w5) hb c2_0 q0
      replace c2_0 := keep_cell (w1 := w5) hb c2_0
      replace q1 := keep_frozen (w1 := w5) hb c2_1 q1
      replace c2_1 := keep_cell (w1 := w5) hb c2_1
      replace q2 := keep_frozen (w1 := w5) hb c2_2 q2
      replace c2_2 := keep_cell (w1 := w5) hb c2_2
      replace Ha := Lib.hid (Ha.out.below hb (Nat.le_refl _))
      replace Hb := Lib.hid (Hb.out.below hb (Nat.le_refl _))
      replace Hc := Lib.hid (Hc.out.below hb (Nat.le_refl _))
      replace Hd := Lib.hid (Hd.out.below hb (Nat.le_refl _))
      replace Hp := Lib.hid (Hp.out.below hb (Nat.le_refl _))
      replace Hq := Lib.hid (Hq.out.below hb (Nat.le_refl _))
      have Hs := Lib.hid (ho1.mono B0.size)
      clear ho1
      obtain ⟨asx, csx, rfl, -, -, -, -, -⟩ := Hs.out.form
      replace B0 := B0.trans (hb.mono B0.size)
      clear hb
      have hz_ln : w0.heap.size ≤ w5.heap.size := B0.size
      have hb := alloc_bel w5 (.cells #[.bool (ng s), .slice asx (limbs s.natAbs).length csx] 43)
      replace c0_0 := keep_cell hb c0_0
      replace c0_1 := keep_cell hb c0_1
      replace c0_2 := keep_cell hb c0_2
      replace c1_0 := keep_cell hb c1_0
      replace c1_1 := keep_cell hb c1_1
      replace c1_2 := keep_cell hb c1_2
      replace lx_0 := keep_cell hb lx_0
      replace lx_1 := keep_cell hb lx_1
      replace ly_0 := keep_cell hb ly_0
      replace ly_1 := keep_cell hb ly_1
      replace q0 := keep_frozen (w1 := _) hb c2_0 q0
      replace c2_0 := keep_cell (w1 := _) hb c2_0
      replace q1 := keep_frozen (w1 := _) hb c2_1 q1
      replace c2_1 := keep_cell (w1 := _) hb c2_1
      replace q2 := keep_frozen (w1 := _) hb c2_2 q2
      replace c2_2 := keep_cell (w1 := _) hb c2_2
      replace Ha := Lib.hid (Ha.out.below hb (Nat.le_refl _))
      replace Hb := Lib.hid (Hb.out.below hb (Nat.le_refl _))
      replace Hc := Lib.hid (Hc.out.below hb (Nat.le_refl _))
      replace Hd := Lib.hid (Hd.out.below hb (Nat.le_refl _))
      replace Hp := Lib.hid (Hp.out.below hb (Nat.le_refl _))
      replace Hq := Lib.hid (Hq.out.below hb (Nat.le_refl _))
      replace Hs := Lib.hid (Hs.out.below hb (Nat.le_refl _))
      obtain ⟨ln_0, ln_1⟩ : World.cell? (w5.alloc (.cells #[.bool (ng s), .slice asx (limbs s.natAbs).length csx] 43)) ⟨w5.heap.size, 0, none⟩ = some (.bool (ng s)) ∧ World.cell? (w5.alloc (.cells #[.bool (ng s), .slice asx (limbs s.natAbs).length csx] 43)) ⟨w5.heap.size, 1, none⟩ = some (.slice asx (limbs s.natAbs).length csx) := by simp [go_sem]
      replace B0 := B0.trans (hb.mono B0.size)
      clear hb
      go_wp2_with fail
      generalize w5.alloc (.cells #[.bool (ng s), .slice asx (limbs s.natAbs).length csx] 43) = w6 at *
      replace Ha := Lib.hid Ha.out.drew
      replace Hb := Lib.hid Hb.out.drew
      replace Hc := Lib.hid Hc.out.drew
      replace Hd := Lib.hid Hd.out.drew
      replace Hp := Lib.hid Hp.out.drew
      replace Hq := Lib.hid Hq.out.drew
      replace Hs := Lib.hid Hs.out.drew
      replace B0 := below_drew B0
      replace q0 := frozen_drew q0
      replace c2_0 := cell_drew c2_0
      replace q1 := frozen_drew q1
      replace c2_1 := cell_drew c2_1
      replace q2 := frozen_drew q2
      replace c2_2 := cell_drew c2_2
      replace c0_2 := cell_drew c0_2
      replace c1_2 := cell_drew c1_2
      replace ln_0 := cell_drew ln_0
      replace ln_1 := cell_drew ln_1
      go_region_held3 (fun w' => w'.cell? ⟨w.heap.size, 2, none⟩ = some (u1) ∧ w'.cell? ⟨w.heap.size + 1, 2, none⟩ = some (u2) ∧ w'.cell? ⟨w5.heap.size, 0, none⟩ = some (.bool (ng s)) ∧ w'.cell? ⟨w5.heap.size, 1, none⟩ = some (.slice asx (limbs s.natAbs).length csx)) (first | exact ⟨c0_2, c1_2, ln_0, ln_1⟩ | (go_split_ands; exact ⟨(set_far (set_far ‹_› (by dsimp only; omega)) (by dsimp only; omega)), (set_far (set_far ‹_› (by dsimp only; omega)) (by dsimp only; omega)), (set_far (set_far ‹_› (by dsimp only; omega)) (by dsimp only; omega)), (set_far (set_far ‹_› (by dsimp only; omega)) (by dsimp only; omega))⟩) | (go_split_ands; exact ⟨(set_far (set_far (set_far ‹_› (by dsimp only; omega)) (by dsimp only; omega)) (by dsimp only; omega)), (set_far (set_far (set_far ‹_› (by dsimp only; omega)) (by dsimp only; omega)) (by dsimp only; omega)), (set_far (set_far (set_far ‹_› (by dsimp only; omega)) (by dsimp only; omega)) (by dsimp only; omega)), (set_far (set_far (set_far ‹_› (by dsimp only; omega)) (by dsimp only; omega)) (by dsimp only; omega))⟩) | (go_split_ands; exact ⟨(set_far ‹_› (by dsimp only; omega)), (set_far ‹_› (by dsimp only; omega)), (set_far ‹_› (by dsimp only; omega)), (set_far ‹_› (by dsimp only; omega))⟩) | go_keep)
        (first | (go_at_call 82; refine (l02Mul_t _ _ _ _ _ d f t Hb.out Hd.out (by omega) (by omega) HT).mono ?_; rintro e w7 ⟨vt, rfl, ho1, hb7⟩; replace q0 := keep_frozen (w1 := w7) hb7 c2_0 q0; replace c2_0 := keep_cell (w1 := w7) hb7 c2_0; replace q1 := keep_frozen (w1 := w7) hb7 c2_1 q1; replace c2_1 := keep_cell (w1 := w7) hb7 c2_1; replace q2 := keep_frozen (w1 := w7) hb7 c2_2 q2; replace c2_2 := keep_cell (w1 := w7) hb7 c2_2; replace c0_2 := keep_cell (w1 := w7) hb7 c0_2; replace c1_2 := keep_cell (w1 := w7) hb7 c1_2; replace ln_0 := keep_cell (w1 := w7) hb7 ln_0; replace ln_1 := keep_cell (w1 := w7) hb7 ln_1; replace Ha := Lib.hid (Ha.out.below hb7 (Nat.le_refl _)); replace Hb := Lib.hid (Hb.out.below hb7 (Nat.le_refl _)); replace Hc := Lib.hid (Hc.out.below hb7 (Nat.le_refl _)); replace Hd := Lib.hid (Hd.out.below hb7 (Nat.le_refl _)); replace Hp := Lib.hid (Hp.out.below hb7 (Nat.le_refl _)); replace Hq := Lib.hid (Hq.out.below hb7 (Nat.le_refl _)); replace Hs := Lib.hid (Hs.out.below hb7 (Nat.le_refl _)); (try (replace Hr := Lib.hid (Hr.out.below hb7 (Nat.le_refl _)))); (try (replace Hs := Lib.hid (Hs.out.below hb7 (Nat.le_refl _)))); have Ht := Lib.hid (ho1.mono B0.size); clear ho1; replace B0 := B0.trans (hb7.mono B0.size); clear hb7) | (go_at_call 81; refine (l04Low_c _ _ _ _ _ _ s t Hs.out Ht.out n3 lt z e HZ HE (show Hid (s ≠ 0 → ng s = ng s) from fun _ => rfl)).mono ?_; rintro e w8 ⟨vr, vs, rfl, ho1, ho2, HAP, hb8⟩; replace q0 := keep_frozen (w1 := w8) hb8 c2_0 q0; replace c2_0 := keep_cell (w1 := w8) hb8 c2_0; replace q1 := keep_frozen (w1 := w8) hb8 c2_1 q1; replace c2_1 := keep_cell (w1 := w8) hb8 c2_1; replace q2 := keep_frozen (w1 := w8) hb8 c2_2 q2; replace c2_2 := keep_cell (w1 := w8) hb8 c2_2; replace c0_2 := keep_cell (w1 := w8) hb8 c0_2; replace c1_2 := keep_cell (w1 := w8) hb8 c1_2; replace ln_0 := keep_cell (w1 := w8) hb8 ln_0; replace ln_1 := keep_cell (w1 := w8) hb8 ln_1; replace Ha := Lib.hid (Ha.out.below hb8 (Nat.le_refl _)); replace Hb := Lib.hid (Hb.out.below hb8 (Nat.le_refl _)); replace Hc := Lib.hid (Hc.out.below hb8 (Nat.le_refl _)); replace Hd := Lib.hid (Hd.out.below hb8 (Nat.le_refl _)); replace Hp := Lib.hid (Hp.out.below hb8 (Nat.le_refl _)); replace Hq := Lib.hid (Hq.out.below hb8 (Nat.le_refl _)); replace Hs := Lib.hid (Hs.out.below hb8 (Nat.le_refl _)); (try (replace Ht := Lib.hid (Ht.out.below hb8 (Nat.le_refl _)))); have Hr := Lib.hid (ho1.mono B0.size); clear ho1; have Hs := Lib.hid (ho2.mono B0.size); clear ho2; obtain ⟨ar, cr, rfl, -, -, -, -, -⟩ := Hr.out.form; obtain ⟨aS, cS, rfl, -, -, -, -, -⟩ := Hs.out.form; replace B0 := B0.trans (hb8.mono B0.size); clear hb8))
      go_wp2
      exact bodyPost_ret (v := .agg #[.bool (ng z), .slice ar (limbs z.natAbs).length cr, .slice aS (limbs e).length cS]) (by simp [results, Try.results58, go_sem, c2_0, c2_1, c2_2]) rfl (retR_end BW (by omega) hg0 B0 Hr.out Hs.out HAP)

end Go.Proofs.Ytcmhpdhcpkhejaa
