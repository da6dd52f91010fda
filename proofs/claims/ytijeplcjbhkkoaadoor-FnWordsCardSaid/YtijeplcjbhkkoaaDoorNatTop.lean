/- The exported functions on natural numbers, the program's and the reference's: NatCmp, NatAdd, NatSub, NatMul, NatDiv, NatGcd. -/
import Derived.Test.YtijeplcjbhkkoaaDoorNatG
import Derived.Test.YtijeplcjbhkkoaaDoorSpecM
import Derived.Test.YtijeplcjbhkkoaaDoorSpecG
namespace Go.Proofs.YtijeplcjbhkkoaaDoor
open Go.RowKit Lm

theorem alloc_below {w w' : World} {o : Obj} (h : Below (w.alloc o).heap.size (w.alloc o) w') : Below w.heap.size w w' :=
  ((Below.refl _ _).alloc (Nat.le_refl _) o).trans (h.mono (by simp))
theorem apart_nil {u : Value} : Apart (.slice none 0 0) u := fun k h => by cases h
theorem heap_le_alloc (w : World) (o : Obj) : w.heap.size ≤ (w.alloc o).heap.size := by simp

theorem ok_limbs {xs : List Int} (h : OkP xs) : ∃ a : Nat, xs = limbs a ∧ (limbs a).length ≤ 60 := by
  refine ⟨(nv xs).toNat, h.2.limbs', ?_⟩
  rw [← h.2.limbs']; exact h.1
theorem limbs_ok {a : Nat} (h : (limbs a).length ≤ 60) : OkP (limbs a) := ⟨h, limbs_norm a⟩
theorem nv_toNat (a : Nat) : (nv (limbs a)).toNat = a := by rw [nv_limbs]; omega

/-- A number, if it has no more than 60 limbs. -/
noncomputable def fitV (n : Nat) : List Int := if (limbs n).length ≤ 60 then limbs n else []
theorem fitV_len (n : Nat) : (fitV n).length ≤ 60 := by unfold fitV; split <;> simp_all
open Classical in
noncomputable def cmpV (xs ys : List Int) : Int := if OkP xs ∧ OkP ys then cmp3 (nv xs) (nv ys) else 0
open Classical in
noncomputable def addV (xs ys : List Int) : List Int := if OkP xs ∧ OkP ys then fitV ((nv xs).toNat + (nv ys).toNat) else []
open Classical in
noncomputable def subV (xs ys : List Int) : List Int := if OkP xs ∧ OkP ys ∧ nv ys ≤ nv xs then limbs ((nv xs).toNat - (nv ys).toNat) else []
open Classical in
noncomputable def mulV (xs ys : List Int) : List Int := if OkP xs ∧ OkP ys then fitV ((nv xs).toNat * (nv ys).toNat) else []
open Classical in
noncomputable def divQ (xs ys : List Int) : List Int := if OkP xs ∧ OkP ys ∧ ys ≠ [] then limbs ((nv xs).toNat / (nv ys).toNat) else []
open Classical in
noncomputable def divR (xs ys : List Int) : List Int := if OkP xs ∧ OkP ys ∧ ys ≠ [] then limbs ((nv xs).toNat % (nv ys).toNat) else []
open Classical in
noncomputable def gcdV (xs ys : List Int) : List Int := if OkP xs ∧ OkP ys then limbs (Nat.gcd (nv xs).toNat (nv ys).toNat) else []

theorem natOk_t (w : World) (b1 : Nat) (v1 : Value) (xs : List Int) (h1 : Own w b1 v1 xs) (h : OkP xs) : Calls Tryd.prog 32 #[v1] w (RetB w true) := by
  have := natOk_c w b1 v1 xs h1
  rwa [okB_true h] at this
theorem natOk_f (w : World) (b1 : Nat) (v1 : Value) (xs : List Int) (h1 : Own w b1 v1 xs) (h : ¬ OkP xs) : Calls Tryd.prog 32 #[v1] w (RetB w false) := by
  have := natOk_c w b1 v1 xs h1
  rwa [okB_false h] at this
/-- An int that is not negative. -/
def RetGe (w : World) (e : Ending) (w' : World) : Prop := ∃ c : Int, 0 ≤ c ∧ e = .returned (.int .i64 c) ∧ Below w.heap.size w w'

theorem natCmp_lt (w : World) (b1 b2 : Nat) (v1 v2 : Value) (a b : Nat) (h1 : Own w b1 v1 (limbs a)) (h2 : Own w b2 v2 (limbs b)) (h : a < b) : Calls Tryd.prog 39 #[v1, v2] w (RetI w (-1)) := by
  have := natCmp_n w b1 b2 v1 v2 a b h1 h2
  rwa [show cmp3 (a : Int) b = -1 by rcases cmp3_cases a b with ⟨h1, e⟩ | ⟨h1, e⟩ | ⟨h1, e⟩ <;> omega] at this
theorem natCmp_ge (w : World) (b1 b2 : Nat) (v1 v2 : Value) (a b : Nat) (h1 : Own w b1 v1 (limbs a)) (h2 : Own w b2 v2 (limbs b)) (h : b ≤ a) : Calls Tryd.prog 39 #[v1, v2] w (RetGe w) := by
  refine (natCmp_n w b1 b2 v1 v2 a b h1 h2).mono ?_
  rintro e w1 ⟨rfl, hb⟩
  exact ⟨_, by rcases cmp3_cases a b with ⟨h1, e⟩ | ⟨h1, e⟩ | ⟨h1, e⟩ <;> omega, rfl, hb⟩
set_option maxHeartbeats 1000000 in
theorem NatCmp_good (w : World) (b1 b2 : Nat) (v1 v2 : Value) (a b : Nat) (h1 : Own w b1 v1 (limbs a)) (h2 : Own w b2 v2 (limbs b)) (hl1 : (limbs a).length ≤ 60) (hl2 : (limbs b).length ≤ 60) :
    Calls Tryd.prog 18 #[v1, v2] w (RetI w (cmp3 a b)) := by
  have L1 : (limbs a).length ≤ 900 := by omega
  have L2 : (limbs b).length ≤ 900 := by omega
  have Ha0 := Lib.hid h1
  have Hb0 := Lib.hid h2
  clear h1 h2
  go_enter Tryd.func18, Tryd.ntmps18
  go_wp2_with fail
  refine (natOk_t w _ _ _ Ha0.out (limbs_ok hl1)).mono ?_
  rintro e w1 ⟨rfl, hb⟩
  have Ha1 := Lib.hid (Ha0.out.below hb (Nat.le_refl _))
  clear Ha0
  have Hb1 := Lib.hid (Hb0.out.below hb (Nat.le_refl _))
  clear Hb0
  have B1 := hb
  clear hb
  go_wp2_with fail
  refine (natOk_t w1 _ _ _ Hb1.out (limbs_ok hl2)).mono ?_
  rintro e w2 ⟨rfl, hb⟩
  have Ha2 := Lib.hid (Ha1.out.below hb (Nat.le_refl _))
  clear Ha1
  have Hb2 := Lib.hid (Hb1.out.below hb (Nat.le_refl _))
  clear Hb1
  have B2 := B1.trans (hb.mono B1.size)
  clear B1
  clear hb
  go_wp2_with fail
  refine (natCmp_n w2 _ _ _ _ a b Ha2.out Hb2.out).mono ?_
  rintro e w3 ⟨rfl, hb⟩
  have Ha3 := Lib.hid (Ha2.out.below hb (Nat.le_refl _))
  clear Ha2
  have Hb3 := Lib.hid (Hb2.out.below hb (Nat.le_refl _))
  clear Hb2
  have B3 := B2.trans (hb.mono B2.size)
  clear B2
  clear hb
  go_wp2
  go_ret
  exact retI rfl B3

set_option maxHeartbeats 1000000 in
theorem NatCmp_bad1 (w : World) (b1 _b2 : Nat) (v1 v2 : Value) (xs _ys : List Int) (h1 : Own w b1 v1 xs) (hx : ¬ OkP xs) :
    Calls Tryd.prog 18 #[v1, v2] w (RetI w 0) := by
  have Ha0 := Lib.hid h1
  clear h1
  have HX := Lib.hid hx
  clear hx
  go_enter Tryd.func18, Tryd.ntmps18
  go_wp2_with fail
  refine (natOk_f w _ _ xs Ha0.out HX.out).mono ?_
  rintro e w1 ⟨rfl, hb⟩
  have Ha1 := Lib.hid (Ha0.out.below hb (Nat.le_refl _))
  clear Ha0
  have B1 := hb
  clear hb
  go_wp2
  go_ret
  exact retI rfl B1

set_option maxHeartbeats 1000000 in
theorem NatCmp_bad2 (w : World) (b1 b2 : Nat) (v1 v2 : Value) (xs ys : List Int) (h1 : Own w b1 v1 xs) (h2 : Own w b2 v2 ys) (hx : OkP xs) (hy : ¬ OkP ys) :
    Calls Tryd.prog 18 #[v1, v2] w (RetI w 0) := by
  have Ha0 := Lib.hid h1
  have Hb0 := Lib.hid h2
  clear h1 h2
  have HX := Lib.hid hx
  have HY := Lib.hid hy
  clear hx hy
  go_enter Tryd.func18, Tryd.ntmps18
  go_wp2_with fail
  refine (natOk_t w _ _ xs Ha0.out HX.out).mono ?_
  rintro e w1 ⟨rfl, hb⟩
  have Ha1 := Lib.hid (Ha0.out.below hb (Nat.le_refl _))
  clear Ha0
  have Hb1 := Lib.hid (Hb0.out.below hb (Nat.le_refl _))
  clear Hb0
  have B1 := hb
  clear hb
  go_wp2_with fail
  refine (natOk_f w1 _ _ ys Hb1.out HY.out).mono ?_
  rintro e w2 ⟨rfl, hb⟩
  have Ha2 := Lib.hid (Ha1.out.below hb (Nat.le_refl _))
  clear Ha1
  have Hb2 := Lib.hid (Hb1.out.below hb (Nat.le_refl _))
  clear Hb1
  have B2 := B1.trans (hb.mono B1.size)
  clear B1
  clear hb
  go_wp2
  go_ret
  exact retI rfl B2

theorem NatCmp_c (w : World) (b1 b2 : Nat) (v1 v2 : Value) (xs ys : List Int) (h1 : Own w b1 v1 xs) (h2 : Own w b2 v2 ys) : Calls Tryd.prog 18 #[v1, v2] w (RetI w (cmpV xs ys)) := by
  by_cases hx : OkP xs
  · by_cases hy : OkP ys
    · rw [show cmpV xs ys = cmp3 (nv xs) (nv ys) from if_pos ⟨hx, hy⟩]
      obtain ⟨a, rfl, hl1⟩ := ok_limbs hx
      obtain ⟨b, rfl, hl2⟩ := ok_limbs hy
      rw [nv_limbs, nv_limbs]
      exact NatCmp_good w b1 b2 v1 v2 a b h1 h2 hl1 hl2
    · rw [show cmpV xs ys = 0 from if_neg fun h => hy h.2]
      exact NatCmp_bad2 w b1 b2 v1 v2 xs ys h1 h2 hx hy
  · rw [show cmpV xs ys = 0 from if_neg fun h => hx h.1]
    exact NatCmp_bad1 w b1 b2 v1 v2 xs ys h1 hx

set_option maxHeartbeats 1000000 in
theorem NatAdd_good (w : World) (b1 b2 : Nat) (v1 v2 : Value) (a b : Nat) (h1 : Own w b1 v1 (limbs a)) (h2 : Own w b2 v2 (limbs b)) (hl1 : (limbs a).length ≤ 60) (hl2 : (limbs b).length ≤ 60) :
    Calls Tryd.prog 20 #[v1, v2] w (RetS w (fitV (a + b))) := by
  have L1 : (limbs a).length ≤ 900 := by omega
  have L2 : (limbs b).length ≤ 900 := by omega
  have Ha0 := Lib.hid h1
  have Hb0 := Lib.hid h2
  clear h1 h2
  go_enter Tryd.func20, Tryd.ntmps20
  go_wp2_with fail
  refine (natOk_t w _ _ _ Ha0.out (limbs_ok hl1)).mono ?_
  rintro e w1 ⟨rfl, hb⟩
  have Ha1 := Lib.hid (Ha0.out.below hb (Nat.le_refl _))
  clear Ha0
  have Hb1 := Lib.hid (Hb0.out.below hb (Nat.le_refl _))
  clear Hb0
  have B1 := hb
  clear hb
  go_wp2_with fail
  refine (natOk_t w1 _ _ _ Hb1.out (limbs_ok hl2)).mono ?_
  rintro e w2 ⟨rfl, hb⟩
  have Ha2 := Lib.hid (Ha1.out.below hb (Nat.le_refl _))
  clear Ha1
  have Hb2 := Lib.hid (Hb1.out.below hb (Nat.le_refl _))
  clear Hb1
  have B2 := B1.trans (hb.mono B1.size)
  clear B1
  clear hb
  go_wp2_with fail
  refine (natAdd_c w2 _ _ _ _ a b Ha2.out Hb2.out (by omega) (by omega)).mono ?_
  rintro e w3 ⟨vo, rfl, ho1, hb⟩
  have Ha3 := Lib.hid (Ha2.out.below hb (Nat.le_refl _))
  clear Ha2
  have Hb3 := Lib.hid (Hb2.out.below hb (Nat.le_refl _))
  clear Hb2
  have Ho3 := Lib.hid (ho1.mono B2.size)
  clear ho1
  have B3 := B2.trans (hb.mono B2.size)
  clear B2
  clear hb
  go_wp2_with fail
  refine (fits_c w3 _ _ _ Ho3.out).mono ?_
  rintro e w4 ⟨vr, rfl, ho1, hpr, hb⟩
  have HPr := Lib.hid hpr
  clear hpr
  have Ha4 := Lib.hid (Ha3.out.below hb (Nat.le_refl _))
  clear Ha3
  have Hb4 := Lib.hid (Hb3.out.below hb (Nat.le_refl _))
  clear Hb3
  have Ho4 := Lib.hid (Ho3.out.below hb (Nat.le_refl _))
  clear Ho3
  have Hr4 := Lib.hid ho1
  clear ho1
  have B4 := B3.trans (hb.mono B3.size)
  clear B3
  clear hb
  go_wp2
  go_ret
  exact retS Hr4.out rfl B4

set_option maxHeartbeats 1000000 in
theorem NatAdd_bad1 (w : World) (b1 _b2 : Nat) (v1 v2 : Value) (xs _ys : List Int) (h1 : Own w b1 v1 xs) (hx : ¬ OkP xs) :
    Calls Tryd.prog 20 #[v1, v2] w (RetS w []) := by
  have Ha0 := Lib.hid h1
  clear h1
  have HX := Lib.hid hx
  clear hx
  go_enter Tryd.func20, Tryd.ntmps20
  go_wp2_with fail
  refine (natOk_f w _ _ xs Ha0.out HX.out).mono ?_
  rintro e w1 ⟨rfl, hb⟩
  have Ha1 := Lib.hid (Ha0.out.below hb (Nat.le_refl _))
  clear Ha0
  have B1 := hb
  clear hb
  go_wp2
  go_ret
  exact retS (Own.nil _ _) rfl B1

set_option maxHeartbeats 1000000 in
theorem NatAdd_bad2 (w : World) (b1 b2 : Nat) (v1 v2 : Value) (xs ys : List Int) (h1 : Own w b1 v1 xs) (h2 : Own w b2 v2 ys) (hx : OkP xs) (hy : ¬ OkP ys) :
    Calls Tryd.prog 20 #[v1, v2] w (RetS w []) := by
  have Ha0 := Lib.hid h1
  have Hb0 := Lib.hid h2
  clear h1 h2
  have HX := Lib.hid hx
  have HY := Lib.hid hy
  clear hx hy
  go_enter Tryd.func20, Tryd.ntmps20
  go_wp2_with fail
  refine (natOk_t w _ _ xs Ha0.out HX.out).mono ?_
  rintro e w1 ⟨rfl, hb⟩
  have Ha1 := Lib.hid (Ha0.out.below hb (Nat.le_refl _))
  clear Ha0
  have Hb1 := Lib.hid (Hb0.out.below hb (Nat.le_refl _))
  clear Hb0
  have B1 := hb
  clear hb
  go_wp2_with fail
  refine (natOk_f w1 _ _ ys Hb1.out HY.out).mono ?_
  rintro e w2 ⟨rfl, hb⟩
  have Ha2 := Lib.hid (Ha1.out.below hb (Nat.le_refl _))
  clear Ha1
  have Hb2 := Lib.hid (Hb1.out.below hb (Nat.le_refl _))
  clear Hb1
  have B2 := B1.trans (hb.mono B1.size)
  clear B1
  clear hb
  go_wp2
  go_ret
  exact retS (Own.nil _ _) rfl B2

theorem NatAdd_c (w : World) (b1 b2 : Nat) (v1 v2 : Value) (xs ys : List Int) (h1 : Own w b1 v1 xs) (h2 : Own w b2 v2 ys) : Calls Tryd.prog 20 #[v1, v2] w (RetS w (addV xs ys)) := by
  by_cases hx : OkP xs
  · by_cases hy : OkP ys
    · rw [show addV xs ys = fitV ((nv xs).toNat + (nv ys).toNat) from if_pos ⟨hx, hy⟩]
      obtain ⟨a, rfl, hl1⟩ := ok_limbs hx
      obtain ⟨b, rfl, hl2⟩ := ok_limbs hy
      rw [nv_toNat, nv_toNat]
      exact NatAdd_good w b1 b2 v1 v2 a b h1 h2 hl1 hl2
    · rw [show addV xs ys = [] from if_neg fun h => hy h.2]
      exact NatAdd_bad2 w b1 b2 v1 v2 xs ys h1 h2 hx hy
  · rw [show addV xs ys = [] from if_neg fun h => hx h.1]
    exact NatAdd_bad1 w b1 b2 v1 v2 xs ys h1 hx

set_option maxHeartbeats 1000000 in
theorem NatMul_good (w : World) (b1 b2 : Nat) (v1 v2 : Value) (a b : Nat) (h1 : Own w b1 v1 (limbs a)) (h2 : Own w b2 v2 (limbs b)) (hl1 : (limbs a).length ≤ 60) (hl2 : (limbs b).length ≤ 60) :
    Calls Tryd.prog 21 #[v1, v2] w (RetS w (fitV (a * b))) := by
  have L1 : (limbs a).length ≤ 900 := by omega
  have L2 : (limbs b).length ≤ 900 := by omega
  have Ha0 := Lib.hid h1
  have Hb0 := Lib.hid h2
  clear h1 h2
  go_enter Tryd.func21, Tryd.ntmps21
  go_wp2_with fail
  refine (natOk_t w _ _ _ Ha0.out (limbs_ok hl1)).mono ?_
  rintro e w1 ⟨rfl, hb⟩
  have Ha1 := Lib.hid (Ha0.out.below hb (Nat.le_refl _))
  clear Ha0
  have Hb1 := Lib.hid (Hb0.out.below hb (Nat.le_refl _))
  clear Hb0
  have B1 := hb
  clear hb
  go_wp2_with fail
  refine (natOk_t w1 _ _ _ Hb1.out (limbs_ok hl2)).mono ?_
  rintro e w2 ⟨rfl, hb⟩
  have Ha2 := Lib.hid (Ha1.out.below hb (Nat.le_refl _))
  clear Ha1
  have Hb2 := Lib.hid (Hb1.out.below hb (Nat.le_refl _))
  clear Hb1
  have B2 := B1.trans (hb.mono B1.size)
  clear B1
  clear hb
  go_wp2_with fail
  refine (natMul_c w2 _ _ _ _ a b Ha2.out Hb2.out (by omega) (by omega)).mono ?_
  rintro e w3 ⟨vo, rfl, ho1, hb⟩
  have Ha3 := Lib.hid (Ha2.out.below hb (Nat.le_refl _))
  clear Ha2
  have Hb3 := Lib.hid (Hb2.out.below hb (Nat.le_refl _))
  clear Hb2
  have Ho3 := Lib.hid (ho1.mono B2.size)
  clear ho1
  have B3 := B2.trans (hb.mono B2.size)
  clear B2
  clear hb
  go_wp2_with fail
  refine (fits_c w3 _ _ _ Ho3.out).mono ?_
  rintro e w4 ⟨vr, rfl, ho1, hpr, hb⟩
  have HPr := Lib.hid hpr
  clear hpr
  have Ha4 := Lib.hid (Ha3.out.below hb (Nat.le_refl _))
  clear Ha3
  have Hb4 := Lib.hid (Hb3.out.below hb (Nat.le_refl _))
  clear Hb3
  have Ho4 := Lib.hid (Ho3.out.below hb (Nat.le_refl _))
  clear Ho3
  have Hr4 := Lib.hid ho1
  clear ho1
  have B4 := B3.trans (hb.mono B3.size)
  clear B3
  clear hb
  go_wp2
  go_ret
  exact retS Hr4.out rfl B4

set_option maxHeartbeats 1000000 in
theorem NatMul_bad1 (w : World) (b1 _b2 : Nat) (v1 v2 : Value) (xs _ys : List Int) (h1 : Own w b1 v1 xs) (hx : ¬ OkP xs) :
    Calls Tryd.prog 21 #[v1, v2] w (RetS w []) := by
  have Ha0 := Lib.hid h1
  clear h1
  have HX := Lib.hid hx
  clear hx
  go_enter Tryd.func21, Tryd.ntmps21
  go_wp2_with fail
  refine (natOk_f w _ _ xs Ha0.out HX.out).mono ?_
  rintro e w1 ⟨rfl, hb⟩
  have Ha1 := Lib.hid (Ha0.out.below hb (Nat.le_refl _))
  clear Ha0
  have B1 := hb
  clear hb
  go_wp2
  go_ret
  exact retS (Own.nil _ _) rfl B1

set_option maxHeartbeats 1000000 in
theorem NatMul_bad2 (w : World) (b1 b2 : Nat) (v1 v2 : Value) (xs ys : List Int) (h1 : Own w b1 v1 xs) (h2 : Own w b2 v2 ys) (hx : OkP xs) (hy : ¬ OkP ys) :
    Calls Tryd.prog 21 #[v1, v2] w (RetS w []) := by
  have Ha0 := Lib.hid h1
  have Hb0 := Lib.hid h2
  clear h1 h2
  have HX := Lib.hid hx
  have HY := Lib.hid hy
  clear hx hy
  go_enter Tryd.func21, Tryd.ntmps21
  go_wp2_with fail
  refine (natOk_t w _ _ xs Ha0.out HX.out).mono ?_
  rintro e w1 ⟨rfl, hb⟩
  have Ha1 := Lib.hid (Ha0.out.below hb (Nat.le_refl _))
  clear Ha0
  have Hb1 := Lib.hid (Hb0.out.below hb (Nat.le_refl _))
  clear Hb0
  have B1 := hb
  clear hb
  go_wp2_with fail
  refine (natOk_f w1 _ _ ys Hb1.out HY.out).mono ?_
  rintro e w2 ⟨rfl, hb⟩
  have Ha2 := Lib.hid (Ha1.out.below hb (Nat.le_refl _))
  clear Ha1
  have Hb2 := Lib.hid (Hb1.out.below hb (Nat.le_refl _))
  clear Hb1
  have B2 := B1.trans (hb.mono B1.size)
  clear B1
  clear hb
  go_wp2
  go_ret
  exact retS (Own.nil _ _) rfl B2

theorem NatMul_c (w : World) (b1 b2 : Nat) (v1 v2 : Value) (xs ys : List Int) (h1 : Own w b1 v1 xs) (h2 : Own w b2 v2 ys) : Calls Tryd.prog 21 #[v1, v2] w (RetS w (mulV xs ys)) := by
  by_cases hx : OkP xs
  · by_cases hy : OkP ys
    · rw [show mulV xs ys = fitV ((nv xs).toNat * (nv ys).toNat) from if_pos ⟨hx, hy⟩]
      obtain ⟨a, rfl, hl1⟩ := ok_limbs hx
      obtain ⟨b, rfl, hl2⟩ := ok_limbs hy
      rw [nv_toNat, nv_toNat]
      exact NatMul_good w b1 b2 v1 v2 a b h1 h2 hl1 hl2
    · rw [show mulV xs ys = [] from if_neg fun h => hy h.2]
      exact NatMul_bad2 w b1 b2 v1 v2 xs ys h1 h2 hx hy
  · rw [show mulV xs ys = [] from if_neg fun h => hx h.1]
    exact NatMul_bad1 w b1 b2 v1 v2 xs ys h1 hx

set_option maxHeartbeats 1000000 in
theorem NatDiv_good (w : World) (b1 b2 : Nat) (v1 v2 : Value) (a b : Nat) (h1 : Own w b1 v1 (limbs a)) (h2 : Own w b2 v2 (limbs b)) (hl1 : (limbs a).length ≤ 60) (hl2 : (limbs b).length ≤ 60) (hb0 : 0 < b) :
    Calls Tryd.prog 14 #[v1, v2] w (RetSS w (limbs (a / b)) (limbs (a % b))) := by
  have L1 : (limbs a).length ≤ 900 := by omega
  have L2 : (limbs b).length ≤ 900 := by omega
  have Ha0 := Lib.hid h1
  have Hb0 := Lib.hid h2
  clear h1 h2
  obtain ⟨a2, c2, rfl, -, -, -, -, -⟩ := Hb0.out.form
  have hlp := limbs_len_pos.2 hb0
  have d1 : ((limbs b).length == 0) = false := beq_eq_false_iff_ne.2 (by omega)
  have d2 : (((limbs b).length : Int) == 0) = false := beq_eq_false_iff_ne.2 (by omega)
  go_enter Tryd.func14, Tryd.ntmps14
  go_wp2_with fail
  refine (natOk_t w _ _ _ Ha0.out (limbs_ok hl1)).mono ?_
  rintro e w1 ⟨rfl, hb⟩
  have Ha1 := Lib.hid (Ha0.out.below hb (Nat.le_refl _))
  clear Ha0
  have Hb1 := Lib.hid (Hb0.out.below hb (Nat.le_refl _))
  clear Hb0
  have B1 := hb
  clear hb
  go_wp2_with fail
  refine (natOk_t w1 _ _ _ Hb1.out (limbs_ok hl2)).mono ?_
  rintro e w2 ⟨rfl, hb⟩
  have Ha2 := Lib.hid (Ha1.out.below hb (Nat.le_refl _))
  clear Ha1
  have Hb2 := Lib.hid (Hb1.out.below hb (Nat.le_refl _))
  clear Hb1
  have B2 := B1.trans (hb.mono B1.size)
  clear B1
  clear hb
  go_wp2_with fail
  refine (natDiv_c w2 _ _ _ _ a b Ha2.out Hb2.out (by omega) hb0).mono ?_
  rintro e w3 ⟨vq, vr, rfl, ho1, ho2, ha3, hb⟩
  have HA3 := Lib.hid ha3
  clear ha3
  have Ha3 := Lib.hid (Ha2.out.below hb (Nat.le_refl _))
  clear Ha2
  have Hb3 := Lib.hid (Hb2.out.below hb (Nat.le_refl _))
  clear Hb2
  have Hq3 := Lib.hid (ho1.mono B2.size)
  have Hr3 := Lib.hid (ho2.mono B2.size)
  clear ho1 ho2
  have B3 := B2.trans (hb.mono B2.size)
  clear B2
  clear hb
  go_wp2
  go_ret2
  exact retSS Hq3.out Hr3.out rfl rfl HA3.out B3

set_option maxHeartbeats 1000000 in
theorem NatDiv_zero (w : World) (b1 b2 : Nat) (v1 v2 : Value) (a b : Nat) (h1 : Own w b1 v1 (limbs a)) (h2 : Own w b2 v2 (limbs b)) (hl1 : (limbs a).length ≤ 60) (hl2 : (limbs b).length ≤ 60) (hb0 : b = 0) :
    Calls Tryd.prog 14 #[v1, v2] w (RetSS w [] []) := by
  subst hb0
  have Ha0 := Lib.hid h1
  have Hb0 := Lib.hid h2
  clear h1 h2
  obtain ⟨a2, c2, rfl, -, -, -, -, -⟩ := Hb0.out.form
  have d1 : ((limbs 0).length == 0) = true := rfl
  have d2 : (((limbs 0).length : Int) == 0) = true := rfl
  go_enter Tryd.func14, Tryd.ntmps14
  go_wp2_with fail
  refine (natOk_t w _ _ _ Ha0.out (limbs_ok hl1)).mono ?_
  rintro e w1 ⟨rfl, hb⟩
  have Ha1 := Lib.hid (Ha0.out.below hb (Nat.le_refl _))
  clear Ha0
  have Hb1 := Lib.hid (Hb0.out.below hb (Nat.le_refl _))
  clear Hb0
  have B1 := hb
  clear hb
  go_wp2_with fail
  refine (natOk_t w1 _ _ _ Hb1.out (limbs_ok hl2)).mono ?_
  rintro e w2 ⟨rfl, hb⟩
  have Ha2 := Lib.hid (Ha1.out.below hb (Nat.le_refl _))
  clear Ha1
  have Hb2 := Lib.hid (Hb1.out.below hb (Nat.le_refl _))
  clear Hb1
  have B2 := B1.trans (hb.mono B1.size)
  clear B1
  clear hb
  go_wp2
  go_ret2
  exact retSS (Own.nil _ _) (Own.nil _ _) rfl rfl apart_nil B2

set_option maxHeartbeats 1000000 in
theorem NatDiv_bad1 (w : World) (b1 _b2 : Nat) (v1 v2 : Value) (xs _ys : List Int) (h1 : Own w b1 v1 xs) (hx : ¬ OkP xs) :
    Calls Tryd.prog 14 #[v1, v2] w (RetSS w [] []) := by
  have Ha0 := Lib.hid h1
  clear h1
  have HX := Lib.hid hx
  clear hx
  go_enter Tryd.func14, Tryd.ntmps14
  go_wp2_with fail
  refine (natOk_f w _ _ xs Ha0.out HX.out).mono ?_
  rintro e w1 ⟨rfl, hb⟩
  have Ha1 := Lib.hid (Ha0.out.below hb (Nat.le_refl _))
  clear Ha0
  have B1 := hb
  clear hb
  go_wp2
  go_ret2
  exact retSS (Own.nil _ _) (Own.nil _ _) rfl rfl apart_nil B1

set_option maxHeartbeats 1000000 in
theorem NatDiv_bad2 (w : World) (b1 b2 : Nat) (v1 v2 : Value) (xs ys : List Int) (h1 : Own w b1 v1 xs) (h2 : Own w b2 v2 ys) (hx : OkP xs) (hy : ¬ OkP ys) :
    Calls Tryd.prog 14 #[v1, v2] w (RetSS w [] []) := by
  have Ha0 := Lib.hid h1
  have Hb0 := Lib.hid h2
  clear h1 h2
  have HX := Lib.hid hx
  have HY := Lib.hid hy
  clear hx hy
  go_enter Tryd.func14, Tryd.ntmps14
  go_wp2_with fail
  refine (natOk_t w _ _ xs Ha0.out HX.out).mono ?_
  rintro e w1 ⟨rfl, hb⟩
  have Ha1 := Lib.hid (Ha0.out.below hb (Nat.le_refl _))
  clear Ha0
  have Hb1 := Lib.hid (Hb0.out.below hb (Nat.le_refl _))
  clear Hb0
  have B1 := hb
  clear hb
  go_wp2_with fail
  refine (natOk_f w1 _ _ ys Hb1.out HY.out).mono ?_
  rintro e w2 ⟨rfl, hb⟩
  have Ha2 := Lib.hid (Ha1.out.below hb (Nat.le_refl _))
  clear Ha1
  have Hb2 := Lib.hid (Hb1.out.below hb (Nat.le_refl _))
  clear Hb1
  have B2 := B1.trans (hb.mono B1.size)
  clear B1
  clear hb
  go_wp2
  go_ret2
  exact retSS (Own.nil _ _) (Own.nil _ _) rfl rfl apart_nil B2

theorem NatDiv_c (w : World) (b1 b2 : Nat) (v1 v2 : Value) (xs ys : List Int) (h1 : Own w b1 v1 xs) (h2 : Own w b2 v2 ys) : Calls Tryd.prog 14 #[v1, v2] w (RetSS w (divQ xs ys) (divR xs ys)) := by
  by_cases hx : OkP xs
  · by_cases hy : OkP ys
    · by_cases hc : ys ≠ []
      · rw [show divQ xs ys = limbs ((nv xs).toNat / (nv ys).toNat) from if_pos ⟨hx, hy, hc⟩, show divR xs ys = limbs ((nv xs).toNat % (nv ys).toNat) from if_pos ⟨hx, hy, hc⟩]
        obtain ⟨a, rfl, hl1⟩ := ok_limbs hx
        obtain ⟨b, rfl, hl2⟩ := ok_limbs hy
        rw [nv_toNat, nv_toNat]
        exact NatDiv_good w b1 b2 v1 v2 a b h1 h2 hl1 hl2 (by
          rcases Nat.eq_zero_or_pos b with h | h
          · subst h; exact absurd rfl hc
          · exact h)
      · rw [show divQ xs ys = [] from if_neg fun h => hc h.2.2, show divR xs ys = [] from if_neg fun h => hc h.2.2]
        obtain ⟨a, rfl, hl1⟩ := ok_limbs hx
        obtain ⟨b, rfl, hl2⟩ := ok_limbs hy
        exact NatDiv_zero w b1 b2 v1 v2 a b h1 h2 hl1 hl2 (limbs_nil.1 (Classical.not_not.1 hc))
    · rw [show divQ xs ys = [] from if_neg fun h => hy h.2.1, show divR xs ys = [] from if_neg fun h => hy h.2.1]
      exact NatDiv_bad2 w b1 b2 v1 v2 xs ys h1 h2 hx hy
  · rw [show divQ xs ys = [] from if_neg fun h => hx h.1, show divR xs ys = [] from if_neg fun h => hx h.1]
    exact NatDiv_bad1 w b1 b2 v1 v2 xs ys h1 hx

set_option maxHeartbeats 1000000 in
theorem NatGcd_good (w : World) (b1 b2 : Nat) (v1 v2 : Value) (a b : Nat) (h1 : Own w b1 v1 (limbs a)) (h2 : Own w b2 v2 (limbs b)) (hl1 : (limbs a).length ≤ 60) (hl2 : (limbs b).length ≤ 60) (ha0 : 0 < a) :
    Calls Tryd.prog 15 #[v1, v2] w (RetS w (limbs (Nat.gcd a b))) := by
  have L1 : (limbs a).length ≤ 900 := by omega
  have L2 : (limbs b).length ≤ 900 := by omega
  have Ha0 := Lib.hid h1
  have Hb0 := Lib.hid h2
  clear h1 h2
  obtain ⟨a2, c2, rfl, -, -, -, -, -⟩ := Ha0.out.form
  have hlp := limbs_len_pos.2 ha0
  have d1 : ((limbs a).length == 0) = false := beq_eq_false_iff_ne.2 (by omega)
  have d2 : (((limbs a).length : Int) == 0) = false := beq_eq_false_iff_ne.2 (by omega)
  go_enter Tryd.func15, Tryd.ntmps15
  go_wp2_with fail
  refine (natOk_t w _ _ _ Ha0.out (limbs_ok hl1)).mono ?_
  rintro e w1 ⟨rfl, hb⟩
  have Ha1 := Lib.hid (Ha0.out.below hb (Nat.le_refl _))
  clear Ha0
  have Hb1 := Lib.hid (Hb0.out.below hb (Nat.le_refl _))
  clear Hb0
  have B1 := hb
  clear hb
  go_wp2_with fail
  refine (natOk_t w1 _ _ _ Hb1.out (limbs_ok hl2)).mono ?_
  rintro e w2 ⟨rfl, hb⟩
  have Ha2 := Lib.hid (Ha1.out.below hb (Nat.le_refl _))
  clear Ha1
  have Hb2 := Lib.hid (Hb1.out.below hb (Nat.le_refl _))
  clear Hb1
  have B2 := B1.trans (hb.mono B1.size)
  clear B1
  clear hb
  go_wp2_with fail
  refine (natGcd_c w2 _ _ _ _ a b Ha2.out Hb2.out (by omega) (by omega) ha0).mono ?_
  rintro e w3 ⟨vo, rfl, ho1, hb⟩
  have Ha3 := Lib.hid (Ha2.out.below hb (Nat.le_refl _))
  clear Ha2
  have Hb3 := Lib.hid (Hb2.out.below hb (Nat.le_refl _))
  clear Hb2
  have Ho3 := Lib.hid (ho1.mono B2.size)
  clear ho1
  have B3 := B2.trans (hb.mono B2.size)
  clear B2
  clear hb
  go_wp2
  go_ret
  exact retS Ho3.out rfl B3

set_option maxHeartbeats 1000000 in
theorem NatGcd_zero (w : World) (b1 b2 : Nat) (v1 v2 : Value) (a b : Nat) (h1 : Own w b1 v1 (limbs a)) (h2 : Own w b2 v2 (limbs b)) (hl1 : (limbs a).length ≤ 60) (hl2 : (limbs b).length ≤ 60) (ha0 : a = 0) :
    Calls Tryd.prog 15 #[v1, v2] w (RetS w (limbs (Nat.gcd a b))) := by
  subst ha0
  rw [Nat.gcd_zero_left]
  have Ha0 := Lib.hid h1
  have Hb0 := Lib.hid h2
  clear h1 h2
  obtain ⟨a2, c2, rfl, -, -, -, -, -⟩ := Ha0.out.form
  have d1 : ((limbs 0).length == 0) = true := rfl
  have d2 : (((limbs 0).length : Int) == 0) = true := rfl
  go_enter Tryd.func15, Tryd.ntmps15
  go_wp2_with fail
  refine (natOk_t w _ _ _ Ha0.out (limbs_ok hl1)).mono ?_
  rintro e w1 ⟨rfl, hb⟩
  have Ha1 := Lib.hid (Ha0.out.below hb (Nat.le_refl _))
  clear Ha0
  have Hb1 := Lib.hid (Hb0.out.below hb (Nat.le_refl _))
  clear Hb0
  have B1 := hb
  clear hb
  go_wp2_with fail
  refine (natOk_t w1 _ _ _ Hb1.out (limbs_ok hl2)).mono ?_
  rintro e w2 ⟨rfl, hb⟩
  have Ha2 := Lib.hid (Ha1.out.below hb (Nat.le_refl _))
  clear Ha1
  have Hb2 := Lib.hid (Hb1.out.below hb (Nat.le_refl _))
  clear Hb1
  have B2 := B1.trans (hb.mono B1.size)
  clear B1
  clear hb
  go_wp2_with fail
  refine (copyInts_c w2 _ _ _ Hb2.out (by omega)).mono ?_
  rintro e w3 ⟨vo, rfl, ho1, hb⟩
  have Ha3 := Lib.hid (Ha2.out.below hb (Nat.le_refl _))
  clear Ha2
  have Hb3 := Lib.hid (Hb2.out.below hb (Nat.le_refl _))
  clear Hb2
  have Ho3 := Lib.hid (ho1.mono B2.size)
  clear ho1
  have B3 := B2.trans (hb.mono B2.size)
  clear B2
  clear hb
  go_wp2
  go_ret
  exact retS Ho3.out rfl B3

set_option maxHeartbeats 1000000 in
theorem NatGcd_bad1 (w : World) (b1 _b2 : Nat) (v1 v2 : Value) (xs _ys : List Int) (h1 : Own w b1 v1 xs) (hx : ¬ OkP xs) :
    Calls Tryd.prog 15 #[v1, v2] w (RetS w []) := by
  have Ha0 := Lib.hid h1
  clear h1
  have HX := Lib.hid hx
  clear hx
  go_enter Tryd.func15, Tryd.ntmps15
  go_wp2_with fail
  refine (natOk_f w _ _ xs Ha0.out HX.out).mono ?_
  rintro e w1 ⟨rfl, hb⟩
  have Ha1 := Lib.hid (Ha0.out.below hb (Nat.le_refl _))
  clear Ha0
  have B1 := hb
  clear hb
  go_wp2
  go_ret
  exact retS (Own.nil _ _) rfl B1

set_option maxHeartbeats 1000000 in
theorem NatGcd_bad2 (w : World) (b1 b2 : Nat) (v1 v2 : Value) (xs ys : List Int) (h1 : Own w b1 v1 xs) (h2 : Own w b2 v2 ys) (hx : OkP xs) (hy : ¬ OkP ys) :
    Calls Tryd.prog 15 #[v1, v2] w (RetS w []) := by
  have Ha0 := Lib.hid h1
  have Hb0 := Lib.hid h2
  clear h1 h2
  have HX := Lib.hid hx
  have HY := Lib.hid hy
  clear hx hy
  go_enter Tryd.func15, Tryd.ntmps15
  go_wp2_with fail
  refine (natOk_t w _ _ xs Ha0.out HX.out).mono ?_
  rintro e w1 ⟨rfl, hb⟩
  have Ha1 := Lib.hid (Ha0.out.below hb (Nat.le_refl _))
  clear Ha0
  have Hb1 := Lib.hid (Hb0.out.below hb (Nat.le_refl _))
  clear Hb0
  have B1 := hb
  clear hb
  go_wp2_with fail
  refine (natOk_f w1 _ _ ys Hb1.out HY.out).mono ?_
  rintro e w2 ⟨rfl, hb⟩
  have Ha2 := Lib.hid (Ha1.out.below hb (Nat.le_refl _))
  clear Ha1
  have Hb2 := Lib.hid (Hb1.out.below hb (Nat.le_refl _))
  clear Hb1
  have B2 := B1.trans (hb.mono B1.size)
  clear B1
  clear hb
  go_wp2
  go_ret
  exact retS (Own.nil _ _) rfl B2

theorem NatGcd_c (w : World) (b1 b2 : Nat) (v1 v2 : Value) (xs ys : List Int) (h1 : Own w b1 v1 xs) (h2 : Own w b2 v2 ys) : Calls Tryd.prog 15 #[v1, v2] w (RetS w (gcdV xs ys)) := by
  by_cases hx : OkP xs
  · by_cases hy : OkP ys
    · rw [show gcdV xs ys = limbs (Nat.gcd (nv xs).toNat (nv ys).toNat) from if_pos ⟨hx, hy⟩]
      obtain ⟨a, rfl, hl1⟩ := ok_limbs hx
      obtain ⟨b, rfl, hl2⟩ := ok_limbs hy
      rw [nv_toNat, nv_toNat]
      rcases Nat.eq_zero_or_pos a with h | h
      · exact NatGcd_zero w b1 b2 v1 v2 a b h1 h2 hl1 hl2 h
      · exact NatGcd_good w b1 b2 v1 v2 a b h1 h2 hl1 hl2 h
    · rw [show gcdV xs ys = [] from if_neg fun h => hy h.2]
      exact NatGcd_bad2 w b1 b2 v1 v2 xs ys h1 h2 hx hy
  · rw [show gcdV xs ys = [] from if_neg fun h => hx h.1]
    exact NatGcd_bad1 w b1 b2 v1 v2 xs ys h1 hx

theorem addV_len (xs ys : List Int) : (addV xs ys).length ≤ 1000 := by
  unfold addV; split
  · have := fitV_len ((nv xs).toNat + (nv ys).toNat); omega
  · simp
theorem mulV_len (xs ys : List Int) : (mulV xs ys).length ≤ 1000 := by
  unfold mulV; split
  · have := fitV_len ((nv xs).toNat * (nv ys).toNat); omega
  · simp
theorem len_of_le {xs : List Int} (h : OkP xs) {n : Nat} (hn : n ≤ (nv xs).toNat) : (limbs n).length ≤ 1000 := by
  have h1 := limbs_len_mono hn
  rw [← h.2.limbs'] at h1
  have := h.1
  omega
theorem subV_len (xs ys : List Int) : (subV xs ys).length ≤ 1000 := by
  unfold subV; split
  · next h => exact len_of_le h.1 (Nat.sub_le _ _)
  · simp
theorem divQ_len (xs ys : List Int) : (divQ xs ys).length ≤ 1000 := by
  unfold divQ; split
  · next h => exact len_of_le h.1 (Nat.div_le_self _ _)
  · simp
theorem divR_len (xs ys : List Int) : (divR xs ys).length ≤ 1000 := by
  unfold divR; split
  · next h => exact len_of_le h.1 (Nat.mod_le _ _)
  · simp
theorem gcdV_len (xs ys : List Int) : (gcdV xs ys).length ≤ 1000 := by
  unfold gcdV; split
  · next h =>
    rcases Nat.eq_zero_or_pos (nv xs).toNat with h0 | h0
    · rw [h0, Nat.gcd_zero_left]; exact len_of_le h.2 (Nat.le_refl _)
    · exact len_of_le h.1 (Nat.gcd_le_left _ h0)
  · simp

end Go.Proofs.YtijeplcjbhkkoaaDoor
