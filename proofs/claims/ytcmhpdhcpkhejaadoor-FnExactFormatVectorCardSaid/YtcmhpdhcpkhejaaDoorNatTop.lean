/- The exported functions on natural numbers, the program's and the reference's: NatCmp, NatAdd, NatSub, NatMul, NatDiv, NatGcd. -/
import Derived.Test.YtcmhpdhcpkhejaaDoorNatG
import Derived.Test.YtcmhpdhcpkhejaaDoorSpecM
import Derived.Test.YtcmhpdhcpkhejaaDoorSpecG
namespace Go.Proofs.YtcmhpdhcpkhejaaDoor
open Go.RowKit Lm

theorem alloc_below {w w' : World} {o : Obj} (h : Below (w.alloc o).heap.size (w.alloc o) w') : Below w.heap.size w w' :=
  ((Below.refl _ _).alloc (Nat.le_refl _) o).trans (h.mono (by simp))
theorem apart_nil {u : Value} : Apart (.slice none 0 0) u := fun k h => by cases h
theorem heap_le_alloc (w : World) (o : Obj) : w.heap.size ≤ (w.alloc o).heap.size := by simp

theorem ok_limbs {xs : List Int} (h : OkP xs) : ∃ a : Nat, xs = limbs a ∧ (limbs a).length ≤ 60 := by
  refine ⟨(nv xs).toNat, h.2.limbs', ?_⟩
  rw [← h.2.limbs']; exact h.1
theorem limbs_ok {a : Nat} (h : (limbs a).length ≤ 60) : OkP (limbs a) := ⟨h, limbs_norm a⟩
theorem nv_toNat (a : Nat) : (nv (limbs a)).toNat = a := by rw [nv_limbs]; omega

/-- A number, if it has no more than 60 limbs. -/
noncomputable def fitV (n : Nat) : List Int := if (limbs n).length ≤ 60 then limbs n else []
theorem fitV_len (n : Nat) : (fitV n).length ≤ 60 := by unfold fitV; split <;> simp_all
open Classical in
noncomputable def cmpV (xs ys : List Int) : Int := if OkP xs ∧ OkP ys then cmp3 (nv xs) (nv ys) else 0
open Classical in
noncomputable def addV (xs ys : List Int) : List Int := if OkP xs ∧ OkP ys then fitV ((nv xs).toNat + (nv ys).toNat) else []
open Classical in
noncomputable def subV (xs ys : List Int) : List Int := if OkP xs ∧ OkP ys ∧ nv ys ≤ nv xs then limbs ((nv xs).toNat - (nv ys).toNat) else []
open Classical in
noncomputable def mulV (xs ys : List Int) : List Int := if OkP xs ∧ OkP ys then fitV ((nv xs).toNat * (nv ys).toNat) else []
open Classical in
noncomputable def divQ (xs ys : List Int) : List Int := if OkP xs ∧ OkP ys ∧ ys ≠ [] then limbs ((nv xs).toNat / (nv ys).toNat) else []
open Classical in
noncomputable def divR (xs ys : List Int) : List Int := if OkP xs ∧ OkP ys ∧ ys ≠ [] then limbs ((nv xs).toNat % (nv ys).toNat) else []
open Classical in
noncomputable def gcdV (xs ys : List Int) : List Int := if OkP xs ∧ OkP ys then limbs (Nat.gcd (nv xs).toNat (nv ys).toNat) else []

theorem natOk_t (w : World) (b1 : Nat) (v1 : Value) (xs : List Int) (h1 : Own w b1 v1 xs) (h : OkP xs) : Calls Tryd.prog 39 #[v1] w (RetB w true) := by
  have := natOk_c w b1 v1 xs h1
  rwa [okB_true h] at this
theorem natOk_f (w : World) (b1 : Nat) (v1 : Value) (xs : List Int) (h1 : Own w b1 v1 xs) (h : ¬ OkP xs) : Calls Tryd.prog 39 #[v1] w (RetB w false) := by
  have := natOk_c w b1 v1 xs h1
  rwa [okB_false h] at this
theorem specNatOk_t (w : World) (b1 : Nat) (v1 : Value) (xs : List Int) (h1 : Own w b1 v1 xs) (h : OkP xs) : Calls Tryd.prog 34 #[v1] w (RetB w true) := by
  have := specNatOk_c w b1 v1 xs h1
  rwa [okB_true h] at this
theorem specNatOk_f (w : World) (b1 : Nat) (v1 : Value) (xs : List Int) (h1 : Own w b1 v1 xs) (h : ¬ OkP xs) : Calls Tryd.prog 34 #[v1] w (RetB w false) := by
  have := specNatOk_c w b1 v1 xs h1
  rwa [okB_false h] at this

/-- An int that is not negative. -/
def RetGe (w : World) (e : Ending) (w' : World) : Prop := ∃ c : Int, 0 ≤ c ∧ e = .returned (.int .i64 c) ∧ Below w.heap.size w w'

theorem natCmp_lt (w : World) (b1 b2 : Nat) (v1 v2 : Value) (a b : Nat) (h1 : Own w b1 v1 (limbs a)) (h2 : Own w b2 v2 (limbs b)) (h : a < b) : Calls Tryd.prog 63 #[v1, v2] w (RetI w (-1)) := by
  have := natCmp_n w b1 b2 v1 v2 a b h1 h2
  rwa [show cmp3 (a : Int) b = -1 by rcases cmp3_cases a b with ⟨h1, e⟩ | ⟨h1, e⟩ | ⟨h1, e⟩ <;> omega] at this
theorem natCmp_ge (w : World) (b1 b2 : Nat) (v1 v2 : Value) (a b : Nat) (h1 : Own w b1 v1 (limbs a)) (h2 : Own w b2 v2 (limbs b)) (h : b ≤ a) : Calls Tryd.prog 63 #[v1, v2] w (RetGe w) := by
  refine (natCmp_n w b1 b2 v1 v2 a b h1 h2).mono ?_
  rintro e w1 ⟨rfl, hb⟩
  exact ⟨_, by rcases cmp3_cases a b with ⟨h1, e⟩ | ⟨h1, e⟩ | ⟨h1, e⟩ <;> omega, rfl, hb⟩
theorem l02Cmp_lt (w : World) (b1 b2 : Nat) (v1 v2 : Value) (a b : Nat) (h1 : Own w b1 v1 (limbs a)) (h2 : Own w b2 v2 (limbs b)) (h : a < b) : Calls Tryd.prog 56 #[v1, v2] w (RetI w (-1)) := by
  have := l02Cmp_n w b1 b2 v1 v2 a b h1 h2
  rwa [show cmp3 (a : Int) b = -1 by rcases cmp3_cases a b with ⟨h1, e⟩ | ⟨h1, e⟩ | ⟨h1, e⟩ <;> omega] at this
theorem l02Cmp_ge (w : World) (b1 b2 : Nat) (v1 v2 : Value) (a b : Nat) (h1 : Own w b1 v1 (limbs a)) (h2 : Own w b2 v2 (limbs b)) (h : b ≤ a) : Calls Tryd.prog 56 #[v1, v2] w (RetGe w) := by
  refine (l02Cmp_n w b1 b2 v1 v2 a b h1 h2).mono ?_
  rintro e w1 ⟨rfl, hb⟩
  exact ⟨_, by rcases cmp3_cases a b with ⟨h1, e⟩ | ⟨h1, e⟩ | ⟨h1, e⟩ <;> omega, rfl, hb⟩

theorem addV_len (xs ys : List Int) : (addV xs ys).length ≤ 1000 := by
  unfold addV; split
  · have := fitV_len ((nv xs).toNat + (nv ys).toNat); omega
  · simp
theorem mulV_len (xs ys : List Int) : (mulV xs ys).length ≤ 1000 := by
  unfold mulV; split
  · have := fitV_len ((nv xs).toNat * (nv ys).toNat); omega
  · simp
theorem len_of_le {xs : List Int} (h : OkP xs) {n : Nat} (hn : n ≤ (nv xs).toNat) : (limbs n).length ≤ 1000 := by
  have h1 := limbs_len_mono hn
  rw [← h.2.limbs'] at h1
  have := h.1
  omega
theorem subV_len (xs ys : List Int) : (subV xs ys).length ≤ 1000 := by
  unfold subV; split
  · next h => exact len_of_le h.1 (Nat.sub_le _ _)
  · simp
theorem divQ_len (xs ys : List Int) : (divQ xs ys).length ≤ 1000 := by
  unfold divQ; split
  · next h => exact len_of_le h.1 (Nat.div_le_self _ _)
  · simp
theorem divR_len (xs ys : List Int) : (divR xs ys).length ≤ 1000 := by
  unfold divR; split
  · next h => exact len_of_le h.1 (Nat.mod_le _ _)
  · simp
theorem gcdV_len (xs ys : List Int) : (gcdV xs ys).length ≤ 1000 := by
  unfold gcdV; split
  · next h =>
    rcases Nat.eq_zero_or_pos (nv xs).toNat with h0 | h0
    · rw [h0, Nat.gcd_zero_left]; exact len_of_le h.2 (Nat.le_refl _)
    · exact len_of_le h.1 (Nat.gcd_le_left _ h0)
  · simp

end Go.Proofs.YtcmhpdhcpkhejaaDoor
