/- What the functions on signed numbers answer, in plain numbers. -/
import Derived.Test.YtcmhpdhcpkhejaaDoorBigA
namespace Go.Proofs.YtcmhpdhcpkhejaaDoor
open Go.RowKit Lm

open Classical in
noncomputable def zaddV (s : Bool) (xs : List Int) (t : Bool) (ys : List Int) : Int := if OkG s xs ∧ OkG t ys then fitZ (zv s xs + zv t ys) else 0
open Classical in
noncomputable def zsubV (s : Bool) (xs : List Int) (t : Bool) (ys : List Int) : Int := if OkG s xs ∧ OkG t ys then fitZ (zv s xs - zv t ys) else 0
open Classical in
noncomputable def zmulV (s : Bool) (xs : List Int) (t : Bool) (ys : List Int) : Int := if OkG s xs ∧ OkG t ys then fitZ (zv s xs * zv t ys) else 0
open Classical in
noncomputable def zcmpV (s : Bool) (xs : List Int) (t : Bool) (ys : List Int) : Int := if OkG s xs ∧ OkG t ys then cmp3 (zv s xs) (zv t ys) else 0
open Classical in
noncomputable def znegV (s : Bool) (xs : List Int) : Int := if OkG s xs then -(zv s xs) else 0
open Classical in
noncomputable def okGB (s : Bool) (xs : List Int) : Bool := decide (OkG s xs)

theorem limbs_len0 : (limbs (0 : Int).natAbs).length ≤ 1000 := by rw [show (0 : Int).natAbs = 0 from rfl, limbs_zero]; simp
theorem fitZ_len2 (z : Int) : (limbs (fitZ z).natAbs).length ≤ 1000 := Nat.le_trans (fitZ_len z) (by omega)
theorem zaddV_len (s : Bool) (xs : List Int) (t : Bool) (ys : List Int) : (limbs (zaddV s xs t ys).natAbs).length ≤ 1000 := by
  unfold zaddV; split
  · exact fitZ_len2 _
  · exact limbs_len0
theorem zsubV_len (s : Bool) (xs : List Int) (t : Bool) (ys : List Int) : (limbs (zsubV s xs t ys).natAbs).length ≤ 1000 := by
  unfold zsubV; split
  · exact fitZ_len2 _
  · exact limbs_len0
theorem zmulV_len (s : Bool) (xs : List Int) (t : Bool) (ys : List Int) : (limbs (zmulV s xs t ys).natAbs).length ≤ 1000 := by
  unfold zmulV; split
  · exact fitZ_len2 _
  · exact limbs_len0
theorem znegV_len (s : Bool) (xs : List Int) : (limbs (znegV s xs).natAbs).length ≤ 1000 := by
  unfold znegV; split
  · next h =>
    obtain ⟨x, rfl, rfl, hl1, e1⟩ := okG_z h
    rw [e1, Int.natAbs_neg]; omega
  · exact limbs_len0
theorem cmp3_lt {a b : Int} (h : a < b) : cmp3 a b = -1 := by
  rcases cmp3_cases a b with ⟨h1, e⟩ | ⟨h1, e⟩ | ⟨h1, e⟩ <;> omega
theorem cmp3_gt {a b : Int} (h : b < a) : cmp3 a b = 1 := by
  rcases cmp3_cases a b with ⟨h1, e⟩ | ⟨h1, e⟩ | ⟨h1, e⟩ <;> omega
theorem cmp3_neg {x y : Int} (h1 : x < 0) (h2 : y < 0) : cmp3 (y.natAbs : Int) (x.natAbs : Int) = cmp3 x y := by
  rcases cmp3_cases (y.natAbs : Int) (x.natAbs : Int) with ⟨h3, e⟩ | ⟨h3, e⟩ | ⟨h3, e⟩ <;> rcases cmp3_cases x y with ⟨h4, e4⟩ | ⟨h4, e4⟩ | ⟨h4, e4⟩ <;> omega
theorem cmp3_pos {x y : Int} (h1 : 0 ≤ x) (h2 : 0 ≤ y) : cmp3 (x.natAbs : Int) (y.natAbs : Int) = cmp3 x y := by
  rcases cmp3_cases (x.natAbs : Int) (y.natAbs : Int) with ⟨h3, e⟩ | ⟨h3, e⟩ | ⟨h3, e⟩ <;> rcases cmp3_cases x y with ⟨h4, e4⟩ | ⟨h4, e4⟩ | ⟨h4, e4⟩ <;> omega

end Go.Proofs.YtcmhpdhcpkhejaaDoor
