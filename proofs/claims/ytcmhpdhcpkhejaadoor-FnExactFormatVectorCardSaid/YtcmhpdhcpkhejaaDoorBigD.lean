/- The program's signed numbers: BigIntOf, BigIntToInt, floor division. -/
import Derived.Test.YtcmhpdhcpkhejaaDoorBigC
namespace Go.Proofs.YtcmhpdhcpkhejaaDoor
open Go.RowKit Lm

theorem limbs_one : limbs 1 = [1] := by rw [limbs_small (by omega) (by omega)]; rfl
theorem own_one (w : World) : Own (w.alloc (.cells #[.int .i64 1] 3)) w.heap.size (.slice (some ⟨w.heap.size, 0, none⟩) 1 1) (limbs 1) := by
  rw [limbs_one]; exact Own.lit1 w 1

theorem limbs_len_le2 (n : Nat) (h : n ≤ 9223372036854775807) : (limbs n).length ≤ 1000 := by
  have := limbs_len_le (n := n) (k := 3)
  have h := this.2 (by simp only [pw]; omega)
  omega
theorem natOf_m (w : World) (m k : Int) (hm : m ≤ 9223372036854775807) (hk : Hid (k = m)) : Calls Tryd.prog 73 #[.int .i64 k] w (RetS w (limbs m.toNat)) := by
  rw [hk.out]; exact natOf_c w m hm

open Classical in
noncomputable def ztoIntN (s : Bool) (xs : List Int) : Int := if OkG s xs ∧ nv xs ≤ 9223372036854775807 then zv s xs else 0
open Classical in
noncomputable def ztoIntB (s : Bool) (xs : List Int) : Bool := decide (OkG s xs ∧ nv xs ≤ 9223372036854775807)
open Classical in
theorem ztoInt_no {s : Bool} {xs : List Int} (h : ¬ (OkG s xs ∧ nv xs ≤ 9223372036854775807)) : ztoIntN s xs = 0 ∧ ztoIntB s xs = false := ⟨if_neg h, decide_eq_false h⟩
open Classical in
theorem ztoInt_yes {s : Bool} {xs : List Int} (h : OkG s xs ∧ nv xs ≤ 9223372036854775807) : ztoIntN s xs = zv s xs ∧ ztoIntB s xs = true := ⟨if_pos h, decide_eq_true h⟩
theorem retGS_end {w w0 wk : World} {g : Nat} {s : Bool} {u v : Value} {xs ys : List Int} (BW : Below w.heap.size w w0) (hg : w.heap.size ≤ g) (hg0 : g < w0.heap.size) (B0 : Below w0.heap.size w0 wk) (ho : Own wk w0.heap.size u xs) (hv : Own wk w0.heap.size v ys) (ha : Apart u v) :
    RetGS w s xs ys (.returned (.tuple #[.agg #[.bool s, u], v])) ((wk.setCell ⟨g, 0, none⟩ (.bool s)).setCell ⟨g, 1, none⟩ u) :=
  ⟨u, v, rfl, ((ho.setBelow2 (a := ⟨g, 0, none⟩) hg0 _).setBelow2 (a := ⟨g, 1, none⟩) hg0 _).mono BW.size, ((hv.setBelow2 (a := ⟨g, 0, none⟩) hg0 _).setBelow2 (a := ⟨g, 1, none⟩) hg0 _).mono BW.size, ha, ((BW.trans (B0.mono BW.size)).setCell hg _).setCell hg _⟩
theorem apart_part {v u v0 : Value} (h : Apart v0 u) (hv : v.ownBlock = none ∨ v.ownBlock = v0.ownBlock) : Apart v u := by
  intro k hk hu
  rcases hv with hv | hv
  · rw [hv] at hk; cases hk
  · exact h k (hv ▸ hk) hu

theorem natDiv_r (w : World) (b1 b2 : Nat) (v1 v2 : Value) (a b r : Nat) (h1 : Own w b1 v1 (limbs a)) (h2 : Own w b2 v2 (limbs b)) (hs1 : (limbs a).length ≤ 1000) (hb : 0 < b) (hr : Hid (r = a % b)) :
    Calls Tryd.prog 50 #[v1, v2] w (RetSS w (limbs (a / b)) (limbs r)) := by
  rw [hr.out]; exact natDiv_c w b1 b2 v1 v2 a b h1 h2 hs1 hb

theorem ediv_neg_aux {n m q r : Nat} (hm : 0 < m) (h : n = m * q + r) (hr : r < m) : -(n : Int) / (m : Int) = -(q : Int) - (if r = 0 then 0 else 1) := by
  have h1 : (n : Int) = m * q + r := by exact_mod_cast h
  split
  · next h0 =>
    subst h0
    have : -(n : Int) = m * (-(q : Int)) := by rw [h1, Int.mul_neg]; simp
    rw [this, Int.mul_ediv_cancel_left _ (by omega)]; omega
  · next h0 =>
    have : -(n : Int) = (m - r : Int) + m * (-(q : Int) - 1) := by rw [h1, Int.mul_sub, Int.mul_neg]; omega
    rw [this, Int.add_mul_ediv_left _ _ (by omega), Int.ediv_eq_zero_of_lt (by omega) (by omega)]; omega
theorem ediv_natAbs_neg {x : Int} {m : Nat} (hx : x < 0) (hm : 0 < m) : x / (m : Int) = -((x.natAbs / m : Nat) : Int) - (if x.natAbs % m = 0 then 0 else 1) := by
  have h := ediv_neg_aux (n := x.natAbs) (q := x.natAbs / m) (r := x.natAbs % m) hm (Nat.div_add_mod _ _).symm (Nat.mod_lt _ hm)
  rwa [show -(x.natAbs : Int) = x by omega] at h
theorem natAbs_div {x : Int} {m q r : Nat} (hm : 0 < m) (hq : q = x.natAbs / m) (hr : r = x.natAbs % m) (hx : x < 0) : 0 < q ∨ 0 < r := by
  rcases Nat.eq_zero_or_pos q with h | h
  · right
    rw [hr]
    rw [hq, Nat.div_eq_zero_iff] at h
    rw [Nat.mod_eq_of_lt (by omega)]; omega
  · exact .inl h
theorem floor_pos_q {x z : Int} {m : Nat} (hx : 0 ≤ x) (_hm : 0 < m) (hz : z = x / (m : Int)) : x.natAbs / m = z.natAbs := by
  obtain ⟨n, rfl⟩ : ∃ n : Nat, x = n := ⟨x.natAbs, by omega⟩
  rw [hz, Int.natAbs_natCast, ← Int.natCast_ediv, Int.natAbs_natCast]
theorem floor_pos_s {x z : Int} {m : Nat} (hx : 0 ≤ x) (_hm : 0 < m) (hz : z = x / (m : Int)) (_h : z ≠ 0) : false = ng z := by
  obtain ⟨n, rfl⟩ : ∃ n : Nat, x = n := ⟨x.natAbs, by omega⟩
  rw [hz, ← Int.natCast_ediv, ng_nat]
theorem floor_neg_s {x z : Int} {m : Nat} (hx : x < 0) (hm : 0 < m) (hz : z = x / (m : Int)) (h0 : z ≠ 0) : true = ng z := by
  rw [ediv_natAbs_neg hx hm] at hz
  generalize x.natAbs / m = q at hz
  generalize x.natAbs % m = r at hz
  refine (ng_neg ?_).symm
  split at hz <;> omega
theorem floor_zero_q {x z : Int} {m : Nat} (hx : x < 0) (hm : 0 < m) (hz : z = x / (m : Int)) (h0 : x.natAbs % m = 0) : x.natAbs / m = z.natAbs := by
  rw [ediv_natAbs_neg hx hm, if_pos h0] at hz
  generalize x.natAbs / m = q at *
  omega
theorem floor_rest_q {x z : Int} {m r : Nat} (hx : x < 0) (hm : 0 < m) (hz : z = x / (m : Int)) (hr : r = x.natAbs % m) (h0 : 0 < r) : x.natAbs / m + 1 = z.natAbs := by
  rw [ediv_natAbs_neg hx hm, if_neg (by omega)] at hz
  generalize x.natAbs / m = q at *
  omega
/-- The rest of the floor division. -/
def flR (x : Int) (m : Nat) : Nat := (x % (m : Int)).toNat
theorem flR_pos {x : Int} {m : Nat} (hx : 0 ≤ x) : flR x m = x.natAbs % m := by
  obtain ⟨n, rfl⟩ : ∃ n : Nat, x = n := ⟨x.natAbs, by omega⟩
  unfold flR
  rw [Int.natAbs_natCast, ← Int.natCast_emod]; omega
theorem flR_neg {x : Int} {m : Nat} (hx : x < 0) (hm : 0 < m) : flR x m = if x.natAbs % m = 0 then 0 else m - x.natAbs % m := by
  unfold flR
  have h := ediv_natAbs_neg hx hm
  have h1 := Int.mul_ediv_add_emod x m
  have h2 : (x.natAbs : Int) = m * (x.natAbs / m : Nat) + (x.natAbs % m : Nat) := by exact_mod_cast (Nat.div_add_mod x.natAbs m).symm
  have h3 : (x.natAbs % m : Nat) < m := Nat.mod_lt _ hm
  rw [h] at h1
  generalize x.natAbs / m = q at *
  generalize x.natAbs % m = r at *
  split
  · next h0 => rw [if_pos h0, Int.sub_zero, Int.mul_neg] at h1; omega
  · next h0 => rw [if_neg h0, Int.mul_sub, Int.mul_neg] at h1; omega

theorem retZS_nil {w w' : World} {e : Ending} (h : RetGS w false [] [] e w') : RetZS w 0 0 e w' := h

theorem retGS_alloc {w w' : World} {s : Bool} {xs ys : List Int} {e : Ending} (h : RetGS w s xs ys e w') (o : Obj) : RetGS w s xs ys e (w'.alloc o) := by
  obtain ⟨v, u, rfl, h1, h2, h3, h4⟩ := h
  exact ⟨v, u, rfl, h1.alloc _, h2.alloc _, h3, h4.alloc h4.size _⟩
theorem set_two {w : World} {g : Nat} {a b x y : Value} (h0 : w.cell? ⟨g, 0, none⟩ = some x) (h1 : w.cell? ⟨g, 1, none⟩ = some y) :
    ((w.setCell ⟨g, 0, none⟩ a).setCell ⟨g, 1, none⟩ b).cell? ⟨g, 0, none⟩ = some a ∧ ((w.setCell ⟨g, 0, none⟩ a).setCell ⟨g, 1, none⟩ b).cell? ⟨g, 1, none⟩ = some b := by
  simp [go_sem, h0, h1]
theorem floor_le {x : Int} {m : Nat} (hm : 0 < m) : (x / (m : Int)).natAbs ≤ x.natAbs := by
  rcases ng_cases x with ⟨h3, -⟩ | ⟨h3, -⟩
  · have h := ediv_natAbs_neg h3 hm
    have h1 := Nat.div_add_mod x.natAbs m
    have h2 : x.natAbs / m ≤ m * (x.natAbs / m) := Nat.le_mul_of_pos_left _ hm
    generalize x.natAbs / m = q at *
    generalize x.natAbs % m = r at *
    split at h <;> omega
  · have h := floor_pos_q h3 hm (z := x / (m : Int)) rfl
    rw [← h]; exact Nat.div_le_self _ _
theorem floor_len {x : Int} {m : Nat} (hl : (limbs x.natAbs).length ≤ 60) (hm : 0 < m) : (limbs (x / (m : Int)).natAbs).length ≤ 60 := Nat.le_trans (limbs_len_mono (floor_le hm)) hl
theorem flR_lt {x : Int} {m : Nat} (hm : 0 < m) : flR x m < m := by
  unfold flR
  have h1 := Int.emod_nonneg x (b := (m : Int)) (by omega)
  have h2 := Int.emod_lt_of_pos x (b := (m : Int)) (by omega)
  omega

open Classical in
noncomputable def fdivQ (s : Bool) (xs ys : List Int) : Int := if OkG s xs ∧ OkP ys ∧ ys ≠ [] then zv s xs / nv ys else 0
open Classical in
noncomputable def fdivR (s : Bool) (xs ys : List Int) : Nat := if OkG s xs ∧ OkP ys ∧ ys ≠ [] then flR (zv s xs) (nv ys).toNat else 0
theorem fdiv_no {s : Bool} {xs ys : List Int} (h : ¬ (OkG s xs ∧ OkP ys ∧ ys ≠ [])) : fdivQ s xs ys = 0 ∧ fdivR s xs ys = 0 := ⟨if_neg h, if_neg h⟩
theorem fdiv_yes {s : Bool} {xs ys : List Int} (h : OkG s xs ∧ OkP ys ∧ ys ≠ []) : fdivQ s xs ys = zv s xs / nv ys ∧ fdivR s xs ys = flR (zv s xs) (nv ys).toNat := ⟨if_pos h, if_pos h⟩
/-- The four cases. -/
theorem fdiv_cases (s : Bool) (xs ys : List Int) : (¬ OkG s xs ∧ fdivQ s xs ys = 0 ∧ fdivR s xs ys = 0) ∨ (OkG s xs ∧ ¬ OkP ys ∧ fdivQ s xs ys = 0 ∧ fdivR s xs ys = 0) ∨ (OkG s xs ∧ OkP ys ∧ ys = [] ∧ fdivQ s xs ys = 0 ∧ fdivR s xs ys = 0) ∨
    (∃ (x : Int) (m : Nat), s = ng x ∧ xs = limbs x.natAbs ∧ ys = limbs m ∧ (limbs x.natAbs).length ≤ 60 ∧ (limbs m).length ≤ 60 ∧ 0 < m ∧ fdivQ s xs ys = x / (m : Int) ∧ fdivR s xs ys = flR x m) := by
  by_cases hx : OkG s xs
  · by_cases hy : OkP ys
    · by_cases h0 : ys = []
      · exact .inr (.inr (.inl ⟨hx, hy, h0, fdiv_no fun h => h.2.2 h0⟩))
      · obtain ⟨e1, e2⟩ := fdiv_yes ⟨hx, hy, h0⟩
        rw [e1, e2]
        obtain ⟨x, rfl, rfl, hl1, e3⟩ := okG_z hx
        obtain ⟨m, rfl, hl2⟩ := ok_limbs hy
        rw [e3, nv_toNat, nv_limbs]
        refine .inr (.inr (.inr ⟨x, m, rfl, rfl, rfl, hl1, hl2, ?_, rfl, rfl⟩))
        rcases Nat.eq_zero_or_pos m with h | h
        · subst h; exact absurd limbs_zero h0
        · exact h
    · exact .inr (.inl ⟨hx, hy, fdiv_no fun h => hy h.2.1⟩)
  · exact .inl ⟨hx, fdiv_no fun h => hx h.1⟩
theorem fdivQ_len (s : Bool) (xs ys : List Int) : (limbs (fdivQ s xs ys).natAbs).length ≤ 1000 := by
  rcases fdiv_cases s xs ys with ⟨_, e1, _⟩ | ⟨_, _, e1, _⟩ | ⟨_, _, _, e1, _⟩ | ⟨x, m, rfl, rfl, rfl, hl1, hl2, hm, e1, e2⟩ <;> rw [e1]
  · exact limbs_len0
  · exact limbs_len0
  · exact limbs_len0
  · exact Nat.le_trans (floor_len hl1 hm) (by omega)
theorem fdivR_len (s : Bool) (xs ys : List Int) : (limbs (fdivR s xs ys)).length ≤ 1000 := by
  rcases fdiv_cases s xs ys with ⟨_, _, e1⟩ | ⟨_, _, _, e1⟩ | ⟨_, _, _, _, e1⟩ | ⟨x, m, rfl, rfl, rfl, hl1, hl2, hm, e1, e2⟩
  · rw [e1]; exact limbs_len0
  · rw [e1]; exact limbs_len0
  · rw [e1]; exact limbs_len0
  · rw [e2]; exact Nat.le_trans (limbs_len_mono (Nat.le_of_lt (flR_lt hm))) (by omega)

end Go.Proofs.YtcmhpdhcpkhejaaDoor
