/- The vectors' functions, as the law on vectors calls them. -/
import Derived.Test.YtijeplcjbhkkoaaGreatDoorFvP
namespace Go.Proofs.YtijeplcjbhkkoaaGreatDoor
open Go.RowKit Tx Go.Lib Lm

theorem RetVB.congr {w w' : World} {n m : Nat} {R R' : Nat → Rc} {b c : Bool} {e : Ending} (h : RetVB w n R b e w') (hn : n = m) (hc : b = c) (he : ∀ i, i < m → R i = R' i) : RetVB w m R' c e w' := by
  subst hn; subst hc
  obtain ⟨v, rfl, hv, hb⟩ := h
  exact ⟨v, rfl, hv.congr he, hb⟩
theorem okV3 {Z : Nat → Int} {D : Nat → Nat} (h : ∀ j, j < 3 → IsQ (Z j) (D j)) : OkV 3 (fun j => qv (Z j) (D j)) := ⟨by omega, fun j hj => okRc_of (h j hj)⟩
theorem scale_k (w : World) {lo hi : Nat} (b e : Nat) (vr ur v2 : Value) (r : Int) (q : Nat) (X Z : Nat → Int) (Y D : Nat → Nat) (o1 : Own w b vr (limbs r.natAbs)) (o2 : Own w e ur (limbs q)) (h2 : Vec w lo hi v2 3 (fun i => qv (X i) (Y i))) (hr : IsQ r q) (hx : ∀ i, i < 3 → IsQ (X i) (Y i))
    (hz : ∀ i, i < 3 → (Z i = (qmul (X i) (Y i) r q).1 ∧ D i = (qmul (X i) (Y i) r q).2) ∧ IsQ (Z i) (D i)) :
    Calls Tryz.prog 17 #[.agg #[.bool (ng r), vr, ur], v2] w (RetVB w 3 (fun i => qv (Z i) (D i)) true) :=
  ScaleVector_good w b e vr ur v2 r q 3 X Z Y D o1 o2 h2 hr hx (by omega) (fun i hi => (hz i hi).1) true (fineB_t fun i hi => (hz i hi).2.1).symm
theorem vop_qv (op : Int → Nat → Int → Nat → Int × Nat) (X S : Nat → Int) (Y T : Nat → Nat) (i : Nat) : vop op (fun i => qv (X i) (Y i)) (fun i => qv (S i) (T i)) i = op (X i) (Y i) (S i) (T i) := by
  unfold vop
  simp only [numR_qv, denR_qv]
theorem v2_k {op : Int → Nat → Int → Nat → Int × Nat} {w w' : World} {e : Ending} {X S Z : Nat → Int} {Y T D : Nat → Nat} (hx : ∀ i, i < 3 → IsQ (X i) (Y i)) (hy : ∀ i, i < 3 → IsQ (S i) (T i)) (hz : ∀ i, i < 3 → Z i = (op (X i) (Y i) (S i) (T i)).1 ∧ D i = (op (X i) (Y i) (S i) (T i)).2) (hd : ∀ i, i < 3 → 0 < D i)
    (h : RetVB w (v2N op 3 (fun i => qv (X i) (Y i)) 3 (fun i => qv (S i) (T i))) (v2R op (fun i => qv (X i) (Y i)) (fun i => qv (S i) (T i))) (v2c op 3 (fun i => qv (X i) (Y i)) 3 (fun i => qv (S i) (T i))) e w') : RetVB w 3 (fun i => qv (Z i) (D i)) true e w' := by
  have hc : v2c op 3 (fun i => qv (X i) (Y i)) 3 (fun i => qv (S i) (T i)) = true := by
    rw [v2c_yes ⟨okV3 hx, okV3 hy, rfl⟩]
    exact fineB_t fun i hi => by rw [vop_qv, ← (hz i hi).2]; exact hd i hi
  refine h.congr (by unfold v2N; rw [hc]; rfl) hc fun i hi => ?_
  unfold v2R
  rw [vop_qv, ← (hz i hi).1, ← (hz i hi).2]
theorem add_k (w : World) {lo hi lo2 hi2 : Nat} (v1 v2 : Value) (X S Z : Nat → Int) (Y T D : Nat → Nat) (h1 : Vec w lo hi v1 3 (fun i => qv (X i) (Y i))) (h2 : Vec w lo2 hi2 v2 3 (fun i => qv (S i) (T i))) (hx : ∀ i, i < 3 → IsQ (X i) (Y i)) (hy : ∀ i, i < 3 → IsQ (S i) (T i))
    (hz : ∀ i, i < 3 → (Z i = (qadd (X i) (Y i) (S i) (T i)).1 ∧ D i = (qadd (X i) (Y i) (S i) (T i)).2) ∧ IsQ (Z i) (D i)) :
    Calls Tryz.prog 18 #[v1, v2] w (RetVB w 3 (fun i => qv (Z i) (D i)) true) :=
  (AddVectors_c w 3 _ 3 _ h1 h2).mono fun _ _ h => v2_k hx hy (fun i hi => (hz i hi).1) (fun i hi => (hz i hi).2.1) h
theorem sub_k (w : World) {lo hi lo2 hi2 : Nat} (v1 v2 : Value) (X S Z : Nat → Int) (Y T D : Nat → Nat) (h1 : Vec w lo hi v1 3 (fun i => qv (X i) (Y i))) (h2 : Vec w lo2 hi2 v2 3 (fun i => qv (S i) (T i))) (hx : ∀ i, i < 3 → IsQ (X i) (Y i)) (hy : ∀ i, i < 3 → IsQ (S i) (T i))
    (hz : ∀ i, i < 3 → Z i = (qsub (X i) (Y i) (S i) (T i)).1 ∧ D i = (qsub (X i) (Y i) (S i) (T i)).2) (hd : ∀ i, i < 3 → IsQ (Z i) (D i)) :
    Calls Tryz.prog 22 #[v1, v2] w (RetVB w 3 (fun i => qv (Z i) (D i)) true) :=
  (SubtractVectors_c w 3 _ 3 _ h1 h2).mono fun _ _ h => v2_k hx hy hz (fun i hi => (hd i hi).1) h
theorem inn_congr {X X' S S' : Nat → Int} {Y Y' T T' : Nat → Nat} (h : ∀ i, X i = X' i ∧ Y i = Y' i ∧ S i = S' i ∧ T i = T' i) (n : Nat) : inn X Y S T n = inn X' Y' S' T' n := by
  induction n with
  | zero => rfl
  | succ n ih =>
    obtain ⟨a, b, c, d⟩ := h n
    simp only [inn, ih, a, b, c, d]
theorem inner_k (w : World) {lo hi lo2 hi2 : Nat} (v1 v2 : Value) (X S : Nat → Int) (Y T : Nat → Nat) (h1 : Vec w lo hi v1 3 (fun i => qv (X i) (Y i))) (h2 : Vec w lo2 hi2 v2 3 (fun i => qv (S i) (T i))) (hx : ∀ i, i < 3 → IsQ (X i) (Y i)) (hy : ∀ i, i < 3 → IsQ (S i) (T i))
    (z : Int) (d : Nat) (hz : z = (inn X Y S T 3).1 ∧ d = (inn X Y S T 3).2) (hd : 0 < d) :
    Calls Tryz.prog 19 #[v1, v2] w (RetQB w z d true) := by
  have hq : ipQ 3 (fun i => qv (X i) (Y i)) 3 (fun i => qv (S i) (T i)) = (z, d) := by
    rw [ipQ_yes ⟨okV3 hx, okV3 hy, rfl⟩, inn_congr (X' := X) (Y' := Y) (S' := S) (T' := T) (fun i => ⟨numR_qv _ _, denR_qv _ _, numR_qv _ _, denR_qv _ _⟩), hz.1, hz.2]
  have h := InnerProduct_c w 3 _ 3 _ h1 h2
  unfold ipB at h
  rw [hq] at h
  rwa [show decide (0 < ((z, d) : Int × Nat).2) = true from decide_eq_true hd] at h
theorem format_k (w : World) {lo hi : Nat} (v1 : Value) (X : Nat → Int) (Y : Nat → Nat) (h1 : Vec w lo hi v1 3 (fun i => qv (X i) (Y i))) (ht : Tabs w) (t : ByteArray) (hT : t = fV 3 (fun i => qv (X i) (Y i))) :
    Calls Tryz.prog 21 #[v1] w (RetT w t) := by
  rw [hT]; exact FormatVector_c w 3 _ h1 ht
theorem parse_k (w : World) (X : Nat → Int) (Y : Nat → Nat) (hx : ∀ i, i < 3 → IsQ (X i) (Y i)) (ht : Tabs w) (hs : Shp w) (t : ByteArray) (hT : t = fV 3 (fun i => qv (X i) (Y i))) :
    Calls Tryz.prog 20 #[.string t] w (RetVB w 3 (fun i => qv (X i) (Y i)) true) := by
  obtain ⟨a, b, c⟩ := pv_back (by omega) (okV3 hx)
  have := ParseVector_c w t (by rw [hT]; exact fV_size (okV3 hx)) ht hs
  rw [hT] at this
  rw [hT]
  exact this.mono fun _ _ h => h.congr b a c
theorem isVector_k (w : World) {lo hi : Nat} (v1 : Value) (X : Nat → Int) (Y : Nat → Nat) (h1 : Vec w lo hi v1 3 (fun i => qv (X i) (Y i))) (hx : ∀ i, i < 3 → IsQ (X i) (Y i)) :
    Calls Tryz.prog 23 #[v1] w (RetB w true) := IsVector_t w 3 _ h1 (okV3 hx)
theorem equal_k (w : World) {lo hi lo2 hi2 : Nat} (v1 v2 : Value) (R : Nat → Rc) (h1 : Vec w lo hi v1 3 R) (h2 : Vec w lo2 hi2 v2 3 R) :
    Calls Tryz.prog 24 #[v1, v2] w (RetB w true) := by
  have h := EqualVectors_c w 3 R 3 R h1 h2
  rwa [eqVB_t fun i _ => reqR_iff.2 rfl] at h
theorem zero_k (w : World) : Calls Tryz.prog 25 #[.int .i64 3] w (RetVec w 3 (fun _ => qv 0 1)) := ZeroVector_n w 3 3 rfl
theorem unit_k (w : World) : Calls Tryz.prog 26 #[.int .i64 3, .int .i64 1] w (RetVec w 3 (uvR 1)) := by
  have h := UnitVector_c w 3 1
  rwa [show uvN 3 1 = 3 from rfl] at h

end Go.Proofs.YtijeplcjbhkkoaaGreatDoor
