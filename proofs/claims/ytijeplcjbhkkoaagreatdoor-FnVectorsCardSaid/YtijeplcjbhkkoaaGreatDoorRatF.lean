/- What the law on fractions says of its numbers; a fraction read back from its text. -/
import Derived.Test.YtijeplcjbhkkoaaGreatDoorRatP
import Derived.Test.YtijeplcjbhkkoaaGreatDoorRatJ
import Derived.Test.YtijeplcjbhkkoaaGreatDoorTxtB
import Derived.Test.YtijeplcjbhkkoaaGreatDoorParR
namespace Go.Proofs.YtijeplcjbhkkoaaGreatDoor
open Go.RowKit Tx Go.Lib Lm

theorem Sz.up {j k : Nat} {z : Int} {d : Nat} (h : Sz j z d) (hjk : j ≤ k) : Sz k z d := ⟨h.1, Int.lt_of_lt_of_le h.2.1 (pw_mono hjk), Int.lt_of_lt_of_le h.2.2 (pw_mono hjk)⟩
theorem fr_field {x y z : Int} {d f e : Nat} (h : Sz 1 x d) (g : Sz 1 y f) (k : Sz 1 z e) :
    ∃ (zs : Int) (ds : Nat) (zx : Int) (dx : Nat) (zp : Int) (dp : Nat) (zr : Int) (dr : Nat), (zs = (qadd y f z e).1 ∧ ds = (qadd y f z e).2 ∧ IsQ zs ds) ∧ (zx = (qmul x d zs ds).1 ∧ dx = (qmul x d zs ds).2 ∧ IsQ zx dx) ∧
      (zp = (qmul x d y f).1 ∧ dp = (qmul x d y f).2 ∧ IsQ zp dp) ∧ (zr = (qmul x d z e).1 ∧ dr = (qmul x d z e).2 ∧ IsQ zr dr) ∧ zx = (qadd zp dp zr dr).1 ∧ dx = (qadd zp dp zr dr).2 := by
  obtain ⟨s1, s2⟩ := add_sz g k (by omega)
  obtain ⟨x1, x2⟩ := mul_sz h s1 (by omega)
  obtain ⟨p1, p2⟩ := mul_sz h g (by omega)
  obtain ⟨r1, r2⟩ := mul_sz h k (by omega)
  obtain ⟨y1, y2⟩ := add_sz p1 r1 (by omega)
  have := isQ_inj x1.1 y1.1 (by rw [x2, s2, y2, p2, r2]; grind)
  exact ⟨_, _, _, _, _, _, _, _, ⟨rfl, rfl, s1.1⟩, ⟨rfl, rfl, x1.1⟩, ⟨rfl, rfl, p1.1⟩, ⟨rfl, rfl, r1.1⟩, this.1, this.2⟩
theorem fr_sub {x y : Int} {d f : Nat} (h : Sz 1 x d) (g : Sz 1 y f) : ∃ (zu : Int) (du : Nat), zu = (qsub x d y f).1 ∧ du = (qsub x d y f).2 ∧ IsQ zu du ∧ sgn3 zu = qcmp x d y f :=
  ⟨_, _, rfl, rfl, (sub_sz h g (by omega)).1.1, sub_sign h g (by omega)⟩
theorem fr_div {x y : Int} {d f : Nat} (h : Sz 1 x d) (g : Sz 1 y f) (hy : y ≠ 0) : ∃ (zu : Int) (du : Nat), zu = (qdiv x d y f).1 ∧ du = (qdiv x d y f).2 ∧ IsQ zu du ∧ x = (qmul zu du y f).1 ∧ d = (qmul zu du y f).2 := by
  obtain ⟨s1, s2⟩ := div_sz h g hy (by omega)
  obtain ⟨m1, m2⟩ := mul_sz s1 g (by omega)
  have := isQ_inj h.1 m1.1 (by rw [m2, s2])
  exact ⟨_, _, rfl, rfl, s1.1, this.1, this.2⟩
theorem RatEqual_s (w : World) (b1 e1 : Nat) (s : Bool) (v1 u1 : Value) (xs ys : List Int) (h1 : Own w b1 v1 xs) (k1 : Own w e1 u1 ys) (b2 e2 : Nat) (v2 u2 : Value) (h2 : Own w b2 v2 xs) (k2 : Own w e2 u2 ys) :
    Calls Tryz.prog 10 #[.agg #[.bool s, v1, u1], .agg #[.bool s, v2, u2]] w (RetB w true) := by
  have := RatEqual_c w b1 e1 s v1 u1 xs ys h1 k1 b2 e2 s v2 u2 xs ys h2 k2
  rwa [show reqB s xs ys s xs ys = true by simp [reqB]] at this
theorem fmtR_sizeM {s : Bool} {xs ys : List Int} (h : OkR s xs ys) : (bs (fmtR s xs ys)).size ≤ 1048576 := by
  have h1 := fmtZ_len (s := s) h.1.1
  have h2 := fmtN_len (l := ys) h.2.1.2 h.2.1.1
  show (fmtR s xs ys).toArray.size ≤ 1048576
  unfold fmtR
  split
  · simp; omega
  · simp; omega
theorem ParseRat_b (w : World) (s : ByteArray) (x : Int) (d : Nat) (hq : IsQ x d) (e : s = bs (fmtR (ng x) (limbs x.natAbs) (limbs d))) (ht : Tabs w) (hs : Shp w) :
    Calls Tryz.prog 8 #[.string s] w (RetRB w (ng x) (limbs x.natAbs) (limbs d) true) := by
  have hk := okR_of hq
  obtain ⟨p1, p2, p3, p4⟩ := pR_fmtR hk
  have := ParseRat_c w s (by rw [e]; exact fmtR_sizeM hk) ht hs
  rw [e, p1, p2, p3, p4] at this
  rw [e]
  exact this
theorem FormatRat_b (w : World) (b1 e1 : Nat) (v1 u1 : Value) (x : Int) (d : Nat) (h1 : Own w b1 v1 (limbs x.natAbs)) (k1 : Own w e1 u1 (limbs d)) (hq : IsQ x d) (ht : Tabs w) (s : ByteArray) (e : s = bs (fmtR (ng x) (limbs x.natAbs) (limbs d))) :
    Calls Tryz.prog 9 #[.agg #[.bool (ng x), v1, u1]] w (RetT w s) := FormatRat_y w b1 e1 (ng x) v1 u1 _ _ h1 k1 (okR_of hq) ht s e

end Go.Proofs.YtijeplcjbhkkoaaGreatDoor
