/- Merged texts. -/
import Derived.Test.YtijeplcjbhkkoaaDoorNatG
import Derived.Deep.LoopGhost

/- The reference's functions on natural numbers: l02Cmp, l02Trim, l02Cap, NatOf, l02Sub, l02Small. -/
namespace Go.Proofs.YtijeplcjbhkkoaaDoor
open Go.RowKit Lm

set_option maxHeartbeats 400000 in
theorem l02Trim_c (w : World) (b1 : Nat) (v1 : Value) (xs : List Int) (n : Nat) (h1 : Own w b1 v1 xs) (hx : InR xs) (hn : nv xs = n) :
    Calls Tryd.prog 31 #[v1] w (RetV w b1 v1 (limbs n)) := by
  obtain ⟨a1, c1, rfl, f1, f2, f3, f4, f5⟩ := h1.form
  unfold maxLen at f1 f3
  have H1 := Lib.hid h1; have HX := Lib.hid hx; have HN := Lib.hid hn
  clear h1 hx hn f4 f5
  go_enter Tryd.func31, Tryd.ntmps31
  go_wp2
  go_loopw [3] (fun i wr => ∃ K : Nat, K ≤ xs.length ∧ i = .int .i64 K ∧ Hid (∀ j, K ≤ j → lat xs j = 0) ∧ wr = w) (fun i _ => (intOf i).toNat)
  case atStart => exact ⟨xs.length, Nat.le_refl _, rfl, fun j hj => lat_ge hj, rfl⟩
  case round =>
    obtain ⟨K, hK, rfl, HE, rfl⟩ := hrel
    by_cases h0 : 0 < K
    · obtain ⟨i, rfl⟩ : ∃ i, K = i + 1 := ⟨K - 1, by omega⟩
      have hi : i < xs.length := by omega
      obtain ⟨g, rfl, -, -⟩ := H1.out.addr hi
      have k1 := H1.out.cell i hi
      have t1 : (i : Int) < xs.length := by omega
      go_wp2
      · have hz : lat xs i = 0 := by simpa using (by assumption : (lat xs i == 0) = true)
        go_round
        case rel => exact ⟨i, by omega, by go_num, (fun j hj => by
          by_cases hji : j = i
          · rw [hji]; exact hz
          · exact HE.out j (by omega) : ∀ j, i ≤ j → lat xs j = 0), (by first | rfl | trivial)⟩
        case measure => (simp [intOf]) <;> omega
      · have hz : lat xs i ≠ 0 := by simpa using (by assumption : (lat xs i == 0) = false)
        go_ret
        exact retV (H1.out.cut (k := i + 1) (by omega)) (Norm.limbs ⟨HX.out.take _, .inr (by rw [List.length_take, Nat.min_eq_left (by omega), Nat.add_sub_cancel, lat_take (by omega)]; exact hz)⟩ (by rw [nv_take_zeros _ _ (by omega) HE.out]; exact HN.out)) (Or.inr rfl) (Below.refl _ _)
    · obtain rfl : K = 0 := by omega
      go_wp2
      go_ret
      exact retV (H1.out.cut (k := 0) (by omega)) (Norm.limbs (by simp [Norm.nil]) (by rw [nv_take_zeros _ _ (by omega) HE.out]; exact HN.out)) (Or.inr (by cases a1 <;> rfl)) (Below.refl _ _)

end Go.Proofs.YtijeplcjbhkkoaaDoor

/- The reference's functions on natural numbers: l02Mul, l02Small, l02Sub, l02Add. -/
namespace Go.Proofs.YtijeplcjbhkkoaaDoor
open Go.RowKit Lm

/-- A new slice and a number. -/
def RetSI (w : World) (xs : List Int) (n : Int) (e : Ending) (w' : World) : Prop := ∃ v, e = .returned (.tuple #[v, .int .i64 n]) ∧ Own w' w.heap.size v xs ∧ Below w.heap.size w w'
theorem retSI {w w' : World} {v : Value} {xs ys : List Int} {n m : Int} (h : Own w' w.heap.size v ys) (e : ys = xs) (e2 : m = n) (hb : Below w.heap.size w w') : RetSI w xs n (.returned (.tuple #[v, .int .i64 m])) w' := ⟨v, by rw [e2], e ▸ h, hb⟩

end Go.Proofs.YtijeplcjbhkkoaaDoor

/- The reference's functions on natural numbers: l02Sub, l02Add, l02Plain. -/
namespace Go.Proofs.YtijeplcjbhkkoaaDoor
open Go.RowKit Lm

end Go.Proofs.YtijeplcjbhkkoaaDoor

/- The reference's functions on natural numbers: l02Add. -/
namespace Go.Proofs.YtijeplcjbhkkoaaDoor
open Go.RowKit Lm

/-- A new slice of limbs in range, perhaps with zero limbs at its end, that stands for n. -/
def RetO (w : World) (n m : Nat) (e : Ending) (w' : World) : Prop := ∃ v o, e = .returned v ∧ Own w' w.heap.size v o ∧ InR o ∧ nv o = n ∧ o.length ≤ m ∧ Below w.heap.size w w'
theorem retO {w w' : World} {v : Value} {o : List Int} {n m : Nat} (h : Own w' w.heap.size v o) (hi : InR o) (hn : nv o = n) (hl : o.length ≤ m) (hb : Below w.heap.size w w') : RetO w n m (.returned v) w' := ⟨v, o, rfl, h, hi, hn, hl, hb⟩

end Go.Proofs.YtijeplcjbhkkoaaDoor

/- The reference's functions on natural numbers: l02Digit. -/
namespace Go.Proofs.YtijeplcjbhkkoaaDoor
open Go.RowKit Lm

end Go.Proofs.YtijeplcjbhkkoaaDoor

/- The reference's functions on natural numbers: l02Div. -/
namespace Go.Proofs.YtijeplcjbhkkoaaDoor
open Go.RowKit Lm

theorem Own.setBelow {w : World} {base : Nat} {v : Value} {xs : List Int} (h : Own w base v xs) {a : Addr} (ha : a.block < base) (u : Value) : Own (w.setCell a u) base v xs := ownsRow_setCell_below h ha u

end Go.Proofs.YtijeplcjbhkkoaaDoor
