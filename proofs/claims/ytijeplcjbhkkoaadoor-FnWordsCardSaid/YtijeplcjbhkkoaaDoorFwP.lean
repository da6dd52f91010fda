/- The texts' functions, as the law on words calls them. -/
import Derived.Test.YtijeplcjbhkkoaaDoorParI
import Derived.Test.YtijeplcjbhkkoaaDoorJoin
import Derived.Test.YtijeplcjbhkkoaaDoorLines
import Derived.Test.YtijeplcjbhkkoaaDoorName
namespace Go.Proofs.YtijeplcjbhkkoaaDoor
open Go.RowKit Tx Go.Lib

/-- A blank. -/
def spc : ByteArray := { data := #[32] }
theorem isIn_spc (c : UInt8) : isIn spc c = (c == 32) := by
  unfold isIn spc
  show [32].contains c = _
  rw [Bool.eq_iff_iff]
  simp
theorem map_bsl (l : List (List UInt8)) : (l.map bs).map (·.data.toList) = l := by
  rw [List.map_map]
  have e : (fun x : ByteArray => x.data.toList) ∘ bs = id := by funext x; exact bs_data x
  rw [e, List.map_id]
theorem join_pcs (s : ByteArray) : joinB (pcs s spc) spc = s := by
  unfold joinB pcs
  rw [map_bsl]
  have e : isIn spc = (· == 32) := by funext c; exact isIn_spc c
  rw [e]
  have := join_spl 32 s.data.toList []
  show bs (Lib.join (spl (· == 32) [] s.data.toList) [32]) = s
  rw [this, List.nil_append, bs_list]
theorem lens_pcs (s : ByteArray) : lensB (pcs s spc) ≤ s.size := by
  have h := congrArg ByteArray.size (join_pcs s)
  have hp : 0 < (pcs s spc).length := pcs_pos s spc
  unfold joinB at h
  rw [bs_size] at h
  unfold lensB
  cases hl : (pcs s spc).map (·.data.toList) with
  | nil =>
    have h2 := congrArg List.length hl
    rw [List.length_map, List.length_nil] at h2
    omega
  | cons x r =>
    rw [hl, join_length] at h
    omega
theorem parse_i (w : World) (n : Int) (h0 : -9223372036854775808 ≤ n) (h1 : n ≤ 9223372036854775807) (t : ByteArray) (hT : t = bs (itoa n)) (ht : Tabs w) (_he : Errs w) : Calls Tryd.prog 6 #[.string t] w (RetIB w n true) := by
  have hi : IsI t.data.toList n := ⟨h0, h1, by rw [hT, bs_data]⟩
  have hs : t.size ≤ 1048576 := by
    rw [hT, bs_size]
    have := itoa_size n h0 h1
    omega
  exact parseInt_yes w t hs ht n hi
theorem split_w (w : World) (s : ByteArray) (xs : List ByteArray) (hx : Hid (xs = pcs s spc)) (hl : s.size ≤ 14) : Calls Tryd.prog 10 #[.string s, .string { data := #[32] }] w (RetLS w xs) :=
  splitAny_c w s spc xs hx (by omega)
theorem join_w (w : World) (b : Nat) (v : Value) (s : ByteArray) (xs : List ByteArray) (hx : xs = pcs s spc) (hl : s.size ≤ 14) (ho : OwnS w b v xs) : Calls Tryd.prog 9 #[v, .string { data := #[32] }] w (RetT w s) := by
  have h1 := pcs_len s spc
  have h2 := lens_pcs s
  subst hx
  exact Join_c w b v _ spc s ho (join_pcs s).symm (by omega) (by have e : spc.size = 1 := rfl; omega) (by omega)
theorem name_w (w : World) : Calls Tryd.prog 11 #[.string { data := #[120, 49] }] w (RetB w true) := by
  refine isName_c w _ true (namB_t ?_).symm (by decide)
  refine ⟨by decide, by decide, fun _ => ?_, ?_⟩
  · show 97 ≤ (((120 : UInt8).toNat : Nat) : Int) ∧ (((120 : UInt8).toNat : Nat) : Int) ≤ 122
    decide
  · intro i hi
    have h2 : i < 2 := hi
    match i, h2 with
    | 0, _ => exact .inl (show 97 ≤ (((120 : UInt8).toNat : Nat) : Int) ∧ (((120 : UInt8).toNat : Nat) : Int) ≤ 122 by decide)
    | 1, _ => exact .inr (show 48 ≤ (((49 : UInt8).toNat : Nat) : Int) ∧ (((49 : UInt8).toNat : Nat) : Int) ≤ 57 by decide)
theorem lines_w (w : World) : Calls Tryd.prog 12 #[.string { data := #[97, 10, 98, 10] }] w (RetLS w [{ data := #[97] }, { data := #[98] }]) :=
  splitLines_c w _ _ (by
    have e : pcs { data := #[97, 10, 98, 10] } nl = [{ data := #[97] }, { data := #[98] }, { data := #[] }] := by rfl
    unfold Hid lns
    rw [e, isEmpty_size]
    rfl) (by decide)

end Go.Proofs.YtijeplcjbhkkoaaDoor
