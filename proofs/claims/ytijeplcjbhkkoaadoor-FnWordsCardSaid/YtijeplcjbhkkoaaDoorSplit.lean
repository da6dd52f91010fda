/- SplitAny: the program's and the reference's. -/
import Derived.Test.YtijeplcjbhkkoaaDoorLib
import Derived.Test.YtijeplcjbhkkoaaDoorPad
import Derived.Test.YtijeplcjbhkkoaaDoorMathG
import Derived.Lib.Strings
namespace Go.Proofs.YtijeplcjbhkkoaaDoor
open Go.RowKit Tx

/-- Is the byte one of these? -/
def isIn (t : ByteArray) (c : UInt8) : Bool := t.data.toList.contains c
/-- The pieces of a text. -/
def pcs (s t : ByteArray) : List ByteArray := (spl (isIn t) [] s.data.toList).map bs
/-- The pieces that are still to come: from is where the piece begun starts, i is how far the text is read. -/
def rest (s t : ByteArray) (f i : Nat) : List ByteArray := (spl (isIn t) ((s.data.toList.drop f).take (i - f)) (s.data.toList.drop i)).map bs
theorem cut_eq (s : ByteArray) (f i : Nat) : s.extract f i = bs ((s.data.toList.drop f).take (i - f)) := by
  apply ByteArray.ext
  rw [ByteArray.data_extract]
  apply Array.toList_inj.1
  rw [bs_data, Array.toList_extract]
theorem rest_start (s t : ByteArray) : rest s t 0 0 = pcs s t := by unfold rest pcs; simp
theorem rest_end (s t : ByteArray) (f : Nat) (_h : f ≤ s.size) : rest s t f s.size = [s.extract f s.size] := by
  unfold rest
  rw [cut_eq, size_list, List.drop_length]
  simp only [spl, List.map_cons, List.map_nil]
theorem byte_list (s : ByteArray) (i : Nat) (h : i < s.size) : ∃ h2 : i < s.data.toList.length, s.data.toList[i] = s[i] := ⟨by rw [← size_list]; exact h, rfl⟩
theorem rest_hit (s t : ByteArray) (f i : Nat) (h : i < s.size) (_hf : f ≤ i) (hc : isIn t s[i] = true) : rest s t f i = s.extract f i :: rest s t (i + 1) (i + 1) := by
  obtain ⟨h2, e⟩ := byte_list s i h
  unfold rest
  rw [List.drop_eq_getElem_cons h2, e, spl_cons, hc, cond_true, List.map_cons, ← cut_eq]
  simp
theorem rest_miss (s t : ByteArray) (f i : Nat) (h : i < s.size) (hf : f ≤ i) (hc : isIn t s[i] = false) : rest s t f i = rest s t f (i + 1) := by
  obtain ⟨h2, e⟩ := byte_list s i h
  unfold rest
  rw [List.drop_eq_getElem_cons h2, e, spl_cons, hc, cond_false]
  congr 2
  rw [show i + 1 - f = (i - f) + 1 by omega, List.take_succ_eq_append_getElem (by rw [List.length_drop]; omega), List.getElem_drop]
  congr 2
  rw [← e]
  congr 1
  omega
theorem isIn_index (t : ByteArray) (c : UInt8) : decide (0 ≤ Lib.indexByte t.data.toList c) = isIn t c := indexByte_mem _ _
theorem pcs_len (s t : ByteArray) : (pcs s t).length ≤ s.size + 1 := by
  unfold pcs
  rw [List.length_map, size_list]
  exact spl_len _ _ _
theorem rest_pos (s t : ByteArray) (f i : Nat) : 0 < (rest s t f i).length := by
  unfold rest
  rw [List.length_map]
  exact List.length_pos_iff.2 (spl_ne _ _ _)

set_option maxHeartbeats 1000000 in
theorem splitAny_c (w : World) (s t : ByteArray) (xs : List ByteArray) (hx : Hid (xs = pcs s t)) (hl : s.size ≤ 1048576) :
    Calls Tryd.prog 10 #[.string s, .string t] w (RetLS w xs) := by
  go_enter Tryd.func10, Tryd.ntmps10
  go_wp2_with fail
  go_loopw [5, 6, 7] (fun v f k wr => ∃ (a i : Nat) (o : List ByteArray), a ≤ i ∧ i ≤ s.size ∧ k = .int .i64 i ∧ f = .int .i64 a ∧ Hid (o ++ rest s t a i = pcs s t) ∧ o.length ≤ i ∧ Hid (OwnS wr w.heap.size v o) ∧ Below w.heap.size w wr) (fun _ _ k _ => s.size - (intOf k).toNat)
  case atStart => exact ⟨0, 0, [], Nat.le_refl _, by omega, rfl, rfl, rest_start s t, by simp, OwnS.nil _ _, Below.refl _ _⟩
  case round =>
    obtain ⟨a, i, o, hai, hi, rfl, rfl, HP, hol, HO, hb⟩ := hrel
    by_cases hlt : i < s.size
    · have t1 : (i : Int) < s.size := by omega
      cases hc : isIn t s[i] with
      | true =>
        have HN : Hid ((o ++ [s.extract a i]) ++ rest s t (i + 1) (i + 1) = pcs s t) := by
          unfold Hid; rw [← HP.out, rest_hit s t a i hlt hai hc, List.append_assoc]; rfl
        have d1 : decide (0 ≤ Lib.indexByte t.data.toList s[i]) = true := by rw [isIn_index, hc]
        clear hc
        go_wp2_with fail
        refine (indexByte_c _ t s[i]).mono ?_
        rintro e w' ⟨rfl, rfl⟩
        go_wp2_with (at_builtin; refine app_ownS rfl _ _ rfl _ _ w.heap.size wr.heap.size o [s.extract a i] rfl rfl (HO.out.alloc _) (OwnS.lit1 _ _) (by simp; omega) (by have := hb.size; simp; omega) ?_)
        intro v' w' hx1 hg _
        have HX := Lib.hid hx1
        have hb2 : Below w.heap.size w w' := (HO.out.alloc _).grownBelow (hb.alloc hb.size _) hg (Nat.le_refl _) (by have := hb.size; simp; omega)
        clear hx1 hg HO hb
        go_wp2
        go_roundw
        case rel => exact ⟨i + 1, i + 1, _, by omega, by omega, by go_num, by go_num, HN.out, by simp; omega, HX.out, hb2⟩
        case measure => (simp [intOf]) <;> omega
      | false =>
        have HN : Hid (o ++ rest s t a (i + 1) = pcs s t) := by unfold Hid; rw [← HP.out, rest_miss s t a i hlt hai hc]
        have d1 : decide (0 ≤ Lib.indexByte t.data.toList s[i]) = false := by rw [isIn_index, hc]
        clear hc
        go_wp2_with fail
        refine (indexByte_c _ t s[i]).mono ?_
        rintro e w' ⟨rfl, rfl⟩
        go_wp2
        go_roundw
        case rel => exact ⟨a, i + 1, o, by omega, by omega, by go_num, rfl, HN.out, by omega, HO.out, hb⟩
        case measure => (simp [intOf]) <;> omega
    · obtain rfl : i = s.size := by omega
      have HE : Hid (o ++ [s.extract a s.size] = xs) := by
        unfold Hid; rw [hx.out, ← HP.out, rest_end s t a hai]
      go_wp2_with (at_builtin; refine app_ownS rfl _ _ rfl _ _ w.heap.size wr.heap.size o [s.extract a s.size] rfl rfl (HO.out.alloc _) (OwnS.lit1 _ _) (by simp; omega) (by have := hb.size; simp; omega) ?_)
      intro v' w' hx1 hg _
      have HX := Lib.hid hx1
      have hb2 : Below w.heap.size w w' := (HO.out.alloc _).grownBelow (hb.alloc hb.size _) hg (Nat.le_refl _) (by have := hb.size; simp; omega)
      clear hx1 hg HO hb
      go_wp2
      go_ret
      exact retLS HX.out HE.out hb2

theorem isIn_at {t : ByteArray} {c : UInt8} {j : Nat} (h : j < t.size) (e : t[j] = c) : isIn t c = true := by
  obtain ⟨h2, e2⟩ := byte_list t j h
  unfold isIn
  rw [List.contains_iff_mem, ← e, ← e2]
  exact List.getElem_mem h2
theorem isIn_not {t : ByteArray} {c : UInt8} (h : ∀ (j : Nat) (h : j < t.size), t[j] ≠ c) : isIn t c = false := by
  unfold isIn
  cases hc : t.data.toList.contains c with
  | false => rfl
  | true =>
    obtain ⟨j, hj, e⟩ := List.getElem_of_mem (List.contains_iff_mem.1 hc)
    have h2 : j < t.size := by rw [size_list]; exact hj
    exact absurd e (h j h2)

end Go.Proofs.YtijeplcjbhkkoaaDoor
