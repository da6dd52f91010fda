/- SplitAny: the program's and the reference's. -/
import Derived.Test.YtcajdlpbdihbeaaGreatDoorLib
import Derived.Test.YtcajdlpbdihbeaaGreatDoorPad
import Derived.Test.YtcajdlpbdihbeaaGreatDoorMathG
import Derived.Lib.Strings
namespace Go.Proofs.YtcajdlpbdihbeaaGreatDoor
open Go.RowKit Tx

/-- Is the byte one of these? -/
def isIn (t : ByteArray) (c : UInt8) : Bool := t.data.toList.contains c
/-- The pieces of a text. -/
def pcs (s t : ByteArray) : List ByteArray := (spl (isIn t) [] s.data.toList).map bs
/-- The pieces that are still to come: from is where the piece begun starts, i is how far the text is read. -/
def rest (s t : ByteArray) (f i : Nat) : List ByteArray := (spl (isIn t) ((s.data.toList.drop f).take (i - f)) (s.data.toList.drop i)).map bs
theorem cut_eq (s : ByteArray) (f i : Nat) : s.extract f i = bs ((s.data.toList.drop f).take (i - f)) := by
  apply ByteArray.ext
  rw [ByteArray.data_extract]
  apply Array.toList_inj.1
  rw [bs_data, Array.toList_extract]
theorem rest_start (s t : ByteArray) : rest s t 0 0 = pcs s t := by unfold rest pcs; simp
theorem rest_end (s t : ByteArray) (f : Nat) (_h : f ≤ s.size) : rest s t f s.size = [s.extract f s.size] := by
  unfold rest
  rw [cut_eq, size_list, List.drop_length]
  simp only [spl, List.map_cons, List.map_nil]
theorem byte_list (s : ByteArray) (i : Nat) (h : i < s.size) : ∃ h2 : i < s.data.toList.length, s.data.toList[i] = s[i] := ⟨by rw [← size_list]; exact h, rfl⟩
theorem rest_hit (s t : ByteArray) (f i : Nat) (h : i < s.size) (_hf : f ≤ i) (hc : isIn t s[i] = true) : rest s t f i = s.extract f i :: rest s t (i + 1) (i + 1) := by
  obtain ⟨h2, e⟩ := byte_list s i h
  unfold rest
  rw [List.drop_eq_getElem_cons h2, e, spl_cons, hc, cond_true, List.map_cons, ← cut_eq]
  simp
theorem rest_miss (s t : ByteArray) (f i : Nat) (h : i < s.size) (hf : f ≤ i) (hc : isIn t s[i] = false) : rest s t f i = rest s t f (i + 1) := by
  obtain ⟨h2, e⟩ := byte_list s i h
  unfold rest
  rw [List.drop_eq_getElem_cons h2, e, spl_cons, hc, cond_false]
  congr 2
  rw [show i + 1 - f = (i - f) + 1 by omega, List.take_succ_eq_append_getElem (by rw [List.length_drop]; omega), List.getElem_drop]
  congr 2
  rw [← e]
  congr 1
  omega
theorem isIn_index (t : ByteArray) (c : UInt8) : decide (0 ≤ Lib.indexByte t.data.toList c) = isIn t c := indexByte_mem _ _
theorem pcs_len (s t : ByteArray) : (pcs s t).length ≤ s.size + 1 := by
  unfold pcs
  rw [List.length_map, size_list]
  exact spl_len _ _ _
theorem rest_pos (s t : ByteArray) (f i : Nat) : 0 < (rest s t f i).length := by
  unfold rest
  rw [List.length_map]
  exact List.length_pos_iff.2 (spl_ne _ _ _)

theorem isIn_at {t : ByteArray} {c : UInt8} {j : Nat} (h : j < t.size) (e : t[j] = c) : isIn t c = true := by
  obtain ⟨h2, e2⟩ := byte_list t j h
  unfold isIn
  rw [List.contains_iff_mem, ← e, ← e2]
  exact List.getElem_mem h2
theorem isIn_not {t : ByteArray} {c : UInt8} (h : ∀ (j : Nat) (h : j < t.size), t[j] ≠ c) : isIn t c = false := by
  unfold isIn
  cases hc : t.data.toList.contains c with
  | false => rfl
  | true =>
    obtain ⟨j, hj, e⟩ := List.getElem_of_mem (List.contains_iff_mem.1 hc)
    have h2 : j < t.size := by rw [size_list]; exact hj
    exact absurd e (h j h2)

set_option maxHeartbeats 2000000 in
theorem sSplitAny_c (w : World) (s t : ByteArray) (xs : List ByteArray) (hx : Hid (xs = pcs s t)) (hl : s.size ≤ 1048576) (ht : t.size ≤ 1048576) :
    Calls Tryz.prog 9 #[.string s, .string t] w (RetLS w xs) := by
  go_enter Tryz.func9, Tryz.ntmps9
  go_wp2_with fail
  go_loopw [5, 6, 7] (fun v f k wr => ∃ (a i : Nat) (o : List ByteArray), a ≤ i ∧ i ≤ s.size ∧ k = .int .i64 i ∧ f = .int .i64 a ∧ Hid (o ++ rest s t a i = pcs s t) ∧ o.length ≤ i ∧ Hid (OwnS wr w.heap.size v o) ∧ Below w.heap.size w wr) (fun _ _ k _ => s.size - (intOf k).toNat)
  case atStart => exact ⟨0, 0, [], Nat.le_refl _, by omega, rfl, rfl, rest_start s t, by simp, OwnS.lit0 _, (Below.refl _ _).alloc (Nat.le_refl _) _⟩
  case round =>
    obtain ⟨a, i, o, hai, hi, rfl, rfl, HP, hol, HO, hb⟩ := hrel
    by_cases hlt : i < s.size
    · have t1 : (i : Int) < s.size := by omega
      have HIT := Lib.hid (rest_hit s t a i hlt hai)
      have MISS := Lib.hid (rest_miss s t a i hlt hai)
      obtain ⟨wo, rfl⟩ : ∃ wo : World, wo = wr := ⟨_, rfl⟩
      obtain ⟨vo, hvo⟩ : ∃ vo : Value, vo = u5 := ⟨_, rfl⟩
      go_wp2_with fail
      go_loopw [5, 6, 8] (fun v f k wr => ∃ (j : Nat), j ≤ t.size ∧ k = .int .i64 j ∧ f = .int .i64 a ∧ v = u5 ∧ Hid (∀ (q : Nat) (h : q < t.size), q < j → t[q] ≠ s[i]) ∧ Hid (OwnS wr w.heap.size v o) ∧ Below w.heap.size w wr) (fun _ _ k _ => t.size - (intOf k).toNat)
      case atStart => exact ⟨0, by omega, rfl, rfl, rfl, (fun _ _ h => by omega), HO, hb⟩
      case round =>
        obtain ⟨j, hj, rfl, rfl, rfl, HD, HO2, hb2⟩ := hrel
        clear HO hb
        by_cases hjt : j < t.size
        · have t2 : (j : Int) < t.size := by omega
          by_cases hq : t[j] = s[i]
          · have d1 : ((s[i].toNat : Int) == (t[j].toNat : Int)) = true := by rw [hq]; exact beq_self_eq_true _
            have HN : Hid ((o ++ [s.extract a i]) ++ rest s t (i + 1) (i + 1) = pcs s t) := by
              unfold Hid; rw [← HP.out, HIT.out (isIn_at hjt hq), List.append_assoc]; rfl
            clear hq
            go_wp2_with fail
            go_quiet (fail)
            have HO3 := Lib.hid (HO2.out.drawn nq)
            have hb3 := below_dr hb2 nq
            have hs3 : (wr.drewN nq).heap.size = wr.heap.size := rfl
            clear HO2
            go_wp2_with (at_builtin; refine app_ownS rfl _ _ rfl _ _ w.heap.size (wr.drewN nq).heap.size o [s.extract a i] rfl rfl (HO3.out.alloc _) (OwnS.lit1 _ _) (by simp; omega) (by have := hb2.size; simp; omega) ?_)
            intro v' w' hx1 hg _
            have HX := Lib.hid hx1
            have hb4 : Below w.heap.size w w' := (HO3.out.alloc _).grownBelow (hb3.alloc hb3.size _) hg (Nat.le_refl _) (by have := hb2.size; simp; omega)
            clear hx1 hg HO3 hb2 hb3 hs3
            go_wp2
            go_roundw
            case rel => exact ⟨i + 1, i + 1, _, by omega, by omega, by go_num, by go_num, HN.out, by simp; omega, HX.out, hb4⟩
            case measure => (simp [intOf]) <;> omega
          · have d1 : ((s[i].toNat : Int) == (t[j].toNat : Int)) = false := beq_eq_false_iff_ne.2 (fun e => hq (UInt8.toNat_inj.1 (by omega)))
            have HN : Hid (∀ (q : Nat) (h : q < t.size), q < j + 1 → t[q] ≠ s[i]) := fun q h hqj => by
              rcases Nat.lt_or_ge q j with h2 | h2
              · exact HD.out q h h2
              · obtain rfl : q = j := by omega
                exact hq
            clear hq
            go_wp2_with fail
            go_quiet (fail)
            have HO3 := Lib.hid (HO2.out.drawn nq)
            have hb3 := below_dr hb2 nq
            clear HO2 hb2
            go_wp2
            go_roundw
            case rel => exact ⟨j + 1, by omega, by go_num, rfl, rfl, HN.out, HO3.out, hb3⟩
            case measure => (simp [intOf]) <;> omega
        · obtain rfl : j = t.size := by omega
          have HN : Hid (o ++ rest s t a (i + 1) = pcs s t) := by
            unfold Hid; rw [← HP.out, MISS.out (isIn_not fun q h => HD.out q h h)]
          go_wp2
          go_roundw
          case rel => exact ⟨a, i + 1, o, by omega, by omega, by go_num, rfl, HN.out, by omega, HO2.out, hb2⟩
          case measure => (simp [intOf]) <;> omega
    · obtain rfl : i = s.size := by omega
      have HE : Hid (o ++ [s.extract a s.size] = xs) := by
        unfold Hid; rw [hx.out, ← HP.out, rest_end s t a hai]
      go_wp2_with (at_builtin; refine app_ownS rfl _ _ rfl _ _ w.heap.size wr.heap.size o [s.extract a s.size] rfl rfl (HO.out.alloc _) (OwnS.lit1 _ _) (by simp; omega) (by have := hb.size; simp; omega) ?_)
      intro v' w' hx1 hg _
      have HX := Lib.hid hx1
      have hb2 : Below w.heap.size w w' := (HO.out.alloc _).grownBelow (hb.alloc hb.size _) hg (Nat.le_refl _) (by have := hb.size; simp; omega)
      clear hx1 hg HO hb
      go_wp2
      go_ret
      exact retLS HX.out HE.out hb2

end Go.Proofs.YtcajdlpbdihbeaaGreatDoor
