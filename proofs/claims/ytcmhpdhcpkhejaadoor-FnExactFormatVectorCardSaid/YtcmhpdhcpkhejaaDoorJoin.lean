/- Join: the program's and the reference's. -/
import Derived.Test.YtcmhpdhcpkhejaaDoorPad
import Derived.Test.YtcmhpdhcpkhejaaDoorMathG
namespace Go.Proofs.YtcmhpdhcpkhejaaDoor
open Go.RowKit Tx

/-- The texts, joined. -/
def joinB (xs : List ByteArray) (sep : ByteArray) : ByteArray := bs (Lib.join (xs.map (·.data.toList)) sep.data.toList)
/-- The sum of the lengths. -/
def lensB (xs : List ByteArray) : Nat := Lib.lens (xs.map (·.data.toList))
theorem joinB_nil (sep : ByteArray) : joinB [] sep = { data := #[] } := by unfold joinB; rw [List.map_nil, Lib.join_nil]; rfl
theorem joinB_snoc (xs : List ByteArray) (x sep : ByteArray) : joinB (xs ++ [x]) sep = if xs = [] then x else joinB xs sep ++ sep ++ x := by
  unfold joinB
  rw [List.map_append, List.map_cons, List.map_nil, join_snoc]
  by_cases h : xs = []
  · subst h; rw [if_pos rfl, List.map_nil, if_pos rfl, bs_list]
  · rw [if_neg h, if_neg (by simpa using h), ← bs_append, ← bs_append, bs_list, bs_list]
theorem joinB_size (xs : List ByteArray) (sep : ByteArray) : (joinB xs sep).size ≤ sep.size * xs.length + lensB xs := by
  unfold joinB lensB
  rw [bs_size, size_list]
  have := join_len_le (xs.map (·.data.toList)) sep.data.toList
  rwa [List.length_map] at this
theorem lensB_take (xs : List ByteArray) (k : Nat) : lensB (xs.take k) ≤ lensB xs := by
  unfold lensB
  rw [List.map_take]
  exact lens_len _ _
theorem lens_mem {l : List (List UInt8)} {x : List UInt8} (h : x ∈ l) : x.length ≤ Lib.lens l := by
  induction l with
  | nil => cases h
  | cons y l ih =>
    unfold Lib.lens at ih ⊢
    rcases List.mem_cons.1 h with h1 | h1
    · subst h1; simp
    · have := ih h1; simp at this ⊢; omega
theorem lensB_at (xs : List ByteArray) (i : Nat) (h : i < xs.length) : (sat xs i).size ≤ lensB xs := by
  rw [sat_of_lt h, size_list]
  unfold lensB
  exact lens_mem (List.mem_map_of_mem (List.getElem_mem h))
theorem take_snocS (xs : List ByteArray) (i : Nat) (h : i < xs.length) : xs.take (i + 1) = xs.take i ++ [sat xs i] := by
  rw [sat_of_lt h, List.take_succ_eq_append_getElem h]

theorem Join_c (w : World) (b : Nat) (v : Value) (xs : List ByteArray) (sep t : ByteArray) (h : OwnS w b v xs) (ht : Hid (t = joinB xs sep)) (hn : xs.length ≤ 1048576) (hs : sep.size ≤ 1048576) (hl : lensB xs ≤ 1048576) :
    Calls Tryd.prog 16 #[v, .string sep] w (RetT w t) := by
  have hz : sep.size * xs.length + lensB xs ≤ 140737488355328 := by
    have := Nat.mul_le_mul hs hn
    omega
  have hj := joinB_size xs sep
  have H := Lib.hid h
  clear h
  have HT : Hid (t = ⟨(Lib.join (xs.map (·.data.toList)) sep.data.toList).toArray⟩) := ht
  go_enter Tryd.func16, Tryd.ntmps16
  go_wp2_with fail
  refine (join_c _ b v xs sep H.out (by omega) (by unfold joinB at hj; rw [bs_size] at hj; omega)).mono ?_
  rintro e w1 ⟨rfl, hb⟩
  rw [← HT.out]
  go_wp2
  go_ret
  exact retT rfl hb

set_option maxHeartbeats 1000000 in
theorem sJoin_c (w : World) (b : Nat) (v : Value) (xs : List ByteArray) (sep t : ByteArray) (h : OwnS w b v xs) (ht : Hid (t = joinB xs sep)) (hn : xs.length ≤ 1048576) (hs : sep.size ≤ 1048576) (hl : lensB xs ≤ 1048576) :
    Calls Tryd.prog 12 #[v, .string sep] w (RetT w t) := by
  obtain ⟨ao, cap, rfl, -, f2, f3, -, -⟩ := h.form
  have H := Lib.hid h
  have FX := Lib.hid f3
  clear h f3
  go_enter Tryd.func12, Tryd.ntmps12
  go_wp2_with fail
  go_loopw [5, 10] (fun s k wr => ∃ (i : Nat) (u : ByteArray), i ≤ xs.length ∧ k = .int .i64 i ∧ s = .string u ∧ Hid (u = joinB (xs.take i) sep) ∧ Below w.heap.size w wr) (fun _ k _ => xs.length - (intOf k).toNat)
  case atStart => exact ⟨0, _, by omega, rfl, rfl, by unfold Hid; rw [List.take_zero, joinB_nil], Below.refl _ _⟩
  case round =>
    obtain ⟨i, u, hi, rfl, rfl, HU, hb⟩ := hrel
    by_cases hlt : i < xs.length
    · obtain ⟨g, rfl, -, -⟩ := H.out.addr hlt
      have k1 := (H.out.below hb (Nat.le_refl _)).cell i hlt
      have t1 : (i : Int) < xs.length := by omega
      have hj := joinB_size (xs.take i) sep
      have hlt2 := lensB_take xs i
      have hla := lensB_at xs i hlt
      have htl : (xs.take i).length ≤ 1048576 := by rw [List.length_take]; omega
      have hm := Nat.mul_le_mul hs htl
      rw [← HU.out] at hj
      by_cases h0 : i = 0
      · have HN : Hid (u ++ sat xs i = joinB (xs.take (i + 1)) sep) := by
          unfold Hid
          rw [take_snocS xs i hlt, joinB_snoc, HU.out, h0, List.take_zero, if_pos rfl, joinB_nil]
          exact ByteArray.empty_append
        have hz : u.size + (sat xs i).size ≤ 9223372036854775807 := by omega
        clear hj hlt2 hla htl hm
        subst h0
        go_wp2
        go_roundw
        case rel => exact ⟨1, _, by omega, rfl, rfl, HN.out, hb⟩
        case measure => (simp [intOf]) <;> omega
      · have HN : Hid (u ++ sep ++ sat xs i = joinB (xs.take (i + 1)) sep) := by
          unfold Hid
          rw [take_snocS xs i hlt, joinB_snoc, HU.out, if_neg (fun e => h0 (by
            have := congrArg List.length e
            rw [List.length_take, List.length_nil] at this
            omega))]
        have hz0 : u.size + sep.size ≤ 9223372036854775807 := by omega
        have hz : (u ++ sep).size + (sat xs i).size ≤ 9223372036854775807 := by rw [ByteArray.size_append]; omega
        have d0 : decide ((0 : Int) < i) = true := decide_eq_true (by omega)
        have d1 : decide (0 < i) = true := decide_eq_true (by omega)
        clear hj hlt2 hla htl hm
        go_wp2
        go_roundw
        case rel => exact ⟨i + 1, _, by omega, by go_num, rfl, HN.out, hb⟩
        case measure => (simp [intOf]) <;> omega
    · obtain rfl : i = xs.length := by omega
      have HT : Hid (u = t) := by
        unfold Hid
        rw [HU.out, ht.out, List.take_length]
      go_wp2
      go_ret
      exact retT HT.out hb

end Go.Proofs.YtcmhpdhcpkhejaaDoor
