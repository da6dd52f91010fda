/- Join: the program's and the reference's. -/
import Derived.Test.YtijeplcjbhkkoaaDoorPad
import Derived.Test.YtijeplcjbhkkoaaDoorMathG
namespace Go.Proofs.YtijeplcjbhkkoaaDoor
open Go.RowKit Tx

/-- The texts, joined. -/
def joinB (xs : List ByteArray) (sep : ByteArray) : ByteArray := bs (Lib.join (xs.map (·.data.toList)) sep.data.toList)
/-- The sum of the lengths. -/
def lensB (xs : List ByteArray) : Nat := Lib.lens (xs.map (·.data.toList))
theorem joinB_nil (sep : ByteArray) : joinB [] sep = { data := #[] } := by unfold joinB; rw [List.map_nil, Lib.join_nil]; rfl
theorem joinB_snoc (xs : List ByteArray) (x sep : ByteArray) : joinB (xs ++ [x]) sep = if xs = [] then x else joinB xs sep ++ sep ++ x := by
  unfold joinB
  rw [List.map_append, List.map_cons, List.map_nil, join_snoc]
  by_cases h : xs = []
  · subst h; rw [if_pos rfl, List.map_nil, if_pos rfl, bs_list]
  · rw [if_neg h, if_neg (by simpa using h), ← bs_append, ← bs_append, bs_list, bs_list]
theorem joinB_size (xs : List ByteArray) (sep : ByteArray) : (joinB xs sep).size ≤ sep.size * xs.length + lensB xs := by
  unfold joinB lensB
  rw [bs_size, size_list]
  have := join_len_le (xs.map (·.data.toList)) sep.data.toList
  rwa [List.length_map] at this
theorem lensB_take (xs : List ByteArray) (k : Nat) : lensB (xs.take k) ≤ lensB xs := by
  unfold lensB
  rw [List.map_take]
  exact lens_len _ _
theorem lens_mem {l : List (List UInt8)} {x : List UInt8} (h : x ∈ l) : x.length ≤ Lib.lens l := by
  induction l with
  | nil => cases h
  | cons y l ih =>
    unfold Lib.lens at ih ⊢
    rcases List.mem_cons.1 h with h1 | h1
    · subst h1; simp
    · have := ih h1; simp at this ⊢; omega
theorem lensB_at (xs : List ByteArray) (i : Nat) (h : i < xs.length) : (sat xs i).size ≤ lensB xs := by
  rw [sat_of_lt h, size_list]
  unfold lensB
  exact lens_mem (List.mem_map_of_mem (List.getElem_mem h))
theorem take_snocS (xs : List ByteArray) (i : Nat) (h : i < xs.length) : xs.take (i + 1) = xs.take i ++ [sat xs i] := by
  rw [sat_of_lt h, List.take_succ_eq_append_getElem h]

theorem Join_c (w : World) (b : Nat) (v : Value) (xs : List ByteArray) (sep t : ByteArray) (h : OwnS w b v xs) (ht : Hid (t = joinB xs sep)) (hn : xs.length ≤ 1048576) (hs : sep.size ≤ 1048576) (hl : lensB xs ≤ 1048576) :
    Calls Tryd.prog 9 #[v, .string sep] w (RetT w t) := by
  have hz : sep.size * xs.length + lensB xs ≤ 140737488355328 := by
    have := Nat.mul_le_mul hs hn
    omega
  have hj := joinB_size xs sep
  have H := Lib.hid h
  clear h
  have HT : Hid (t = ⟨(Lib.join (xs.map (·.data.toList)) sep.data.toList).toArray⟩) := ht
  go_enter Tryd.func9, Tryd.ntmps9
  go_wp2_with fail
  refine (join_c _ b v xs sep H.out (by omega) (by unfold joinB at hj; rw [bs_size] at hj; omega)).mono ?_
  rintro e w1 ⟨rfl, hb⟩
  rw [← HT.out]
  go_wp2
  go_ret
  exact retT rfl hb

end Go.Proofs.YtijeplcjbhkkoaaDoor
