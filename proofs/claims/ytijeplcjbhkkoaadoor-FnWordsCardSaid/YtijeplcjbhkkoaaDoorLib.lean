/- The library's functions that the program calls, in this text's own words. -/
import Derived.Test.YtijeplcjbhkkoaaDoorShelf
import Derived.Test.YtijeplcjbhkkoaaDoorStrG
import Derived.Lib.Repeat
import Derived.Lib.Join
namespace Go.Proofs.YtijeplcjbhkkoaaDoor
open Go.RowKit

theorem indexByte_c (w : World) (s : ByteArray) (c : UInt8) : Calls Tryd.prog 30 #[.string s, .int .u8 (c.toNat : Int)] w fun e w' => e = .returned (.int .i64 (Lib.indexByte s.data.toList c)) ∧ w = w' := by
  refine (Tryd.strings_IndexByte s (c.toNat : Int) w).mono ?_
  rintro e w' ⟨rfl, rfl⟩
  simp
theorem repeat_c (w : World) (s : ByteArray) (c : Nat) (n : Int) (hn : n = (c : Int)) (hlen : s.size * c ≤ 140737488355328) (hc : c ≤ 9223372036854775807) : Calls Tryd.prog 61 #[.string s, .int .i64 n] w (RetT w ⟨(Lib.repeatL s.data.toList c).toArray⟩) := by
  subst hn
  exact (Tryd.strings_Repeat s c w hc hlen)
theorem join_c (w : World) (b : Nat) (v : Value) (xs : List ByteArray) (sep : ByteArray) (h : OwnS w b v xs) (hN : xs.length ≤ 140737488355328) (hlen : (Lib.join (xs.map (·.data.toList)) sep.data.toList).length ≤ 140737488355328) : Calls Tryd.prog 29 #[v, .string sep] w (RetT w ⟨(Lib.join (xs.map (·.data.toList)) sep.data.toList).toArray⟩) := by
  obtain ⟨ao, cap, rfl, h1, h2, h3, -, -⟩ := h.form
  rcases Nat.eq_zero_or_pos xs.length with h0 | h0
  · have hx := List.length_eq_zero_iff.1 h0
    subst hx
    refine (Tryd.strings_Join_none ao cap sep w).mono ?_
    rintro e w' ⟨rfl, rfl⟩
    exact ⟨rfl, Below.refl _ _⟩
  · obtain ⟨g, rfl, -, hg⟩ := h.addr h0
    refine (Tryd.strings_Join g 0 cap xs sep w ?_ hg hN h2 hlen).mono ?_
    · intro j x hj
      have hl : j < xs.length := (List.getElem?_eq_some_iff.1 hj).1
      rw [Nat.zero_add, h.cell j hl, sat_of_lt hl]
      rw [(List.getElem?_eq_some_iff.1 hj).2]
    · rintro e w' ⟨rfl, hb⟩
      exact ⟨rfl, hb⟩

end Go.Proofs.YtijeplcjbhkkoaaDoor
