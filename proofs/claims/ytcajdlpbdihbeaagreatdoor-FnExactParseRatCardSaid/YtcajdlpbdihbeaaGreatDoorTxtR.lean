/- Cutting at a slash: plain mathematics; no program in sight. -/
import Derived.Test.YtcajdlpbdihbeaaGreatDoorMathG
import Derived.Lib.IndexMore
import Derived.Lib.IndexLaws
import Derived.Lib.IndexBytes
namespace Tx
open Go.Lib

theorem cut_at (l : List UInt8) (c : UInt8) : (c ∉ l ∧ cut l [c] = (l, [], false)) ∨ ∃ a b, l = a ++ c :: b ∧ c ∉ a ∧ cut l [c] = (a, b, true) := by
  unfold cut
  rw [index_one]
  by_cases h : 0 ≤ indexByte l c
  · obtain ⟨o, ho⟩ := Int.eq_ofNat_of_zero_le h
    obtain ⟨h1, h2⟩ := indexByte_some ho
    right
    refine ⟨l.take o, l.drop (o + 1), ?_, ?_, ?_⟩
    · obtain ⟨h3, h4⟩ := List.getElem?_eq_some_iff.1 h1
      conv => lhs; rw [← List.take_append_drop o l, List.drop_eq_getElem_cons h3, h4]
    · intro hm
      obtain ⟨k, hk⟩ := List.mem_iff_getElem?.1 hm
      rw [List.getElem?_take] at hk
      split at hk
      · next hko => exact h2 k hko hk
      · cases hk
    · rw [if_pos h, ho]
      rfl
  · left
    have e : indexByte l c = -1 := by have := Go.Lib.indexByte_ge l c; omega
    refine ⟨fun hm => ?_, by rw [if_neg h]⟩
    obtain ⟨k, hk⟩ := List.mem_iff_getElem?.1 hm
    exact indexByte_none e k hk

end Tx
