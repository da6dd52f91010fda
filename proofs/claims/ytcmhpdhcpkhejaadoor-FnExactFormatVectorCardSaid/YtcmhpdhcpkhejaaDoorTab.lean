/- What the library's tables hold, and how that is kept; strconv.Itoa. -/
import Derived.Test.YtcmhpdhcpkhejaaDoorShelf
import Derived.Test.YtcmhpdhcpkhejaaDoorStrOpen
import Derived.Test.YtcmhpdhcpkhejaaDoorStrRow
import Derived.Test.YtcmhpdhcpkhejaaDoorMathG
import Derived.Test.YtcmhpdhcpkhejaaDoorConv
import Derived.Lib.LaidTab
namespace Go.Proofs.YtcmhpdhcpkhejaaDoor
open Go.RowKit Tx

theorem var_below {w w' : World} {name : String} {cs : Array Value} (h : w.var? Tryd.prog name = some cs) {B : Nat} (hb : Below B w w') (hB : w.heap.size ≤ B) : w'.var? Tryd.prog name = some cs := by
  unfold World.var? at *
  cases hg : Tryd.prog.globalNamed name with
  | none => simp [hg] at h
  | some g =>
    simp only [hg, Option.bind_some] at h ⊢
    have hlt : g < w.heap.size := by
      rcases Nat.lt_or_ge g w.heap.size with h' | h'
      · exact h'
      · rw [Array.getElem?_eq_none h'] at h; simp at h
    rw [hb.block g (Nat.lt_of_lt_of_le hlt hB)]
    exact h
/-- The name of the table of powers of ten. -/
def powName : String := (Rows.fnExactFormatVectorRow.laid.map (·.1)).getD 2 ""
/-- The table of powers of ten is as the library lays it. -/
def Tabs (w : World) : Prop := Lib.TabIs Tryd.prog w powName .u64 Lib.pow10Tab
theorem Tabs.below {w w' : World} (h : Tabs w) {B : Nat} (hb : Below B w w') (hB : w.heap.size ≤ B) : Tabs w' := var_below h hb hB
/-- The errors of strconv hold something. -/
def Errs (w : World) : Prop := (∃ tp p, w.var? Tryd.prog "strconv.ErrSyntax" = some #[.iface tp p]) ∧ ∃ tp p, w.var? Tryd.prog "strconv.ErrRange" = some #[.iface tp p]
theorem Errs.below {w w' : World} (h : Errs w) {B : Nat} (hb : Below B w w') (hB : w.heap.size ≤ B) : Errs w' := by
  obtain ⟨⟨t1, p1, h1⟩, t2, p2, h2⟩ := h
  exact ⟨⟨t1, p1, var_below h1 hb hB⟩, t2, p2, var_below h2 hb hB⟩

theorem below_grow (w : World) (k : Nat) (os : Array Obj) : Below w.heap.size w (Sort.grow (w.drewN k) os) := by
  refine ⟨rfl, rfl, rfl, ?_, fun i hi => ?_⟩
  · show w.heap.size ≤ (w.heap ++ os).size
    rw [Array.size_append]; omega
  · show (w.heap ++ os)[i]? = w.heap[i]?
    rw [Array.getElem?_append_left hi]
theorem itoa_c (w : World) (n : Int) (h0 : -9223372036854775808 ≤ n) (h1 : n ≤ 9223372036854775807) (ht : Tabs w) (t : ByteArray) (hT : Hid (t = bs (Lib.itoa n))) : Calls Tryd.prog 41 #[.int .i64 n] w (RetT w t) := by
  refine (Tryd.strconv_Itoa n h0 h1 w ht).mono ?_
  rintro e w' ⟨rfl, k, os, rfl⟩
  exact ⟨by rw [hT.out]; rfl, below_grow w k os⟩
end Go.Proofs.YtcmhpdhcpkhejaaDoor
