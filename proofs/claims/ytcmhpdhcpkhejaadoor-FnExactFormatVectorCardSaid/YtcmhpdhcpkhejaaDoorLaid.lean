/- From the rows' condition on the listed variables to what the walks ask. -/
import Derived.Test.YtcmhpdhcpkhejaaDoorTab
import Derived.Test.YtcmhpdhcpkhejaaDoorTie
import Derived.Test.YtcmhpdhcpkhejaaDoorCards
import Derived.LaidMore
import Derived.Lay
import Derived.SevenTiedAt
import Derived.Stop.Joined
import Derived.Stop.LaidErr
import Derived.LaidLaws
namespace Go.Proofs.YtcmhpdhcpkhejaaDoor
open Go.ChangeShapes Go.WideShapes Go.ChangeAt Go.RowKit

abbrev laid3 : List (String × DataW Unit) := [((Rows.fnExactFormatVectorRow.laid.map (·.1)).getD 0 "", Rows.laid_math_bits_deBruijn32tab), ((Rows.fnExactFormatVectorRow.laid.map (·.1)).getD 1 "", Rows.laid_math_bits_deBruijn64tab), (powName, Rows.laid_internal_strconv_uint64pow10)]
set_option maxRecDepth 100000 in
theorem tabs_of_laid {l r : List (String × DataW Unit)} {W : World} (h : laidMetH Tryd.prog l W) (hp : (l.all fun x => x.2.handleName?.isNone) = true) (hl : l = laid3 ++ r) : Tabs W := by
  rw [MakeChecks.laidMetH_plain _ _ _ hp, hl] at h
  have h2 := h.tail.tail
  have h3 : laidMet Tryd.prog ((powName, Lib.tabData .u64 Lib.pow10Tab) :: r) W := h2
  exact Lib.tabIs_of_head (g := 1) (t := 102) (e := 90) (n := 20) (by kernel_rfl) (by kernel_rfl) Tryd.underlying102 Tryd.underlying90 (by kernel_rfl) (by kernel_rfl) h3
set_option maxRecDepth 100000 in
theorem iface_var {n nm : String} {d : DataW Unit} {r : List (String × DataW Unit)} {W : World} {g ti : Nat} {ms : Array (String × TypeId)} (h : laidMet Tryd.prog ((n, .iface nm d) :: r) W)
    (hg : Tryd.prog.globalNamed n = some g) (ht : (Tryd.prog.globals[g]?).map (·.type) = some ti) (hi : Tryd.prog.underlying ti = some (.interface ms)) : ∃ tp p, W.var? Tryd.prog n = some #[.iface tp p] := by
  obtain ⟨ps, ⟨g0, t0, cs0, f0, p0, q0, hg0, ht0, hv0, hd0, _, e0⟩, _, hrows⟩ := h
  obtain rfl := Option.some.inj (hg.symm.trans hg0)
  obtain rfl := Option.some.inj (ht.symm.trans ht0)
  obtain ⟨_, u, v, hcs, _, _⟩ := iface_of_trod hi hd0
  refine ⟨u, v, ?_⟩
  rw [hv0]
  congr 1
  apply Array.toList_inj.1
  exact hcs
end Go.Proofs.YtcmhpdhcpkhejaaDoor
