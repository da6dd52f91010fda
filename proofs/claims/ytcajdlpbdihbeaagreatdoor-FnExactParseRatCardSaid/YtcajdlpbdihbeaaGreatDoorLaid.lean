/- From the rows' condition on the listed variables to what the walks ask. -/
import Derived.Test.YtcajdlpbdihbeaaGreatDoorTab
import Derived.Test.YtcajdlpbdihbeaaGreatDoorTie
import Derived.Test.YtcajdlpbdihbeaaGreatDoorCards
import Derived.LaidMore
import Derived.Lay
import Derived.SevenTiedAt
import Derived.Stop.Joined
import Derived.Stop.LaidErr
import Derived.LaidLaws
namespace Go.Proofs.YtcajdlpbdihbeaaGreatDoor
open Go.ChangeShapes Go.WideShapes Go.ChangeAt Go.RowKit

abbrev laid3 : List (String × DataW Unit) := [((Rows.fnExactParseRatRow.laid.map (·.1)).getD 0 "", Rows.laid_math_bits_deBruijn32tab), ((Rows.fnExactParseRatRow.laid.map (·.1)).getD 1 "", Rows.laid_math_bits_deBruijn64tab), (powName, Rows.laid_internal_strconv_uint64pow10)]
set_option maxRecDepth 100000 in
theorem tabs_of_laid {l r : List (String × DataW Unit)} {W : World} (h : laidMetH Tryz.prog l W) (hp : (l.all fun x => x.2.handleName?.isNone) = true) (hl : l = laid3 ++ r) : Tabs W := by
  rw [MakeChecks.laidMetH_plain _ _ _ hp, hl] at h
  have h2 := h.tail.tail
  have h3 : laidMet Tryz.prog ((powName, Lib.tabData .u64 Lib.pow10Tab) :: r) W := h2
  exact Lib.tabIs_of_head (g := 3) (t := 118) (e := 88) (n := 20) (by kernel_rfl) (by kernel_rfl) Tryz.underlying118 Tryz.underlying88 (by kernel_rfl) (by kernel_rfl) h3
set_option maxRecDepth 100000 in
theorem iface_var {n nm : String} {d : DataW Unit} {r : List (String × DataW Unit)} {W : World} {g ti : Nat} {ms : Array (String × TypeId)} (h : laidMet Tryz.prog ((n, .iface nm d) :: r) W)
    (hg : Tryz.prog.globalNamed n = some g) (ht : (Tryz.prog.globals[g]?).map (·.type) = some ti) (hi : Tryz.prog.underlying ti = some (.interface ms)) : ∃ tp p, W.var? Tryz.prog n = some #[.iface tp p] := by
  obtain ⟨ps, ⟨g0, t0, cs0, f0, p0, q0, hg0, ht0, hv0, hd0, _, e0⟩, _, hrows⟩ := h
  obtain rfl := Option.some.inj (hg.symm.trans hg0)
  obtain rfl := Option.some.inj (ht.symm.trans ht0)
  obtain ⟨_, u, v, hcs, _, _⟩ := iface_of_trod hi hd0
  refine ⟨u, v, ?_⟩
  rw [hv0]
  congr 1
  apply Array.toList_inj.1
  exact hcs
set_option maxRecDepth 100000 in
theorem errs_of_laid {l : List (String × DataW Unit)} {W : World} (h : laidMetH Tryz.prog l W) (hp : (l.all fun x => x.2.handleName?.isNone) = true) (hl : l = laid3 ++ [("strconv.ErrRange", Rows.laid_strconv_ErrRange), ("strconv.ErrSyntax", Rows.laid_strconv_ErrSyntax)]) : Errs W := by
  rw [MakeChecks.laidMetH_plain _ _ _ hp, hl] at h
  have h2 : laidMet Tryz.prog [("strconv.ErrRange", Rows.laid_strconv_ErrRange), ("strconv.ErrSyntax", Rows.laid_strconv_ErrSyntax)] W := h.tail.tail.tail
  have h3 : laidMet Tryz.prog [("strconv.ErrSyntax", Rows.laid_strconv_ErrSyntax)] W := h2.tail
  unfold Rows.laid_strconv_ErrRange at h2
  unfold Rows.laid_strconv_ErrSyntax at h3
  exact ⟨iface_var h3 (g := 1) (by kernel_rfl) (by kernel_rfl) Tryz.underlying54, iface_var h2 (g := 2) (by kernel_rfl) (by kernel_rfl) Tryz.underlying54⟩

end Go.Proofs.YtcajdlpbdihbeaaGreatDoor
