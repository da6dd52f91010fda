/- SplitLines: the program's and the reference's. -/
import Derived.Test.YtijeplcjbhkkoaaDoorSplit
namespace Go.Proofs.YtijeplcjbhkkoaaDoor
open Go.RowKit Tx

def nl : ByteArray := { data := #[10] }
/-- The lines. -/
def lns (s : ByteArray) : List ByteArray := if (sat (pcs s nl) ((pcs s nl).length - 1)).toList.isEmpty = true then (pcs s nl).take ((pcs s nl).length - 1) else pcs s nl
theorem lns_len (s : ByteArray) : (lns s).length ≤ s.size + 1 := by
  unfold lns
  have := pcs_len s nl
  split
  · rw [List.length_take]; omega
  · exact this
theorem pcs_pos (s t : ByteArray) : 0 < (pcs s t).length := by rw [← rest_start]; exact rest_pos s t 0 0

set_option maxHeartbeats 1000000 in
theorem splitLines_c (w : World) (s : ByteArray) (xs : List ByteArray) (hx : Hid (xs = lns s)) (hl : s.size ≤ 1048576) : Calls Tryd.prog 12 #[.string s] w (RetLS w xs) := by
  obtain ⟨p, hp⟩ : ∃ p, p = pcs s nl := ⟨_, rfl⟩
  have hn : 0 < p.length := by rw [hp]; exact pcs_pos s nl
  have hn2 : p.length ≤ 1048577 := by rw [hp]; exact Nat.le_trans (pcs_len s nl) (by omega)
  have HX : Hid (xs = if (sat p (p.length - 1)).toList.isEmpty = true then p.take (p.length - 1) else p) := by unfold Hid; rw [hx.out, hp]; rfl
  have HP := Lib.hid hp
  clear hp hx
  have HC : Calls Tryd.prog 10 #[.string s, .string { data := #[10] }] w (RetLS w p) := splitAny_c w s nl p HP hl
  have HCC := Lib.hid HC
  clear HC HP
  go_enter Tryd.func12, Tryd.ntmps12
  go_wp2_with fail
  refine HCC.out.mono ?_
  rintro e w1 ⟨v, rfl, ho, hb⟩
  obtain ⟨ao, cap, rfl, -, f2, f3, -, -⟩ := ho.form
  obtain ⟨g, rfl, -, -⟩ := ho.addr hn
  unfold maxLen at f3
  have k1 := ho.cell (p.length - 1) (by omega)
  have HO := Lib.hid ho
  clear ho HCC
  have c1 : ((p.length : Int) - 1).toNat = p.length - 1 := by omega
  cases hc : (sat p (p.length - 1)).toList.isEmpty with
  | true =>
    have HE : Hid (p.take (p.length - 1) = xs) := by unfold Hid; rw [HX.out, if_pos hc]
    have HCUT := Lib.hid (HO.out.cut (k := p.length - 1) (by omega))
    clear HX
    go_wp2
    go_ret
    exact retLS HCUT.out HE.out hb
  | false =>
    have HE : Hid (p = xs) := by unfold Hid; rw [HX.out, if_neg (by rw [hc]; simp)]
    clear HX
    go_wp2
    go_ret
    exact retLS HO.out HE.out hb

end Go.Proofs.YtijeplcjbhkkoaaDoor
