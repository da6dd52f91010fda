/- A slice of bytes that came in. -/
import Derived.Test.YtijeplcjbhkkoaaGreatDoorCur
import Derived.Test.YtijeplcjbhkkoaaGreatDoorFrame
namespace Go.Proofs.YtijeplcjbhkkoaaGreatDoor
open Go.ChangeShapes Go.WideShapes Go.ChangeAt Go.RowKit Lm

theorem Tryz.cellsU8 : Tryz.prog.cellsOf 5 = 1 := by kernel_rfl
/-- Bytes that came in: a list, of any length. -/
def RdY0 (w : World) (v : Value) (x : List UInt8) : Prop := ∃ ao cap, v = .slice ao x.length cap ∧ (x.length ≤ 1048576 → RdY w w.heap.size v x)
theorem u8_back {n : Int} (h : (Lit.int .u8 n).wf = true) : (((UInt8.ofNat n.toNat).toNat : Nat) : Int) = n := by
  have hb : 0 ≤ n ∧ n < 256 := by
    simp [Lit.wf, IntKind.min, IntKind.max, IntKind.signed, IntKind.bits] at h
    omega
  have : n.toNat < 256 := by omega
  simp [Nat.mod_eq_of_lt this]
  omega
set_option maxRecDepth 100000 in
theorem rdY_of_trod {H : Type} {enc : TypeId × Value → H} {W : World} {v : Value} {d : DataW H} {ps : List MemPlace} {base : Nat} (hv : Value.okWide Tryz.prog W .any base 22 v)
    (h : DataW.Trod enc Tryz.prog W 0 (fun _ => true) true 22 v d ps) : ∃ xs, RdY0 W v xs := by
  obtain ⟨a0, len0, cap0, rfl⟩ := okWide_slice Tryz.underlying22 hv
  obtain ⟨fuel, hf⟩ := h
  rcases open_ints Tryz.underlying22 Tryz.underlying5 Tryz.cellsU8 hf with ⟨hcs, _⟩ | ⟨x, l, c, zs, hcs, _, hl, hm, hz, _, hcell, hwz⟩
  · simp [Value.cells] at hcs
    obtain ⟨rfl, rfl, rfl⟩ := hcs
    exact ⟨[], none, 0, rfl, fun _ => ⟨none, 0, rfl, by simp, fun i hi => by simp at hi⟩⟩
  · simp [Value.cells] at hcs
    obtain ⟨rfl, rfl, rfl⟩ := hcs
    have hzl : zs.length = cap0 := by simpa using hz
    have htl : ((zs.take len0).map fun n => UInt8.ofNat n.toNat).length = len0 := by rw [List.length_map, List.length_take]; omega
    refine ⟨(zs.take len0).map fun n => UInt8.ofNat n.toNat, some x, cap0, by rw [htl], fun hle => ⟨some x, cap0, by rw [htl], hle, fun i hi => ?_⟩⟩
    have hi2 := hi
    rw [htl] at hi2
    have hc := hcell i (by omega)
    have hw := u8_back (hwz (zs.getD i 0) (by simp [show i < zs.length by omega]))
    have he : ((((zs.take len0).map fun n => UInt8.ofNat n.toNat)[i]'hi).toNat : Int) = zs.getD i 0 := by
      rw [List.getElem_map, List.getElem_take]
      simpa [show i < zs.length by omega] using hw
    rw [← he] at hc
    obtain ⟨b, off, spot⟩ := x
    have hlt := World.block_lt_of_cell? W _ hc
    cases spot with
    | none =>
      rw [Addr.add_lit] at hc hlt
      exact ⟨b, off, rfl, hlt, hlt, hc⟩
    | some s =>
      exfalso
      have h0 := hcell 0 (by omega)
      unfold Addr.add World.cell? at h0
      simp at h0
      split at h0 <;> simp at h0

end Go.Proofs.YtijeplcjbhkkoaaGreatDoor
