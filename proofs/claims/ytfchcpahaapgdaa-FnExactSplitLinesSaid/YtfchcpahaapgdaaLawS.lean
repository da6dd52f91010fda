/- The statements' own helpers on slices of strings: toStringS, eqStringS, szStringS. -/
import Derived.Test.YtfchcpahaapgdaaStrRow
import Derived.Test.YtfchcpahaapgdaaJoin
import Derived.SliceStrings
namespace Go.Proofs.Ytfchcpahaapgdaa
open Go.ChangeShapes Go.WideShapes Go.ChangeAt Go.ChangeMaps Go.RowKit Tx

/-- The slice value v, wherever it lies, reads as xs. -/
def RdS (w : World) (v : Value) (xs : List ByteArray) : Prop :=
  ∃ ao cap, v = .slice ao xs.length cap ∧ xs.length ≤ 9223372036854775807 ∧ ∀ i, i < xs.length → (sat xs i).size ≤ 9223372036854775807 ∧ ∃ b off, ao = some ⟨b, off, none⟩ ∧ b < w.heap.size ∧ w.cell? ⟨b, off + i, none⟩ = some (.string (sat xs i))

theorem RdS.below {w w' : World} {v : Value} {xs : List ByteArray} (h : RdS w v xs) (hb : Below w.heap.size w w') : RdS w' v xs := by
  obtain ⟨ao, cap, rfl, h1, h2⟩ := h
  refine ⟨ao, cap, rfl, h1, fun i hi => ?_⟩
  obtain ⟨h0, b, off, h3, h4, h5⟩ := h2 i hi
  exact ⟨h0, b, off, h3, Nat.lt_of_lt_of_le h4 hb.size, (hb.cell (p := ⟨b, off + i, none⟩) h4).trans h5⟩

theorem Try.cellsStr : Try.prog.cellsOf 9 = 1 := by kernel_rfl

/-- A slice of strings that came in reads as a list. -/
theorem rdS_of_trod {H : Type} {enc : TypeId × Value → H} {W : World} {v : Value} {d : DataW H} {ps : List MemPlace} {base : Nat} (hv : Value.okWide Try.prog W .any base 24 v)
    (h : DataW.Trod enc Try.prog W 0 (fun _ => true) true 24 v d ps) : ∃ xs, RdS W v xs := by
  obtain ⟨a0, len0, cap0, rfl⟩ := okWide_slice Try.underlying24 hv
  obtain ⟨fuel, hf⟩ := h
  rcases open_strings Try.underlying24 Try.underlying9 Try.cellsStr hf with ⟨hcs, _⟩ | ⟨x, l, c, zs, hcs, _, hl, hm, hz, _, hcell, hwz⟩
  · simp [Value.cells] at hcs
    obtain ⟨rfl, rfl, rfl⟩ := hcs
    exact ⟨[], none, 0, rfl, by simp, fun i hi => by simp at hi⟩
  · simp [Value.cells] at hcs
    obtain ⟨rfl, rfl, rfl⟩ := hcs
    have hzl : zs.length = cap0 := by simpa using hz
    have htl : (zs.take len0).length = len0 := by rw [List.length_take]; omega
    unfold maxLen at hm
    refine ⟨zs.take len0, some x, cap0, by rw [htl], by rw [htl]; omega, fun i hi => ?_⟩
    rw [htl] at hi
    have hs : sat (zs.take len0) i = zs.getD i ByteArray.empty := by
      rw [sat_of_lt (by rw [htl]; exact hi)]
      simp [show i < zs.length by omega]
    have hw := hwz (zs.getD i ByteArray.empty) (by simp [show i < zs.length by omega])
    unfold maxLen at hw
    refine ⟨by rw [hs]; exact hw, ?_⟩
    have hc := hcell i (by omega)
    rw [← hs] at hc
    obtain ⟨b, off, spot⟩ := x
    have hlt := World.block_lt_of_cell? W _ hc
    cases spot with
    | none =>
      rw [Addr.add_lit] at hc hlt
      exact ⟨b, off, rfl, hlt, hc⟩
    | some s =>
      exfalso
      have h0 := hcell 0 (by omega)
      unfold Addr.add World.cell? at h0
      simp at h0
      split at h0 <;> simp at h0

theorem sat_set_same {o : List ByteArray} {i : Nat} {u : ByteArray} (h : i < o.length) : sat (o.set i u) i = u := by
  rw [sat_of_lt (by rw [List.length_set]; exact h), List.getElem_set_self]

set_option maxHeartbeats 400000 in
theorem toStringS_c (w : World) (v1 : Value) (xs : List ByteArray) (h1 : RdS w v1 xs) (hl : xs.length ≤ 1048576) :
    Calls Try.prog 23 #[v1] w (RetLS w xs) := by
  obtain ⟨ao, cap, rfl, -, hc⟩ := h1
  have H1 := Lib.hid hc
  clear hc
  go_enter Try.func23, Try.ntmps23
  go_wp2_with (at_make; refine make_strs rfl _ _ rfl _ _ _ _ xs.length rfl rfl (by omega) (by omega) (by omega) ?_)
  intro w0 ho hb0 hs0
  have HO := Lib.hid ho
  clear ho
  go_wp2_with fail
  go_loopw [4] (fun k wr => ∃ (i : Nat) (o : List ByteArray), i ≤ xs.length ∧ k = .int .i64 i ∧ o.length = xs.length ∧ Hid (o.take i = xs.take i) ∧ Hid (OwnS wr w.heap.size (.slice (some ⟨w.heap.size, 0, none⟩) xs.length xs.length) o) ∧ Below w.heap.size w wr) (fun k _ => xs.length - (intOf k).toNat)
  case atStart => exact ⟨0, _, by omega, rfl, by simp, by simp [Hid], HO.out, hb0⟩
  case round =>
    obtain ⟨i, o, hi, rfl, hol, HT, HO', hb⟩ := hrel
    by_cases hlt : i < xs.length
    · obtain ⟨-, b, off, rfl, hbl, hcell⟩ := H1.out i hlt
      have k1 : wr.cell? ⟨b, off + i, none⟩ = some (.string (sat xs i)) := (hb.cell (p := ⟨b, off + i, none⟩) hbl).trans hcell
      have k2 := HO'.out.cell i (by omega)
      have z2 := HO'.out.frozen i
      have t1 : (i : Int) < xs.length := by omega
      clear hcell
      go_wp2
      go_roundw
      case rel => exact ⟨i + 1, _, by omega, by go_num, by simp [hol], by
        unfold Hid
        rw [take_snocS (o.set i (sat xs i)) i (by rw [List.length_set]; omega), take_snocS xs i hlt, sat_set_same (by omega), List.take_set_of_le (Nat.le_refl _), HT.out], (HO'.out.store i _).1, hb.setCell (Nat.le_refl _) _⟩
      case measure => (simp [intOf]) <;> omega
    · obtain rfl : i = xs.length := by omega
      have HE : Hid (o = xs) := by
        have := HT.out
        rwa [List.take_of_length_le (by omega), List.take_length] at this
      have ho := HO'.out
      rw [HE.out] at ho
      have HO2 := Lib.hid ho
      clear ho
      go_wp2
      go_ret
      exact retLS HO2.out rfl hb

set_option maxHeartbeats 400000 in
theorem eqStringS_c (w : World) (b1 b2 : Nat) (v1 v2 : Value) (xs : List ByteArray) (h1 : OwnS w b1 v1 xs) (h2 : OwnS w b2 v2 xs) :
    Calls Try.prog 16 #[v1, v2] w (RetB w true) := by
  obtain ⟨a1, c1, rfl, -, f2, f3, -, -⟩ := h1.form
  obtain ⟨a2, c2, rfl, -, g2, g3, -, -⟩ := h2.form
  unfold maxLen at f3 g3
  have H1 := Lib.hid h1; have H2 := Lib.hid h2
  clear h1 h2
  go_enter Try.func16, Try.ntmps16
  go_wp2
  go_loopw [5] (fun k wr => ∃ (i : Nat), i ≤ xs.length ∧ k = .int .i64 i ∧ Below w.heap.size w wr) (fun k _ => xs.length - (intOf k).toNat)
  case atStart => exact ⟨0, by omega, rfl, Below.refl _ _⟩
  case round =>
    obtain ⟨i, hi, rfl, hb⟩ := hrel
    by_cases hlt : i < xs.length
    · obtain ⟨g, rfl, -, -⟩ := H1.out.addr hlt
      obtain ⟨g', rfl, -, -⟩ := H2.out.addr hlt
      have k1 := (H1.out.below hb (Nat.le_refl _)).cell i hlt
      have k2 := (H2.out.below hb (Nat.le_refl _)).cell i hlt
      have t1 : (i : Int) < xs.length := by omega
      go_wp2_with fail
      go_quiet (fail)
      go_wp2_with fail
      go_roundw
      case rel => exact ⟨i + 1, by omega, by go_num, ⟨hb.os, hb.tape, hb.output, hb.size, hb.block⟩⟩
      case measure => (simp [intOf]) <;> omega
    · obtain rfl : i = xs.length := by omega
      go_wp2
      go_ret
      exact retB rfl hb

/-- What szStringS answers. -/
def szS (xs : List ByteArray) (left : Int) : Int := if left - xs.length - lensB xs < 0 then -1 else left - xs.length - lensB xs
theorem lensB_succ (xs : List ByteArray) (i : Nat) (h : i < xs.length) : lensB (xs.take (i + 1)) = lensB (xs.take i) + (sat xs i).size := by
  rw [take_snocS xs i h]
  unfold lensB
  rw [List.map_append, List.map_cons, List.map_nil, size_list]
  simp [Lib.lens]
set_option maxHeartbeats 1000000 in
theorem szStringS_c (w : World) (v1 : Value) (xs : List ByteArray) (c : Int) (h1 : RdS w v1 xs) (hc : Hid (c = szS xs 1048576)) :
    Calls Try.prog 21 #[v1, .int .i64 1048576] w (RetI w c) := by
  obtain ⟨ao, cap, rfl, hl, hcl⟩ := h1
  have H1 := Lib.hid hcl
  clear hcl
  by_cases h0 : (1048576 : Int) < xs.length
  · have HC : Hid (c = -1) := by unfold Hid; rw [hc.out]; unfold szS; rw [if_pos (by omega)]
    have d1 : decide ((1048576 : Int) - xs.length < 0) = true := decide_eq_true (by omega)
    go_enter Try.func21, Try.ntmps21
    go_wp2
    go_ret
    exact retI HC.out.symm (Below.refl _ _)
  · have d1 : decide ((1048576 : Int) - xs.length < 0) = false := decide_eq_false (by omega)
    go_enter Try.func21, Try.ntmps21
    go_wp2_with fail
    go_loopw [1, 5] (fun n k wr => ∃ (i : Nat) (m : Int), i ≤ xs.length ∧ k = .int .i64 i ∧ n = .int .i64 m ∧ 0 ≤ m ∧ m ≤ 1048576 ∧ Hid (m = 1048576 - (xs.length : Int) - lensB (xs.take i)) ∧ Below w.heap.size w wr) (fun _ k _ => xs.length - (intOf k).toNat)
    case atStart => exact ⟨0, _, by omega, rfl, rfl, by omega, by omega, by unfold Hid lensB; simp [Lib.lens], Below.refl _ _⟩
    case round =>
      obtain ⟨i, m, hi, rfl, rfl, hm0, hm1, HM, hb⟩ := hrel
      by_cases hlt : i < xs.length
      · obtain ⟨hsz, b, off, rfl, hbl, hcell⟩ := H1.out i hlt
        have k1 : wr.cell? ⟨b, off + i, none⟩ = some (.string (sat xs i)) := (hb.cell (p := ⟨b, off + i, none⟩) hbl).trans hcell
        have t1 : (i : Int) < xs.length := by omega
        have hs := lensB_succ xs i hlt
        have hle := lensB_take xs (i + 1)
        clear hcell
        by_cases h2 : m - ((sat xs i).size : Int) < 0
        · have HC : Hid (c = -1) := by
            unfold Hid; rw [hc.out]; unfold szS
            have := HM.out
            rw [if_pos (by omega)]
          have d2 : decide (m - ((sat xs i).size : Int) < 0) = true := decide_eq_true h2
          clear hs hle h2
          go_wp2
          go_ret
          exact retI HC.out.symm hb
        · have d2 : decide (m - ((sat xs i).size : Int) < 0) = false := decide_eq_false h2
          have HM2 : Hid (m - ((sat xs i).size : Int) = 1048576 - (xs.length : Int) - lensB (xs.take (i + 1))) := by
            have := HM.out
            unfold Hid
            omega
          clear hs hle
          have h3 : 0 ≤ m - ((sat xs i).size : Int) := by omega
          have h4 : m - ((sat xs i).size : Int) ≤ 1048576 := by omega
          clear h2
          go_wp2
          go_roundw
          case rel => exact ⟨i + 1, _, by omega, by go_num, rfl, by omega, by omega, HM2.out, hb⟩
          case measure => (simp [intOf]) <;> omega
      · obtain rfl : i = xs.length := by omega
        have HC : Hid (c = m) := by
          have := HM.out
          rw [List.take_length] at this
          unfold Hid; rw [hc.out]; unfold szS
          rw [if_neg (by omega)]; omega
        go_wp2
        go_ret
        exact retI HC.out.symm hb

end Go.Proofs.Ytfchcpahaapgdaa
