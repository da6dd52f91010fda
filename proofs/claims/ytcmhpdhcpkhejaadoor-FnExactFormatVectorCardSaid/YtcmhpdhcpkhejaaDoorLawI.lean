/- The statements' own helpers on slices of ints: toIntS, eqIntS, markIntS, heldIntS. -/
import Derived.Test.YtcmhpdhcpkhejaaDoorMem
namespace Go.Proofs.YtcmhpdhcpkhejaaDoor
open Go.RowKit Lm

/-- The slice value v, wherever it lies, reads as xs. -/
def Rd (w : World) (v : Value) (xs : List Int) : Prop :=
  ∃ ao cap, v = .slice ao xs.length cap ∧ ∀ i, i < xs.length → ∃ b off, ao = some ⟨b, off, none⟩ ∧ b < w.heap.size ∧ w.cell? ⟨b, off + i, none⟩ = some (.int .i64 (lat xs i))

theorem Rd.below {w w' : World} {v : Value} {xs : List Int} (h : Rd w v xs) (hb : Below w.heap.size w w') : Rd w' v xs := by
  obtain ⟨ao, cap, rfl, h2⟩ := h
  refine ⟨ao, cap, rfl, fun i hi => ?_⟩
  obtain ⟨b, off, h3, h4, h5⟩ := h2 i hi
  exact ⟨b, off, h3, Nat.lt_of_lt_of_le h4 hb.size, (hb.cell (p := ⟨b, off + i, none⟩) h4).trans h5⟩

set_option maxHeartbeats 400000 in
theorem toIntS_c (w : World) (v1 : Value) (xs : List Int) (h1 : Rd w v1 xs) (hl : xs.length ≤ 17592186044415) :
    Calls Tryd.prog 25 #[v1] w (RetS w xs) := by
  obtain ⟨ao, cap, rfl, hc⟩ := h1
  have H1 := Lib.hid hc
  clear hc
  go_enter Tryd.func25, Tryd.ntmps25
  go_wp2_with (at_make; refine make_ints rfl _ _ rfl _ _ _ _ xs.length rfl rfl (by omega) (by omega) (by omega) ?_)
  intro w0 ho hb0 hs0
  have HO := Lib.hid ho
  clear ho
  go_wp2_with fail
  go_loopw [4] (fun k wr => ∃ (i : Nat) (o : List Int), i ≤ xs.length ∧ k = .int .i64 i ∧ o.length = xs.length ∧ Hid (o.take i = xs.take i) ∧ Hid (Own wr w.heap.size (.slice (some ⟨w.heap.size, 0, none⟩) xs.length xs.length) o) ∧ Below w.heap.size w wr) (fun k _ => xs.length - (intOf k).toNat)
  case atStart => exact ⟨0, _, by omega, rfl, by simp, by simp [Hid], HO.out, hb0⟩
  case round =>
    obtain ⟨i, o, hi, rfl, hol, HT, HO', hb⟩ := hrel
    by_cases hlt : i < xs.length
    · obtain ⟨b, off, rfl, hbl, hcell⟩ := H1.out i hlt
      have k1 : wr.cell? ⟨b, off + i, none⟩ = some (.int .i64 (lat xs i)) := (hb.cell (p := ⟨b, off + i, none⟩) hbl).trans hcell
      have k2 := HO'.out.cell i (by omega)
      have z2 := HO'.out.frozen i
      have t1 : (i : Int) < xs.length := by omega
      clear hcell
      go_wp2
      go_roundw
      case rel => exact ⟨i + 1, _, by omega, by go_num, by simp [hol], by
        unfold Hid
        rw [take_succ _ i (by simp; omega), take_succ xs i hlt, lat_set_same (by omega), List.take_set_of_le (Nat.le_refl _), HT.out], (HO'.out.store i _).1, hb.setCell (Nat.le_refl _) _⟩
      case measure => (simp [intOf]) <;> omega
    · obtain rfl : i = xs.length := by omega
      have HE : Hid (o = xs) := by
        have := HT.out
        rwa [List.take_of_length_le (by omega), List.take_length] at this
      have ho := HO'.out
      rw [HE.out] at ho
      have HO2 := Lib.hid ho
      clear ho
      go_wp2
      go_ret
      exact retS HO2.out rfl hb

set_option maxHeartbeats 400000 in
theorem eqIntS_c (w : World) (b1 b2 : Nat) (v1 v2 : Value) (xs : List Int) (h1 : Own w b1 v1 xs) (h2 : Own w b2 v2 xs) :
    Calls Tryd.prog 32 #[v1, v2] w (RetB w true) := by
  obtain ⟨a1, c1, rfl, -, f2, f3, -, -⟩ := h1.form
  obtain ⟨a2, c2, rfl, -, g2, g3, -, -⟩ := h2.form
  unfold maxLen at f3 g3
  have H1 := Lib.hid h1; have H2 := Lib.hid h2
  clear h1 h2
  go_enter Tryd.func32, Tryd.ntmps32
  go_wp2
  go_loopw [5] (fun k wr => ∃ (i : Nat), i ≤ xs.length ∧ k = .int .i64 i ∧ Below w.heap.size w wr) (fun k _ => xs.length - (intOf k).toNat)
  case atStart => exact ⟨0, by omega, rfl, Below.refl _ _⟩
  case round =>
    obtain ⟨i, hi, rfl, hb⟩ := hrel
    by_cases hlt : i < xs.length
    · obtain ⟨g, rfl, -, -⟩ := H1.out.addr hlt
      obtain ⟨g', rfl, -, -⟩ := H2.out.addr hlt
      have k1 := (H1.out.below hb (Nat.le_refl _)).cell i hlt
      have k2 := (H2.out.below hb (Nat.le_refl _)).cell i hlt
      have t1 : (i : Int) < xs.length := by omega
      go_wp2_with fail
      go_quiet (fail)
      go_wp2_with fail
      go_roundw
      case rel => exact ⟨i + 1, by omega, by go_num, ⟨hb.os, hb.tape, hb.output, hb.size, hb.block⟩⟩
      case measure => (simp [intOf]) <;> omega
    · obtain rfl : i = xs.length := by omega
      go_wp2
      go_ret
      exact retB rfl hb

/-- k, k + 1, .. -/
def iota (k : Int) (n : Nat) : List Int := (List.range n).map (fun i => k + (i : Nat))
theorem iota_length (k : Int) (n : Nat) : (iota k n).length = n := by simp [iota]
theorem iota_succ (k : Int) (n : Nat) : iota k (n + 1) = iota k n ++ [k + n] := by simp [iota, List.range_succ]
theorem iota_lat (k : Int) (n i : Nat) (h : i < n) : lat (iota k n) i = k + i := by simp [iota, lat, List.getD, h]

/-- The row of v is marked from k on. -/
def RetMark (w : World) (base : Nat) (v : Value) (k : Int) (n : Nat) (e : Ending) (w' : World) : Prop := e = .returned (.int .i64 (k + n)) ∧ Own w' base v (iota k n) ∧ w.grownBy w' v.ownBlock
theorem retMark {w w' : World} {base : Nat} {v : Value} {k m : Int} {n : Nat} (h : m = k + n) (ho : Own w' base v (iota k n)) (hg : w.grownBy w' v.ownBlock) : RetMark w base v k n (.returned (.int .i64 m)) w' := ⟨by rw [h], ho, hg⟩

theorem grownBy_trans {a b c : World} {row : Option Nat} (h : a.grownBy b row) (k : b.grownBy c row) : a.grownBy c row :=
  ⟨k.os.trans h.os, k.tape.trans h.tape, k.output.trans h.output, Nat.le_trans h.size k.size, fun i hi hr => (k.block i (Nat.lt_of_lt_of_le hi h.size) hr).trans (h.block i hi hr)⟩

end Go.Proofs.YtcmhpdhcpkhejaaDoor
