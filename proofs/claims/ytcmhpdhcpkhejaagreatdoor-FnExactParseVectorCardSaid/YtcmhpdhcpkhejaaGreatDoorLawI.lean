/- The statements' own helpers on slices of ints: toIntS, eqIntS, markIntS, heldIntS. -/
import Derived.Test.YtcmhpdhcpkhejaaGreatDoorMem
namespace Go.Proofs.YtcmhpdhcpkhejaaGreatDoor
open Go.RowKit Lm

/-- The slice value v, wherever it lies, reads as xs. -/
def Rd (w : World) (v : Value) (xs : List Int) : Prop :=
  ∃ ao cap, v = .slice ao xs.length cap ∧ ∀ i, i < xs.length → ∃ b off, ao = some ⟨b, off, none⟩ ∧ b < w.heap.size ∧ w.cell? ⟨b, off + i, none⟩ = some (.int .i64 (lat xs i))

theorem Rd.below {w w' : World} {v : Value} {xs : List Int} (h : Rd w v xs) (hb : Below w.heap.size w w') : Rd w' v xs := by
  obtain ⟨ao, cap, rfl, h2⟩ := h
  refine ⟨ao, cap, rfl, fun i hi => ?_⟩
  obtain ⟨b, off, h3, h4, h5⟩ := h2 i hi
  exact ⟨b, off, h3, Nat.lt_of_lt_of_le h4 hb.size, (hb.cell (p := ⟨b, off + i, none⟩) h4).trans h5⟩

set_option maxHeartbeats 400000 in
theorem eqIntS_c (w : World) (b1 b2 : Nat) (v1 v2 : Value) (xs : List Int) (h1 : Own w b1 v1 xs) (h2 : Own w b2 v2 xs) :
    Calls Tryz.prog 95 #[v1, v2] w (RetB w true) := by
  obtain ⟨a1, c1, rfl, -, f2, f3, -, -⟩ := h1.form
  obtain ⟨a2, c2, rfl, -, g2, g3, -, -⟩ := h2.form
  unfold maxLen at f3 g3
  have H1 := Lib.hid h1; have H2 := Lib.hid h2
  clear h1 h2
  go_enter Tryz.func95, Tryz.ntmps95
  go_wp2
  go_loopw [5] (fun k wr => ∃ (i : Nat), i ≤ xs.length ∧ k = .int .i64 i ∧ Below w.heap.size w wr) (fun k _ => xs.length - (intOf k).toNat)
  case atStart => exact ⟨0, by omega, rfl, Below.refl _ _⟩
  case round =>
    obtain ⟨i, hi, rfl, hb⟩ := hrel
    by_cases hlt : i < xs.length
    · obtain ⟨g, rfl, -, -⟩ := H1.out.addr hlt
      obtain ⟨g', rfl, -, -⟩ := H2.out.addr hlt
      have k1 := (H1.out.below hb (Nat.le_refl _)).cell i hlt
      have k2 := (H2.out.below hb (Nat.le_refl _)).cell i hlt
      have t1 : (i : Int) < xs.length := by omega
      go_wp2_with fail
      go_quiet (fail)
      go_wp2_with fail
      go_roundw
      case rel => exact ⟨i + 1, by omega, by go_num, ⟨hb.os, hb.tape, hb.output, hb.size, hb.block⟩⟩
      case measure => (simp [intOf]) <;> omega
    · obtain rfl : i = xs.length := by omega
      go_wp2
      go_ret
      exact retB rfl hb

/-- k, k + 1, .. -/
def iota (k : Int) (n : Nat) : List Int := (List.range n).map (fun i => k + (i : Nat))
theorem iota_length (k : Int) (n : Nat) : (iota k n).length = n := by simp [iota]
theorem iota_succ (k : Int) (n : Nat) : iota k (n + 1) = iota k n ++ [k + n] := by simp [iota, List.range_succ]
theorem iota_lat (k : Int) (n i : Nat) (h : i < n) : lat (iota k n) i = k + i := by simp [iota, lat, List.getD, h]

/-- The row of v is marked from k on. -/
def RetMark (w : World) (base : Nat) (v : Value) (k : Int) (n : Nat) (e : Ending) (w' : World) : Prop := e = .returned (.int .i64 (k + n)) ∧ Own w' base v (iota k n) ∧ w.grownBy w' v.ownBlock
theorem retMark {w w' : World} {base : Nat} {v : Value} {k m : Int} {n : Nat} (h : m = k + n) (ho : Own w' base v (iota k n)) (hg : w.grownBy w' v.ownBlock) : RetMark w base v k n (.returned (.int .i64 m)) w' := ⟨by rw [h], ho, hg⟩

theorem grownBy_trans {a b c : World} {row : Option Nat} (h : a.grownBy b row) (k : b.grownBy c row) : a.grownBy c row :=
  ⟨k.os.trans h.os, k.tape.trans h.tape, k.output.trans h.output, Nat.le_trans h.size k.size, fun i hi hr => (k.block i (Nat.lt_of_lt_of_le hi h.size) hr).trans (h.block i hi hr)⟩

set_option maxHeartbeats 400000 in
theorem markIntS_c (w : World) (b1 : Nat) (v1 : Value) (xs : List Int) (k : Int) (h1 : Own w b1 v1 xs) (hl : xs.length ≤ 17592186044415) (hk0 : 0 ≤ k) (hk1 : k ≤ 17592186044415) :
    Calls Tryz.prog 56 #[v1, .int .i64 k] w (RetMark w b1 v1 k xs.length) := by
  obtain ⟨ao, cap, rfl, -, f2, f3, -, -⟩ := h1.form
  have H1 := Lib.hid h1
  clear h1 f3
  go_enter Tryz.func56, Tryz.ntmps56
  go_wp2
  go_loopw [1, 5] (fun kk k' wr => ∃ (i : Nat), i ≤ xs.length ∧ k' = .int .i64 i ∧ kk = .int .i64 (k + i) ∧ Hid (Own wr b1 (.slice ao xs.length cap) (iota k i ++ xs.drop i)) ∧ Hid (w.grownBy wr (Value.slice ao xs.length cap).ownBlock)) (fun _ k _ => xs.length - (intOf k).toNat)
  case atStart => exact ⟨0, by omega, rfl, by simp, by unfold Hid; simpa [iota] using H1.out, ⟨rfl, rfl, rfl, Nat.le_refl _, fun _ _ _ => rfl⟩⟩
  case round =>
    obtain ⟨i, hi, rfl, rfl, HO, HG⟩ := hrel
    by_cases hlt : i < xs.length
    · have hli : i < (iota k i ++ xs.drop i).length := by simp [iota_length]; omega
      obtain ⟨g, rfl, -, -⟩ := HO.out.addr hli
      have k1 := HO.out.cell i hli
      have z1 := HO.out.frozen i
      have t1 : (i : Int) < xs.length := by omega
      have hst := HO.out.store i (k + i)
      rw [set_mid (iota_length k i) hlt, ← iota_succ] at hst
      have HST := Lib.hid hst
      clear hst
      go_wp2
      go_roundw
      case rel => exact ⟨i + 1, by omega, by go_num, by congr 1; omega, HST.out.1, grownBy_trans HG.out HST.out.2⟩
      case measure => (simp [intOf]) <;> omega
    · obtain rfl : i = xs.length := by omega
      have ho := HO.out
      rw [List.drop_length, List.append_nil] at ho
      have HO2 := Lib.hid ho
      clear ho
      go_wp2
      go_ret
      exact retMark rfl HO2.out HG.out

set_option maxHeartbeats 400000 in
theorem heldIntS_c (w : World) (b1 : Nat) (v1 : Value) (n : Nat) (k : Int) (h1 : Own w b1 v1 (iota k n)) (hl : n ≤ 17592186044415) (hk0 : 0 ≤ k) (hk1 : k ≤ 17592186044415) :
    Calls Tryz.prog 57 #[v1, .int .i64 k] w (RetI w (k + n)) := by
  obtain ⟨ao, cap, rfl, -, f2, f3, -, -⟩ := h1.form
  rw [iota_length] at f2
  have H1 := Lib.hid h1
  rw [iota_length] at H1 ⊢
  clear h1 f3
  go_enter Tryz.func57, Tryz.ntmps57
  go_wp2
  go_loopw [1, 5] (fun kk k' wr => ∃ (i : Nat), i ≤ n ∧ k' = .int .i64 i ∧ kk = .int .i64 (k + i) ∧ Below w.heap.size w wr) (fun _ k _ => n - (intOf k).toNat)
  case atStart => exact ⟨0, by omega, rfl, by simp, Below.refl _ _⟩
  case round =>
    obtain ⟨i, hi, rfl, rfl, hb⟩ := hrel
    by_cases hlt : i < n
    · obtain ⟨g, rfl, -, -⟩ := H1.out.addr (i := i) (by rw [iota_length]; exact hlt)
      have k1 := (H1.out.below hb (Nat.le_refl _)).cell i (by rw [iota_length]; exact hlt)
      rw [iota_lat k n i hlt] at k1
      have t1 : (i : Int) < n := by omega
      go_wp2
      go_roundw
      case rel => exact ⟨i + 1, by omega, by go_num, by congr 1; omega, hb⟩
      case measure => (simp [intOf]) <;> omega
    · obtain rfl : i = n := by omega
      go_wp2
      go_ret
      exact retI rfl hb

end Go.Proofs.YtcmhpdhcpkhejaaGreatDoor
