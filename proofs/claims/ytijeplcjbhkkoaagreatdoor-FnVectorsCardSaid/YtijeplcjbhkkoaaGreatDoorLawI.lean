/- The statements' own helpers on slices of ints: toIntS, eqIntS, markIntS, heldIntS. -/
import Derived.Test.YtijeplcjbhkkoaaGreatDoorMem
namespace Go.Proofs.YtijeplcjbhkkoaaGreatDoor
open Go.RowKit Lm

/-- The slice value v, wherever it lies, reads as xs. -/
def Rd (w : World) (v : Value) (xs : List Int) : Prop :=
  ∃ ao cap, v = .slice ao xs.length cap ∧ ∀ i, i < xs.length → ∃ b off, ao = some ⟨b, off, none⟩ ∧ b < w.heap.size ∧ w.cell? ⟨b, off + i, none⟩ = some (.int .i64 (lat xs i))

theorem Rd.below {w w' : World} {v : Value} {xs : List Int} (h : Rd w v xs) (hb : Below w.heap.size w w') : Rd w' v xs := by
  obtain ⟨ao, cap, rfl, h2⟩ := h
  refine ⟨ao, cap, rfl, fun i hi => ?_⟩
  obtain ⟨b, off, h3, h4, h5⟩ := h2 i hi
  exact ⟨b, off, h3, Nat.lt_of_lt_of_le h4 hb.size, (hb.cell (p := ⟨b, off + i, none⟩) h4).trans h5⟩

/-- k, k + 1, .. -/
def iota (k : Int) (n : Nat) : List Int := (List.range n).map (fun i => k + (i : Nat))
theorem iota_length (k : Int) (n : Nat) : (iota k n).length = n := by simp [iota]
theorem iota_succ (k : Int) (n : Nat) : iota k (n + 1) = iota k n ++ [k + n] := by simp [iota, List.range_succ]
theorem iota_lat (k : Int) (n i : Nat) (h : i < n) : lat (iota k n) i = k + i := by simp [iota, lat, List.getD, h]

/-- The row of v is marked from k on. -/
def RetMark (w : World) (base : Nat) (v : Value) (k : Int) (n : Nat) (e : Ending) (w' : World) : Prop := e = .returned (.int .i64 (k + n)) ∧ Own w' base v (iota k n) ∧ w.grownBy w' v.ownBlock
theorem retMark {w w' : World} {base : Nat} {v : Value} {k m : Int} {n : Nat} (h : m = k + n) (ho : Own w' base v (iota k n)) (hg : w.grownBy w' v.ownBlock) : RetMark w base v k n (.returned (.int .i64 m)) w' := ⟨by rw [h], ho, hg⟩

theorem grownBy_trans {a b c : World} {row : Option Nat} (h : a.grownBy b row) (k : b.grownBy c row) : a.grownBy c row :=
  ⟨k.os.trans h.os, k.tape.trans h.tape, k.output.trans h.output, Nat.le_trans h.size k.size, fun i hi hr => (k.block i (Nat.lt_of_lt_of_le hi h.size) hr).trans (h.block i hi hr)⟩

end Go.Proofs.YtijeplcjbhkkoaaGreatDoor
