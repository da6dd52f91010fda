/- What the rows' proofs share: a slice of ints that came in, opened. -/
import Derived.Test.YtijeplcjbhkkoaaGreatDoorLawI
import Derived.ProofKit
import Derived.OpenShut
import Derived.ShutString
import Derived.ChangeOld
import Derived.JoinedOf
import GoSem.ClaimJoined
import Derived.KernelRfl
namespace Go.Proofs.YtijeplcjbhkkoaaGreatDoor
open Go.ChangeShapes Go.WideShapes Go.ChangeAt Go.RowKit Lm

theorem Tryz.own : ownKnob Tryz.prog.godebug = none := by kernel_rfl
theorem Tryz.laidOut : laidOutB Tryz.prog = true := by kernel_rfl
/-! Three closed facts on the head of the translation, by its first words alone: by plain evaluation they take more than 10 GB. -/
theorem cutWords_of {P : Program} {L : List Char} (h : P.initOrder = String.ofList L) : P.initOrder.toList = L := by rw [h]; exact String.toList_ofList
theorem make_of {P : Program} {t : List (List Char)} (h : behindMainWord (wordsSigns P.initOrder.toList) = "cut".toList :: t) : P.make = some .cut := by
  unfold Program.make
  rw [h]
  rfl
theorem lifts_of {P : Program} {t : List (List Char)} (h : behindMainWord (wordsSigns P.initOrder.toList) = "cut".toList :: t) : P.liftsFinal = false := by
  unfold Program.liftsFinal Program.headLifts
  rw [h]
  rfl
theorem enter_of {P : Program} {t : List (List Char)} (h : behindMainWord (wordsSigns P.initOrder.toList) = "cut".toList :: t) (h1 : P.laysLater = false) (h2 : P.bearsReflect = false)
    (h3 : (P.doorRows.any fun n => ["(look 8)", "(look 8, test files too)", "(list 7)", "(look 7)"].any (endsIn · n)) = false) : P.mayEnter = true := by
  have e : P.doorFits [] = true := by
    unfold Program.doorFits
    dsimp only
    rw [h3]
    simp
  have e2 : P.mayEnter = P.doorFits [] := by
    unfold Program.mayEnter
    rw [h, h1, h2]
    rfl
  rw [e2, e]
set_option maxRecDepth 100000 in
theorem Tryz.words : ∃ t, behindMainWord (wordsSigns Tryz.pinned.checked.prog.initOrder.toList) = "cut".toList :: t := by
  have hL : Tryz.pinned.checked.prog.initOrder = String.ofList _ := rfl
  rw [cutWords_of hL]
  exact ⟨_, rfl⟩
theorem Tryz.makeCut : Tryz.pinned.checked.prog.make = some .cut := by
  obtain ⟨t, h⟩ := Tryz.words
  exact make_of h
theorem Tryz.liftsNone : Tryz.pinned.checked.prog.liftsFinal = false := by
  obtain ⟨t, h⟩ := Tryz.words
  exact lifts_of h
theorem Tryz.mayEnter : Tryz.pinned.checked.prog.mayEnter = true := by
  obtain ⟨t, h⟩ := Tryz.words
  exact enter_of h (by kernel_rfl) (by kernel_rfl) (by kernel_rfl)

theorem and_mk {a b : Bool} (h : a = true) (k : b = true) : (a && b) = true := by rw [h, k]; rfl

set_option maxRecDepth 100000 in
theorem Tryz.cellsInt : Tryz.prog.cellsOf 3 = 1 := by kernel_rfl

set_option maxRecDepth 100000 in
/-- A slice of ints that came in reads as a list. -/
theorem rd_of_trod {H : Type} {enc : TypeId × Value → H} {W : World} {v : Value} {d : DataW H} {ps : List MemPlace} {base : Nat} (hv : Value.okWide Tryz.prog W .any base 23 v)
    (h : DataW.Trod enc Tryz.prog W 0 (fun _ => true) true 23 v d ps) : ∃ xs, Rd W v xs := by
  obtain ⟨a0, len0, cap0, rfl⟩ := okWide_slice Tryz.underlying23 hv
  obtain ⟨fuel, hf⟩ := h
  rcases open_ints Tryz.underlying23 Tryz.underlying3 Tryz.cellsInt hf with ⟨hcs, _⟩ | ⟨x, l, c, zs, hcs, _, hl, hm, hz, _, hcell, hwz⟩
  · simp [Value.cells] at hcs
    obtain ⟨rfl, rfl, rfl⟩ := hcs
    exact ⟨[], none, 0, rfl, fun i hi => by simp at hi⟩
  · simp [Value.cells] at hcs
    obtain ⟨rfl, rfl, rfl⟩ := hcs
    have hzl : zs.length = cap0 := by simpa using hz
    have htl : (zs.take len0).length = len0 := by rw [List.length_take]; omega
    refine ⟨zs.take len0, some x, cap0, by rw [htl], fun i hi => ?_⟩
    rw [htl] at hi
    have hc := hcell i (by omega)
    rw [show zs.getD i 0 = lat (zs.take len0) i by rw [lat_take hi]; rfl] at hc
    obtain ⟨b, off, spot⟩ := x
    have hlt := World.block_lt_of_cell? W _ hc
    cases spot with
    | none =>
      rw [Addr.add_lit] at hc hlt
      exact ⟨b, off, rfl, hlt, hc⟩
    | some s =>
      exfalso
      have h0 := hcell 0 (by omega)
      unfold Addr.add World.cell? at h0
      simp at h0
      split at h0 <;> simp at h0

end Go.Proofs.YtijeplcjbhkkoaaGreatDoor
