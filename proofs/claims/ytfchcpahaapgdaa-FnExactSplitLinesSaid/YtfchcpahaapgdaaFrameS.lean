/- What the rows' proofs over strings share. -/
import Derived.Test.YtfchcpahaapgdaaRows
import Derived.WalkKit
import Derived.WalkSpells
import Derived.WalkLawsBesides
import Derived.Deep.QuietTactic
import Derived.BigQuiet
import Derived.Lib.Hide
import Derived.ProofKit
import Derived.OpenShut
import Derived.ShutString
import Derived.ChangeOld
import Derived.JoinedOf
import GoSem.ClaimJoined
import Derived.KernelRfl
namespace Go.Proofs.Ytfchcpahaapgdaa
open Go.ChangeShapes Go.WideShapes Go.ChangeAt Go.RowKit

theorem Try.own : ownKnob Try.prog.godebug = none := by kernel_rfl
theorem Try.laidOut : laidOutB Try.prog = true := by kernel_rfl
/-! Three closed facts on the head of the translation, by its first words alone: by plain evaluation they take more than 10 GB. -/
theorem cutWords_of {P : Program} {L : List Char} (h : P.initOrder = String.ofList L) : P.initOrder.toList = L := by rw [h]; exact String.toList_ofList
theorem make_of {P : Program} {t : List (List Char)} (h : behindMainWord (wordsSigns P.initOrder.toList) = "cut".toList :: t) : P.make = some .cut := by
  unfold Program.make
  rw [h]
  rfl
theorem lifts_of {P : Program} {t : List (List Char)} (h : behindMainWord (wordsSigns P.initOrder.toList) = "cut".toList :: t) : P.liftsFinal = false := by
  unfold Program.liftsFinal Program.headLifts
  rw [h]
  rfl
theorem enter_of {P : Program} {t : List (List Char)} (h : behindMainWord (wordsSigns P.initOrder.toList) = "cut".toList :: t) (h1 : P.laysLater = false) (h2 : P.bearsReflect = false) (h3 : P.doorRows = []) : P.mayEnter = true := by
  unfold Program.mayEnter Program.doorFits
  rw [h, h1, h2, h3]
  rfl
set_option maxRecDepth 100000 in
theorem Try.words : ∃ t, behindMainWord (wordsSigns Try.pinned.checked.prog.initOrder.toList) = "cut".toList :: t := by
  have hL : Try.pinned.checked.prog.initOrder = String.ofList _ := rfl
  rw [cutWords_of hL]
  exact ⟨_, rfl⟩
theorem Try.makeCut : Try.pinned.checked.prog.make = some .cut := by
  obtain ⟨t, h⟩ := Try.words
  exact make_of h
theorem Try.liftsNone : Try.pinned.checked.prog.liftsFinal = false := by
  obtain ⟨t, h⟩ := Try.words
  exact lifts_of h
theorem Try.mayEnter : Try.pinned.checked.prog.mayEnter = true := by
  obtain ⟨t, h⟩ := Try.words
  exact enter_of h (by kernel_rfl) (by kernel_rfl) (by kernel_rfl)

theorem and_mk {a b : Bool} (h : a = true) (k : b = true) : (a && b) = true := by rw [h, k]; rfl


/-! What a call comes to. -/
def RetI (w : World) (n : Int) (e : Ending) (w' : World) : Prop := e = .returned (.int .i64 n) ∧ Below w.heap.size w w'
def RetB (w : World) (b : Bool) (e : Ending) (w' : World) : Prop := e = .returned (.bool b) ∧ Below w.heap.size w w'
theorem retI {w w' : World} {n m : Int} (h : m = n) (hb : Below w.heap.size w w') : RetI w n (.returned (.int .i64 m)) w' := ⟨by rw [h], hb⟩
theorem retB {w w' : World} {n m : Bool} (h : m = n) (hb : Below w.heap.size w w') : RetB w n (.returned (.bool m)) w' := ⟨by rw [h], hb⟩
theorem below_dr {B : Nat} {w0 w : World} (h : Below B w0 w) (n : Nat) : Below B w0 (w.drewN n) := ⟨h.os, h.tape, h.output, h.size, h.block⟩

end Go.Proofs.Ytfchcpahaapgdaa
