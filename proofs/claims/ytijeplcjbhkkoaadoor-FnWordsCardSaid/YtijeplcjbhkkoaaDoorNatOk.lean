/- Which lists are natural numbers: spec.NatOk and impl.NatOk. -/
import Derived.Test.YtijeplcjbhkkoaaDoorLawI
namespace Go.Proofs.YtijeplcjbhkkoaaDoor
open Go.RowKit Lm

/-- A list of at most 60 limbs in range, without a zero limb at its end. -/
def OkP (xs : List Int) : Prop := xs.length ≤ 60 ∧ Norm xs
open Classical in
noncomputable def okB (xs : List Int) : Bool := decide (OkP xs)
theorem okB_true {xs : List Int} (h : OkP xs) : okB xs = true := by simp [okB, h]
theorem okB_false {xs : List Int} (h : ¬ OkP xs) : okB xs = false := by simp [okB, h]
theorem okB_iff {xs : List Int} : okB xs = true ↔ OkP xs := by simp [okB]

set_option maxHeartbeats 1000000 in
theorem natOk_c (w : World) (b1 : Nat) (v1 : Value) (xs : List Int) (h1 : Own w b1 v1 xs) :
    Calls Tryd.prog 32 #[v1] w (RetB w (okB xs)) := by
  obtain ⟨ao, cap, rfl, -, f2, f3, -, -⟩ := h1.form
  unfold maxLen at f3
  have H1 := Lib.hid h1
  clear h1
  by_cases hl : xs.length ≤ 60
  · have hbad : ¬ (0 < xs.length ∧ lat xs (xs.length - 1) = 0) ∨ (0 < xs.length ∧ lat xs (xs.length - 1) = 0) := by
      by_cases h : 0 < xs.length ∧ lat xs (xs.length - 1) = 0
      · exact .inr h
      · exact .inl h
    rcases hbad with hg | ⟨hp, hz⟩
    · have HG : Hid (xs = [] ∨ lat xs (xs.length - 1) ≠ 0) := by
        by_cases h : 0 < xs.length
        · exact .inr fun e => hg ⟨h, e⟩
        · exact .inl (List.length_eq_zero_iff.1 (by omega))
      have HX : Hid (∀ K : Prop, (xs.length = 0 → K) → (∀ g, ao = some ⟨g, 0, none⟩ → 0 < xs.length → lat xs (xs.length - 1) ≠ 0 → K) → K) := by
        intro K k1 k2
        by_cases h : 0 < xs.length
        · obtain ⟨g, e, -, -⟩ := H1.out.addr (i := xs.length - 1) (by omega)
          exact k2 g e h fun e => hg ⟨h, e⟩
        · exact k1 (by omega)
      have t1 : (xs.length : Int) ≤ 60 := by omega
      have HL := Lib.hid hl
      clear hg hl
      refine HX.out _ (fun h0 => ?_) (fun g hao h0 hz => ?_)
      · have HK : Hid (OkP xs) := ⟨HL.out, by rw [List.length_eq_zero_iff.1 h0]; exact Norm.nil⟩
        have t0 : decide (0 < xs.length) = false := decide_eq_false (by omega)
        have t0' : decide ((0 : Int) < xs.length) = false := decide_eq_false (by omega)
        have H0 := Lib.hid h0
        clear h0
        go_enter Tryd.func32, Tryd.ntmps32
        go_wp2
        go_loopw [24] (fun k wr => k = .int .i64 0 ∧ wr = w) (fun _ _ => 0)
        case atStart => exact ⟨rfl, rfl⟩
        case round =>
          obtain ⟨rfl, rfl⟩ := hrel
          go_wp2
          go_ret
          exact retB (by rw [okB_true HK.out]) (Below.refl _ _)
      · subst hao
        have k0 := H1.out.cell (xs.length - 1) (by omega)
        have t3 : (1 : Int) ≤ xs.length := by omega
        have tz : (lat xs (xs.length - 1) == 0) = false := beq_eq_false_iff_ne.2 hz
        clear hz
        go_enter Tryd.func32, Tryd.ntmps32
        go_wp2
        clear k0
        go_loopw [24] (fun k wr => ∃ (i : Nat), i ≤ xs.length ∧ k = .int .i64 i ∧ Hid (∀ j, j < i → 0 ≤ lat xs j ∧ lat xs j < 1000000000) ∧ wr = w) (fun k _ => xs.length - (intOf k).toNat)
        case atStart => exact ⟨0, by omega, rfl, fun j hj => by omega, rfl⟩
        case round =>
          obtain ⟨i, hi, rfl, HR, rfl⟩ := hrel
          by_cases hlt : i < xs.length
          · have k1 := H1.out.cell i hlt
            have t1 : (i : Int) < xs.length := by omega
            by_cases hr : lat xs i < 0
            · have HN : Hid (¬ OkP xs) := fun h => by have := (h.2.1.lat i).1; omega
              go_wp2
              go_ret
              exact retB (by rw [okB_false HN.out]) (Below.refl _ _)
            · have hd : decide (lat xs i < 0) = false := by simp; omega
              by_cases hr2 : 1000000000 ≤ lat xs i
              · have HN : Hid (¬ OkP xs) := fun h => by have := (h.2.1.lat i).2; omega
                go_wp2
                go_ret
                exact retB (by rw [okB_false HN.out]) (Below.refl _ _)
              · have hd2 : decide (1000000000 ≤ lat xs i) = false := by simp; omega
                go_wp2
                go_roundw
                case rel => exact ⟨i + 1, by omega, by go_num, (fun j hj => by
                  by_cases hji : j < i
                  · exact HR.out j hji
                  · obtain rfl : j = i := by omega
                    omega : ∀ j, j < i + 1 → 0 ≤ lat xs j ∧ lat xs j < 1000000000), (by first | rfl | trivial)⟩
                case measure => (simp [intOf]) <;> omega
          · obtain rfl : i = xs.length := by omega
            have HK : Hid (OkP xs) := ⟨HL.out, inR_of_lat fun j => by
              by_cases hj : j < xs.length
              · exact HR.out j hj
              · rw [lat_ge (by omega)]; omega, HG.out⟩
            go_wp2
            go_ret
            exact retB (by rw [okB_true HK.out]) (Below.refl _ _)
    · have HN : Hid (¬ OkP xs) := fun h => by
        rcases h.2.2 with h2 | h2
        · rw [h2] at hp; simp at hp
        · exact h2 hz
      obtain ⟨g, rfl, -, -⟩ := H1.out.addr (i := xs.length - 1) (by omega)
      have k1 := H1.out.cell (xs.length - 1) (by omega)
      rw [hz] at k1
      have t1 : (xs.length : Int) ≤ 60 := by omega
      have t3 : (1 : Int) ≤ xs.length := by omega
      clear hz
      go_enter Tryd.func32, Tryd.ntmps32
      go_wp2
      go_ret
      exact retB (by rw [okB_false HN.out]) (Below.refl _ _)
  · have HN : Hid (¬ OkP xs) := fun h => hl h.1
    have t1 : (60 : Int) < xs.length := by omega
    have t2 : decide ((60 : Int) < xs.length) = true := by simp; omega
    clear hl
    go_enter Tryd.func32, Tryd.ntmps32
    go_wp2
    go_ret
    exact retB (by rw [okB_false HN.out]) (Below.refl _ _)

end Go.Proofs.YtijeplcjbhkkoaaDoor
