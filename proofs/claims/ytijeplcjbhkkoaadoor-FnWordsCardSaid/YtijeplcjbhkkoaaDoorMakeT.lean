/- The reference's drawn arguments: MakeText. -/
import Derived.Test.YtijeplcjbhkkoaaDoorCur
import Derived.Test.YtijeplcjbhkkoaaDoorStrG
namespace Go.Proofs.YtijeplcjbhkkoaaDoor
open Go.RowKit Lm

theorem OwnS.lit5 (w : World) (a b c d e : ByteArray) : OwnS (w.alloc (.cells #[.string a, .string b, .string c, .string d, .string e] 9)) w.heap.size (.slice (some ⟨w.heap.size, 0, none⟩) 5 5) [a, b, c, d, e] :=
  World.ownsRow_lit w #[.string a, .string b, .string c, .string d, .string e] 5 (Nat.le_refl _) (by unfold maxLen; omega) rfl
/-- A short text; only the cursor's block is changed. -/
def RetSt (w : World) (g : Nat) (e : Ending) (w' : World) : Prop := ∃ t : ByteArray, e = .returned (.string t) ∧ t.size ≤ 2 ∧ Cur w' g ∧ w.grownBy w' (some g)
set_option maxHeartbeats 1000000 in
theorem l01Str_c (w : World) (g b : Nat) (v : Value) (xs : List ByteArray) (hc : Cur w g) (hs : OwnS w b v xs) (hg : g < b) (h0 : 0 < xs.length) (h1 : xs.length ≤ 1000) (hz : ∀ i, i < xs.length → (sat xs i).size ≤ 2) :
    Calls Tryd.prog 28 #[.pointer (some ⟨g, 0, none⟩), v] w (RetSt w g) := by
  have HC := Lib.hid hc
  obtain ⟨ao, cap, rfl, -, -, -, -, -⟩ := hs.form
  obtain ⟨gl, rfl, hbl, -⟩ := hs.addr h0
  have HS := Lib.hid hs
  have HZ := Lib.hid hz
  clear hc hs hz
  go_enter Tryd.func28, Tryd.ntmps28
  go_wp2_with fail
  refine (l01Below_c _ g xs.length HC.out (by omega) (by omega)).mono ?_
  rintro e w1 ⟨x, rfl, x0, x1, hc, hgr⟩
  obtain ⟨m, rfl⟩ := Int.eq_ofNat_of_zero_le x0
  have hm : m < xs.length := by omega
  have HC1 := Lib.hid hc
  have HG1 := Lib.hid hgr
  have HS1 := Lib.hid (HS.out.grown hgr (by right; intro e; have := HS.out.lt g e; omega))
  have k1 := HS1.out.cell m hm
  have t1 : (m : Int) < xs.length := by omega
  clear hc hgr HC HS
  go_wp2
  go_ret
  exact ⟨_, rfl, HZ.out m hm, HC1.out, HG1.out⟩

/-- A text of 14 bytes at most. -/
def RetT14 (w : World) (e : Ending) (w' : World) : Prop := ∃ t : ByteArray, t.size ≤ 14 ∧ RetT w t e w'
theorem sat5 (a b c d e : ByteArray) (ha : a.size ≤ 2) (hb : b.size ≤ 2) (hc : c.size ≤ 2) (hd : d.size ≤ 2) (he : e.size ≤ 2) : ∀ i, i < [a, b, c, d, e].length → (sat [a, b, c, d, e] i).size ≤ 2 := by
  intro i hi
  have hi5 : i < 5 := hi
  match i, hi5 with
  | 0, _ => exact ha
  | 1, _ => exact hb
  | 2, _ => exact hc
  | 3, _ => exact hd
  | 4, _ => exact he
set_option maxHeartbeats 2000000 in
set_option maxRecDepth 100000 in
theorem makeText_c (w : World) (v : Value) (x : List UInt8) (hr : RdY w w.heap.size v x) : Calls Tryd.prog 8 #[v] w (RetT14 w) := by
  have HR := Lib.hid hr
  clear hr
  go_enter Tryd.func8, Tryd.ntmps8
  go_wp2_with fail
  refine (l01New_c _ v x HR.out).mono ?_
  rintro e w1 ⟨g, rfl, hg0, hg1, hc, hb⟩
  have HC := Lib.hid hc
  have B1 := hb
  clear hc hb
  go_wp2_with fail
  refine (l01Below_c _ g 8 HC.out (by omega) (by omega)).mono ?_
  rintro e w2 ⟨k, rfl, k0, k1, hc, hg⟩
  have HC2 := Lib.hid hc
  have B2 := B1.grown hg B1.size (fun k hk => by injection hk with hk; omega)
  clear hc hg HC B1
  go_wp2_with fail
  go_loopw [4, 5] (fun sv kv wr => ∃ (k : Int) (u : ByteArray), 0 ≤ k ∧ u.size + 2 * k ≤ 14 ∧ kv = .int .i64 k ∧ sv = .string u ∧ Hid (Cur wr g) ∧ Below w.heap.size w wr) (fun _ k _ => (RowKit.intOf k).toNat)
  case atStart => exact ⟨k, ByteArray.empty, k0, by have e : ByteArray.empty.size = 0 := rfl; omega, rfl, rfl, HC2.out, B2⟩
  case round =>
    clear HC2 B2
    obtain ⟨k, u, h0, hku, rfl, rfl, HC, hb⟩ := hrel
    have hgl := HC.out.lt
    have hws := hb.size
    by_cases hk : 0 < k
    · have d1 : decide (0 < k) = true := decide_eq_true hk
      go_wp2_with fail
      refine (l01Str_c _ g wr.heap.size _ _ (HC.out.bel (alloc_bel _ _)) (OwnS.lit5 wr _ _ _ _ _) hgl (by decide) (by decide) (sat5 _ _ _ _ _ (by decide) (by decide) (by decide) (by decide) (by decide))).mono ?_
      rintro e w3 ⟨t, rfl, ht2, hc, hg⟩
      have hb3 := (hb.alloc hws _).grown hg (by simp; omega) (fun k hk => by injection hk with hk; omega)
      have HC3 := Lib.hid hc
      have hsum : u.size + t.size ≤ 9223372036854775807 := by omega
      have HZ : Hid ((u ++ t).size + 2 * (k - 1) ≤ 14) := by
        unfold Hid
        rw [ByteArray.size_append]
        omega
      clear hc hg HC hb
      go_wp2
      go_roundw
      case rel => exact ⟨k - 1, _, by omega, HZ.out, by go_num, rfl, HC3.out, hb3⟩
      case measure => (simp [RowKit.intOf]) <;> omega
    · have d1 : decide (0 < k) = false := decide_eq_false hk
      go_wp2
      go_ret
      exact ⟨_, by omega, rfl, hb⟩

end Go.Proofs.YtijeplcjbhkkoaaDoor
