/- Reading a natural number nine digits at a time: plain mathematics; no program in sight. -/
import Derived.Test.YtcajdlpbdihbeaaDoorTxtN
import Derived.Test.YtcajdlpbdihbeaaDoorLimbs
namespace Tx
open Go.Lib Lm

/-- The digits from f to before e. -/
def chk (l : List UInt8) (f e : Nat) : List UInt8 := (l.drop f).take (e - f)
theorem chk_len {l : List UInt8} {f e : Nat} (h : e ≤ l.length) : (chk l f e).length = e - f := by unfold chk; rw [List.length_take, List.length_drop]; omega
theorem chk_dg {l : List UInt8} (h : ∀ c ∈ l, Dg c) (f e : Nat) : ∀ c ∈ chk l f e, Dg c := fun c hc => h c (List.mem_of_mem_drop (List.mem_of_mem_take hc))
theorem take_chk {l : List UInt8} {f e : Nat} (h : f ≤ e) : l.take e = l.take f ++ chk l f e := by
  unfold chk
  have := List.take_add (l := l) (i := f) (j := e - f)
  rw [show f + (e - f) = e by omega] at this
  exact this
theorem chk_val {l : List UInt8} {f e : Nat} (h : f ≤ e) (he : e ≤ l.length) : valA 0 (l.take e) = valA 0 (l.take f) * 10 ^ (e - f) + valA 0 (chk l f e) := by
  rw [take_chk h, valA_append, valA_acc, chk_len he]
theorem chk_lt {l : List UInt8} (h : ∀ c ∈ l, Dg c) {f e : Nat} (he : e ≤ l.length) (h9 : e ≤ f + 9) : valA 0 (chk l f e) < 1000000000 := by
  have h1 := valA_lt (chk l f e) (chk_dg h f e)
  have h2 : 10 ^ (chk l f e).length ≤ 10 ^ 9 := Nat.pow_le_pow_right (by omega) (by rw [chk_len he]; omega)
  have h3 : (10 : Nat) ^ 9 = 1000000000 := by decide
  omega
theorem chk_nil (l : List UInt8) (f : Nat) : chk l f f = [] := by unfold chk; rw [Nat.sub_self, List.take_zero]
theorem chk_succ {l : List UInt8} {f i : Nat} (h : f ≤ i) (hi : i < l.length) : chk l f (i + 1) = chk l f i ++ [l[i]] := by
  unfold chk
  rw [show i + 1 - f = (i - f) + 1 by omega, List.take_succ_eq_append_getElem (by rw [List.length_drop]; omega), List.getElem_drop]
  congr 2
  simp [show f + (i - f) = i by omega]
theorem chk_ne {l : List UInt8} {f e : Nat} (h : f < e) (he : e ≤ l.length) : chk l f e ≠ [] := by
  intro e1
  have := chk_len (f := f) he
  rw [e1] at this
  simp at this
  omega
/-- What stands when the digits before e are still to be read. -/
def PN (l : List UInt8) (e : Int) (o : List Int) : Prop := InR o ∧ e + 9 * o.length = l.length ∧ -9 < e ∧ (valA 0 l : Int) = valA 0 (l.take e.toNat) * pw o.length + nv o
theorem PN.start (l : List UInt8) : PN l l.length [] := by
  refine ⟨InR.nil, by simp, by omega, ?_⟩
  rw [Int.toNat_natCast, List.take_length, List.length_nil, pw_zero, nv_nil]
  omega
theorem inR_snoc {o : List Int} {x : Int} (h : InR o) (h0 : 0 ≤ x) (h1 : x < 1000000000) : InR (o ++ [x]) := by
  intro y hy
  rcases List.mem_append.1 hy with hy | hy
  · exact h y hy
  · rw [List.mem_singleton.1 hy]; exact ⟨h0, h1⟩
theorem PN.step {l : List UInt8} {k f : Nat} {o : List Int} (h : PN l k o) (hd : ∀ c ∈ l, Dg c) (h0 : 0 < k) (hf : f = k - 9) : PN l ((k : Int) - 9) (o ++ [(valA 0 (chk l f k) : Int)]) := by
  obtain ⟨h1, h2, h3, h4⟩ := h
  have hk : k ≤ l.length := by omega
  have hlt := chk_lt hd hk (f := f) (by omega)
  refine ⟨inR_snoc h1 (by omega) (by omega), by simp; omega, by omega, ?_⟩
  rw [h4, Int.toNat_natCast, chk_val (f := f) (by omega) hk, List.length_append, List.length_singleton, pw_succ, nv_snoc]
  rw [show ((k : Int) - 9).toNat = f by omega]
  by_cases h9 : 9 ≤ k
  · rw [show k - f = 9 by omega, show (10 : Nat) ^ 9 = 1000000000 by decide, Int.natCast_add, Int.natCast_mul, Int.add_mul, Int.mul_assoc, Int.mul_comm (valA 0 (chk l f k) : Int), Int.add_assoc, Int.add_comm (nv o)]
    rfl
  · obtain rfl : f = 0 := by omega
    rw [List.take_zero, valA_nil, Nat.zero_mul, Nat.zero_add, Int.natCast_zero, Int.zero_mul, Int.zero_add, Int.mul_comm, Int.add_comm]
theorem PN.fin {l : List UInt8} {e : Int} {o : List Int} (h : PN l e o) (h0 : e ≤ 0) : nv o = (valA 0 l : Nat) := by
  have := h.2.2.2
  rw [show e.toNat = 0 by omega, List.take_zero, valA_nil] at this
  rw [this]
  simp
theorem PN.len {l : List UInt8} {e : Int} {o : List Int} (h : PN l e o) (h0 : l.length ≤ 540) : o.length ≤ 60 := by
  have := h.2.1
  have := h.2.2.1
  omega
/-- A text that spells a natural number. -/
def OkT (l : List UInt8) : Prop := l ≠ [] ∧ (∀ c ∈ l, Dg c) ∧ l.length ≤ 540 ∧ (1 < l.length → l.head? ≠ some 48)
open Classical in
noncomputable def pN (l : List UInt8) : List Int := if OkT l then limbs (valA 0 l) else []
open Classical in
noncomputable def pNB (l : List UInt8) : Bool := decide (OkT l)
open Classical in
theorem pN_yes {l : List UInt8} (h : OkT l) : pN l = limbs (valA 0 l) ∧ pNB l = true := ⟨if_pos h, decide_eq_true h⟩
open Classical in
theorem pN_no {l : List UInt8} (h : ¬ OkT l) : pN l = [] ∧ pNB l = false := ⟨if_neg h, decide_eq_false h⟩

end Tx
