/- Merged texts. -/
import Derived.Lib.ItoaNum
import Derived.Lib.AtoiAllCases
import Derived.Lib.ItoaLen
import Derived.Lib.Join
import Derived.Lib.Bytealg
import Derived.Lib.IndexMore
import Derived.Lib.IndexLaws
import Derived.Lib.IndexBytes

/- Plain mathematics: lists of limbs in base 1000000000 as integers; canonical lists; no program in sight. -/
namespace Lm

/-- The number that a list of limbs stands for, the least significant limb first. -/
def nv : List Int → Int
  | [] => 0
  | x :: xs => x + 1000000000 * nv xs

def pw : Nat → Int
  | 0 => 1
  | k + 1 => 1000000000 * pw k

def lat (xs : List Int) (i : Nat) : Int := xs.getD i 0

def InR (xs : List Int) : Prop := ∀ x, x ∈ xs → 0 ≤ x ∧ x < 1000000000

def Norm (xs : List Int) : Prop := InR xs ∧ (xs = [] ∨ lat xs (xs.length - 1) ≠ 0)

theorem pw_zero : pw 0 = 1 := rfl
theorem pw_succ (k : Nat) : pw (k + 1) = 1000000000 * pw k := rfl
theorem pw_pos (k : Nat) : 0 < pw k := by
  induction k with
  | zero => decide
  | succ k ih => rw [pw_succ]; omega
theorem pw_ge (k : Nat) : 1 ≤ pw k := pw_pos k
theorem pw_add (i j : Nat) : pw (i + j) = pw i * pw j := by
  induction i with
  | zero => simp [pw_zero]
  | succ i ih => rw [Nat.succ_add, pw_succ, pw_succ, ih, Int.mul_assoc]
theorem pw_mono {i j : Nat} (h : i ≤ j) : pw i ≤ pw j := by
  obtain ⟨d, rfl⟩ := Nat.exists_eq_add_of_le h
  rw [pw_add]
  have h1 := pw_pos i
  have h2 := pw_ge d
  have := Int.mul_le_mul_of_nonneg_left h2 (Int.le_of_lt h1)
  simpa using this

theorem nv_nil : nv [] = 0 := rfl
theorem nv_cons (x : Int) (xs : List Int) : nv (x :: xs) = x + 1000000000 * nv xs := rfl
theorem nv_append (xs ys : List Int) : nv (xs ++ ys) = nv xs + pw xs.length * nv ys := by
  induction xs with
  | nil => simp [nv_nil, pw_zero]
  | cons x xs ih =>
    rw [List.cons_append, nv_cons, nv_cons, ih, List.length_cons, pw_succ, Int.mul_add, Int.mul_assoc]
    omega
theorem nv_snoc (xs : List Int) (x : Int) : nv (xs ++ [x]) = nv xs + pw xs.length * x := by
  rw [nv_append]; simp [nv_cons, nv_nil]

theorem lat_of_lt {xs : List Int} {i : Nat} (h : i < xs.length) : lat xs i = xs[i] := by
  simp [lat, List.getD, h]
theorem lat_ge {xs : List Int} {i : Nat} (h : xs.length ≤ i) : lat xs i = 0 := by
  simp [lat, List.getD, h]
theorem lat_append_left {xs ys : List Int} {i : Nat} (h : i < xs.length) : lat (xs ++ ys) i = lat xs i := by
  simp [lat, List.getD, List.getElem?_append_left h]
theorem lat_snoc (xs : List Int) (x : Int) : lat (xs ++ [x]) xs.length = x := by simp [lat]
theorem lat_set_same {xs : List Int} {i : Nat} (h : i < xs.length) (v : Int) : lat (xs.set i v) i = v := by
  simp [lat, List.getD, h]
theorem lat_set_other {xs : List Int} {i j : Nat} (h : i ≠ j) (v : Int) : lat (xs.set i v) j = lat xs j := by
  simp [lat, List.getD, List.getElem?_set_ne h]
theorem lat_take {xs : List Int} {i k : Nat} (h : i < k) : lat (xs.take k) i = lat xs i := by
  simp [lat, List.getD, h]
theorem lat_drop (xs : List Int) (k i : Nat) : lat (xs.drop k) i = lat xs (k + i) := by
  simp [lat, List.getD, List.getElem?_drop]

theorem take_succ (xs : List Int) (i : Nat) (h : i < xs.length) : xs.take (i + 1) = xs.take i ++ [lat xs i] := by
  rw [List.take_add_one, lat_of_lt h]; simp [h]
theorem drop_eq (xs : List Int) (i : Nat) (h : i < xs.length) : xs.drop i = lat xs i :: xs.drop (i + 1) := by
  rw [lat_of_lt h]; exact List.drop_eq_getElem_cons h

theorem nv_take_succ (xs : List Int) (i : Nat) (h : i < xs.length) : nv (xs.take (i + 1)) = nv (xs.take i) + pw i * lat xs i := by
  rw [take_succ xs i h, nv_snoc]
  rw [List.length_take, Nat.min_eq_left (Nat.le_of_lt h)]
theorem nv_drop (xs : List Int) (i : Nat) (h : i < xs.length) : nv (xs.drop i) = lat xs i + 1000000000 * nv (xs.drop (i + 1)) := by
  rw [drop_eq xs i h, nv_cons]
theorem nv_split (xs : List Int) (i : Nat) (h : i ≤ xs.length) : nv xs = nv (xs.take i) + pw i * nv (xs.drop i) := by
  conv => lhs; rw [← List.take_append_drop i xs]
  rw [nv_append, List.length_take, Nat.min_eq_left h]
theorem nv_take_all {xs : List Int} {i : Nat} (h : xs.length ≤ i) : nv (xs.take i) = nv xs := by rw [List.take_of_length_le h]
theorem nv_drop_all {xs : List Int} {i : Nat} (h : xs.length ≤ i) : nv (xs.drop i) = 0 := by rw [List.drop_of_length_le h]; rfl

theorem nv_set (xs : List Int) (i : Nat) (v : Int) (h : i < xs.length) : nv (xs.set i v) = nv xs + pw i * (v - lat xs i) := by
  induction xs generalizing i with
  | nil => simp at h
  | cons x xs ih =>
    cases i with
    | zero => simp only [List.set_cons_zero, nv_cons, pw_zero, lat, List.getD_cons_zero]; omega
    | succ i =>
      have := ih i (by simpa using h)
      simp only [List.set_cons_succ, nv_cons, this, pw_succ, Int.mul_add, Int.mul_assoc]
      simp only [lat, List.getD_cons_succ]
      omega

theorem nv_replicate (n : Nat) : nv (List.replicate n 0) = 0 := by
  induction n with
  | zero => rfl
  | succ n ih => rw [List.replicate_succ, nv_cons, ih]; rfl
theorem lat_replicate (n i : Nat) : lat (List.replicate n 0) i = 0 := by
  by_cases h : i < n <;> simp [lat, List.getD, h]

theorem InR.nil : InR [] := fun _ h => by cases h
theorem InR.cons {x : Int} {xs : List Int} (h0 : 0 ≤ x) (h1 : x < 1000000000) (h : InR xs) : InR (x :: xs) := fun y hy => by
  rcases List.mem_cons.1 hy with rfl | hy
  · exact ⟨h0, h1⟩
  · exact h y hy
theorem InR.append {xs ys : List Int} (h : InR xs) (k : InR ys) : InR (xs ++ ys) := fun y hy => by
  rcases List.mem_append.1 hy with hy | hy
  · exact h y hy
  · exact k y hy
theorem InR.snoc {xs : List Int} {x : Int} (h : InR xs) (h0 : 0 ≤ x) (h1 : x < 1000000000) : InR (xs ++ [x]) := h.append (InR.cons h0 h1 InR.nil)
theorem InR.take {xs : List Int} (h : InR xs) (k : Nat) : InR (xs.take k) := fun y hy => h y (List.mem_of_mem_take hy)
theorem InR.drop {xs : List Int} (h : InR xs) (k : Nat) : InR (xs.drop k) := fun y hy => h y (List.mem_of_mem_drop hy)
theorem InR.set {xs : List Int} (h : InR xs) (i : Nat) {v : Int} (h0 : 0 ≤ v) (h1 : v < 1000000000) : InR (xs.set i v) := fun y hy => by
  rcases List.mem_or_eq_of_mem_set hy with hy | rfl
  · exact h y hy
  · exact ⟨h0, h1⟩
theorem InR.replicate (n : Nat) : InR (List.replicate n 0) := fun y hy => by
  rw [List.eq_of_mem_replicate hy]; omega
theorem InR.lat {xs : List Int} (h : InR xs) (i : Nat) : 0 ≤ lat xs i ∧ lat xs i < 1000000000 := by
  by_cases hi : i < xs.length
  · rw [lat_of_lt hi]; exact h _ (List.getElem_mem hi)
  · rw [lat_ge (by omega)]; omega
theorem InR.nonneg {xs : List Int} (h : InR xs) : 0 ≤ nv xs := by
  induction xs with
  | nil => exact Int.le_refl _
  | cons x xs ih =>
    have h1 := h x (by simp)
    have h2 := ih fun y hy => h y (by simp [hy])
    rw [nv_cons]; omega
theorem InR.lt {xs : List Int} (h : InR xs) : nv xs < pw xs.length := by
  induction xs with
  | nil => decide
  | cons x xs ih =>
    have h1 := h x (by simp)
    have h2 := ih fun y hy => h y (by simp [hy])
    rw [nv_cons, List.length_cons, pw_succ]; omega

theorem Norm.inR {xs : List Int} (h : Norm xs) : InR xs := h.1
theorem Norm.nil : Norm [] := ⟨InR.nil, .inl rfl⟩
theorem Norm.tail {x : Int} {xs : List Int} (h : Norm (x :: xs)) : Norm xs := by
  refine ⟨fun y hy => h.1 y (by simp [hy]), ?_⟩
  by_cases hx : xs = []
  · exact .inl hx
  · right
    have := h.2.resolve_left (by simp)
    have hl : 0 < xs.length := List.length_pos_iff.2 hx
    simp only [List.length_cons, Nat.add_sub_cancel] at this
    obtain ⟨n, hn⟩ : ∃ n, xs.length = n + 1 := ⟨xs.length - 1, by omega⟩
    rw [hn] at this ⊢
    simpa [Lm.lat] using this
theorem Norm.ge {xs : List Int} (h : Norm xs) (hx : xs ≠ []) : pw (xs.length - 1) ≤ nv xs := by
  have hl : 0 < xs.length := List.length_pos_iff.2 hx
  have h1 := h.2.resolve_left hx
  have h2 := h.1.lat (xs.length - 1)
  rw [nv_split xs (xs.length - 1) (by omega), nv_drop xs _ (by omega), nv_drop_all (by omega)]
  have h3 := (h.1.take (xs.length - 1)).nonneg
  have h4 : 1 ≤ Lm.lat xs (xs.length - 1) := by omega
  have h5 := Int.mul_le_mul_of_nonneg_left h4 (Int.le_of_lt (pw_pos (xs.length - 1)))
  simp only [Int.mul_one, Int.mul_zero, Int.add_zero] at h5 ⊢
  omega
theorem Norm.pos {xs : List Int} (h : Norm xs) (hx : xs ≠ []) : 0 < nv xs := Int.lt_of_lt_of_le (pw_pos _) (h.ge hx)
theorem Norm.of_ge {xs : List Int} (h : InR xs) (hx : xs = [] ∨ pw (xs.length - 1) ≤ nv xs) : Norm xs := by
  refine ⟨h, ?_⟩
  rcases hx with hx | hx
  · exact .inl hx
  · by_cases he : xs = []
    · exact .inl he
    · right
      intro h0
      have hl : 0 < xs.length := List.length_pos_iff.2 he
      rw [nv_split xs (xs.length - 1) (by omega), nv_drop xs _ (by omega), nv_drop_all (by omega), h0] at hx
      have := (h.take (xs.length - 1)).lt
      rw [List.length_take, Nat.min_eq_left (by omega)] at this
      simp only [Int.mul_zero, Int.add_zero] at hx
      omega
theorem Norm.eq {xs ys : List Int} (h : Norm xs) (k : Norm ys) (e : nv xs = nv ys) : xs = ys := by
  induction xs generalizing ys with
  | nil =>
    cases ys with
    | nil => rfl
    | cons y ys => have := k.pos (by simp); rw [← e, nv_nil] at this; omega
  | cons x xs ih =>
    cases ys with
    | nil => have := h.pos (by simp); rw [e, nv_nil] at this; omega
    | cons y ys =>
      have hx := h.1 x (by simp)
      have hy := k.1 y (by simp)
      rw [nv_cons, nv_cons] at e
      have e1 : x = y := by omega
      have e2 : nv xs = nv ys := by omega
      rw [e1, ih h.tail k.tail e2]

/-- The canonical list of a natural number. -/
def limbsF : Nat → Nat → List Int
  | 0, _ => []
  | f + 1, n => if n = 0 then [] else ((n % 1000000000 : Nat) : Int) :: limbsF f (n / 1000000000)
def limbs (n : Nat) : List Int := limbsF n n

theorem limbsF_norm (f n : Nat) (h : n ≤ f) : Norm (limbsF f n) ∧ nv (limbsF f n) = n := by
  induction f generalizing n with
  | zero => obtain rfl : n = 0 := by omega
            exact ⟨Norm.nil, rfl⟩
  | succ f ih =>
    unfold limbsF
    by_cases h0 : n = 0
    · subst h0; simp only [if_true]; exact ⟨Norm.nil, rfl⟩
    · rw [if_neg h0]
      obtain ⟨i1, i2⟩ := ih (n / 1000000000) (by omega)
      have e : nv (((n % 1000000000 : Nat) : Int) :: limbsF f (n / 1000000000)) = n := by rw [nv_cons, i2]; omega
      refine ⟨Norm.of_ge (InR.cons (by omega) (by omega) i1.1) ?_, e⟩
      right
      rw [e]
      by_cases hx : limbsF f (n / 1000000000) = []
      · rw [hx]; simp [pw_zero]; omega
      · have := i1.ge hx
        have hl : 0 < (limbsF f (n / 1000000000)).length := List.length_pos_iff.2 hx
        rw [i2] at this
        rw [List.length_cons, Nat.add_sub_cancel]
        obtain ⟨m, hm⟩ : ∃ m, (limbsF f (n / 1000000000)).length = m + 1 := ⟨_, (Nat.sub_add_cancel hl).symm⟩
        rw [hm] at this ⊢
        rw [pw_succ]
        simp only [Nat.add_sub_cancel] at this
        omega
theorem limbs_norm (n : Nat) : Norm (limbs n) := (limbsF_norm n n (Nat.le_refl _)).1
theorem nv_limbs (n : Nat) : nv (limbs n) = n := (limbsF_norm n n (Nat.le_refl _)).2
theorem limbs_inR (n : Nat) : InR (limbs n) := (limbs_norm n).1
theorem limbs_zero : limbs 0 = [] := rfl
theorem Norm.limbs {xs : List Int} (h : Norm xs) {n : Nat} (e : nv xs = n) : xs = limbs n := h.eq (limbs_norm n) (by rw [nv_limbs]; exact e)
theorem Norm.limbs' {xs : List Int} (h : Norm xs) : xs = Lm.limbs (nv xs).toNat := h.limbs (by have := h.1.nonneg; omega)
theorem limbs_inj {a b : Nat} (h : limbs a = limbs b) : a = b := by
  have := congrArg nv h; rw [nv_limbs, nv_limbs] at this; omega
theorem limbs_nil {n : Nat} : limbs n = [] ↔ n = 0 := ⟨fun h => limbs_inj (b := 0) h, fun h => by rw [h]; rfl⟩
theorem limbs_len_le {n k : Nat} : (limbs n).length ≤ k ↔ (n : Int) < pw k := by
  constructor
  · intro h
    have h1 := (limbs_inR n).lt
    rw [nv_limbs] at h1
    exact Int.lt_of_lt_of_le h1 (pw_mono h)
  · intro h
    by_cases h0 : limbs n = []
    · rw [h0]; simp
    · have h1 := (limbs_norm n).ge h0
      rw [nv_limbs] at h1
      have hl : 0 < (limbs n).length := List.length_pos_iff.2 h0
      by_cases hk : (limbs n).length ≤ k
      · exact hk
      · have := pw_mono (show k ≤ (limbs n).length - 1 by omega)
        omega
theorem limbs_len_pos {n : Nat} : 0 < (limbs n).length ↔ 0 < n := by
  have h := @limbs_nil n
  rw [List.length_pos_iff]
  constructor
  · intro h1; by_cases h2 : n = 0
    · exact absurd (h.2 h2) h1
    · omega
  · intro h1 h2; have := h.1 h2; omega
theorem limbs_len_mono {a b : Nat} (h : a ≤ b) : (limbs a).length ≤ (limbs b).length := by
  rw [limbs_len_le]
  have h1 := (limbs_inR b).lt
  rw [nv_limbs] at h1
  omega
theorem limbs_small {n : Nat} (h0 : 0 < n) (h : n < 1000000000) : limbs n = [(n : Int)] := by
  refine (Norm.limbs ⟨InR.cons (by omega) (by omega) InR.nil, .inr ?_⟩ ?_).symm
  · simp [lat]; omega
  · simp [nv_cons, nv_nil]
theorem limbs_succ (n : Nat) : limbs n = if n = 0 then [] else ((n % 1000000000 : Nat) : Int) :: limbs (n / 1000000000) := by
  by_cases h : n = 0
  · subst h; rfl
  · rw [if_neg h]
    refine (Norm.limbs (Norm.of_ge (InR.cons (by omega) (by omega) (limbs_inR _)) ?_) ?_).symm
    · right
      have e : nv (((n % 1000000000 : Nat) : Int) :: limbs (n / 1000000000)) = n := by rw [nv_cons, nv_limbs]; omega
      rw [e, List.length_cons, Nat.add_sub_cancel]
      by_cases hx : limbs (n / 1000000000) = []
      · rw [hx]; simp [pw_zero]; omega
      · have := (limbs_norm (n / 1000000000)).ge hx
        have hl : 0 < (limbs (n / 1000000000)).length := List.length_pos_iff.2 hx
        rw [nv_limbs] at this
        obtain ⟨m, hm⟩ : ∃ m, (limbs (n / 1000000000)).length = m + 1 := ⟨_, (Nat.sub_add_cancel hl).symm⟩
        rw [hm] at this ⊢
        rw [pw_succ]
        simp only [Nat.add_sub_cancel] at this
        omega
    · rw [nv_cons, nv_limbs]; omega

/-- Cutting zero limbs off. -/
theorem nv_take_zeros (xs : List Int) (k : Nat) (hk : k ≤ xs.length) (h : ∀ j, k ≤ j → lat xs j = 0) : nv (xs.take k) = nv xs := by
  have hz : nv (xs.drop k) = 0 := by
    have : xs.drop k = List.replicate (xs.length - k) 0 := by
      apply List.ext_getElem
      · simp
      · intro i h1 h2
        have := h (k + i) (by omega)
        rw [lat_of_lt (by simp at h1; omega)] at this
        simpa using this
    rw [this, nv_replicate]
  rw [nv_split xs k hk, hz]; simp

/-- Comparing from the top. -/
theorem cmp_len {xs ys : List Int} (h : Norm xs) (k : Norm ys) (hl : xs.length < ys.length) : nv xs < nv ys := by
  have h1 := h.1.lt
  have h2 := k.ge (by intro e; rw [e] at hl; simp at hl)
  have h3 := pw_mono (show xs.length ≤ ys.length - 1 by omega)
  omega
theorem cmp_at {xs ys : List Int} (h : InR xs) (k : InR ys) (i : Nat) (hx : i < xs.length) (hy : i < ys.length) (e : nv (xs.drop (i + 1)) = nv (ys.drop (i + 1))) (hlt : lat xs i < lat ys i) : nv xs < nv ys := by
  rw [nv_split xs i (by omega), nv_split ys i (by omega), nv_drop xs i hx, nv_drop ys i hy, e]
  have h1 := (h.take i).lt
  have h2 := (k.take i).nonneg
  rw [List.length_take, Nat.min_eq_left (by omega)] at h1
  have h3 := Int.mul_le_mul_of_nonneg_left (show lat xs i + 1 + 1000000000 * nv (ys.drop (i + 1)) ≤ lat ys i + 1000000000 * nv (ys.drop (i + 1)) by omega) (Int.le_of_lt (pw_pos i))
  have h4 : pw i * (lat xs i + 1 + 1000000000 * nv (ys.drop (i + 1))) = pw i * (lat xs i + 1000000000 * nv (ys.drop (i + 1))) + pw i := by
    rw [show lat xs i + 1 + 1000000000 * nv (ys.drop (i + 1)) = (lat xs i + 1000000000 * nv (ys.drop (i + 1))) + 1 by omega, Int.mul_add, Int.mul_one]
  omega

/-- Go's answer -1, 0 or 1. -/
def cmp3 (a b : Int) : Int := if a < b then -1 else if b < a then 1 else 0

end Lm

/- Plain mathematics: what the loops of addition, subtraction, multiplication and division on limbs keep; no program in sight. -/
namespace Lm

theorem nv_take_succ' (xs : List Int) (i : Nat) : nv (xs.take (i + 1)) = nv (xs.take i) + pw i * lat xs i := by
  by_cases h : i < xs.length
  · exact nv_take_succ xs i h
  · rw [lat_ge (by omega), List.take_of_length_le (by omega), List.take_of_length_le (by omega)]; simp

/-- Addition: after i rounds. -/
structure AddI (xs ys : List Int) (i : Nat) (o : List Int) (c : Int) : Prop where
  len : o.length = i
  inr : InR o
  car : c = 0 ∨ c = 1
  val : nv o + pw i * c = nv (xs.take i) + nv (ys.take i)

theorem AddI.start (xs ys : List Int) : AddI xs ys 0 [] 0 := ⟨rfl, InR.nil, .inl rfl, by simp [nv_nil]⟩
theorem AddI.step {xs ys o : List Int} {i : Nat} {c d c' : Int} (h : AddI xs ys i o c) (hd0 : 0 ≤ d) (hd1 : d < 1000000000) (hc : c' = 0 ∨ c' = 1) (e : d + 1000000000 * c' = lat xs i + lat ys i + c) :
    AddI xs ys (i + 1) (o ++ [d]) c' := by
  refine ⟨by simp [h.len], h.inr.snoc hd0 hd1, hc, ?_⟩
  rw [nv_snoc, h.len, nv_take_succ', nv_take_succ', pw_succ]
  have hv := h.val
  have e1 : pw i * (d + 1000000000 * c') = pw i * (lat xs i + lat ys i + c) := by rw [e]
  rw [Int.mul_add, Int.mul_add, Int.mul_add, ← Int.mul_assoc] at e1
  have e2 : pw i * 1000000000 = 1000000000 * pw i := Int.mul_comm _ _
  rw [e2] at e1
  omega
theorem AddI.done {a b i : Nat} {o : List Int} {c : Int} (h : AddI (limbs a) (limbs b) i o c) (ha : (limbs a).length ≤ i) (hb : (limbs b).length ≤ i) : nv o + pw i * c = (a + b : Nat) := by
  have := h.val
  rw [nv_take_all ha, nv_take_all hb, nv_limbs, nv_limbs] at this
  omega
theorem AddI.done0 {a b : Nat} {o : List Int} (h : AddI (limbs a) (limbs b) (limbs a).length o 0) (hb : (limbs b).length ≤ (limbs a).length) : o = limbs (a + b) := by
  have hv := h.done (Nat.le_refl _) hb
  simp only [Int.mul_zero, Int.add_zero] at hv
  refine (Norm.of_ge h.inr ?_).limbs hv
  by_cases h0 : o = []
  · exact .inl h0
  · right
    have h1 : limbs a ≠ [] := by
      intro e; have := h.len; rw [e] at this; exact h0 (List.length_eq_zero_iff.1 this)
    have := (limbs_norm a).ge h1
    rw [nv_limbs] at this
    rw [h.len]
    omega
theorem AddI.done1 {a b : Nat} {o : List Int} (h : AddI (limbs a) (limbs b) (limbs a).length o 1) (hb : (limbs b).length ≤ (limbs a).length) : o ++ [1] = limbs (a + b) := by
  have hv := h.done (Nat.le_refl _) hb
  refine (Norm.limbs ⟨h.inr.snoc (by omega) (by omega), .inr ?_⟩ ?_)
  · rw [List.length_append, List.length_singleton, Nat.add_sub_cancel, lat_snoc]; omega
  · rw [nv_snoc, h.len]; exact hv

/-- Subtraction: after i rounds. -/
structure SubI (xs ys : List Int) (i : Nat) (o : List Int) (b : Int) : Prop where
  len : o.length = i
  inr : InR o
  bor : b = 0 ∨ b = 1
  val : nv o = nv (xs.take i) - nv (ys.take i) + pw i * b

theorem SubI.start (xs ys : List Int) : SubI xs ys 0 [] 0 := ⟨rfl, InR.nil, .inl rfl, by simp [nv_nil]⟩
theorem SubI.step {xs ys o : List Int} {i : Nat} {b d b' : Int} (h : SubI xs ys i o b) (hd0 : 0 ≤ d) (hd1 : d < 1000000000) (hc : b' = 0 ∨ b' = 1) (e : d = lat xs i - lat ys i - b + 1000000000 * b') :
    SubI xs ys (i + 1) (o ++ [d]) b' := by
  refine ⟨by simp [h.len], h.inr.snoc hd0 hd1, hc, ?_⟩
  rw [nv_snoc, h.len, nv_take_succ', nv_take_succ', pw_succ]
  have hv := h.val
  have e1 : pw i * d = pw i * (lat xs i - lat ys i - b + 1000000000 * b') := by rw [e]
  rw [Int.mul_add, Int.mul_sub, Int.mul_sub, ← Int.mul_assoc] at e1
  have e2 : pw i * 1000000000 = 1000000000 * pw i := Int.mul_comm _ _
  rw [e2] at e1
  omega
theorem set_mid {o xs : List Int} {i : Nat} (hl : o.length = i) (hi : i < xs.length) (d : Int) : (o ++ xs.drop i).set i d = (o ++ [d]) ++ xs.drop (i + 1) := by
  subst hl
  rw [List.set_append_right _ _ (Nat.le_refl _), Nat.sub_self, drop_eq xs _ hi]
  simp
theorem lat_mid {o xs : List Int} {i : Nat} (hl : o.length = i) : lat (o ++ xs.drop i) i = lat xs i := by
  subst hl
  simp [lat, List.getD, List.getElem?_append_right (Nat.le_refl _)]
theorem len_mid {o xs : List Int} {i : Nat} (hl : o.length = i) (hi : i ≤ xs.length) : (o ++ xs.drop i).length = xs.length := by
  simp [hl]; omega
theorem SubI.done {a b : Nat} {o : List Int} {c : Int} (h : SubI (limbs a) (limbs b) (limbs a).length o c) (hab : b ≤ a) : nv o = (a - b : Nat) := by
  have hv := h.val
  have hb := limbs_len_mono hab
  rw [nv_take_all (Nat.le_refl _), nv_take_all hb, nv_limbs, nv_limbs] at hv
  have h1 := h.inr.lt
  rw [h.len] at h1
  rcases h.bor with rfl | rfl
  · omega
  · omega

/-- Multiplication: the inner loop. 'out0': the list at its start; x: the limb of the outer loop. -/
structure MulK (out0 ys : List Int) (x : Int) (i k : Nat) (out : List Int) (c : Int) : Prop where
  len : out.length = out0.length
  inr : InR out
  car : 0 ≤ c ∧ c < 1000000000
  val : nv out + pw (i + k) * c = nv out0 + pw i * (x * nv (ys.take k))
  zer : ∀ j, i + ys.length ≤ j → lat out j = 0

theorem MulK.start {out0 ys : List Int} {x : Int} {i : Nat} (h : InR out0) (hz : ∀ j, i + ys.length ≤ j → lat out0 j = 0) : MulK out0 ys x i 0 out0 0 :=
  ⟨rfl, h, by omega, by simp [nv_nil], hz⟩
theorem mul_bound {x y : Int} (hx0 : 0 ≤ x) (hx : x < 1000000000) (hy0 : 0 ≤ y) (hy : y < 1000000000) : 0 ≤ x * y ∧ x * y ≤ 999999998000000001 := by
  refine ⟨Int.mul_nonneg hx0 hy0, ?_⟩
  have := Int.mul_le_mul (show x ≤ 999999999 by omega) (show y ≤ 999999999 by omega) hy0 (by omega)
  omega
theorem MulK.step {out0 ys out : List Int} {x c : Int} {i k : Nat} (h : MulK out0 ys x i k out c) (hx : 0 ≤ x ∧ x < 1000000000) (hys : InR ys) (hk : k < ys.length) (hik : i + k < out0.length) :
    MulK out0 ys x i (k + 1) (out.set (i + k) ((lat out (i + k) + x * lat ys k + c) % 1000000000)) ((lat out (i + k) + x * lat ys k + c) / 1000000000) := by
  have hb := mul_bound hx.1 hx.2 (hys.lat k).1 (hys.lat k).2
  have ho := h.inr.lat (i + k)
  have hc := h.car
  have hv := h.val
  refine ⟨by simp [h.len], h.inr.set _ (by omega) (by omega), by omega, ?_, ?_⟩
  · rw [nv_set _ _ _ (by rw [h.len]; exact hik), nv_take_succ', ← Nat.add_assoc, pw_succ, pw_add]
    rw [pw_add] at hv
    generalize hs : lat out (i + k) + x * lat ys k + c = s
    have e1 : s % 1000000000 - lat out (i + k) + 1000000000 * (s / 1000000000) = x * lat ys k + c := by omega
    have e2 : pw i * pw k * (s % 1000000000 - lat out (i + k)) + 1000000000 * (pw i * pw k) * (s / 1000000000) = pw i * pw k * (x * lat ys k + c) := by
      rw [← e1]; grind
    grind
  · intro j hj
    rw [lat_set_other (by omega)]
    exact h.zer j hj

/-- Multiplication: the outer loop. -/
structure MulI (xs ys : List Int) (i : Nat) (out : List Int) : Prop where
  len : out.length = xs.length + ys.length
  inr : InR out
  val : nv out = nv (xs.take i) * nv ys
  zer : ∀ j, i + ys.length ≤ j → lat out j = 0

theorem MulI.start (xs ys : List Int) : MulI xs ys 0 (List.replicate (xs.length + ys.length) 0) :=
  ⟨by simp, InR.replicate _, by simp [nv_replicate, nv_nil], fun j _ => lat_replicate _ j⟩
theorem MulI.inner {xs ys out : List Int} {i : Nat} (h : MulI xs ys i out) : MulK out ys (lat xs i) i 0 out 0 := MulK.start h.inr h.zer
theorem MulI.step {xs ys out out' : List Int} {c : Int} {i : Nat} (h : MulI xs ys i out) (hi : i < xs.length) (k : MulK out ys (lat xs i) i ys.length out' c) :
    lat out' (i + ys.length) = 0 ∧ MulI xs ys (i + 1) (out'.set (i + ys.length) c) := by
  have hz := k.zer (i + ys.length) (Nat.le_refl _)
  refine ⟨hz, ⟨by simp [k.len, h.len], k.inr.set _ k.car.1 k.car.2, ?_, ?_⟩⟩
  · rw [nv_set _ _ _ (by rw [k.len, h.len]; omega), hz, nv_take_succ']
    have hv := k.val
    rw [nv_take_all (Nat.le_refl _), h.val] at hv
    grind
  · intro j hj
    rw [lat_set_other (by omega)]
    exact k.zer j (by omega)
theorem MulI.done {xs ys out : List Int} (h : MulI xs ys xs.length out) : nv out = nv xs * nv ys := by
  have := h.val
  rwa [nv_take_all (Nat.le_refl _)] at this

/-- Division by one limb: the limbs from K on are done. -/
structure DivI (xs : List Int) (d : Int) (K : Nat) (out : List Int) (r : Int) : Prop where
  len : out.length = xs.length
  inr : InR out
  rem : 0 ≤ r ∧ r < d
  val : nv (xs.drop K) = d * nv (out.drop K) + r

theorem DivI.start (xs : List Int) {d : Int} (hd : 0 < d) : DivI xs d xs.length (List.replicate xs.length 0) 0 :=
  ⟨by simp, InR.replicate _, by omega, by simp [nv_nil]⟩
theorem DivI.step {xs out : List Int} {d r : Int} {i : Nat} (h : DivI xs d (i + 1) out r) (hx : InR xs) (hi : i < xs.length) :
    DivI xs d i (out.set i ((r * 1000000000 + lat xs i) / d)) ((r * 1000000000 + lat xs i) % d) := by
  have hr := h.rem
  have hl := hx.lat i
  have hd0 : 0 < d := by omega
  generalize hs : r * 1000000000 + lat xs i = s
  have hq0 : 0 ≤ s / d := Int.ediv_nonneg (by omega) (by omega)
  have hq1 : s / d < 1000000000 := Int.ediv_lt_of_lt_mul hd0 (by
    have : (r + 1) * 1000000000 ≤ d * 1000000000 := Int.mul_le_mul_of_nonneg_right (by omega) (by omega)
    omega)
  have he := Int.mul_ediv_add_emod s d
  refine ⟨by simp [h.len], h.inr.set _ hq0 hq1, ⟨Int.emod_nonneg _ (by omega), Int.emod_lt_of_pos _ hd0⟩, ?_⟩
  have hio : i < (out.set i (s / d)).length := by simp [h.len, hi]
  rw [nv_drop xs i hi, nv_drop _ i hio, lat_set_same (by rw [h.len]; exact hi), List.drop_set_of_lt (by omega), h.val]
  grind
theorem DivI.done {xs out : List Int} {d r : Int} (h : DivI xs d 0 out r) : nv xs = d * nv out + r := h.val

theorem pad_zero {xs : List Int} {v : Int} (h : nv xs = v) : nv (xs ++ [0]) = v := by rw [nv_snoc, h]; simp

end Lm

/- Plain mathematics: long division on limbs (Knuth's algorithm D) and the binary search for a digit; no program in sight. -/
namespace Lm

theorem inR_of_lat {xs : List Int} (h : ∀ j, 0 ≤ lat xs j ∧ lat xs j < 1000000000) : InR xs := by
  intro y hy
  obtain ⟨i, hi, rfl⟩ := List.getElem_of_mem hy
  have := h i
  rwa [lat_of_lt hi] at this

theorem lat_zero_of_small {xs : List Int} (h : InR xs) {n : Nat} (hlt : nv xs < pw n) (j : Nat) (hj : n ≤ j) : lat xs j = 0 := by
  by_cases hjl : j < xs.length
  · have h1 := h.lat j
    rw [nv_split xs j (by omega), nv_drop xs j hjl] at hlt
    have h2 := (h.take j).nonneg
    have h3 := (h.drop (j + 1)).nonneg
    have h4 := pw_mono hj
    by_cases h0 : lat xs j = 0
    · exact h0
    · have h5 : pw j * 1 ≤ pw j * (lat xs j + 1000000000 * nv (xs.drop (j + 1))) := Int.mul_le_mul_of_nonneg_left (by omega) (Int.le_of_lt (pw_pos j))
      omega
  · exact lat_ge (by omega)

theorem nv_take_of_small {xs : List Int} {n : Nat} (h : ∀ j, n ≤ j → lat xs j = 0) : nv xs = nv (xs.take n) := by
  by_cases hn : n ≤ xs.length
  · exact (nv_take_zeros xs n hn h).symm
  · rw [List.take_of_length_le (by omega)]

/-- The state of the long division when the digits from K on are known. -/
structure KI (y : List Int) (X : Int) (K : Nat) (x out : List Int) : Prop where
  lx : x.length = out.length + y.length
  ix : InR x
  io : InR out
  val : nv x + pw K * (nv y * nv (out.drop K)) = X
  rem : nv (x.drop K) < nv y

theorem KI.step {y x out x' : List Int} {X q : Int} {k : Nat} (h : KI y X (k + 1) x out) (hk : k < out.length) (hq0 : 0 ≤ q) (hq1 : q < 1000000000) (hl : x'.length = x.length) (hx : InR x') (hv : nv x' = nv x - pw k * (q * nv y)) (hr : nv (x'.drop k) < nv y) :
    KI y X k x' (out.set k q) := by
  refine ⟨by simp [hl, h.lx], hx, h.io.set _ hq0 hq1, ?_, hr⟩
  rw [nv_drop _ k (by simpa using hk), lat_set_same hk, List.drop_set_of_lt (by omega), hv, ← h.val, pw_succ]
  grind

theorem KI.last {y x out : List Int} {X : Int} (h : KI y X 0 x out) : nv x + nv y * nv out = X ∧ nv x < nv y := by
  have h1 := h.val
  have h2 := h.rem
  simp only [pw_zero, Int.one_mul, List.drop_zero] at h1 h2
  exact ⟨h1, h2⟩

/-- The parts of the dividend at one digit. -/
structure Parts (y x : List Int) (k n : Nat) (D xl x2 x1 x0 : Int) : Prop where
  dn : D = nv (x.drop k)
  val : D = xl + pw (n - 2) * ((x0 * 1000000000 + x1) * 1000000000 + x2)
  lo : 0 ≤ xl ∧ xl < pw (n - 2)

theorem KI.top {y x out : List Int} {X : Int} {k : Nat} (h : KI y X (k + 1) x out) (hy : InR y) (j : Nat) (hj : k + y.length + 1 ≤ j) : lat x j = 0 := by
  have h1 := hy.lt
  have h2 := h.rem
  have h3 := lat_zero_of_small (h.ix.drop (k + 1)) (Int.lt_trans h2 h1) (j - (k + 1)) (by omega)
  rw [lat_drop, show k + 1 + (j - (k + 1)) = j by omega] at h3
  exact h3

theorem KI.parts {y x out : List Int} {X : Int} {k : Nat} (h : KI y X (k + 1) x out) (hy : InR y) (hn : 2 ≤ y.length) (hk : k < out.length) :
    Parts y x k y.length (nv (x.drop k)) (nv ((x.drop k).take (y.length - 2))) (lat x (k + y.length - 2)) (lat x (k + y.length - 1)) (lat x (k + y.length)) := by
  have hl := h.lx
  refine ⟨rfl, ?_, (h.ix.drop k |>.take _).nonneg, ?_⟩
  · rw [nv_split (x.drop k) (y.length - 2) (by simp; omega), List.drop_drop]
    rw [nv_drop _ (k + (y.length - 2)) (by omega), nv_drop _ (k + (y.length - 2) + 1) (by omega), nv_drop _ (k + (y.length - 2) + 1 + 1) (by omega)]
    have hz : nv (x.drop (k + (y.length - 2) + 1 + 1 + 1)) = 0 := by
      rw [nv_take_of_small (n := 0) (by intro j _; rw [lat_drop]; exact h.top hy _ (by omega))]; rfl
    rw [hz, show k + (y.length - 2) = k + y.length - 2 by omega, show k + y.length - 2 + 1 = k + y.length - 1 by omega, show k + y.length - 1 + 1 = k + y.length by omega]
    grind
  · have := ((h.ix.drop k).take (y.length - 2)).lt
    rw [List.length_take, List.length_drop, Nat.min_eq_left (by omega)] at this
    exact this

theorem KI.dlt {y x out : List Int} {X : Int} {k : Nat} (h : KI y X (k + 1) x out) (hk : k < out.length) : nv (x.drop k) < 1000000000 * nv y := by
  have hl := h.lx
  rw [nv_drop x k (by omega)]
  have h1 := h.ix.lat k
  have h2 := h.rem
  omega

/-- The top limb of the rest is at most the top limb of the divisor. -/
theorem KI.topLe {y x out : List Int} {X : Int} {k : Nat} (h : KI y X (k + 1) x out) (hy : InR y) (hn : 2 ≤ y.length) (hk : k < out.length) : lat x (k + y.length) ≤ lat y (y.length - 1) := by
  have hl := h.lx
  have h2 := h.rem
  have e1 : nv (x.drop (k + 1)) = nv ((x.drop (k + 1)).take (y.length - 1)) + pw (y.length - 1) * nv (x.drop (k + y.length)) := by
    rw [nv_split (x.drop (k + 1)) (y.length - 1) (by simp; omega), List.drop_drop, show k + 1 + (y.length - 1) = k + y.length by omega]
  have e2 : nv y = nv (y.take (y.length - 1)) + pw (y.length - 1) * nv (y.drop (y.length - 1)) := nv_split y _ (by omega)
  rw [nv_drop x (k + y.length) (by omega)] at e1
  rw [nv_drop y (y.length - 1) (by omega), nv_drop_all (by omega)] at e2
  have h3 := ((h.ix.drop (k + 1)).take (y.length - 1)).nonneg
  have h4 := (hy.take (y.length - 1)).lt
  rw [List.length_take, Nat.min_eq_left (by omega)] at h4
  have h5 := (h.ix.drop (k + y.length + 1)).nonneg
  by_cases hc : lat x (k + y.length) ≤ lat y (y.length - 1)
  · exact hc
  · have h6 : pw (y.length - 1) * (lat y (y.length - 1) + 1) ≤ pw (y.length - 1) * (lat x (k + y.length) + 1000000000 * nv (x.drop (k + y.length + 1))) :=
      Int.mul_le_mul_of_nonneg_left (by omega) (Int.le_of_lt (pw_pos _))
    rw [Int.mul_add, Int.mul_one] at h6
    simp only [Int.mul_zero, Int.add_zero] at e2
    omega

/-- The divisor in three parts. -/
theorem y_parts {y : List Int} (hy : InR y) (hn : 2 ≤ y.length) : ∃ yl, 0 ≤ yl ∧ yl < pw (y.length - 2) ∧ nv y = yl + pw (y.length - 2) * (lat y (y.length - 1) * 1000000000 + lat y (y.length - 2)) := by
  refine ⟨nv (y.take (y.length - 2)), (hy.take _).nonneg, ?_, ?_⟩
  · have := (hy.take (y.length - 2)).lt
    rwa [List.length_take, Nat.min_eq_left (by omega)] at this
  · rw [nv_split y (y.length - 2) (by omega), nv_drop y (y.length - 2) (by omega), nv_drop y (y.length - 2 + 1) (by omega), nv_drop_all (by omega), show y.length - 2 + 1 = y.length - 1 by omega]
    grind

/-- A digit that is too large by the test is too large. -/
theorem digit_high {D Y P xl yl X3 Y2 q : Int} (hP : 0 < P) (hD : D = xl + P * X3) (hxl : xl < P) (hY : Y = yl + P * Y2) (hyl : 0 ≤ yl) (hq : 0 ≤ q) (h : X3 < q * Y2) : D < q * Y := by
  have h1 : P * (X3 + 1) ≤ P * (q * Y2) := Int.mul_le_mul_of_nonneg_left (by omega) (by omega)
  have h2 : 0 ≤ q * yl := Int.mul_nonneg hq hyl
  have h3 : q * Y = q * yl + P * (q * Y2) := by rw [hY]; grind
  rw [Int.mul_add, Int.mul_one] at h1
  omega
/-- A digit that passes the test is too large by one at most. -/
theorem digit_low {D Y P xl yl X3 Y2 q : Int} (hP : 0 < P) (hD : D = xl + P * X3) (hxl : 0 ≤ xl) (hY : Y = yl + P * Y2) (hyl : 0 ≤ yl) (hyl2 : yl < P) (hY2 : 0 ≤ Y2) (hq : 0 ≤ q) (hX3 : 0 ≤ X3) (h : q * Y2 ≤ X3) (hqY : q ≤ Y2 + 1) : (q - 1) * Y ≤ D := by
  by_cases h0 : q = 0
  · subst h0
    have h1 : 0 ≤ P * Y2 := Int.mul_nonneg (by omega) hY2
    have h2 : 0 ≤ P * X3 := Int.mul_nonneg (by omega) hX3
    omega
  · have h1 : (q - 1) * yl ≤ (q - 1) * P := Int.mul_le_mul_of_nonneg_left (by omega) (by omega)
    have h2 : P * (q * Y2 + (q - 1 - Y2)) ≤ P * X3 := Int.mul_le_mul_of_nonneg_left (by omega) (by omega)
    have h3 : (q - 1) * Y = (q - 1) * yl + P * (q * Y2 - Y2) := by rw [hY]; grind
    have h4 : P * (q * Y2 + (q - 1 - Y2)) = P * (q * Y2 - Y2) + (q - 1) * P := by grind
    omega

/-- The estimate of a digit, at the head of its loop: q and r are what is left of 'two' by the top limb. -/
structure QI (D Y two top : Int) (q r : Int) : Prop where
  eq : two = q * top + r
  q0 : 0 ≤ q
  r0 : 0 ≤ r
  hi : D < (q + 1) * Y

/-- Multiply and subtract: after i limbs. -/
structure SubMul (x0 y : List Int) (q : Int) (k i : Nat) (x : List Int) (b : Int) : Prop where
  len : x.length = x0.length
  inr : InR x
  bor : 0 ≤ b ∧ b < 1000000000
  val : nv x = nv x0 - pw k * (q * nv (y.take i)) + pw (k + i) * b
  sam : ∀ j, k + i ≤ j → lat x j = lat x0 j
  low : x.take k = x0.take k

theorem take_set_ge (x : List Int) (k j : Nat) (v : Int) (h : k ≤ j) : (x.set j v).take k = x.take k := by
  rw [List.take_set_of_le h]
theorem SubMul.start {x0 : List Int} (y : List Int) (q : Int) (k : Nat) (h : InR x0) : SubMul x0 y q k 0 x0 0 :=
  ⟨rfl, h, by omega, by simp [nv_nil], fun _ _ => rfl, rfl⟩
theorem SubMul.step {x0 y x : List Int} {q b b' v : Int} {k i : Nat} (h : SubMul x0 y q k i x b) (hki : k + i < x0.length) (hv0 : 0 ≤ v) (hv1 : v < 1000000000) (hb0 : 0 ≤ b') (hb1 : b' < 1000000000)
    (e : v - 1000000000 * b' = lat x (k + i) - q * lat y i - b) : SubMul x0 y q k (i + 1) (x.set (k + i) v) b' := by
  refine ⟨by simp [h.len], h.inr.set _ hv0 hv1, ⟨hb0, hb1⟩, ?_, ?_, ?_⟩
  · rw [nv_set _ _ _ (by rw [h.len]; exact hki), nv_take_succ', ← Nat.add_assoc, pw_succ, h.val, pw_add]
    have e1 : v = lat x (k + i) - q * lat y i - b + 1000000000 * b' := by omega
    rw [e1]
    grind
  · intro j hj
    rw [lat_set_other (by omega)]
    exact h.sam j (by omega)
  · rw [take_set_ge _ _ _ _ (by omega)]; exact h.low

/-- The borrow of one limb. -/
theorem borrow_step {s q yi b xi : Int} (hs : s = xi - q * yi - b) (hx : 0 ≤ xi ∧ xi < 1000000000) (hq : 0 ≤ q ∧ q < 1000000000) (hy : 0 ≤ yi ∧ yi < 1000000000) (hb : 0 ≤ b ∧ b < 1000000000) :
    -999999999000000000 ≤ s ∧ s < 1000000000 ∧ (s < 0 → 0 ≤ (999999999 - s) / 1000000000 ∧ (999999999 - s) / 1000000000 < 1000000000 ∧ 0 ≤ s + (999999999 - s) / 1000000000 * 1000000000 ∧ s + (999999999 - s) / 1000000000 * 1000000000 < 1000000000) := by
  have h1 := mul_bound hq.1 hq.2 hy.1 hy.2
  have h2 : 0 ≤ q * yi := Int.mul_nonneg hq.1 hy.1
  refine ⟨by omega, by omega, fun h => ?_⟩
  omega

/-- Behind the subtraction and the top limb's borrow: what is left, in parts. -/
theorem SubMul.last {x0 y x : List Int} {q b : Int} {k : Nat} (h : SubMul x0 y q k y.length x b) (hk : k + y.length < x0.length) :
    nv (x.set (k + y.length) (lat x (k + y.length) - b)) = nv x0 - pw k * (q * nv y) ∧ (x.set (k + y.length) (lat x (k + y.length) - b)).take k = x0.take k := by
  refine ⟨?_, ?_⟩
  · rw [nv_set _ _ _ (by rw [h.len]; exact hk), h.val, nv_take_all (Nat.le_refl _)]
    grind
  · rw [take_set_ge _ _ _ _ (by omega)]; exact h.low

/-- From an equation of numbers to one of their upper parts. -/
theorem drop_val {x0 x : List Int} {k : Nat} {q Y : Int} (hl : x.length = x0.length) (hk : k ≤ x0.length) (hv : nv x = nv x0 - pw k * (q * Y)) (ht : x.take k = x0.take k) : nv (x.drop k) = nv (x0.drop k) - q * Y := by
  rw [nv_split x k (by omega), nv_split x0 k hk, ht] at hv
  have h1 : pw k * nv (x.drop k) = pw k * (nv (x0.drop k) - q * Y) := by rw [Int.mul_sub]; omega
  exact Int.eq_of_mul_eq_mul_left (by have := pw_pos k; omega) h1

/-- A list whose limbs below k + n lie in range and whose limbs above k + n are 0: what its upper part is. -/
theorem drop_parts {x : List Int} {k n : Nat} (hl : k + n < x.length) (hz : ∀ j, k + n + 1 ≤ j → lat x j = 0) : nv (x.drop k) = nv ((x.drop k).take n) + pw n * lat x (k + n) := by
  rw [nv_split (x.drop k) n (by simp; omega), List.drop_drop, nv_drop x (k + n) hl]
  have : nv (x.drop (k + n + 1)) = 0 := by
    rw [nv_take_of_small (n := 0) (by intro j _; rw [lat_drop]; exact hz _ (by omega))]; rfl
  rw [this]
  simp only [Int.mul_zero, Int.add_zero]

theorem top_zero {L P t R : Int} (hP : 0 < P) (h0 : 0 ≤ L) (h1 : L < P) (e : R = L + P * t) (hR0 : 0 ≤ R) (hR1 : R < P) : t = 0 := by
  by_cases h2 : 1 ≤ t
  · have := Int.mul_le_mul_of_nonneg_left h2 (Int.le_of_lt hP); omega
  · by_cases h3 : t ≤ -1
    · have := Int.mul_le_mul_of_nonneg_left h3 (Int.le_of_lt hP); omega
    · omega
theorem top_neg {L P t R : Int} (hP : 0 < P) (h1 : L < P) (e : R = L + P * t) (ht : t < 0) : R < 0 := by
  have := Int.mul_le_mul_of_nonneg_left (show t ≤ -1 by omega) (Int.le_of_lt hP); omega
theorem top_nonneg {L P t R : Int} (hP : 0 < P) (h0 : 0 ≤ L) (e : R = L + P * t) (ht : 0 ≤ t) : 0 ≤ R := by
  have := Int.mul_nonneg (Int.le_of_lt hP) ht; omega

/-- Limbs below k + n in range. -/
def InB (x : List Int) (m : Nat) : Prop := ∀ j, j < m → 0 ≤ lat x j ∧ lat x j < 1000000000
theorem InB.part {x : List Int} {k n : Nat} (h : InB x (k + n)) (hl : k + n ≤ x.length) : 0 ≤ nv ((x.drop k).take n) ∧ nv ((x.drop k).take n) < pw n := by
  have hi : InR ((x.drop k).take n) := by
    refine inR_of_lat fun j => ?_
    by_cases hj : j < n
    · rw [lat_take hj, lat_drop]; exact h _ (by omega)
    · rw [lat_ge (by simp; omega)]; omega
  refine ⟨hi.nonneg, ?_⟩
  have := hi.lt
  rwa [List.length_take, List.length_drop, Nat.min_eq_left (by omega)] at this

/-- Adding the divisor back: after i limbs. -/
structure AddB (x0 y : List Int) (k i : Nat) (x : List Int) (c : Int) : Prop where
  len : x.length = x0.length
  inb : InB x (k + y.length)
  car : c = 0 ∨ c = 1
  val : nv x + pw (k + i) * c = nv x0 + pw k * nv (y.take i)
  sam : ∀ j, k + i ≤ j → lat x j = lat x0 j
  low : x.take k = x0.take k
theorem AddB.start {x0 y : List Int} {k : Nat} (h : InB x0 (k + y.length)) : AddB x0 y k 0 x0 0 :=
  ⟨rfl, h, .inl rfl, by simp [nv_nil], fun _ _ => rfl, rfl⟩
theorem AddB.step {x0 y x : List Int} {c c' v : Int} {k i : Nat} (h : AddB x0 y k i x c) (hi : i < y.length) (hki : k + y.length < x0.length) (hv0 : 0 ≤ v) (hv1 : v < 1000000000) (hc : c' = 0 ∨ c' = 1)
    (e : v + 1000000000 * c' = lat x (k + i) + lat y i + c) : AddB x0 y k (i + 1) (x.set (k + i) v) c' := by
  have hl := h.len
  refine ⟨by simp [h.len], ?_, hc, ?_, ?_, ?_⟩
  · intro j hj
    by_cases hjk : k + i = j
    · subst hjk; rw [lat_set_same (by omega)]; exact ⟨hv0, hv1⟩
    · rw [lat_set_other hjk]; exact h.inb j hj
  · rw [nv_set _ _ _ (by omega), nv_take_succ', ← Nat.add_assoc, pw_succ, pw_add]
    have hv := h.val
    rw [pw_add] at hv
    have e1 : v = lat x (k + i) + lat y i + c - 1000000000 * c' := by omega
    rw [e1]
    grind
  · intro j hj
    rw [lat_set_other (by omega)]
    exact h.sam j (by omega)
  · rw [take_set_ge _ _ _ _ (by omega)]; exact h.low

/-- One digit is done, no adding back. -/
theorem digit_done {y x0 x out : List Int} {X q b : Int} {k : Nat} (h : KI y X (k + 1) x0 out) (hy : InR y) (hk : k < out.length) (hq0 : 0 ≤ q) (hq1 : q < 1000000000) (hi : nv (x0.drop k) < (q + 1) * nv y)
    (s : SubMul x0 y q k y.length x b) (ht : 0 ≤ lat x (k + y.length) - b) : KI y X k (x.set (k + y.length) (lat x (k + y.length) - b)) (out.set k q) := by
  have hl := h.lx
  have hsl := s.len
  have hkn : k + y.length < x0.length := by omega
  obtain ⟨l1, l2⟩ := s.last hkn
  generalize hx : x.set (k + y.length) (lat x (k + y.length) - b) = x2 at *
  have hl2 : x2.length = x0.length := by rw [← hx]; simp [hsl]
  have hd := drop_val hl2 (by omega) l1 l2
  have hz : ∀ j, k + y.length + 1 ≤ j → lat x2 j = 0 := by
    intro j hj
    rw [← hx, lat_set_other (by omega), s.sam j (by omega)]
    exact h.top hy j (by omega)
  have hp := drop_parts (k := k) (n := y.length) (by omega) hz
  have ht2 : lat x2 (k + y.length) = lat x (k + y.length) - b := by rw [← hx, lat_set_same (by omega)]
  have hb : InB x2 (k + y.length) := by
    intro j hj
    rw [← hx, lat_set_other (by omega)]
    exact s.inr.lat j
  obtain ⟨p1, p2⟩ := hb.part (by omega)
  have hP := pw_pos y.length
  have hlt := hy.lt
  have hR0 : 0 ≤ nv (x0.drop k) - q * nv y := by
    rw [← hd]
    exact top_nonneg hP p1 hp (by rw [ht2]; exact ht)
  have hR1 : nv (x0.drop k) - q * nv y < nv y := by
    have : (q + 1) * nv y = q * nv y + nv y := by grind
    omega
  have ht0 := top_zero hP p1 p2 hp (by rw [hd]; exact hR0) (by rw [hd]; omega)
  refine h.step hk hq0 hq1 hl2 (inR_of_lat fun j => ?_) l1 (by rw [hd]; exact hR1)
  by_cases hj : j < k + y.length
  · exact hb j hj
  · by_cases hj2 : j = k + y.length
    · subst hj2; rw [ht0]; omega
    · rw [hz j (by omega)]; omega

/-- One digit is done, with adding back. -/
theorem digit_back {y x0 x x2 x3 out : List Int} {X q b c : Int} {k : Nat} (h : KI y X (k + 1) x0 out) (hy : InR y) (hk : k < out.length) (hq0 : 0 ≤ q) (hq1 : q < 1000000000) (lo : (q - 1) * nv y ≤ nv (x0.drop k))
    (s : SubMul x0 y q k y.length x b) (ht : lat x (k + y.length) - b < 0) (hx : x.set (k + y.length) (lat x (k + y.length) - b) = x2) (r : AddB x2 y k y.length x3 c) :
    1 ≤ q ∧ lat x3 (k + y.length) = lat x (k + y.length) - b ∧ KI y X k (x3.set (k + y.length) (lat x3 (k + y.length) + c)) (out.set k (q - 1)) := by
  have hl := h.lx
  have hsl := s.len
  have hrl := r.len
  have hkn : k + y.length < x0.length := by omega
  obtain ⟨l1, l2⟩ := s.last hkn
  rw [hx] at l1 l2
  have hl2 : x2.length = x0.length := by rw [← hx]; simp [hsl]
  have hd := drop_val hl2 (by omega) l1 l2
  have hz : ∀ j, k + y.length + 1 ≤ j → lat x2 j = 0 := by
    intro j hj
    rw [← hx, lat_set_other (by omega), s.sam j (by omega)]
    exact h.top hy j (by omega)
  have hp := drop_parts (k := k) (n := y.length) (by omega) hz
  have ht2 : lat x2 (k + y.length) = lat x (k + y.length) - b := by rw [← hx, lat_set_same (by omega)]
  have hb : InB x2 (k + y.length) := by
    intro j hj
    rw [← hx, lat_set_other (by omega)]
    exact s.inr.lat j
  obtain ⟨p1, p2⟩ := hb.part (by omega)
  have hP := pw_pos y.length
  have hlt := hy.lt
  have hneg : nv (x0.drop k) - q * nv y < 0 := by
    rw [← hd]
    exact top_neg hP p2 hp (by rw [ht2]; exact ht)
  have hD0 := (h.ix.drop k).nonneg
  have hq : 1 ≤ q := by
    by_cases hq : q = 0
    · subst hq; simp only [Int.zero_mul, Int.sub_zero] at hneg; omega
    · omega
  have e3 : lat x3 (k + y.length) = lat x (k + y.length) - b := by rw [r.sam _ (Nat.le_refl _), ht2]
  refine ⟨hq, e3, ?_⟩
  generalize hx4 : x3.set (k + y.length) (lat x3 (k + y.length) + c) = x4
  have hl4 : x4.length = x0.length := by rw [← hx4]; simp [hrl, hl2]
  have hv4 : nv x4 = nv x0 - pw k * ((q - 1) * nv y) := by
    have hv := r.val
    rw [nv_take_all (Nat.le_refl _), l1] at hv
    rw [← hx4, nv_set _ _ _ (by omega)]
    grind
  have ht4 : x4.take k = x0.take k := by rw [← hx4, take_set_ge _ _ _ _ (by omega), r.low, l2]
  have hd4 := drop_val hl4 (by omega) hv4 ht4
  have hz4 : ∀ j, k + y.length + 1 ≤ j → lat x4 j = 0 := by
    intro j hj
    rw [← hx4, lat_set_other (by omega), r.sam j (by omega)]
    exact hz j hj
  have hp4 := drop_parts (x := x4) (k := k) (n := y.length) (by omega) hz4
  have hb4 : InB x4 (k + y.length) := by
    intro j hj
    rw [← hx4, lat_set_other (by omega)]
    exact r.inb j hj
  obtain ⟨p3, p4⟩ := hb4.part (by omega)
  have hR0 : 0 ≤ nv (x0.drop k) - (q - 1) * nv y := by omega
  have hR1 : nv (x0.drop k) - (q - 1) * nv y < nv y := by
    have : (q - 1) * nv y = q * nv y - nv y := by grind
    omega
  have ht0 := top_zero hP p3 p4 hp4 (by rw [hd4]; exact hR0) (by rw [hd4]; omega)
  refine h.step hk (by omega) (by omega) hl4 (inR_of_lat fun j => ?_) hv4 (by rw [hd4]; exact hR1)
  by_cases hj : j < k + y.length
  · exact hb4 j hj
  · by_cases hj2 : j = k + y.length
    · subst hj2; rw [ht0]; omega
    · rw [hz4 j (by omega)]; omega

/-! The estimate of a digit. -/
section
variable {y x out : List Int} {X : Int} {k : Nat}

theorem QI.start (h : KI y X (k + 1) x out) (hy : InR y) (hn : 2 ≤ y.length) (hk : k < out.length) (ht : 0 < lat y (y.length - 1)) :
    QI (nv (x.drop k)) (nv y) (lat x (k + y.length) * 1000000000 + lat x (k + y.length - 1)) (lat y (y.length - 1))
      ((lat x (k + y.length) * 1000000000 + lat x (k + y.length - 1)) / lat y (y.length - 1)) ((lat x (k + y.length) * 1000000000 + lat x (k + y.length - 1)) % lat y (y.length - 1)) := by
  have hp := h.parts hy hn hk
  obtain ⟨yl, y1, y2, y3⟩ := y_parts hy hn
  have b0 := h.ix.lat (k + y.length)
  have b1 := h.ix.lat (k + y.length - 1)
  have b2 := h.ix.lat (k + y.length - 2)
  have c2 := hy.lat (y.length - 2)
  have hval := hp.val
  have hlo := hp.lo
  have htwo : 0 ≤ lat x (k + y.length) * 1000000000 + lat x (k + y.length - 1) := by omega
  generalize lat x (k + y.length) * 1000000000 + lat x (k + y.length - 1) = two at *
  generalize lat y (y.length - 1) = top at *
  generalize lat y (y.length - 2) = ysec at *
  generalize nv (x.drop k) = D at *
  generalize nv y = Y at *
  generalize lat x (k + y.length - 2) = x2 at *
  generalize nv ((x.drop k).take (y.length - 2)) = xl at *
  have he := Int.mul_ediv_add_emod two top
  have hm := Int.emod_nonneg two (show top ≠ 0 by omega)
  have hm2 := Int.emod_lt_of_pos two ht
  have hq0 : 0 ≤ two / top := Int.ediv_nonneg (by omega) (by omega)
  generalize two / top = q at *
  generalize two % top = r at *
  refine ⟨by rw [← he, Int.mul_comm], hq0, hm, ?_⟩
  refine digit_high (pw_pos (y.length - 2)) hval hlo.2 y3 y1 (by omega) ?_
  have e1 : (q + 1) * (top * 1000000000 + ysec) = (top * q) * 1000000000 + top * 1000000000 + (q + 1) * ysec := by grind
  have e2 : 0 ≤ (q + 1) * ysec := Int.mul_nonneg (by omega) (by omega)
  omega

theorem QI.bound {D Y two top q r : Int} (h : QI D Y two top q r) (ht : 0 < top) (htwo : two < (top + 1) * 1000000000) : q < 2000000000 := by
  have h1 := h.eq
  have h2 := h.r0
  by_cases hq : q < 2000000000
  · exact hq
  · have h3 : 2000000000 * top ≤ q * top := Int.mul_le_mul_of_nonneg_right (by omega) (by omega)
    omega
/-- At r of Base or more the digit is below Base. -/
theorem QI.broke {D Y two top q r : Int} (h : QI D Y two top q r) (htwo : two < (top + 1) * 1000000000) (ht : 0 < top) (hr : 1000000000 ≤ r) : q < 1000000000 := by
  have h1 := h.eq
  by_cases hq : q < 1000000000
  · exact hq
  · have h3 : 1000000000 * top ≤ q * top := Int.mul_le_mul_of_nonneg_right (by omega) (by omega)
    omega
theorem QI.down {D Y two top q r : Int} (h : QI D Y two top q r) (ht : 0 < top) (hq : 1 ≤ q) (hi : D < q * Y) : QI D Y two top (q - 1) (r + top) := by
  have h1 := h.eq
  have h2 := h.r0
  refine ⟨?_, by omega, by omega, by rw [show q - 1 + 1 = q by omega]; exact hi⟩
  have : (q - 1) * top = q * top - top := by grind
  omega

theorem QI.high {q r : Int} (h : KI y X (k + 1) x out) (hy : InR y) (hn : 2 ≤ y.length) (hk : k < out.length)
    (s : QI (nv (x.drop k)) (nv y) (lat x (k + y.length) * 1000000000 + lat x (k + y.length - 1)) (lat y (y.length - 1)) q r)
    (hc : 1000000000 ≤ q ∨ r * 1000000000 + lat x (k + y.length - 2) < q * lat y (y.length - 2)) : 1 ≤ q ∧ nv (x.drop k) < q * nv y := by
  have hd := h.dlt hk
  have hp := h.parts hy hn hk
  obtain ⟨yl, y1, y2, y3⟩ := y_parts hy hn
  have b2 := h.ix.lat (k + y.length - 2)
  have c2 := hy.lat (y.length - 2)
  have hval := hp.val
  have hlo := hp.lo
  have heq := s.eq
  have hr0 := s.r0
  have hq0 := s.q0
  have hY : 0 ≤ nv y := hy.nonneg
  have hq1 : 1 ≤ q := by
    by_cases h0 : q = 0
    · subst h0; simp only [Int.zero_mul] at hc; omega
    · omega
  refine ⟨hq1, ?_⟩
  rcases hc with hc | hc
  · have := Int.mul_le_mul_of_nonneg_right hc hY
    omega
  · refine digit_high (pw_pos (y.length - 2)) hval hlo.2 y3 y1 (by omega) ?_
    rw [heq]
    have : q * (lat y (y.length - 1) * 1000000000 + lat y (y.length - 2)) = (q * lat y (y.length - 1)) * 1000000000 + q * lat y (y.length - 2) := by grind
    omega

theorem QI.low {q r : Int} (h : KI y X (k + 1) x out) (hy : InR y) (hn : 2 ≤ y.length) (hk : k < out.length) (ht : 0 < lat y (y.length - 1))
    (s : QI (nv (x.drop k)) (nv y) (lat x (k + y.length) * 1000000000 + lat x (k + y.length - 1)) (lat y (y.length - 1)) q r)
    (hq : q < 1000000000) (hc : 1000000000 ≤ r ∨ q * lat y (y.length - 2) ≤ r * 1000000000 + lat x (k + y.length - 2)) : (q - 1) * nv y ≤ nv (x.drop k) := by
  have hp := h.parts hy hn hk
  obtain ⟨yl, y1, y2, y3⟩ := y_parts hy hn
  have b0 := h.ix.lat (k + y.length)
  have b1 := h.ix.lat (k + y.length - 1)
  have b2 := h.ix.lat (k + y.length - 2)
  have c2 := hy.lat (y.length - 2)
  have hval := hp.val
  have hlo := hp.lo
  have heq := s.eq
  have hr0 := s.r0
  have hq0 := s.q0
  have hb := mul_bound hq0 hq c2.1 c2.2
  have hc' : q * lat y (y.length - 2) ≤ r * 1000000000 + lat x (k + y.length - 2) := by
    rcases hc with hc | hc
    · omega
    · exact hc
  refine digit_low (pw_pos (y.length - 2)) hval hlo.1 y3 y1 y2 (by omega) hq0 (by omega) ?_ (by omega)
  rw [heq]
  have : q * (lat y (y.length - 1) * 1000000000 + lat y (y.length - 2)) = (q * lat y (y.length - 1)) * 1000000000 + q * lat y (y.length - 2) := by grind
  omega
end

/-! The beginning and the end of the long division. -/

/-- The factor that makes the divisor's top limb large. -/
theorem factor_ok {b : Nat} (hb : 2 ≤ (limbs b).length) :
    1 ≤ 1000000000 / (lat (limbs b) ((limbs b).length - 1) + 1) ∧ 1000000000 / (lat (limbs b) ((limbs b).length - 1) + 1) < 1000000000 ∧
    ∀ f : Nat, (f : Int) = 1000000000 / (lat (limbs b) ((limbs b).length - 1) + 1) → (limbs (b * f)).length = (limbs b).length ∧ 0 < f := by
  have hi := limbs_inR b
  have h1 := hi.lat ((limbs b).length - 1)
  have h2 : lat (limbs b) ((limbs b).length - 1) ≠ 0 := (limbs_norm b).2.resolve_left (by intro e; rw [e] at hb; simp at hb)
  generalize ht : lat (limbs b) ((limbs b).length - 1) = t at *
  have e := Int.mul_ediv_add_emod 1000000000 (t + 1)
  have em := Int.emod_nonneg 1000000000 (show t + 1 ≠ 0 by omega)
  have em2 := Int.emod_lt_of_pos 1000000000 (show 0 < t + 1 by omega)
  generalize hf : (1000000000 : Int) / (t + 1) = f at *
  have hf1 : 1 ≤ f := by
    by_cases h : 1 ≤ f
    · exact h
    · have : (t + 1) * f ≤ (t + 1) * 0 := Int.mul_le_mul_of_nonneg_left (by omega) (by omega)
      omega
  have hf2 : f < 1000000000 := by
    have : 2 * f ≤ (t + 1) * f := Int.mul_le_mul_of_nonneg_right (by omega) (by omega)
    omega
  refine ⟨hf1, hf2, fun g hg => ⟨?_, by omega⟩⟩
  have hn := nv_split (limbs b) ((limbs b).length - 1) (by omega)
  rw [nv_drop _ _ (by omega), nv_drop_all (by omega), ht, nv_limbs] at hn
  have hlt := (hi.take ((limbs b).length - 1)).lt
  rw [List.length_take, Nat.min_eq_left (by omega)] at hlt
  refine Nat.le_antisymm ?_ (limbs_len_mono (by have : b * 1 ≤ b * g := Nat.mul_le_mul_left _ (by omega); omega))
  rw [limbs_len_le]
  have hpw : pw (limbs b).length = 1000000000 * pw ((limbs b).length - 1) := by
    rw [← pw_succ, Nat.sub_add_cancel (by omega)]
  have hP := pw_pos ((limbs b).length - 1)
  generalize pw ((limbs b).length - 1) = P at *
  simp only [Int.mul_zero, Int.add_zero] at hn
  have h3 : (b : Int) < (t + 1) * P := by grind
  have h4 : (b : Int) * f < (t + 1) * P * f := Int.mul_lt_mul_of_pos_right h3 (by omega)
  have h5 : ((t + 1) * f) * P ≤ 1000000000 * P := Int.mul_le_mul_of_nonneg_right (by omega) (by omega)
  have h6 : (t + 1) * P * f = ((t + 1) * f) * P := by grind
  rw [Int.natCast_mul, hg, hpw]
  omega

theorem KI.start {a b f : Nat} {x : List Int} (hab : b ≤ a) (hf : 0 < f) (hb : 0 < b) (hlb : (limbs (b * f)).length = (limbs b).length) (hx : InR x) (hxl : x.length = (limbs a).length + 1) (hv : nv x = (a * f : Nat)) :
    KI (limbs (b * f)) (a * f : Nat) ((limbs a).length + 1 - (limbs b).length) x (List.replicate ((limbs a).length + 1 - (limbs b).length) 0) := by
  have hbl := limbs_len_mono hab
  have hb0 : limbs b ≠ [] := by intro e; have := limbs_nil.1 e; omega
  have hbp : 0 < (limbs b).length := List.length_pos_iff.2 hb0
  refine ⟨by rw [List.length_replicate, hlb]; omega, hx, InR.replicate _, ?_, ?_⟩
  · rw [hv, nv_drop_all (by simp)]; simp
  · rw [nv_limbs]
    have hs := nv_split x ((limbs a).length + 1 - (limbs b).length) (by omega)
    have h1 := (hx.take ((limbs a).length + 1 - (limbs b).length)).nonneg
    rw [hv] at hs
    have h2 := (limbs_inR a).lt
    have h3 := (limbs_norm b).ge hb0
    rw [nv_limbs] at h2 h3
    have h4 : pw (limbs a).length = pw ((limbs a).length + 1 - (limbs b).length) * pw ((limbs b).length - 1) := by
      rw [← pw_add]; congr 1; omega
    have hP := pw_pos ((limbs a).length + 1 - (limbs b).length)
    generalize pw ((limbs a).length + 1 - (limbs b).length) = P at *
    generalize pw ((limbs b).length - 1) = R at *
    generalize nv (x.drop ((limbs a).length + 1 - (limbs b).length)) = Z at *
    by_cases hc : Z < ((b * f : Nat) : Int)
    · exact hc
    · exfalso
      have h5 : P * ((b * f : Nat) : Int) ≤ P * Z := Int.mul_le_mul_of_nonneg_left (by omega) (by omega)
      have h6 : P * R ≤ P * (b : Int) := Int.mul_le_mul_of_nonneg_left h3 (by omega)
      have h7 : (a : Int) + 1 ≤ P * (b : Int) := by omega
      have h8 : ((a : Int) + 1) * (f : Int) ≤ P * (b : Int) * (f : Int) := Int.mul_le_mul_of_nonneg_right h7 (by omega)
      have h9 : ((a : Int) + 1) * (f : Int) = (a : Int) * f + f := by grind
      have h10 : P * ((b * f : Nat) : Int) = P * (b : Int) * (f : Int) := by rw [Int.natCast_mul]; grind
      rw [Int.natCast_mul] at hs
      omega

theorem KI.result {a b f : Nat} {x out : List Int} (hf : 0 < f) (hb : 0 < b) (h : KI (limbs (b * f)) (a * f : Nat) 0 x out) : nv out = (a / b : Nat) ∧ nv x = (a % b * f : Nat) := by
  obtain ⟨h1, h2⟩ := h.last
  have h3 := h.ix.nonneg
  have h4 := h.io.nonneg
  rw [nv_limbs] at h1 h2
  obtain ⟨xn, hx⟩ := Int.eq_ofNat_of_zero_le h3
  obtain ⟨on, ho⟩ := Int.eq_ofNat_of_zero_le h4
  rw [hx, ho] at h1
  rw [hx] at h2
  have e : xn + b * f * on = a * f := by
    have : ((xn + b * f * on : Nat) : Int) = ((a * f : Nat) : Int) := by
      rw [Int.natCast_add, Int.natCast_mul (b * f) on]; exact h1
    omega
  have hlt : xn < b * f := by omega
  have hd : a * f / (b * f) = on := by
    rw [← e, Nat.add_mul_div_left _ _ (Nat.mul_pos hb hf), Nat.div_eq_of_lt hlt]; omega
  have hm : a * f % (b * f) = xn := by
    rw [← e, Nat.add_mul_mod_self_left, Nat.mod_eq_of_lt hlt]
  rw [Nat.mul_div_mul_right _ _ hf] at hd
  rw [Nat.mul_mod_mul_right] at hm
  exact ⟨by rw [ho, hd], by rw [hx, hm]⟩

end Lm

/- Plain mathematics: the binary search for a digit, schoolbook division, conversion from and to int; no program in sight. -/
namespace Lm

/-- The binary search for the digit r / b. -/
structure DigI (b r : Nat) (lo hi : Int) : Prop where
  l0 : 0 ≤ lo
  lh : lo ≤ hi
  hB : hi ≤ 999999999
  low : b * lo ≤ r
  high : r < b * (hi + 1)
theorem DigI.start {b r : Nat} (h : (r : Int) < b * 1000000000) : DigI b r 0 999999999 := ⟨by omega, by omega, by omega, by omega, by omega⟩
theorem DigI.mid {b r : Nat} {lo hi : Int} (h : DigI b r lo hi) (hlt : lo < hi) : lo < (lo + hi + 1) / 2 ∧ (lo + hi + 1) / 2 ≤ hi ∧ 0 ≤ (lo + hi + 1) / 2 := by
  have := h.l0
  omega
theorem DigI.up {b r : Nat} {lo hi q : Int} (h : DigI b r lo hi) (h0 : lo ≤ q) (h1 : q ≤ hi) (hq : b * q ≤ r) : DigI b r q hi :=
  ⟨by have := h.l0; omega, h1, h.hB, hq, h.high⟩
theorem DigI.down {b r : Nat} {lo hi q : Int} (h : DigI b r lo hi) (h0 : lo < q) (h1 : q ≤ hi) (hq : r < b * q) : DigI b r lo (q - 1) :=
  ⟨h.l0, by omega, by have := h.hB; omega, h.low, by rw [show q - 1 + 1 = q by omega]; exact hq⟩
theorem DigI.done {b r : Nat} {lo hi : Int} (h : DigI b r lo hi) (e : ¬ lo < hi) : lo = (r / b : Nat) := by
  have h1 := h.lh
  obtain rfl : lo = hi := by omega
  obtain ⟨n, rfl⟩ := Int.eq_ofNat_of_zero_le h.l0
  have h2 := h.low
  have h3 := h.high
  have h4 : b * n ≤ r := by
    have : ((b * n : Nat) : Int) ≤ r := by rw [Int.natCast_mul]; exact h2
    omega
  have h5 : r < b * (n + 1) := by
    have : (r : Int) < ((b * (n + 1) : Nat) : Int) := by rw [Int.natCast_mul]; exact h3
    omega
  have hb : 0 < b := by
    rcases Nat.eq_zero_or_pos b with rfl | hb
    · simp at h5
    · exact hb
  congr 1
  refine (Nat.div_eq_of_lt_le ?_ ?_).symm
  · rw [Nat.mul_comm]; exact h4
  · rw [Nat.mul_comm]; exact h5

/-- Schoolbook division: the digits from K on are known, the others are 0. -/
structure DivZ (xs : List Int) (b : Nat) (K : Nat) (out : List Int) (r : Nat) : Prop where
  div : DivI xs b K out r
  zer : ∀ j, j < K → lat out j = 0
theorem DivZ.start (xs : List Int) {b : Nat} (hb : 0 < b) : DivZ xs b xs.length (List.replicate xs.length 0) 0 :=
  ⟨DivI.start xs (by omega), fun j _ => lat_replicate _ j⟩
theorem set_same_lat {xs : List Int} {i : Nat} (h : i < xs.length) : xs.set i (lat xs i) = xs := by
  rw [lat_of_lt h]; exact List.set_getElem_self h
theorem DivZ.step {xs out : List Int} {b r i : Nat} (h : DivZ xs b (i + 1) out r) (hx : InR xs) (hi : i < xs.length) {s : Nat} (hs : (s : Int) = r * 1000000000 + lat xs i) :
    s < b * 1000000000 ∧ DivZ xs b i (out.set i ((s / b : Nat) : Int)) (s % b) := by
  have hl := hx.lat i
  have hr := h.div.rem
  have h1 := h.div.step hx hi
  rw [← hs, ← Int.natCast_ediv, ← Int.natCast_emod] at h1
  refine ⟨by omega, h1, fun j hj => ?_⟩
  rw [lat_set_other (by omega)]
  exact h.zer j (by omega)
theorem DivZ.skip {xs out : List Int} {b r i : Nat} (h : DivZ xs b (i + 1) out r) (hx : InR xs) (hi : i < xs.length) {s : Nat} (hs : (s : Int) = r * 1000000000 + lat xs i) (hlt : s < b) : DivZ xs b i out s := by
  have h1 := (h.step hx hi hs).2
  rw [Nat.div_eq_of_lt hlt, Nat.mod_eq_of_lt hlt] at h1
  have h2 : out.set i ((0 : Nat) : Int) = out := by
    have h3 := set_same_lat (xs := out) (i := i) (by rw [h.div.len]; exact hi)
    rw [h.zer i (by omega)] at h3
    exact h3
  rwa [h2] at h1
theorem DivZ.done {a b : Nat} {out : List Int} {r : Nat} (h : DivZ (limbs a) b 0 out r) : nv out = (a / b : Nat) ∧ r = a % b := by
  have h1 := h.div.done
  rw [nv_limbs] at h1
  have h2 := h.div.rem
  have h3 := h.div.inr.nonneg
  obtain ⟨o, ho⟩ := Int.eq_ofNat_of_zero_le h3
  rw [ho] at h1 ⊢
  have h4 : a = b * o + r := by
    have : (a : Int) = ((b * o + r : Nat) : Int) := by rw [Int.natCast_add, Int.natCast_mul]; exact h1
    omega
  have hr : r < b := by omega
  have hb : 0 < b := by omega
  subst h4
  rw [Nat.mul_add_div hb, Nat.div_eq_of_lt hr, Nat.mul_add_mod, Nat.mod_eq_of_lt hr]
  simp

theorem DivI.quot {a d : Nat} {out : List Int} {r : Int} (h : DivI (limbs a) d 0 out r) : nv out = (a / d : Nat) ∧ r = (a % d : Nat) := by
  have h2 := h.rem
  obtain ⟨rn, rfl⟩ := Int.eq_ofNat_of_zero_le h2.1
  have h1 := h.done
  rw [nv_limbs] at h1
  have h3 := h.inr.nonneg
  obtain ⟨o, ho⟩ := Int.eq_ofNat_of_zero_le h3
  rw [ho] at h1 ⊢
  have h4 : a = d * o + rn := by
    have : (a : Int) = ((d * o + rn : Nat) : Int) := by rw [Int.natCast_add, Int.natCast_mul]; exact h1
    omega
  have hr : rn < d := by omega
  have hb : 0 < d := by omega
  subst h4
  rw [Nat.mul_add_div hb, Nat.div_eq_of_lt hr, Nat.mul_add_mod, Nat.mod_eq_of_lt hr]
  simp

/-- The next limb of a number on the way out. -/
theorem natOf_step {n m : Nat} {o : List Int} (h : o ++ limbs m = limbs n) (hm : 0 < m) : (o ++ [((m % 1000000000 : Nat) : Int)]) ++ limbs (m / 1000000000) = limbs n := by
  rw [← h, limbs_succ m, if_neg (by omega)]; simp
theorem natOf_len {n m : Nat} {o : List Int} (h : o ++ limbs m = limbs n) : o.length ≤ (limbs n).length := by rw [← h]; simp

theorem drop_le {xs : List Int} (h : InR xs) (k : Nat) : nv (xs.drop k) ≤ nv xs := by
  by_cases hk : k ≤ xs.length
  · rw [nv_split xs k hk]
    have h1 := (h.take k).nonneg
    have h2 := (h.drop k).nonneg
    have h3 := Int.mul_le_mul_of_nonneg_right (pw_ge k) h2
    omega
  · rw [nv_drop_all (by omega)]; exact h.nonneg

theorem cmp3_cases (a b : Int) : (a < b ∧ cmp3 a b = -1) ∨ (a = b ∧ cmp3 a b = 0) ∨ (b < a ∧ cmp3 a b = 1) := by
  unfold cmp3
  by_cases h : a < b
  · exact .inl ⟨h, if_pos h⟩
  · by_cases h2 : b < a
    · exact .inr (.inr ⟨h2, by rw [if_neg h, if_pos h2]⟩)
    · exact .inr (.inl ⟨by omega, by rw [if_neg h, if_neg h2]⟩)

end Lm

/- Fractions in plain numbers: lowest terms, with the bound on the numbers of limbs. -/
namespace Go.Proofs.YtijeplcjbhkkoaaGreatDoor
open Lm

/-- Not more than 24 limbs. -/
def Fit (n : Nat) : Prop := (limbs n).length ≤ 24
/-- The pair z / d, d > 0, in lowest terms, if both numbers have no more than 24 limbs; else 0 / 0. -/
def FitQ (z : Int) (d : Nat) : Prop := 0 < d ∧ Fit (z.natAbs / Nat.gcd z.natAbs d) ∧ Fit (d / Nat.gcd z.natAbs d)
open Classical in
noncomputable def lowZ (z : Int) (d : Nat) : Int := if FitQ z d then z / (Nat.gcd z.natAbs d : Nat) else 0
open Classical in
noncomputable def lowD (z : Int) (d : Nat) : Nat := if FitQ z d then d / Nat.gcd z.natAbs d else 0
theorem low_yes {z : Int} {d : Nat} (h : FitQ z d) : lowZ z d = z / (Nat.gcd z.natAbs d : Nat) ∧ lowD z d = d / Nat.gcd z.natAbs d := ⟨if_pos h, if_pos h⟩
theorem low_no {z : Int} {d : Nat} (h : ¬ FitQ z d) : lowZ z d = 0 ∧ lowD z d = 0 := ⟨if_neg h, if_neg h⟩

theorem natAbs_ediv_dvd {z : Int} {g : Nat} (h : g ∣ z.natAbs) : (z / (g : Int)).natAbs = z.natAbs / g := by
  rcases Nat.eq_zero_or_pos g with h0 | h0
  · subst h0; simp
  obtain ⟨k, hk⟩ := h
  rcases Int.natAbs_eq z with e | e
  · rw [e, hk]
    rw [show ((g * k : Nat) : Int) = (g : Int) * (k : Int) by simp, Int.mul_ediv_cancel_left _ (by omega)]
    rw [Int.natAbs_mul, Int.natAbs_natCast, Int.natAbs_natCast, Nat.mul_div_cancel_left _ h0]
  · rw [e, hk]
    rw [show (-((g * k : Nat) : Int)) = (g : Int) * (-(k : Int)) by rw [Int.mul_neg]; simp, Int.mul_ediv_cancel_left _ (by omega)]
    rw [Int.natAbs_neg, Int.natAbs_mul, Int.natAbs_neg, Int.natAbs_natCast, Int.natAbs_natCast, Nat.mul_div_cancel_left _ h0]
theorem ediv_neg_iff {z : Int} {g : Nat} (hg : 0 < g) (h : g ∣ z.natAbs) : z / (g : Int) < 0 ↔ z < 0 := by
  obtain ⟨k, hk⟩ := h
  rcases Int.natAbs_eq z with e | e
  · rw [e, hk, show ((g * k : Nat) : Int) = (g : Int) * (k : Int) by simp, Int.mul_ediv_cancel_left _ (by omega)]
    constructor
    · intro h; omega
    · intro h
      have : (0 : Int) ≤ (g : Int) * (k : Int) := Int.mul_nonneg (by omega) (by omega)
      omega
  · rw [e, hk, show (-((g * k : Nat) : Int)) = (g : Int) * (-(k : Int)) by rw [Int.mul_neg]; simp, Int.mul_ediv_cancel_left _ (by omega)]
    constructor
    · intro h; exact Int.mul_neg_of_pos_of_neg (by omega) h
    · intro h
      rcases Nat.eq_zero_or_pos k with h0 | h0
      · subst h0; simp at h
      · omega
theorem gcd_pos_den {z : Int} {d : Nat} (h : 0 < d) : 0 < Nat.gcd z.natAbs d := Nat.gcd_pos_of_pos_right _ h
theorem lowD_pos {z : Int} {d : Nat} (h : FitQ z d) : 0 < lowD z d := by
  rw [(low_yes h).2]
  exact Nat.div_pos (Nat.le_of_dvd h.1 (Nat.gcd_dvd_right _ _)) (gcd_pos_den h.1)
theorem lowD_zero {z : Int} {d : Nat} : lowD z d = 0 ↔ ¬ FitQ z d := by
  constructor
  · intro h h2; have := lowD_pos h2; omega
  · intro h; exact (low_no h).2
/-- A fraction in lowest terms within the bounds. -/
def IsQ (z : Int) (d : Nat) : Prop := 0 < d ∧ Nat.gcd z.natAbs d = 1 ∧ Fit z.natAbs ∧ Fit d
theorem low_isQ {z : Int} {d : Nat} (h : FitQ z d) : IsQ (lowZ z d) (lowD z d) := by
  have hp := lowD_pos h
  obtain ⟨e1, e2⟩ := low_yes h
  have hn : (lowZ z d).natAbs = z.natAbs / Nat.gcd z.natAbs d := by rw [e1]; exact natAbs_ediv_dvd (Nat.gcd_dvd_left _ _)
  refine ⟨hp, ?_, ?_, ?_⟩
  · rw [hn, e2, Nat.gcd_div (Nat.gcd_dvd_left _ _) (Nat.gcd_dvd_right _ _)]; exact Nat.div_self (gcd_pos_den h.1)
  · rw [hn]; exact h.2.1
  · rw [e2]; exact h.2.2
theorem low_of_isQ {z : Int} {d : Nat} (h : IsQ z d) : lowZ z d = z ∧ lowD z d = d := by
  have hf : FitQ z d := ⟨h.1, by rw [h.2.1, Nat.div_one]; exact h.2.2.1, by rw [h.2.1, Nat.div_one]; exact h.2.2.2⟩
  obtain ⟨e1, e2⟩ := low_yes hf
  rw [e1, e2, h.2.1]
  exact ⟨by simp, by simp⟩
theorem gcd_scale (z : Int) (d k : Nat) : Nat.gcd (z * (k : Int)).natAbs (d * k) = Nat.gcd z.natAbs d * k := by
  rw [Int.natAbs_mul, Int.natAbs_natCast, Nat.gcd_mul_right]
theorem low_scale (z : Int) (d : Nat) {k : Nat} (hk : 0 < k) : lowZ (z * (k : Int)) (d * k) = lowZ z d ∧ lowD (z * (k : Int)) (d * k) = lowD z d := by
  have e1 : (z * (k : Int)).natAbs / (Nat.gcd z.natAbs d * k) = z.natAbs / Nat.gcd z.natAbs d := by
    rw [Int.natAbs_mul, Int.natAbs_natCast, Nat.mul_div_mul_right _ _ hk]
  have e2 : d * k / (Nat.gcd z.natAbs d * k) = d / Nat.gcd z.natAbs d := Nat.mul_div_mul_right _ _ hk
  have hf : FitQ (z * (k : Int)) (d * k) ↔ FitQ z d := by
    unfold FitQ
    rw [gcd_scale, e1, e2]
    constructor
    · rintro ⟨h1, h2, h3⟩; exact ⟨Nat.pos_of_mul_pos_right h1, h2, h3⟩
    · rintro ⟨h1, h2, h3⟩; exact ⟨Nat.mul_pos h1 hk, h2, h3⟩
  by_cases h : FitQ z d
  · obtain ⟨a1, a2⟩ := low_yes h
    obtain ⟨b1, b2⟩ := low_yes (hf.2 h)
    rw [a1, a2, b1, b2, gcd_scale, e2]
    refine ⟨?_, rfl⟩
    rw [Int.natCast_mul, Int.mul_ediv_mul_of_pos_left _ _ (by omega)]
  · obtain ⟨a1, a2⟩ := low_no h
    obtain ⟨b1, b2⟩ := low_no (fun h2 => h (hf.1 h2))
    rw [a1, a2, b1, b2]; exact ⟨rfl, rfl⟩
/-- Products and sums of what is within the bounds stay small. -/
theorem fit_lt {n : Nat} (h : Fit n) : (n : Int) < pw 24 := limbs_len_le.1 h
theorem len_mul {a b : Nat} {i j : Nat} (ha : (limbs a).length ≤ i) (hb : (limbs b).length ≤ j) : (limbs (a * b)).length ≤ i + j := by
  rw [limbs_len_le] at *
  rw [pw_add]
  rw [show ((a * b : Nat) : Int) = (a : Int) * (b : Int) by simp]
  rcases Nat.eq_zero_or_pos b with h0 | h0
  · subst h0
    have := Int.mul_pos (pw_pos i) (pw_pos j)
    simp; omega
  · exact Int.lt_of_lt_of_le (Int.mul_lt_mul_of_pos_right ha (by omega)) (Int.mul_le_mul_of_nonneg_left (by omega) (Int.le_of_lt (pw_pos i)))
theorem len_add {a b i : Nat} (ha : (limbs a).length ≤ i) (hb : (limbs b).length ≤ i) : (limbs (a + b)).length ≤ i + 1 := by
  rw [limbs_len_le] at *
  rw [pw_succ]
  have := pw_pos i
  omega

end Go.Proofs.YtijeplcjbhkkoaaGreatDoor

/- Decimal numerals: plain mathematics; no program in sight. -/
namespace Tx
open Go.Lib

/-- A digit. -/
def Dg (c : UInt8) : Prop := 48 ≤ c.toNat ∧ c.toNat ≤ 57
def stp (acc : Nat) (c : UInt8) : Nat := acc * 10 + (c.toNat - 48)
/-- What digits stand for, behind acc. -/
def valA (acc : Nat) (l : List UInt8) : Nat := l.foldl stp acc
theorem valA_nil (acc : Nat) : valA acc [] = acc := rfl
theorem valA_cons' (c : UInt8) (l : List UInt8) (acc : Nat) : valA acc (c :: l) = valA (stp acc c) l := by
  unfold valA
  exact List.foldl_cons ..
theorem valA_cons (c : UInt8) (l : List UInt8) (acc : Nat) : valA acc (c :: l) = valA (acc * 10 + (c.toNat - 48)) l := valA_cons' c l acc
theorem valA_append (l r : List UInt8) : ∀ (acc : Nat), valA acc (l ++ r) = valA (valA acc l) r := by
  induction l with
  | nil => intro acc; rfl
  | cons c l ih => intro acc; rw [List.cons_append, valA_cons, valA_cons, ih]
theorem valA_acc (l : List UInt8) : ∀ (acc : Nat), valA acc l = acc * 10 ^ l.length + valA 0 l := by
  induction l with
  | nil => intro acc; simp only [valA_nil, List.length_nil, Nat.pow_zero, Nat.mul_one, Nat.add_zero]
  | cons c l ih =>
    intro acc
    rw [valA_cons, valA_cons, ih (acc * 10 + (c.toNat - 48)), ih (0 * 10 + (c.toNat - 48)), List.length_cons, Nat.pow_succ, Nat.add_mul, Nat.zero_mul, Nat.zero_add, Nat.mul_assoc, Nat.mul_comm 10, Nat.add_assoc]
theorem valA_snoc (l : List UInt8) (c : UInt8) (acc : Nat) : valA acc (l ++ [c]) = valA acc l * 10 + (c.toNat - 48) := by rw [valA_append, valA_cons, valA_nil]
theorem valA_mono (l : List UInt8) (acc : Nat) : acc ≤ valA acc l := by
  rw [valA_acc]
  have : 1 ≤ 10 ^ l.length := Nat.one_le_pow _ _ (by omega)
  exact Nat.le_trans (Nat.le_mul_of_pos_right _ (by omega)) (Nat.le_add_right _ _)
theorem valA_lt : ∀ (l : List UInt8), (∀ c ∈ l, Dg c) → valA 0 l < 10 ^ l.length
  | [], _ => by simp [valA_nil]
  | c :: l, h => by
    have h1 := valA_lt l (fun x hx => h x (List.mem_cons_of_mem _ hx))
    have h2 := h c (List.mem_cons_self ..)
    unfold Dg at h2
    rw [valA_cons, valA_acc, List.length_cons, Nat.pow_succ]
    have : (0 * 10 + (c.toNat - 48)) * 10 ^ l.length ≤ 9 * 10 ^ l.length := Nat.mul_le_mul_right _ (by omega)
    omega
theorem ofNat_toNat {u : Nat} (h : u < 256) : (UInt8.ofNat u).toNat = u := by simp [Nat.mod_eq_of_lt h]
theorem dg_of (u : Nat) (h : u < 10) : Dg (UInt8.ofNat (48 + u)) := by unfold Dg; rw [ofNat_toNat (by omega)]; omega
theorem ofNat_dg {c : UInt8} (h : Dg c) : UInt8.ofNat (48 + (c.toNat - 48)) = c := by
  unfold Dg at h
  rw [show 48 + (c.toNat - 48) = c.toNat by omega, UInt8.ofNat_toNat]
theorem dec_small {u : Nat} (h : u < 10) : decDigits u = [UInt8.ofNat (48 + u)] := by rw [decDigits, dif_pos h]
theorem dec_big {u : Nat} (h : ¬ u < 10) : decDigits u = decDigits (u / 10) ++ [UInt8.ofNat (48 + u % 10)] := by rw [decDigits, dif_neg h]
theorem dec_dg (u : Nat) : ∀ c ∈ decDigits u, Dg c := by
  induction u using Nat.strongRecOn with
  | _ u ih =>
    by_cases h : u < 10
    · rw [dec_small h]; intro c hc; rw [List.mem_singleton.1 hc]; exact dg_of u h
    · rw [dec_big h]
      intro c hc
      rcases List.mem_append.1 hc with h1 | h1
      · exact ih (u / 10) (by omega) c h1
      · rw [List.mem_singleton.1 h1]; exact dg_of _ (by omega)
theorem dec_ne (u : Nat) : decDigits u ≠ [] := by
  by_cases h : u < 10
  · rw [dec_small h]; simp
  · rw [dec_big h]; simp
theorem dec_pos (u : Nat) : 0 < (decDigits u).length := List.length_pos_iff.2 (dec_ne u)
theorem val_dec (u : Nat) : valA 0 (decDigits u) = u := by
  induction u using Nat.strongRecOn with
  | _ u ih =>
    by_cases h : u < 10
    · rw [dec_small h]
      rw [valA_cons, valA_nil, ofNat_toNat (by omega)]; omega
    · rw [dec_big h, valA_snoc, ih (u / 10) (by omega), ofNat_toNat (by omega)]; omega
theorem dec_inj {u v : Nat} (h : decDigits u = decDigits v) : u = v := by rw [← val_dec u, h, val_dec]
theorem head_append {l r : List UInt8} (h : l ≠ []) : (l ++ r).head? = l.head? := by
  cases l with
  | nil => exact absurd rfl h
  | cons c l => rfl
theorem dec_head (u : Nat) (h : 0 < u) : (decDigits u).head? ≠ some 48 := by
  induction u using Nat.strongRecOn with
  | _ u ih =>
    by_cases h1 : u < 10
    · rw [dec_small h1]
      intro e
      have e2 := congrArg UInt8.toNat (Option.some.inj e)
      rw [ofNat_toNat (by omega)] at e2
      have : (48 : UInt8).toNat = 48 := rfl
      omega
    · rw [dec_big h1, head_append (dec_ne _)]
      exact ih (u / 10) (by omega) (by omega)
theorem dec_zero : decDigits 0 = [48] := by rw [dec_small (by omega)]; rfl
/-- No 0 ahead. -/
theorem dec_head1 (u : Nat) (h : 1 < (decDigits u).length) : (decDigits u).head? ≠ some 48 := by
  rcases Nat.eq_zero_or_pos u with h0 | h0
  · subst h0; rw [dec_zero] at h; simp at h
  · exact dec_head u h0
theorem val_pos {l : List UInt8} (hd : ∀ c ∈ l, Dg c) (hne : l ≠ []) (h0 : l.head? ≠ some 48) : 0 < valA 0 l := by
  cases l with
  | nil => exact absurd rfl hne
  | cons c l =>
    have h2 := hd c (List.mem_cons_self ..)
    unfold Dg at h2
    have h3 : c.toNat ≠ 48 := fun e => h0 (congrArg some (UInt8.toNat_inj.1 (e.trans rfl)))
    exact Nat.lt_of_lt_of_le (show 0 < 0 * 10 + (c.toNat - 48) by omega) (by rw [valA_cons]; exact valA_mono l _)
theorem dec_of_val : ∀ (n : Nat) (l : List UInt8), l.length = n → (∀ c ∈ l, Dg c) → l ≠ [] → (1 < l.length → l.head? ≠ some 48) → decDigits (valA 0 l) = l
  | 0, l, hn, _, hne, _ => absurd (List.length_eq_zero_iff.1 hn) hne
  | n + 1, l, hn, hd, hne, h0 => by
    have hl := List.dropLast_concat_getLast hne
    rw [← hl] at hd h0 hn ⊢
    generalize l.dropLast = a at *
    generalize l.getLast hne = c at *
    have hc := hd c (by simp)
    have hcu := hc
    unfold Dg at hc
    rw [valA_snoc]
    by_cases ha : a = []
    · subst ha
      rw [valA_nil, dec_small (by omega), Nat.zero_mul, Nat.zero_add, ofNat_dg hcu, List.nil_append]
    · have hda : ∀ x ∈ a, Dg x := fun x hx => hd x (by simp [hx])
      have hpos : 0 < a.length := List.length_pos_iff.2 ha
      have hh : a.head? ≠ some 48 := by rw [← head_append (r := [c]) ha]; exact h0 (by simp; omega)
      have hv := val_pos hda ha hh
      rw [dec_big (by omega), show (valA 0 a * 10 + (c.toNat - 48)) / 10 = valA 0 a by omega, show (valA 0 a * 10 + (c.toNat - 48)) % 10 = c.toNat - 48 by omega, ofNat_dg hcu]
      rw [dec_of_val n a (by simp at hn; exact hn) hda ha (fun _ => hh)]
theorem dec_val {l : List UInt8} (hd : ∀ c ∈ l, Dg c) (hne : l ≠ []) (h0 : 1 < l.length → l.head? ≠ some 48) : decDigits (valA 0 l) = l := dec_of_val _ l rfl hd hne h0

/-! Reading. -/
theorem parseU : ∀ (l : List UInt8) (acc : Nat), (∀ c ∈ l, Dg c) → valA acc l < 18446744073709551616 → parseUint10 acc l = .ok (valA acc l)
  | [], _, _, _ => rfl
  | c :: l, acc, hd, hv => by
    have h2 := hd c (List.mem_cons_self ..)
    unfold Dg at h2
    have hm := valA_mono l (acc * 10 + (c.toNat - 48))
    rw [valA_cons] at hv ⊢
    have hv' := hv
    show (if 48 ≤ c.toNat ∧ c.toNat ≤ 57 then _ else _) = _
    rw [if_pos h2, if_neg (by omega), if_neg (by omega)]
    exact parseU l _ (fun x hx => hd x (List.mem_cons_of_mem _ hx)) hv'
theorem parseM {l : List UInt8} (hd : ∀ c ∈ l, Dg c) (hne : l ≠ []) (hv : valA 0 l < 18446744073709551616) : parseMag l = .ok (valA 0 l) := by
  unfold parseMag
  rw [if_neg hne]
  exact parseU l 0 hd hv
theorem atoi_digits {l : List UInt8} (hd : ∀ c ∈ l, Dg c) (hne : l ≠ []) (hv : valA 0 l < 9223372036854775808) : atoiAll l = .ok (valA 0 l : Int) := by
  cases l with
  | nil => exact absurd rfl hne
  | cons c l =>
    have h2 := hd c (List.mem_cons_self ..)
    unfold Dg at h2
    rw [atoiAll_plain c l (by omega) (by omega), parseM hd (by simp) (by omega)]
    show (if _ then _ else _) = _
    rw [if_neg (by omega)]
theorem atoi_itoa (n : Int) (h0 : -9223372036854775808 ≤ n) (h1 : n ≤ 9223372036854775807) : atoiAll (itoa n) = .ok n := by
  unfold itoa
  split
  · next h =>
    rw [atoiAll_minus, parseM (dec_dg _) (dec_ne _) (by rw [val_dec]; omega), val_dec]
    show (if _ then _ else _) = _
    rw [if_neg (by omega)]
    congr 1; omega
  · next h =>
    rw [atoi_digits (dec_dg _) (dec_ne _) (by rw [val_dec]; omega), val_dec]
    congr 1; omega
theorem itoa_inj {m n : Int} (h : itoa m = itoa n) : m = n := by
  have key : ∀ (a : Nat) (b : Nat), 45 :: decDigits a ≠ decDigits b := by
    intro a b e
    have := dec_dg b 45 (by rw [← e]; simp)
    unfold Dg at this
    have : (45 : UInt8).toNat = 45 := rfl
    omega
  unfold itoa at h
  split at h <;> split at h
  · have := dec_inj (List.cons.inj h).2; omega
  · exact absurd h (key _ _)
  · exact absurd h.symm (key _ _)
  · have := dec_inj h; omega
/-- What ParseInt reads. -/
def IsI (l : List UInt8) (n : Int) : Prop := -9223372036854775808 ≤ n ∧ n ≤ 9223372036854775807 ∧ l = itoa n
theorem IsI.uniq {l : List UInt8} {m n : Int} (h : IsI l m) (k : IsI l n) : m = n := itoa_inj (h.2.2.symm.trans k.2.2)
open Classical in
noncomputable def pI (l : List UInt8) : Int := if h : ∃ n, IsI l n then h.choose else 0
open Classical in
noncomputable def pIB (l : List UInt8) : Bool := decide (∃ n, IsI l n)
open Classical in
theorem pI_yes {l : List UInt8} {n : Int} (h : IsI l n) : pI l = n ∧ pIB l = true := by
  have hh : ∃ n, IsI l n := ⟨n, h⟩
  refine ⟨?_, decide_eq_true hh⟩
  unfold pI
  rw [dif_pos hh]
  exact hh.choose_spec.uniq h
open Classical in
theorem pI_no {l : List UInt8} (h : ¬ ∃ n, IsI l n) : pI l = 0 ∧ pIB l = false := ⟨dif_neg h, decide_eq_false h⟩
theorem pI_bounds (l : List UInt8) : -9223372036854775808 ≤ pI l ∧ pI l ≤ 9223372036854775807 := by
  by_cases h : ∃ n, IsI l n
  · obtain ⟨n, hn⟩ := h; rw [(pI_yes hn).1]; exact ⟨hn.1, hn.2.1⟩
  · rw [(pI_no h).1]; omega

/-! Numbers with nine digits a limb. -/
/-- Zeros ahead. -/
def padL (n : Nat) (l : List UInt8) : List UInt8 := List.replicate (n - l.length) 48 ++ l
theorem padL_length {n : Nat} {l : List UInt8} (h : l.length ≤ n) : (padL n l).length = n := by unfold padL; simp; omega
theorem padL_dg {n : Nat} {l : List UInt8} (h : ∀ c ∈ l, Dg c) : ∀ c ∈ padL n l, Dg c := by
  intro c hc
  rcases List.mem_append.1 hc with h1 | h1
  · rw [(List.mem_replicate.1 h1).2]; unfold Dg; decide
  · exact h c h1
theorem valA_zeros (k : Nat) (l : List UInt8) : valA 0 (List.replicate k 48 ++ l) = valA 0 l := by
  induction k with
  | zero => rfl
  | succ k ih => rw [List.replicate_succ, List.cons_append, valA_cons]; exact ih
theorem padL_val (n : Nat) (l : List UInt8) : valA 0 (padL n l) = valA 0 l := valA_zeros _ _
theorem dec_len9 {r : Nat} (h : r < 1000000000) : (decDigits r).length ≤ 9 := by
  rw [decDigits_length]
  rcases Nat.lt_or_ge 9 (nDigits r) with h1 | h1
  · have hnd : nDigits r = 8 + 1 + (nDigits r - 9) := by omega
    have : 10 ^ 9 ≤ r := by
      have key : ∀ k, nDigits r = k + 1 → 10 ^ k ≤ r ∨ k = 0 := by
        intro k hk
        rcases Nat.lt_or_ge r 10 with h2 | h2
        · rw [nDigits_small h2] at hk; right; omega
        · left
          have hv := val_pos (dec_dg r) (dec_ne r) (dec_head r (by omega))
          -- the first digit is not 0
          have hl : (decDigits r).length = k + 1 := by rw [decDigits_length, hk]
          cases hd : decDigits r with
          | nil => exact absurd hd (dec_ne r)
          | cons c t =>
            have hc := dec_dg r c (by rw [hd]; simp)
            have hh := dec_head r (by omega)
            rw [hd] at hh hl
            have h3 : c.toNat ≠ 48 := fun e => hh (congrArg some (UInt8.toNat_inj.1 (e.trans rfl)))
            unfold Dg at hc
            have e1 := val_dec r
            rw [hd] at e1
            have e2 := e1
            rw [valA_cons, valA_acc] at e2
            have e3 : t.length = k := by simpa using hl
            rw [e3] at e2
            have : 1 * 10 ^ k ≤ (0 * 10 + (c.toNat - 48)) * 10 ^ k := Nat.mul_le_mul_right _ (by omega)
            omega
      rcases key (nDigits r - 1) (by omega) with h2 | h2
      · exact Nat.le_trans (Nat.pow_le_pow_right (by omega) (by omega)) h2
      · omega
    omega
  · exact h1
/-- One limb more. -/
theorem dec_limb {q r : Nat} (hq : 0 < q) (hr : r < 1000000000) : decDigits (q * 1000000000 + r) = decDigits q ++ padL 9 (decDigits r) := by
  have hl : (padL 9 (decDigits r)).length = 9 := padL_length (dec_len9 hr)
  have e : valA 0 (decDigits q ++ padL 9 (decDigits r)) = q * 1000000000 + r := by
    rw [valA_append, valA_acc, hl, val_dec, padL_val, val_dec]
  rw [← e]
  refine dec_val ?_ (by simp [dec_ne]) (fun _ => by rw [head_append (dec_ne q)]; exact dec_head q hq)
  intro c hc
  rcases List.mem_append.1 hc with h1 | h1
  · exact dec_dg q c h1
  · exact padL_dg (dec_dg r) c h1

end Tx

/- Splitting and joining texts: plain mathematics; no program in sight. -/
namespace Tx
open Go.Lib

theorem join_snoc (xs : List (List UInt8)) (x sep : List UInt8) : join (xs ++ [x]) sep = if xs = [] then x else join xs sep ++ sep ++ x := by
  cases xs with
  | nil => rw [List.nil_append, join_one, if_pos rfl]
  | cons y r =>
    rw [if_neg (by simp), List.cons_append, join_cons, join_cons]
    unfold joinTail
    rw [List.map_append, List.flatten_append]
    simp [List.append_assoc]
theorem lens_len (xs : List (List UInt8)) (k : Nat) : lens (xs.take k) ≤ lens xs := lens_take_le xs k
theorem join_len_le (xs : List (List UInt8)) (sep : List UInt8) : (join xs sep).length ≤ sep.length * xs.length + lens xs := by
  cases xs with
  | nil => rw [join_nil]; simp
  | cons x r =>
    rw [join_length, List.length_cons, Nat.mul_add]; omega

/-- The pieces between the bytes that p takes; cur is the piece begun. -/
def spl (p : UInt8 → Bool) (cur : List UInt8) : List UInt8 → List (List UInt8)
  | [] => [cur]
  | c :: r => bif p c then cur :: spl p [] r else spl p (cur ++ [c]) r
theorem spl_cons (p : UInt8 → Bool) (cur : List UInt8) (c : UInt8) (r : List UInt8) : spl p cur (c :: r) = bif p c then cur :: spl p [] r else spl p (cur ++ [c]) r := rfl
theorem spl_ne (p : UInt8 → Bool) : ∀ (l cur : List UInt8), spl p cur l ≠ []
  | [], _ => by simp [spl]
  | c :: r, cur => by
    rw [spl_cons]
    cases p c
    · exact spl_ne p r _
    · simp
theorem spl_len (p : UInt8 → Bool) : ∀ (l cur : List UInt8), (spl p cur l).length ≤ l.length + 1
  | [], _ => by simp [spl]
  | c :: r, cur => by
    rw [spl_cons]
    cases p c
    · have := spl_len p r (cur ++ [c]); simp only [cond_false, List.length_cons]; omega
    · have := spl_len p r []; simp only [cond_true, List.length_cons]; omega
theorem spl_piece_len (p : UInt8 → Bool) : ∀ (l cur : List UInt8), ∀ x ∈ spl p cur l, x.length ≤ cur.length + l.length
  | [], cur, x, hx => by rw [List.mem_singleton.1 (show x ∈ [cur] from hx)]; simp
  | c :: r, cur, x, hx => by
    rw [spl_cons] at hx
    cases hp : p c
    · rw [hp] at hx
      have := spl_piece_len p r (cur ++ [c]) x hx
      simp only [List.length_append, List.length_cons, List.length_nil] at this ⊢; omega
    · rw [hp] at hx
      rcases List.mem_cons.1 (show x ∈ cur :: spl p [] r from hx) with h | h
      · subst h; simp only [List.length_cons]; omega
      · have := spl_piece_len p r [] x h
        simp only [List.length_cons, List.length_nil] at this ⊢; omega
/-- Where nothing is taken there is one piece. -/
theorem spl_none (p : UInt8 → Bool) : ∀ (l cur : List UInt8), (∀ c ∈ l, p c = false) → spl p cur l = [cur ++ l]
  | [], cur, _ => by simp [spl]
  | c :: r, cur, h => by
    rw [spl_cons, h c (List.mem_cons_self ..)]
    show spl p (cur ++ [c]) r = _
    rw [spl_none p r _ (fun x hx => h x (List.mem_cons_of_mem _ hx)), List.append_assoc]; rfl
theorem spl_app (p : UInt8 → Bool) : ∀ (l cur : List UInt8) (c : UInt8) (r : List UInt8), (∀ c ∈ l, p c = false) → p c = true → spl p cur (l ++ c :: r) = (cur ++ l) :: spl p [] r
  | [], cur, c, r, _, hc => by rw [List.nil_append, spl_cons, hc, List.append_nil]; rfl
  | d :: l, cur, c, r, h, hc => by
    rw [List.cons_append, spl_cons, h d (List.mem_cons_self ..)]
    show spl p (cur ++ [d]) (l ++ c :: r) = _
    rw [spl_app p l (cur ++ [d]) c r (fun x hx => h x (List.mem_cons_of_mem _ hx)) hc, List.append_assoc]; rfl
/-- Joined again the pieces give the text. -/
theorem join_spl (b : UInt8) : ∀ (l cur : List UInt8), join (spl (· == b) cur l) [b] = cur ++ l
  | [], cur => by simp [spl, join_one]
  | c :: r, cur => by
    rw [spl_cons]
    by_cases h : c = b
    · subst h
      rw [show (c == c) = true by simp, cond_true]
      have hne := spl_ne (· == c) r []
      have ih := join_spl c r []
      cases hs : spl (· == c) [] r with
      | nil => exact absurd hs hne
      | cons y t =>
        rw [hs, join_cons] at ih
        rw [join_cons]
        show cur ++ (([c] ++ y) :: t.map ([c] ++ ·)).flatten = _
        rw [List.flatten_cons]
        unfold joinTail at ih
        rw [List.append_assoc, ih]
        simp
    · rw [show (c == b) = false by simp [h], cond_false, join_spl b r (cur ++ [c])]
      simp
theorem spl_no (p : UInt8 → Bool) : ∀ (l cur : List UInt8), (∀ c ∈ cur, p c = false) → ∀ x ∈ spl p cur l, ∀ c ∈ x, p c = false
  | [], cur, h, x, hx => by rw [List.mem_singleton.1 (show x ∈ [cur] from hx)]; exact h
  | c :: r, cur, h, x, hx => by
    rw [spl_cons] at hx
    cases hp : p c
    · rw [hp] at hx
      exact spl_no p r (cur ++ [c]) (fun d hd => by
        rcases List.mem_append.1 hd with h1 | h1
        · exact h d h1
        · rw [List.mem_singleton.1 h1]; exact hp) x hx
    · rw [hp] at hx
      rcases List.mem_cons.1 (show x ∈ cur :: spl p [] r from hx) with h1 | h1
      · subst h1; exact h
      · exact spl_no p r [] (fun d hd => by cases hd) x h1
/-- Pieces that hold no b, joined and split again. -/
theorem spl_join (b : UInt8) : ∀ (x : List UInt8) (r : List (List UInt8)), (∀ y ∈ x :: r, ∀ c ∈ y, c ≠ b) → spl (· == b) [] (join (x :: r) [b]) = x :: r
  | x, [], h => by
    rw [join_one, spl_none _ _ _ (fun c hc => by simpa using h x (List.mem_cons_self ..) c hc), List.nil_append]
  | x, y :: r, h => by
    have e : join (x :: y :: r) [b] = x ++ b :: join (y :: r) [b] := by
      rw [join_cons, join_cons]
      show x ++ (([b] ++ y) :: r.map ([b] ++ ·)).flatten = _
      rw [List.flatten_cons]
      unfold joinTail
      simp
    rw [e, spl_app _ _ _ _ _ (fun c hc => by simpa using h x (List.mem_cons_self ..) c hc) (by simp), List.nil_append, spl_join b y r (fun z hz => h z (List.mem_cons_of_mem _ hz))]
theorem indexByte_ge (l : List UInt8) (c : UInt8) : -1 ≤ indexByte l c := by
  induction l with
  | nil => simp [indexByte]
  | cons b l ih =>
    unfold indexByte
    split
    · omega
    · split
      · omega
      · omega
theorem indexByte_mem (l : List UInt8) (c : UInt8) : decide (0 ≤ indexByte l c) = l.contains c := by
  induction l with
  | nil => simp [indexByte]
  | cons b l ih =>
    have hg := indexByte_ge l c
    rw [List.contains_cons]
    unfold indexByte
    by_cases h : b = c
    · subst h; simp
    · rw [if_neg (by simpa using h), show (c == b) = false by simp [Ne.symm h], Bool.false_or, ← ih]
      by_cases h2 : indexByte l c = -1
      · rw [if_pos (by simp [h2]), h2]
      · rw [if_neg (by simpa using h2)]
        rw [decide_eq_true (by omega), decide_eq_true (by omega)]

end Tx

/- Reading an int: plain mathematics; no program in sight. -/
namespace Tx
open Go.Lib

theorem nd19 {u : Nat} (h : u ≤ 9223372036854775808) : (decDigits u).length ≤ 19 := by
  rw [decDigits_length]
  rcases Nat.lt_or_ge 19 (nDigits u) with h1 | h1
  · have h2 : u < 10 ^ 19 := by
      have : (10 : Nat) ^ 19 = 10000000000000000000 := by decide
      omega
    -- a number below 10 ^ 19 has no more than 19 digits
    have key : ∀ k u : Nat, u < 10 ^ (k + 1) → nDigits u ≤ k + 1 := by
      intro k
      induction k with
      | zero => intro u hu; rw [nDigits_small (by simpa using hu)]; omega
      | succ k ih =>
        intro u hu
        by_cases h9 : u < 10
        · rw [nDigits_small h9]; omega
        · rw [nDigits_big h9]
          have := ih (u / 10) (by rw [Nat.pow_succ] at hu; omega)
          omega
    have := key 18 u h2
    omega
  · exact h1
theorem isI_neg {T : List UInt8} {n : Int} : IsI (45 :: T) n ↔ n < 0 ∧ -9223372036854775808 ≤ n ∧ T = decDigits n.natAbs := by
  unfold IsI itoa
  constructor
  · rintro ⟨h1, h2, h3⟩
    split at h3
    · next h => exact ⟨h, h1, (List.cons.inj h3).2⟩
    · next h =>
      exfalso
      have := dec_dg n.toNat 45 (by rw [← h3]; simp)
      unfold Dg at this
      have : (45 : UInt8).toNat = 45 := rfl
      omega
  · rintro ⟨h1, h2, h3⟩
    exact ⟨h2, by omega, by rw [if_pos h1, h3]⟩
theorem isI_pos {l : List UInt8} {n : Int} (h : l.head? ≠ some 45) : IsI l n ↔ 0 ≤ n ∧ n ≤ 9223372036854775807 ∧ l = decDigits n.natAbs := by
  unfold IsI itoa
  constructor
  · rintro ⟨h1, h2, h3⟩
    split at h3
    · next hn => rw [h3] at h; exact absurd rfl h
    · next hn => exact ⟨by omega, h2, by rw [h3]; congr 1; omega⟩
  · rintro ⟨h1, h2, h3⟩
    exact ⟨by omega, h2, by rw [if_neg (by omega), h3]; congr 1; omega⟩
/-- A prefix stands for no more. -/
theorem val_take (l : List UInt8) (i : Nat) : valA 0 (l.take i) ≤ valA 0 l := by
  have h : l = l.take i ++ l.drop i := (List.take_append_drop i l).symm
  have h2 := congrArg (valA 0) h
  rw [valA_append] at h2
  rw [h2]
  exact valA_mono _ _
theorem val_take_succ (l : List UInt8) (i : Nat) (h : i < l.length) : valA 0 (l.take (i + 1)) = valA 0 (l.take i) * 10 + (l[i].toNat - 48) := by
  rw [List.take_succ_eq_append_getElem h, valA_snoc]
/-- The test against the least int. -/
theorem min_test {v d : Nat} (hd : d ≤ 9) : (-(v : Int) < (-9223372036854775808 + (d : Int)).tdiv 10) ↔ 9223372036854775808 < v * 10 + d := by
  obtain ⟨M, hM⟩ : ∃ M : Nat, (M : Int) = 9223372036854775808 - d := ⟨9223372036854775808 - d, by omega⟩
  rw [show (-9223372036854775808 + (d : Int)) = -(M : Int) by omega, Int.neg_tdiv]
  have e : (M : Int).tdiv 10 = ((M / 10 : Nat) : Int) := rfl
  rw [e]
  omega
theorem min_bounds {d : Nat} (hd : d ≤ 9) : -922337203685477580 ≤ (-9223372036854775808 + (d : Int)).tdiv 10 ∧ (-9223372036854775808 + (d : Int)).tdiv 10 ≤ 0 := by
  obtain ⟨M, hM⟩ : ∃ M : Nat, (M : Int) = 9223372036854775808 - d := ⟨9223372036854775808 - d, by omega⟩
  rw [show (-9223372036854775808 + (d : Int)) = -(M : Int) by omega, Int.neg_tdiv]
  have e : (M : Int).tdiv 10 = ((M / 10 : Nat) : Int) := rfl
  rw [e]
  omega

end Tx

/- Reading a natural number nine digits at a time: plain mathematics; no program in sight. -/
namespace Tx
open Go.Lib Lm

/-- The digits from f to before e. -/
def chk (l : List UInt8) (f e : Nat) : List UInt8 := (l.drop f).take (e - f)
theorem chk_len {l : List UInt8} {f e : Nat} (h : e ≤ l.length) : (chk l f e).length = e - f := by unfold chk; rw [List.length_take, List.length_drop]; omega
theorem chk_dg {l : List UInt8} (h : ∀ c ∈ l, Dg c) (f e : Nat) : ∀ c ∈ chk l f e, Dg c := fun c hc => h c (List.mem_of_mem_drop (List.mem_of_mem_take hc))
theorem take_chk {l : List UInt8} {f e : Nat} (h : f ≤ e) : l.take e = l.take f ++ chk l f e := by
  unfold chk
  have := List.take_add (l := l) (i := f) (j := e - f)
  rw [show f + (e - f) = e by omega] at this
  exact this
theorem chk_val {l : List UInt8} {f e : Nat} (h : f ≤ e) (he : e ≤ l.length) : valA 0 (l.take e) = valA 0 (l.take f) * 10 ^ (e - f) + valA 0 (chk l f e) := by
  rw [take_chk h, valA_append, valA_acc, chk_len he]
theorem chk_lt {l : List UInt8} (h : ∀ c ∈ l, Dg c) {f e : Nat} (he : e ≤ l.length) (h9 : e ≤ f + 9) : valA 0 (chk l f e) < 1000000000 := by
  have h1 := valA_lt (chk l f e) (chk_dg h f e)
  have h2 : 10 ^ (chk l f e).length ≤ 10 ^ 9 := Nat.pow_le_pow_right (by omega) (by rw [chk_len he]; omega)
  have h3 : (10 : Nat) ^ 9 = 1000000000 := by decide
  omega
theorem chk_nil (l : List UInt8) (f : Nat) : chk l f f = [] := by unfold chk; rw [Nat.sub_self, List.take_zero]
theorem chk_succ {l : List UInt8} {f i : Nat} (h : f ≤ i) (hi : i < l.length) : chk l f (i + 1) = chk l f i ++ [l[i]] := by
  unfold chk
  rw [show i + 1 - f = (i - f) + 1 by omega, List.take_succ_eq_append_getElem (by rw [List.length_drop]; omega), List.getElem_drop]
  congr 2
  simp [show f + (i - f) = i by omega]
theorem chk_ne {l : List UInt8} {f e : Nat} (h : f < e) (he : e ≤ l.length) : chk l f e ≠ [] := by
  intro e1
  have := chk_len (f := f) he
  rw [e1] at this
  simp at this
  omega
/-- What stands when the digits before e are still to be read. -/
def PN (l : List UInt8) (e : Int) (o : List Int) : Prop := InR o ∧ e + 9 * o.length = l.length ∧ -9 < e ∧ (valA 0 l : Int) = valA 0 (l.take e.toNat) * pw o.length + nv o
theorem PN.start (l : List UInt8) : PN l l.length [] := by
  refine ⟨InR.nil, by simp, by omega, ?_⟩
  rw [Int.toNat_natCast, List.take_length, List.length_nil, pw_zero, nv_nil]
  omega
theorem inR_snoc {o : List Int} {x : Int} (h : InR o) (h0 : 0 ≤ x) (h1 : x < 1000000000) : InR (o ++ [x]) := by
  intro y hy
  rcases List.mem_append.1 hy with hy | hy
  · exact h y hy
  · rw [List.mem_singleton.1 hy]; exact ⟨h0, h1⟩
theorem PN.step {l : List UInt8} {k f : Nat} {o : List Int} (h : PN l k o) (hd : ∀ c ∈ l, Dg c) (h0 : 0 < k) (hf : f = k - 9) : PN l ((k : Int) - 9) (o ++ [(valA 0 (chk l f k) : Int)]) := by
  obtain ⟨h1, h2, h3, h4⟩ := h
  have hk : k ≤ l.length := by omega
  have hlt := chk_lt hd hk (f := f) (by omega)
  refine ⟨inR_snoc h1 (by omega) (by omega), by simp; omega, by omega, ?_⟩
  rw [h4, Int.toNat_natCast, chk_val (f := f) (by omega) hk, List.length_append, List.length_singleton, pw_succ, nv_snoc]
  rw [show ((k : Int) - 9).toNat = f by omega]
  by_cases h9 : 9 ≤ k
  · rw [show k - f = 9 by omega, show (10 : Nat) ^ 9 = 1000000000 by decide, Int.natCast_add, Int.natCast_mul, Int.add_mul, Int.mul_assoc, Int.mul_comm (valA 0 (chk l f k) : Int), Int.add_assoc, Int.add_comm (nv o)]
    rfl
  · obtain rfl : f = 0 := by omega
    rw [List.take_zero, valA_nil, Nat.zero_mul, Nat.zero_add, Int.natCast_zero, Int.zero_mul, Int.zero_add, Int.mul_comm, Int.add_comm]
theorem PN.fin {l : List UInt8} {e : Int} {o : List Int} (h : PN l e o) (h0 : e ≤ 0) : nv o = (valA 0 l : Nat) := by
  have := h.2.2.2
  rw [show e.toNat = 0 by omega, List.take_zero, valA_nil] at this
  rw [this]
  simp
theorem PN.len {l : List UInt8} {e : Int} {o : List Int} (h : PN l e o) (h0 : l.length ≤ 540) : o.length ≤ 60 := by
  have := h.2.1
  have := h.2.2.1
  omega
/-- A text that spells a natural number. -/
def OkT (l : List UInt8) : Prop := l ≠ [] ∧ (∀ c ∈ l, Dg c) ∧ l.length ≤ 540 ∧ (1 < l.length → l.head? ≠ some 48)
open Classical in
noncomputable def pN (l : List UInt8) : List Int := if OkT l then limbs (valA 0 l) else []
open Classical in
noncomputable def pNB (l : List UInt8) : Bool := decide (OkT l)
open Classical in
theorem pN_yes {l : List UInt8} (h : OkT l) : pN l = limbs (valA 0 l) ∧ pNB l = true := ⟨if_pos h, decide_eq_true h⟩
open Classical in
theorem pN_no {l : List UInt8} (h : ¬ OkT l) : pN l = [] ∧ pNB l = false := ⟨if_neg h, decide_eq_false h⟩

end Tx

/- Writing a natural number limb by limb: plain mathematics; no program in sight. -/
namespace Tx
open Go.Lib Lm

theorem norm_drop {l : List Int} (h : Norm l) : ∀ k : Nat, Norm (l.drop k)
  | 0 => by rw [List.drop_zero]; exact h
  | k + 1 => by
    have ih := norm_drop h k
    rw [show l.drop (k + 1) = (l.drop k).drop 1 by rw [List.drop_drop]]
    cases hk : l.drop k with
    | nil => rw [List.drop_nil]; exact Norm.nil
    | cons x xs => rw [hk] at ih; exact ih.tail
/-- What is written when the limbs from k on are written. -/
def fN (l : List Int) (k : Nat) : List UInt8 := decDigits (nv (l.drop k)).toNat
theorem itoa_nonneg {v : Int} (h : 0 ≤ v) : itoa v = decDigits v.toNat := by
  unfold itoa
  rw [if_neg (by omega)]
theorem fN_top {l : List Int} (h : Norm l) (h0 : 0 < l.length) : fN l (l.length - 1) = itoa (lat l (l.length - 1)) := by
  unfold fN
  rw [nv_drop l (l.length - 1) (by omega), nv_drop_all (by omega), itoa_nonneg (h.1.lat _).1]
  congr 2
  omega
theorem fN_step {l : List Int} (h : Norm l) (i : Nat) (hi : i + 1 < l.length) : fN l i = fN l (i + 1) ++ padL 9 (itoa (lat l i)) := by
  have h1 := h.1.lat i
  have h2 : 0 < nv (l.drop (i + 1)) := (norm_drop h (i + 1)).pos (by
    intro e
    have := congrArg List.length e
    simp at this
    omega)
  unfold fN
  rw [nv_drop l i (by omega), itoa_nonneg h1.1, ← dec_limb (by omega) (by omega)]
  congr 1
  omega
theorem fN_len {l : List Int} (h : Norm l) : ∀ n k : Nat, k + n = l.length → 0 < n → (fN l k).length ≤ 9 * n := by
  intro n
  induction n with
  | zero => omega
  | succ n ih =>
    intro k hk _
    by_cases h0 : n = 0
    · obtain rfl : k = l.length - 1 := by omega
      rw [fN_top h (by omega), itoa_nonneg (h.1.lat _).1, h0]
      have := dec_len9 (r := (lat l (l.length - 1)).toNat) (by have := h.1.lat (l.length - 1); omega)
      omega
    · have := ih (k + 1) (by omega) (by omega)
      have h9 := dec_len9 (r := (lat l k).toNat) (by have := h.1.lat k; omega)
      rw [fN_step h k (by omega), List.length_append, itoa_nonneg (h.1.lat _).1, padL_length h9]
      omega
/-- A number's text. -/
def fmtN (l : List Int) : List UInt8 := decDigits (nv l).toNat
theorem fN_zero (l : List Int) : fN l 0 = fmtN l := by unfold fN fmtN; rw [List.drop_zero]
theorem fmtN_nil : fmtN [] = [48] := dec_zero
theorem fmtN_len {l : List Int} (h : Norm l) (h60 : l.length ≤ 60) : (fmtN l).length ≤ 541 := by
  by_cases h0 : l.length = 0
  · rw [List.length_eq_zero_iff.1 h0, fmtN_nil]; simp
  · have := fN_len h l.length 0 (by omega) (by omega)

    rw [← fN_zero]
    omega

end Tx

/- Cutting at a slash: plain mathematics; no program in sight. -/
namespace Tx
open Go.Lib

theorem cut_at (l : List UInt8) (c : UInt8) : (c ∉ l ∧ cut l [c] = (l, [], false)) ∨ ∃ a b, l = a ++ c :: b ∧ c ∉ a ∧ cut l [c] = (a, b, true) := by
  unfold cut
  rw [index_one]
  by_cases h : 0 ≤ indexByte l c
  · obtain ⟨o, ho⟩ := Int.eq_ofNat_of_zero_le h
    obtain ⟨h1, h2⟩ := indexByte_some ho
    right
    refine ⟨l.take o, l.drop (o + 1), ?_, ?_, ?_⟩
    · obtain ⟨h3, h4⟩ := List.getElem?_eq_some_iff.1 h1
      conv => lhs; rw [← List.take_append_drop o l, List.drop_eq_getElem_cons h3, h4]
    · intro hm
      obtain ⟨k, hk⟩ := List.mem_iff_getElem?.1 hm
      rw [List.getElem?_take] at hk
      split at hk
      · next hko => exact h2 k hko hk
      · cases hk
    · rw [if_pos h, ho]
      rfl
  · left
    have e : indexByte l c = -1 := by have := Go.Lib.indexByte_ge l c; omega
    refine ⟨fun hm => ?_, by rw [if_neg h]⟩
    obtain ⟨k, hk⟩ := List.mem_iff_getElem?.1 hm
    exact indexByte_none e k hk

end Tx
