/- Plain mathematics: lists of limbs in base 1000000000 as integers; canonical lists; no program in sight. -/
namespace Lm

/-- The number that a list of limbs stands for, the least significant limb first. -/
def nv : List Int → Int
  | [] => 0
  | x :: xs => x + 1000000000 * nv xs

def pw : Nat → Int
  | 0 => 1
  | k + 1 => 1000000000 * pw k

def lat (xs : List Int) (i : Nat) : Int := xs.getD i 0

def InR (xs : List Int) : Prop := ∀ x, x ∈ xs → 0 ≤ x ∧ x < 1000000000

def Norm (xs : List Int) : Prop := InR xs ∧ (xs = [] ∨ lat xs (xs.length - 1) ≠ 0)

theorem pw_zero : pw 0 = 1 := rfl
theorem pw_succ (k : Nat) : pw (k + 1) = 1000000000 * pw k := rfl
theorem pw_pos (k : Nat) : 0 < pw k := by
  induction k with
  | zero => decide
  | succ k ih => rw [pw_succ]; omega
theorem pw_ge (k : Nat) : 1 ≤ pw k := pw_pos k
theorem pw_add (i j : Nat) : pw (i + j) = pw i * pw j := by
  induction i with
  | zero => simp [pw_zero]
  | succ i ih => rw [Nat.succ_add, pw_succ, pw_succ, ih, Int.mul_assoc]
theorem pw_mono {i j : Nat} (h : i ≤ j) : pw i ≤ pw j := by
  obtain ⟨d, rfl⟩ := Nat.exists_eq_add_of_le h
  rw [pw_add]
  have h1 := pw_pos i
  have h2 := pw_ge d
  have := Int.mul_le_mul_of_nonneg_left h2 (Int.le_of_lt h1)
  simpa using this

theorem nv_nil : nv [] = 0 := rfl
theorem nv_cons (x : Int) (xs : List Int) : nv (x :: xs) = x + 1000000000 * nv xs := rfl
theorem nv_append (xs ys : List Int) : nv (xs ++ ys) = nv xs + pw xs.length * nv ys := by
  induction xs with
  | nil => simp [nv_nil, pw_zero]
  | cons x xs ih =>
    rw [List.cons_append, nv_cons, nv_cons, ih, List.length_cons, pw_succ, Int.mul_add, Int.mul_assoc]
    omega
theorem nv_snoc (xs : List Int) (x : Int) : nv (xs ++ [x]) = nv xs + pw xs.length * x := by
  rw [nv_append]; simp [nv_cons, nv_nil]

theorem lat_of_lt {xs : List Int} {i : Nat} (h : i < xs.length) : lat xs i = xs[i] := by
  simp [lat, List.getD, h]
theorem lat_ge {xs : List Int} {i : Nat} (h : xs.length ≤ i) : lat xs i = 0 := by
  simp [lat, List.getD, h]
theorem lat_append_left {xs ys : List Int} {i : Nat} (h : i < xs.length) : lat (xs ++ ys) i = lat xs i := by
  simp [lat, List.getD, List.getElem?_append_left h]
theorem lat_snoc (xs : List Int) (x : Int) : lat (xs ++ [x]) xs.length = x := by simp [lat]
theorem lat_set_same {xs : List Int} {i : Nat} (h : i < xs.length) (v : Int) : lat (xs.set i v) i = v := by
  simp [lat, List.getD, h]
theorem lat_set_other {xs : List Int} {i j : Nat} (h : i ≠ j) (v : Int) : lat (xs.set i v) j = lat xs j := by
  simp [lat, List.getD, List.getElem?_set_ne h]
theorem lat_take {xs : List Int} {i k : Nat} (h : i < k) : lat (xs.take k) i = lat xs i := by
  simp [lat, List.getD, h]
theorem lat_drop (xs : List Int) (k i : Nat) : lat (xs.drop k) i = lat xs (k + i) := by
  simp [lat, List.getD, List.getElem?_drop]

theorem take_succ (xs : List Int) (i : Nat) (h : i < xs.length) : xs.take (i + 1) = xs.take i ++ [lat xs i] := by
  rw [List.take_add_one, lat_of_lt h]; simp [h]
theorem drop_eq (xs : List Int) (i : Nat) (h : i < xs.length) : xs.drop i = lat xs i :: xs.drop (i + 1) := by
  rw [lat_of_lt h]; exact List.drop_eq_getElem_cons h

theorem nv_take_succ (xs : List Int) (i : Nat) (h : i < xs.length) : nv (xs.take (i + 1)) = nv (xs.take i) + pw i * lat xs i := by
  rw [take_succ xs i h, nv_snoc]
  rw [List.length_take, Nat.min_eq_left (Nat.le_of_lt h)]
theorem nv_drop (xs : List Int) (i : Nat) (h : i < xs.length) : nv (xs.drop i) = lat xs i + 1000000000 * nv (xs.drop (i + 1)) := by
  rw [drop_eq xs i h, nv_cons]
theorem nv_split (xs : List Int) (i : Nat) (h : i ≤ xs.length) : nv xs = nv (xs.take i) + pw i * nv (xs.drop i) := by
  conv => lhs; rw [← List.take_append_drop i xs]
  rw [nv_append, List.length_take, Nat.min_eq_left h]
theorem nv_take_all {xs : List Int} {i : Nat} (h : xs.length ≤ i) : nv (xs.take i) = nv xs := by rw [List.take_of_length_le h]
theorem nv_drop_all {xs : List Int} {i : Nat} (h : xs.length ≤ i) : nv (xs.drop i) = 0 := by rw [List.drop_of_length_le h]; rfl

theorem nv_set (xs : List Int) (i : Nat) (v : Int) (h : i < xs.length) : nv (xs.set i v) = nv xs + pw i * (v - lat xs i) := by
  induction xs generalizing i with
  | nil => simp at h
  | cons x xs ih =>
    cases i with
    | zero => simp only [List.set_cons_zero, nv_cons, pw_zero, lat, List.getD_cons_zero]; omega
    | succ i =>
      have := ih i (by simpa using h)
      simp only [List.set_cons_succ, nv_cons, this, pw_succ, Int.mul_add, Int.mul_assoc]
      simp only [lat, List.getD_cons_succ]
      omega

theorem nv_replicate (n : Nat) : nv (List.replicate n 0) = 0 := by
  induction n with
  | zero => rfl
  | succ n ih => rw [List.replicate_succ, nv_cons, ih]; rfl
theorem lat_replicate (n i : Nat) : lat (List.replicate n 0) i = 0 := by
  by_cases h : i < n <;> simp [lat, List.getD, h]

theorem InR.nil : InR [] := fun _ h => by cases h
theorem InR.cons {x : Int} {xs : List Int} (h0 : 0 ≤ x) (h1 : x < 1000000000) (h : InR xs) : InR (x :: xs) := fun y hy => by
  rcases List.mem_cons.1 hy with rfl | hy
  · exact ⟨h0, h1⟩
  · exact h y hy
theorem InR.append {xs ys : List Int} (h : InR xs) (k : InR ys) : InR (xs ++ ys) := fun y hy => by
  rcases List.mem_append.1 hy with hy | hy
  · exact h y hy
  · exact k y hy
theorem InR.snoc {xs : List Int} {x : Int} (h : InR xs) (h0 : 0 ≤ x) (h1 : x < 1000000000) : InR (xs ++ [x]) := h.append (InR.cons h0 h1 InR.nil)
theorem InR.take {xs : List Int} (h : InR xs) (k : Nat) : InR (xs.take k) := fun y hy => h y (List.mem_of_mem_take hy)
theorem InR.drop {xs : List Int} (h : InR xs) (k : Nat) : InR (xs.drop k) := fun y hy => h y (List.mem_of_mem_drop hy)
theorem InR.set {xs : List Int} (h : InR xs) (i : Nat) {v : Int} (h0 : 0 ≤ v) (h1 : v < 1000000000) : InR (xs.set i v) := fun y hy => by
  rcases List.mem_or_eq_of_mem_set hy with hy | rfl
  · exact h y hy
  · exact ⟨h0, h1⟩
theorem InR.replicate (n : Nat) : InR (List.replicate n 0) := fun y hy => by
  rw [List.eq_of_mem_replicate hy]; omega
theorem InR.lat {xs : List Int} (h : InR xs) (i : Nat) : 0 ≤ lat xs i ∧ lat xs i < 1000000000 := by
  by_cases hi : i < xs.length
  · rw [lat_of_lt hi]; exact h _ (List.getElem_mem hi)
  · rw [lat_ge (by omega)]; omega
theorem InR.nonneg {xs : List Int} (h : InR xs) : 0 ≤ nv xs := by
  induction xs with
  | nil => exact Int.le_refl _
  | cons x xs ih =>
    have h1 := h x (by simp)
    have h2 := ih fun y hy => h y (by simp [hy])
    rw [nv_cons]; omega
theorem InR.lt {xs : List Int} (h : InR xs) : nv xs < pw xs.length := by
  induction xs with
  | nil => decide
  | cons x xs ih =>
    have h1 := h x (by simp)
    have h2 := ih fun y hy => h y (by simp [hy])
    rw [nv_cons, List.length_cons, pw_succ]; omega

theorem Norm.inR {xs : List Int} (h : Norm xs) : InR xs := h.1
theorem Norm.nil : Norm [] := ⟨InR.nil, .inl rfl⟩
theorem Norm.tail {x : Int} {xs : List Int} (h : Norm (x :: xs)) : Norm xs := by
  refine ⟨fun y hy => h.1 y (by simp [hy]), ?_⟩
  by_cases hx : xs = []
  · exact .inl hx
  · right
    have := h.2.resolve_left (by simp)
    have hl : 0 < xs.length := List.length_pos_iff.2 hx
    simp only [List.length_cons, Nat.add_sub_cancel] at this
    obtain ⟨n, hn⟩ : ∃ n, xs.length = n + 1 := ⟨xs.length - 1, by omega⟩
    rw [hn] at this ⊢
    simpa [Lm.lat] using this
theorem Norm.ge {xs : List Int} (h : Norm xs) (hx : xs ≠ []) : pw (xs.length - 1) ≤ nv xs := by
  have hl : 0 < xs.length := List.length_pos_iff.2 hx
  have h1 := h.2.resolve_left hx
  have h2 := h.1.lat (xs.length - 1)
  rw [nv_split xs (xs.length - 1) (by omega), nv_drop xs _ (by omega), nv_drop_all (by omega)]
  have h3 := (h.1.take (xs.length - 1)).nonneg
  have h4 : 1 ≤ Lm.lat xs (xs.length - 1) := by omega
  have h5 := Int.mul_le_mul_of_nonneg_left h4 (Int.le_of_lt (pw_pos (xs.length - 1)))
  simp only [Int.mul_one, Int.mul_zero, Int.add_zero] at h5 ⊢
  omega
theorem Norm.pos {xs : List Int} (h : Norm xs) (hx : xs ≠ []) : 0 < nv xs := Int.lt_of_lt_of_le (pw_pos _) (h.ge hx)
theorem Norm.of_ge {xs : List Int} (h : InR xs) (hx : xs = [] ∨ pw (xs.length - 1) ≤ nv xs) : Norm xs := by
  refine ⟨h, ?_⟩
  rcases hx with hx | hx
  · exact .inl hx
  · by_cases he : xs = []
    · exact .inl he
    · right
      intro h0
      have hl : 0 < xs.length := List.length_pos_iff.2 he
      rw [nv_split xs (xs.length - 1) (by omega), nv_drop xs _ (by omega), nv_drop_all (by omega), h0] at hx
      have := (h.take (xs.length - 1)).lt
      rw [List.length_take, Nat.min_eq_left (by omega)] at this
      simp only [Int.mul_zero, Int.add_zero] at hx
      omega
theorem Norm.eq {xs ys : List Int} (h : Norm xs) (k : Norm ys) (e : nv xs = nv ys) : xs = ys := by
  induction xs generalizing ys with
  | nil =>
    cases ys with
    | nil => rfl
    | cons y ys => have := k.pos (by simp); rw [← e, nv_nil] at this; omega
  | cons x xs ih =>
    cases ys with
    | nil => have := h.pos (by simp); rw [e, nv_nil] at this; omega
    | cons y ys =>
      have hx := h.1 x (by simp)
      have hy := k.1 y (by simp)
      rw [nv_cons, nv_cons] at e
      have e1 : x = y := by omega
      have e2 : nv xs = nv ys := by omega
      rw [e1, ih h.tail k.tail e2]

/-- The canonical list of a natural number. -/
def limbsF : Nat → Nat → List Int
  | 0, _ => []
  | f + 1, n => if n = 0 then [] else ((n % 1000000000 : Nat) : Int) :: limbsF f (n / 1000000000)
def limbs (n : Nat) : List Int := limbsF n n

theorem limbsF_norm (f n : Nat) (h : n ≤ f) : Norm (limbsF f n) ∧ nv (limbsF f n) = n := by
  induction f generalizing n with
  | zero => obtain rfl : n = 0 := by omega
            exact ⟨Norm.nil, rfl⟩
  | succ f ih =>
    unfold limbsF
    by_cases h0 : n = 0
    · subst h0; simp only [if_true]; exact ⟨Norm.nil, rfl⟩
    · rw [if_neg h0]
      obtain ⟨i1, i2⟩ := ih (n / 1000000000) (by omega)
      have e : nv (((n % 1000000000 : Nat) : Int) :: limbsF f (n / 1000000000)) = n := by rw [nv_cons, i2]; omega
      refine ⟨Norm.of_ge (InR.cons (by omega) (by omega) i1.1) ?_, e⟩
      right
      rw [e]
      by_cases hx : limbsF f (n / 1000000000) = []
      · rw [hx]; simp [pw_zero]; omega
      · have := i1.ge hx
        have hl : 0 < (limbsF f (n / 1000000000)).length := List.length_pos_iff.2 hx
        rw [i2] at this
        rw [List.length_cons, Nat.add_sub_cancel]
        obtain ⟨m, hm⟩ : ∃ m, (limbsF f (n / 1000000000)).length = m + 1 := ⟨_, (Nat.sub_add_cancel hl).symm⟩
        rw [hm] at this ⊢
        rw [pw_succ]
        simp only [Nat.add_sub_cancel] at this
        omega
theorem limbs_norm (n : Nat) : Norm (limbs n) := (limbsF_norm n n (Nat.le_refl _)).1
theorem nv_limbs (n : Nat) : nv (limbs n) = n := (limbsF_norm n n (Nat.le_refl _)).2
theorem limbs_inR (n : Nat) : InR (limbs n) := (limbs_norm n).1
theorem limbs_zero : limbs 0 = [] := rfl
theorem Norm.limbs {xs : List Int} (h : Norm xs) {n : Nat} (e : nv xs = n) : xs = limbs n := h.eq (limbs_norm n) (by rw [nv_limbs]; exact e)
theorem Norm.limbs' {xs : List Int} (h : Norm xs) : xs = Lm.limbs (nv xs).toNat := h.limbs (by have := h.1.nonneg; omega)
theorem limbs_inj {a b : Nat} (h : limbs a = limbs b) : a = b := by
  have := congrArg nv h; rw [nv_limbs, nv_limbs] at this; omega
theorem limbs_nil {n : Nat} : limbs n = [] ↔ n = 0 := ⟨fun h => limbs_inj (b := 0) h, fun h => by rw [h]; rfl⟩
theorem limbs_len_le {n k : Nat} : (limbs n).length ≤ k ↔ (n : Int) < pw k := by
  constructor
  · intro h
    have h1 := (limbs_inR n).lt
    rw [nv_limbs] at h1
    exact Int.lt_of_lt_of_le h1 (pw_mono h)
  · intro h
    by_cases h0 : limbs n = []
    · rw [h0]; simp
    · have h1 := (limbs_norm n).ge h0
      rw [nv_limbs] at h1
      have hl : 0 < (limbs n).length := List.length_pos_iff.2 h0
      by_cases hk : (limbs n).length ≤ k
      · exact hk
      · have := pw_mono (show k ≤ (limbs n).length - 1 by omega)
        omega
theorem limbs_len_pos {n : Nat} : 0 < (limbs n).length ↔ 0 < n := by
  have h := @limbs_nil n
  rw [List.length_pos_iff]
  constructor
  · intro h1; by_cases h2 : n = 0
    · exact absurd (h.2 h2) h1
    · omega
  · intro h1 h2; have := h.1 h2; omega
theorem limbs_len_mono {a b : Nat} (h : a ≤ b) : (limbs a).length ≤ (limbs b).length := by
  rw [limbs_len_le]
  have h1 := (limbs_inR b).lt
  rw [nv_limbs] at h1
  omega
theorem limbs_small {n : Nat} (h0 : 0 < n) (h : n < 1000000000) : limbs n = [(n : Int)] := by
  refine (Norm.limbs ⟨InR.cons (by omega) (by omega) InR.nil, .inr ?_⟩ ?_).symm
  · simp [lat]; omega
  · simp [nv_cons, nv_nil]
theorem limbs_succ (n : Nat) : limbs n = if n = 0 then [] else ((n % 1000000000 : Nat) : Int) :: limbs (n / 1000000000) := by
  by_cases h : n = 0
  · subst h; rfl
  · rw [if_neg h]
    refine (Norm.limbs (Norm.of_ge (InR.cons (by omega) (by omega) (limbs_inR _)) ?_) ?_).symm
    · right
      have e : nv (((n % 1000000000 : Nat) : Int) :: limbs (n / 1000000000)) = n := by rw [nv_cons, nv_limbs]; omega
      rw [e, List.length_cons, Nat.add_sub_cancel]
      by_cases hx : limbs (n / 1000000000) = []
      · rw [hx]; simp [pw_zero]; omega
      · have := (limbs_norm (n / 1000000000)).ge hx
        have hl : 0 < (limbs (n / 1000000000)).length := List.length_pos_iff.2 hx
        rw [nv_limbs] at this
        obtain ⟨m, hm⟩ : ∃ m, (limbs (n / 1000000000)).length = m + 1 := ⟨_, (Nat.sub_add_cancel hl).symm⟩
        rw [hm] at this ⊢
        rw [pw_succ]
        simp only [Nat.add_sub_cancel] at this
        omega
    · rw [nv_cons, nv_limbs]; omega

/-- Cutting zero limbs off. -/
theorem nv_take_zeros (xs : List Int) (k : Nat) (hk : k ≤ xs.length) (h : ∀ j, k ≤ j → lat xs j = 0) : nv (xs.take k) = nv xs := by
  have hz : nv (xs.drop k) = 0 := by
    have : xs.drop k = List.replicate (xs.length - k) 0 := by
      apply List.ext_getElem
      · simp
      · intro i h1 h2
        have := h (k + i) (by omega)
        rw [lat_of_lt (by simp at h1; omega)] at this
        simpa using this
    rw [this, nv_replicate]
  rw [nv_split xs k hk, hz]; simp

/-- Comparing from the top. -/
theorem cmp_len {xs ys : List Int} (h : Norm xs) (k : Norm ys) (hl : xs.length < ys.length) : nv xs < nv ys := by
  have h1 := h.1.lt
  have h2 := k.ge (by intro e; rw [e] at hl; simp at hl)
  have h3 := pw_mono (show xs.length ≤ ys.length - 1 by omega)
  omega
theorem cmp_at {xs ys : List Int} (h : InR xs) (k : InR ys) (i : Nat) (hx : i < xs.length) (hy : i < ys.length) (e : nv (xs.drop (i + 1)) = nv (ys.drop (i + 1))) (hlt : lat xs i < lat ys i) : nv xs < nv ys := by
  rw [nv_split xs i (by omega), nv_split ys i (by omega), nv_drop xs i hx, nv_drop ys i hy, e]
  have h1 := (h.take i).lt
  have h2 := (k.take i).nonneg
  rw [List.length_take, Nat.min_eq_left (by omega)] at h1
  have h3 := Int.mul_le_mul_of_nonneg_left (show lat xs i + 1 + 1000000000 * nv (ys.drop (i + 1)) ≤ lat ys i + 1000000000 * nv (ys.drop (i + 1)) by omega) (Int.le_of_lt (pw_pos i))
  have h4 : pw i * (lat xs i + 1 + 1000000000 * nv (ys.drop (i + 1))) = pw i * (lat xs i + 1000000000 * nv (ys.drop (i + 1))) + pw i := by
    rw [show lat xs i + 1 + 1000000000 * nv (ys.drop (i + 1)) = (lat xs i + 1000000000 * nv (ys.drop (i + 1))) + 1 by omega, Int.mul_add, Int.mul_one]
  omega

/-- Go's answer -1, 0 or 1. -/
def cmp3 (a b : Int) : Int := if a < b then -1 else if b < a then 1 else 0

end Lm
