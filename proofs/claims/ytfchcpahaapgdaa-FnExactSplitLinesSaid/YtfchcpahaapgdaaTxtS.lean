/- Splitting and joining texts: plain mathematics; no program in sight. -/
import Derived.Lib.Join
import Derived.Lib.Bytealg
namespace Tx
open Go.Lib

theorem join_snoc (xs : List (List UInt8)) (x sep : List UInt8) : join (xs ++ [x]) sep = if xs = [] then x else join xs sep ++ sep ++ x := by
  cases xs with
  | nil => rw [List.nil_append, join_one, if_pos rfl]
  | cons y r =>
    rw [if_neg (by simp), List.cons_append, join_cons, join_cons]
    unfold joinTail
    rw [List.map_append, List.flatten_append]
    simp [List.append_assoc]
theorem lens_len (xs : List (List UInt8)) (k : Nat) : lens (xs.take k) ≤ lens xs := lens_take_le xs k
theorem join_len_le (xs : List (List UInt8)) (sep : List UInt8) : (join xs sep).length ≤ sep.length * xs.length + lens xs := by
  cases xs with
  | nil => rw [join_nil]; simp
  | cons x r =>
    rw [join_length, List.length_cons, Nat.mul_add]; omega

/-- The pieces between the bytes that p takes; cur is the piece begun. -/
def spl (p : UInt8 → Bool) (cur : List UInt8) : List UInt8 → List (List UInt8)
  | [] => [cur]
  | c :: r => bif p c then cur :: spl p [] r else spl p (cur ++ [c]) r
theorem spl_cons (p : UInt8 → Bool) (cur : List UInt8) (c : UInt8) (r : List UInt8) : spl p cur (c :: r) = bif p c then cur :: spl p [] r else spl p (cur ++ [c]) r := rfl
theorem spl_ne (p : UInt8 → Bool) : ∀ (l cur : List UInt8), spl p cur l ≠ []
  | [], _ => by simp [spl]
  | c :: r, cur => by
    rw [spl_cons]
    cases p c
    · exact spl_ne p r _
    · simp
theorem spl_len (p : UInt8 → Bool) : ∀ (l cur : List UInt8), (spl p cur l).length ≤ l.length + 1
  | [], _ => by simp [spl]
  | c :: r, cur => by
    rw [spl_cons]
    cases p c
    · have := spl_len p r (cur ++ [c]); simp only [cond_false, List.length_cons]; omega
    · have := spl_len p r []; simp only [cond_true, List.length_cons]; omega
theorem spl_piece_len (p : UInt8 → Bool) : ∀ (l cur : List UInt8), ∀ x ∈ spl p cur l, x.length ≤ cur.length + l.length
  | [], cur, x, hx => by rw [List.mem_singleton.1 (show x ∈ [cur] from hx)]; simp
  | c :: r, cur, x, hx => by
    rw [spl_cons] at hx
    cases hp : p c
    · rw [hp] at hx
      have := spl_piece_len p r (cur ++ [c]) x hx
      simp only [List.length_append, List.length_cons, List.length_nil] at this ⊢; omega
    · rw [hp] at hx
      rcases List.mem_cons.1 (show x ∈ cur :: spl p [] r from hx) with h | h
      · subst h; simp only [List.length_cons]; omega
      · have := spl_piece_len p r [] x h
        simp only [List.length_cons, List.length_nil] at this ⊢; omega
/-- Where nothing is taken there is one piece. -/
theorem spl_none (p : UInt8 → Bool) : ∀ (l cur : List UInt8), (∀ c ∈ l, p c = false) → spl p cur l = [cur ++ l]
  | [], cur, _ => by simp [spl]
  | c :: r, cur, h => by
    rw [spl_cons, h c (List.mem_cons_self ..)]
    show spl p (cur ++ [c]) r = _
    rw [spl_none p r _ (fun x hx => h x (List.mem_cons_of_mem _ hx)), List.append_assoc]; rfl
theorem spl_app (p : UInt8 → Bool) : ∀ (l cur : List UInt8) (c : UInt8) (r : List UInt8), (∀ c ∈ l, p c = false) → p c = true → spl p cur (l ++ c :: r) = (cur ++ l) :: spl p [] r
  | [], cur, c, r, _, hc => by rw [List.nil_append, spl_cons, hc, List.append_nil]; rfl
  | d :: l, cur, c, r, h, hc => by
    rw [List.cons_append, spl_cons, h d (List.mem_cons_self ..)]
    show spl p (cur ++ [d]) (l ++ c :: r) = _
    rw [spl_app p l (cur ++ [d]) c r (fun x hx => h x (List.mem_cons_of_mem _ hx)) hc, List.append_assoc]; rfl
/-- Joined again the pieces give the text. -/
theorem join_spl (b : UInt8) : ∀ (l cur : List UInt8), join (spl (· == b) cur l) [b] = cur ++ l
  | [], cur => by simp [spl, join_one]
  | c :: r, cur => by
    rw [spl_cons]
    by_cases h : c = b
    · subst h
      rw [show (c == c) = true by simp, cond_true]
      have hne := spl_ne (· == c) r []
      have ih := join_spl c r []
      cases hs : spl (· == c) [] r with
      | nil => exact absurd hs hne
      | cons y t =>
        rw [hs, join_cons] at ih
        rw [join_cons]
        show cur ++ (([c] ++ y) :: t.map ([c] ++ ·)).flatten = _
        rw [List.flatten_cons]
        unfold joinTail at ih
        rw [List.append_assoc, ih]
        simp
    · rw [show (c == b) = false by simp [h], cond_false, join_spl b r (cur ++ [c])]
      simp
theorem spl_no (p : UInt8 → Bool) : ∀ (l cur : List UInt8), (∀ c ∈ cur, p c = false) → ∀ x ∈ spl p cur l, ∀ c ∈ x, p c = false
  | [], cur, h, x, hx => by rw [List.mem_singleton.1 (show x ∈ [cur] from hx)]; exact h
  | c :: r, cur, h, x, hx => by
    rw [spl_cons] at hx
    cases hp : p c
    · rw [hp] at hx
      exact spl_no p r (cur ++ [c]) (fun d hd => by
        rcases List.mem_append.1 hd with h1 | h1
        · exact h d h1
        · rw [List.mem_singleton.1 h1]; exact hp) x hx
    · rw [hp] at hx
      rcases List.mem_cons.1 (show x ∈ cur :: spl p [] r from hx) with h1 | h1
      · subst h1; exact h
      · exact spl_no p r [] (fun d hd => by cases hd) x h1
/-- Pieces that hold no b, joined and split again. -/
theorem spl_join (b : UInt8) : ∀ (x : List UInt8) (r : List (List UInt8)), (∀ y ∈ x :: r, ∀ c ∈ y, c ≠ b) → spl (· == b) [] (join (x :: r) [b]) = x :: r
  | x, [], h => by
    rw [join_one, spl_none _ _ _ (fun c hc => by simpa using h x (List.mem_cons_self ..) c hc), List.nil_append]
  | x, y :: r, h => by
    have e : join (x :: y :: r) [b] = x ++ b :: join (y :: r) [b] := by
      rw [join_cons, join_cons]
      show x ++ (([b] ++ y) :: r.map ([b] ++ ·)).flatten = _
      rw [List.flatten_cons]
      unfold joinTail
      simp
    rw [e, spl_app _ _ _ _ _ (fun c hc => by simpa using h x (List.mem_cons_self ..) c hc) (by simp), List.nil_append, spl_join b y r (fun z hz => h z (List.mem_cons_of_mem _ hz))]
theorem indexByte_ge (l : List UInt8) (c : UInt8) : -1 ≤ indexByte l c := by
  induction l with
  | nil => simp [indexByte]
  | cons b l ih =>
    unfold indexByte
    split
    · omega
    · split
      · omega
      · omega
theorem indexByte_mem (l : List UInt8) (c : UInt8) : decide (0 ≤ indexByte l c) = l.contains c := by
  induction l with
  | nil => simp [indexByte]
  | cons b l ih =>
    have hg := indexByte_ge l c
    rw [List.contains_cons]
    unfold indexByte
    by_cases h : b = c
    · subst h; simp
    · rw [if_neg (by simpa using h), show (c == b) = false by simp [Ne.symm h], Bool.false_or, ← ih]
      by_cases h2 : indexByte l c = -1
      · rw [if_pos (by simp [h2]), h2]
      · rw [if_neg (by simpa using h2)]
        rw [decide_eq_true (by omega), decide_eq_true (by omega)]

end Tx
