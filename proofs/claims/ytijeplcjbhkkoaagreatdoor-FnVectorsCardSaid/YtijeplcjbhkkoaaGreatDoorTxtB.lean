/- A fraction's text, read back. -/
import Derived.Test.YtijeplcjbhkkoaaGreatDoorParR
namespace Go.Proofs.YtijeplcjbhkkoaaGreatDoor
open Go.RowKit Tx Go.Lib Lm

theorem okP_nm {xs : List Int} (h : OkP xs) : Norm xs ∧ xs.length ≤ 60 := by
  obtain ⟨a, rfl, hl⟩ := ok_limbs h
  exact ⟨limbs_norm a, hl⟩
theorem okT_fmtN {l : List Int} (h : Norm l) (h60 : l.length ≤ 60) : OkT (fmtN l) := by
  refine ⟨dec_ne _, dec_dg _, ?_, fun h1 => dec_head1 _ h1⟩
  rcases Nat.eq_zero_or_pos l.length with h0 | h0
  · rw [List.length_eq_zero_iff.1 h0, fmtN_nil]; simp
  · have := fN_len h l.length 0 (by omega) h0
    rw [fN_zero] at this
    omega
theorem pN_fmtN {l : List Int} (h : OkP l) : pN (fmtN l) = l ∧ pNB (fmtN l) = true := by
  obtain ⟨h1, h2⟩ := okP_nm h
  obtain ⟨a, rfl, -⟩ := ok_limbs h
  obtain ⟨e1, e2⟩ := pN_yes (okT_fmtN h1 h2)
  refine ⟨?_, e2⟩
  rw [e1]
  unfold fmtN
  rw [val_dec, nv_toNat]
theorem bs_sizeL (l : List UInt8) : (bs l).data.toList = l := bs_data l
theorem fmtN_head {l : List Int} : ∀ c ∈ fmtN l, c ≠ 45 := fun c hc e => by
  have := dec_dg _ c hc
  unfold Dg at this
  rw [e] at this
  have e2 : (45 : UInt8).toNat = 45 := rfl
  omega
theorem tlm_pos {l : List UInt8} (h : ∀ c ∈ l, c ≠ 45) : mns l = false ∧ tlm l = l := by
  have e : mns l = false := by
    cases l with
    | nil => rfl
    | cons c r => rw [mns_cons]; exact beq_eq_false_iff_ne.2 (h c (List.mem_cons_self ..))
  refine ⟨e, ?_⟩
  unfold tlm Lib.trimPrefix
  rw [if_neg (by show ¬ mns _ = true; rw [e]; simp)]
theorem tlm_neg (l : List UInt8) : mns (45 :: l) = true ∧ tlm (45 :: l) = l := by
  have e : mns (45 :: l) = true := by rw [mns_cons]; rfl
  refine ⟨e, ?_⟩
  unfold tlm Lib.trimPrefix
  rw [if_pos (by show mns _ = true; exact e)]
  rfl
/-- A signed number's text, read back. -/
theorem pZ_fmtZ {g : Bool} {xs : List Int} (h : OkG g xs) : pZb (bs (fmtZ g xs)) = true ∧ pZg (bs (fmtZ g xs)) = g ∧ pZs (bs (fmtZ g xs)) = xs := by
  obtain ⟨e1, e2⟩ := pN_fmtN h.1
  have ht : mns (fmtZ g xs) = g ∧ tlm (fmtZ g xs) = fmtN xs := by
    cases g with
    | true => exact tlm_neg _
    | false => exact tlm_pos fmtN_head
  have hA : AnsZ (bs (fmtZ g xs)) g xs true := by
    refine ansZ_yes (t := bs (fmtN xs)) (ok := true) ?_ ?_ ?_ ?_ ?_
    · rw [bs_data, ht.2]
    · rw [bs_data, ht.1]
    · unfold pNs; rw [bs_data, e1]
    · unfold pNb; rw [bs_data, e2]
    · cases g with
      | false => rfl
      | true =>
        have hne : xs ≠ [] := fun e => by have := h.2 e; simp at this
        cases xs with
        | nil => exact absurd rfl hne
        | cons _ _ => rfl
  obtain ⟨a, b, c⟩ := hA
  exact ⟨c.symm, a.symm, b.symm⟩
theorem cut_no {l : List UInt8} {c : UInt8} (h : c ∉ l) : cut l [c] = (l, [], false) := by
  rcases cut_at l c with ⟨_, h2⟩ | ⟨a, b, h1, _, _⟩
  · exact h2
  · exact absurd (h1 ▸ List.mem_append_right a (List.mem_cons_self ..)) h
theorem split_uniq {c : UInt8} {b b2 : List UInt8} : ∀ {a a2 : List UInt8}, a ++ c :: b = a2 ++ c :: b2 → c ∉ a → c ∉ a2 → a = a2 ∧ b = b2 := by
  intro a
  induction a with
  | nil =>
    intro a2 h _ h2
    cases a2 with
    | nil => simp only [List.nil_append, List.cons.injEq, true_and] at h; exact ⟨rfl, h⟩
    | cons x r =>
      simp only [List.nil_append, List.cons_append, List.cons.injEq] at h
      exact absurd (h.1 ▸ List.mem_cons_self ..) h2
  | cons y r ih =>
    intro a2 h h1 h2
    cases a2 with
    | nil =>
      simp only [List.nil_append, List.cons_append, List.cons.injEq] at h
      exact absurd (h.1 ▸ List.mem_cons_self ..) h1
    | cons x r2 =>
      simp only [List.cons_append, List.cons.injEq] at h
      obtain ⟨e1, e2⟩ := ih h.2 (fun hm => h1 (List.mem_cons_of_mem _ hm)) (fun hm => h2 (List.mem_cons_of_mem _ hm))
      exact ⟨by rw [h.1, e1], e2⟩
theorem cut_yes {a b : List UInt8} {c : UInt8} (h : c ∉ a) : cut (a ++ c :: b) [c] = (a, b, true) := by
  rcases cut_at (a ++ c :: b) c with ⟨h1, _⟩ | ⟨a2, b2, h1, h2, h3⟩
  · exact absurd (List.mem_append_right a (List.mem_cons_self ..)) h1
  · obtain ⟨e1, e2⟩ := split_uniq h1 h h2
    rw [h3, e1, e2]
/-- A fraction's text, read back. -/
theorem pR_fmtR {g : Bool} {xs ys : List Int} (h : OkR g xs ys) : pRb (bs (fmtR g xs ys)) = true ∧ pRg (bs (fmtR g xs ys)) = g ∧ pRn (bs (fmtR g xs ys)) = xs ∧ pRd (bs (fmtR g xs ys)) = ys := by
  obtain ⟨z1, z2, z3⟩ := pZ_fmtZ h.1
  obtain ⟨n1, n2⟩ := pN_fmtN h.2.1
  have hparts : cT (bs (fmtR g xs ys)) = fmtZ g xs ∧ dnY (bs (fmtR g xs ys)) = ys ∧ dnB (bs (fmtR g xs ys)) = true := by
    by_cases hy : ys = [1]
    · subst hy
      have hc : cut (bs (fmtR g xs [1])).data.toList [47] = (fmtZ g xs, [], false) := by
        rw [bs_data, fmtR_one]; exact cut_no fmtZ_no
      have hM : cM (bs (fmtR g xs [1])) = false := by unfold cM; rw [hc]
      refine ⟨by unfold cT; rw [hc], ?_, ?_⟩
      · unfold dnY; rw [hM]; rfl
      · unfold dnB; rw [hM]; rfl
    · have hc : cut (bs (fmtR g xs ys)).data.toList [47] = (fmtZ g xs, fmtN ys, true) := by
        rw [bs_data, fmtR_more hy]; exact cut_yes fmtZ_no
      have hM : cM (bs (fmtR g xs ys)) = true := by unfold cM; rw [hc]
      have hB : cB (bs (fmtR g xs ys)) = fmtN ys := by unfold cB; rw [hc]
      refine ⟨by unfold cT; rw [hc], ?_, ?_⟩
      · unfold dnY; rw [if_pos hM, hB]; unfold pNs; rw [bs_data]; exact n1
      · unfold dnB; rw [if_pos hM, hB]; unfold pNb; rw [bs_data]; exact n2
  obtain ⟨p1, p2, p3⟩ := hparts
  have hb : pRb (bs (fmtR g xs ys)) = true := by
    rw [pRb_iff, p1, p2, p3, z1, z2, z3]
    exact ⟨rfl, rfl, h, by rw [bs_data]⟩
  obtain ⟨a1, a2, a3, _⟩ := ansR_yes hb
  refine ⟨hb, ?_, ?_, ?_⟩
  · rw [← a1, p1, z2]
  · rw [← a2, p1, z3]
  · rw [← a3, p2]

end Go.Proofs.YtijeplcjbhkkoaaGreatDoor
