/- append onto a slice of the call's own, inside a region that draws its order. -/
import Derived.Test.YtcmhpdhcpkhejaaLawZ
namespace Go.Proofs.Ytcmhpdhcpkhejaa
open Go.RowKit Lm

theorem app_wp {w : World} {o : Oper} {a : Act} {K : Act → World → Prop} {Q : Exit → Act → World → Prop} (s x : Operand)
    (ho : o.op = .call { callee := .builtin .append, args := #[s, x], argTypes := #[35, 35] })
    (v u : Value) (base bu : Nat) (xs ys : List Int) (hs : a.eval s = v) (hx : a.eval x = u) (h1 : Own w base v xs) (h2 : Own w bu u ys) (hlen : xs.length + ys.length ≤ 17592186044415) (hbase : base ≤ w.heap.size)
    (h : ∀ v' w', Own w' base v' (xs ++ ys) → w.grownBy w' v.ownBlock → (v'.ownBlock = v.ownBlock ∨ v'.ownBlock = some w.heap.size) → K (a.put o.dst v') w') : o.wp Try.prog a w K Q := by
  obtain ⟨i, hi, hz, hsz, hby⟩ := info_parts Try.infoInt
  have hm : (xs ++ ys).map (Value.int .i64) = xs.map (Value.int .i64) ++ ys.map (Value.int .i64) := List.map_append
  rcases h2.2 with ⟨rfl, hn⟩ | ⟨g, cap, cur, rfl, hg, hgg, hnc, hcm, hcs, htk⟩
  · have hy : ys = [] := List.length_eq_zero_iff.1 hn
    subst hy
    have hrun := run_append_owned_none (P := Try.prog) w base 35 o.type 3 i 1 Try.underlying35 hi _ _ _ h1
    unfold Oper.wp
    simp only [execOp, ho, resolve, invoke, builtin, Sem.run_bind, Sem.run_pure, Result.andThen_ok, List.map_toArray, List.map_cons, List.map_nil, hs, hx, hrun]
    exact h v w (by simpa using h1) ⟨rfl, rfl, rfl, Nat.le_refl _, fun _ _ _ => rfl⟩ (Or.inl rfl)
  · obtain ⟨v', w', hr, r2, r3, _, r5⟩ := run_append_own_at (P := Try.prog) w base 35 o.type 3 i (.int .i64 0) 1 8 Try.underlying35 hi hz hsz hby rfl (by decide) v xs.length (xs.map (Value.int .i64)) h1
      ⟨g, 0, none⟩ ys.length cap (ys.map (Value.int .i64)) (by simp) (World.ownsRow.cells h2 (g := g) rfl) (ints_oneCell _ _) (by unfold maxLen; omega) (by omega) hbase
    unfold Oper.wp
    simp only [execOp, ho, resolve, invoke, builtin, Sem.run_bind, Sem.run_pure, Result.andThen_ok, List.map_toArray, List.map_cons, List.map_nil, hs, hx, hr]
    exact h v' w' (by unfold Own; rw [List.length_append, hm]; exact r2) r3 r5
/-- The same as a step of such a region. -/
theorem app_step {w : World} {ops : Array Oper} {o : Oper} {a : Act} {K : Act → World → Prop} {Q : Exit → Act → World → Prop} {E : Prop} (hgd : o.guard = none) (s x : Operand)
    (ho : o.op = .call { callee := .builtin .append, args := #[s, x], argTypes := #[35, 35] })
    (v u : Value) (base bu : Nat) (xs ys : List Int) (hs : a.eval s = v) (hx : a.eval x = u) (h1 : Own w base v xs) (h2 : Own w bu u ys) (hlen : xs.length + ys.length ≤ 17592186044415) (hbase : base ≤ w.heap.size)
    (h : ∀ v' w', Own w' base v' (xs ++ ys) → w.grownBy w' v.ownBlock → (v'.ownBlock = v.ownBlock ∨ v'.ownBlock = some w.heap.size) → K (a.put o.dst v') w') :
    if Region.wanted o (yielded ops a.tmps) = true then Oper.wp Try.prog o a w K Q else E := by
  have hw : Region.wanted o (yielded ops a.tmps) = true := by simp [Region.wanted, hgd]
  rw [if_pos hw]
  exact app_wp s x ho v u base bu xs ys hs hx h1 h2 hlen hbase h

end Go.Proofs.Ytcmhpdhcpkhejaa
