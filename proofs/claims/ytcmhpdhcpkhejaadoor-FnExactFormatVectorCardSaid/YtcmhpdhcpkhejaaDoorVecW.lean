/- A slice of the laws' fractions that came in, opened. -/
import Derived.Test.YtcmhpdhcpkhejaaDoorVecG
import Derived.Test.YtcmhpdhcpkhejaaDoorFrame
import Derived.Deep.Slices
namespace Go.Proofs.YtcmhpdhcpkhejaaDoor
open Go.ChangeShapes Go.WideShapes Go.ChangeAt Go.RowKit Lm Go.Deep

theorem rat_of_cells {H : Type} {enc : TypeId × Value → H} {W : World} {cs : List Value} {y : DataW H × List MemPlace} {fuel : Nat}
    (hf : DataW.trod enc Tryd.prog W 0 (fun _ => true) true fuel 34 cs = some y) (hsz : cs.length = 3) :
    ∃ (s : Bool) (u e : Value) (xs ys : List Int), cs = [.bool s, u, e] ∧ Rd2 W u e xs ys ∧ xs.length ≤ 9223372036854775807 ∧ ys.length ≤ 9223372036854775807 := by
  match cs, hsz with
  | [c0, c1, c2], _ =>
    obtain ⟨ys, n, hn, hy, hlen, hyl, hg⟩ := DataW.trod_struct Tryd.underlying34 hf
    have hC1 : Tryd.prog.cellsOf 32 = 2 := by kernel_rfl
    have hC2 : Tryd.prog.cellsOf 30 = 1 := by kernel_rfl
    have hC3 : Tryd.prog.cellsOf 4 = 1 := by kernel_rfl
    have g0 : DataW.trod enc Tryd.prog W 0 (fun _ => true) true n 32 (List.take (Tryd.prog.cellsOf 32) (List.drop 0 [c0, c1, c2])) = ys[0]? := hg 0 _ rfl
    have g1 : DataW.trod enc Tryd.prog W 0 (fun _ => true) true n 30 (List.take (Tryd.prog.cellsOf 30) (List.drop 2 [c0, c1, c2])) = ys[1]? := hg 1 _ rfl
    rw [hC1] at g0
    rw [hC2] at g1
    match ys, hyl with
    | [y0, y1], _ =>
      have g0' : DataW.trod enc Tryd.prog W 0 (fun _ => true) true n 32 [c0, c1] = some y0 := g0
      have g1' : DataW.trod enc Tryd.prog W 0 (fun _ => true) true n 30 [c2] = some y1 := g1
      obtain ⟨zs, m, _, _, _, hzl, hk⟩ := DataW.trod_struct Tryd.underlying32 g0'
      have k0 : DataW.trod enc Tryd.prog W 0 (fun _ => true) true m 4 (List.take (Tryd.prog.cellsOf 4) (List.drop 0 [c0, c1])) = zs[0]? := hk 0 _ rfl
      have k1 : DataW.trod enc Tryd.prog W 0 (fun _ => true) true m 30 (List.take (Tryd.prog.cellsOf 30) (List.drop 1 [c0, c1])) = zs[1]? := hk 1 _ rfl
      rw [hC3] at k0
      rw [hC2] at k1
      match zs, hzl with
      | [z0, z1], _ =>
        have k0' : DataW.trod enc Tryd.prog W 0 (fun _ => true) true m 4 [c0] = some z0 := k0
        have k1' : DataW.trod enc Tryd.prog W 0 (fun _ => true) true m 30 [c1] = some z1 := k1
        obtain ⟨s, hs, _⟩ := DataW.trod_bool Tryd.underlying4 k0'
        obtain ⟨xs, hx, hxl⟩ := rd_of_cells k1'
        obtain ⟨es, he, hel⟩ := rd_of_cells g1'
        simp only [List.cons.injEq, and_true] at hs
        subst hs
        exact ⟨s, c1, c2, xs, es, rfl, ⟨hx, he⟩, hxl, hel⟩

set_option maxRecDepth 100000 in
theorem rdV_of_trod {H : Type} {enc : TypeId × Value → H} {W : World} {v : Value} {d : DataW H} {ps : List MemPlace} {base : Nat} (hv : Value.okWide Tryd.prog W .any base 22 v)
    (h : DataW.Trod enc Tryd.prog W 0 (fun _ => true) true 22 v d ps) : ∃ n E R, RdV W v n E R := by
  obtain ⟨a0, len0, cap0, rfl⟩ := okWide_slice Tryd.underlying22 hv
  obtain ⟨fuel, hf⟩ := h
  have hC : Tryd.prog.cellsOf 34 = 3 := by kernel_rfl
  rcases open_slice Tryd.underlying22 hf with ⟨hcs, _⟩ | ⟨a, len, cap, m, n, D, Pl, hcs, _, hl, hm, hmm, _, hi⟩
  · simp [Value.cells] at hcs
    obtain ⟨rfl, rfl, rfl⟩ := hcs
    exact ⟨0, fun _ => ⟨false, .slice none 0 0, .slice none 0 0⟩, fun _ => ⟨false, [], []⟩, by omega, ⟨_, _, rfl⟩, fun i hi => absurd hi (by omega), fun i hi => absurd hi (by omega)⟩
  · simp [Value.cells] at hcs
    obtain ⟨rfl, rfl, rfl⟩ := hcs
    rw [if_pos rfl] at hmm
    subst hmm
    unfold maxLen at hm
    have each : ∀ i, i < len0 → ∃ p : Ent × Rc, (∃ b off, a = ⟨b, off, none⟩ ∧ b < W.heap.size ∧ W.cell? ⟨b, off + i * 3, none⟩ = some (.bool p.2.s) ∧ W.cell? ⟨b, off + i * 3 + 1, none⟩ = some p.1.u ∧ W.cell? ⟨b, off + i * 3 + 2, none⟩ = some p.1.d) ∧
        Rd2 W p.1.u p.1.d p.2.xs p.2.ys ∧ p.2.xs.length ≤ 9223372036854775807 ∧ p.2.ys.length ≤ 9223372036854775807 := by
      intro i him
      obtain ⟨cs', hc, ht⟩ := hi i (by omega)
      rw [hC] at hc
      obtain ⟨_, hcl, hat⟩ := World.cells?_some hc
      obtain ⟨s, u, e, xs, ys, rfl, h1, h2, h3⟩ := rat_of_cells ht hcl
      refine ⟨⟨⟨s, u, e⟩, ⟨s, xs, ys⟩⟩, ?_, h1, h2, h3⟩
      have c0 := hat 0 (by omega)
      have c1 := hat 1 (by omega)
      have c2 := hat 2 (by omega)
      rw [Go.Deep.add_add] at c0 c1 c2
      obtain ⟨b, off, spot⟩ := a
      cases spot with
      | none =>
        rw [Addr.add_lit] at c0 c1 c2
        have e0 : W.cell? ⟨b, off + i * 3, none⟩ = some (.bool s) := c0
        exact ⟨b, off, rfl, World.block_lt_of_cell? W _ e0, e0, c1, c2⟩
      | some sp =>
        exfalso
        obtain ⟨cs0, hc0, ht0⟩ := hi 0 (by omega)
        rw [hC] at hc0
        obtain ⟨_, hcl0, hat0⟩ := World.cells?_some hc0
        obtain ⟨s0, u0, e0, _, _, rfl, _⟩ := rat_of_cells ht0 hcl0
        have h0 := hat0 0 (by omega)
        rw [Nat.zero_mul] at h0
        unfold Addr.add World.cell? at h0
        simp at h0
        split at h0 <;> simp at h0
    have : Inhabited (Ent × Rc) := ⟨⟨⟨false, .slice none 0 0, .slice none 0 0⟩, ⟨false, [], []⟩⟩⟩
    obtain ⟨f, hfn⟩ := choose_lt each
    refine ⟨len0, fun i => (f i).1, fun i => (f i).2, by omega, ⟨_, _, rfl⟩, fun i him => ?_, fun i him => ?_⟩
    · obtain ⟨⟨b, off, rfl, h1, h2, h3, h4⟩, _⟩ := hfn i him
      exact ⟨b, off, _, rfl, h1, h2, h3, h4⟩
    · exact (hfn i him).2

end Go.Proofs.YtcmhpdhcpkhejaaDoor
