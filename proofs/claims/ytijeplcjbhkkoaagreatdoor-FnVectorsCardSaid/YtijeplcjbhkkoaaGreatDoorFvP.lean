/- What the law on vectors says of its numbers; a vector read back from its text. -/
import Derived.Test.YtijeplcjbhkkoaaGreatDoorRatF
import Derived.Test.YtijeplcjbhkkoaaGreatDoorVecK
import Derived.Test.YtijeplcjbhkkoaaGreatDoorVecY
namespace Go.Proofs.YtijeplcjbhkkoaaGreatDoor
open Go.RowKit Tx Go.Lib Lm

theorem pRc_fRc {r : Rc} (h : OkRc r) : pRb (fRc r) = true ∧ pRc (fRc r) = r := by
  obtain ⟨p1, p2, p3, p4⟩ := pR_fmtR (show OkR r.s r.xs r.ys from h)
  refine ⟨p1, ?_⟩
  unfold pRc fRc
  rw [p2, p3, p4]
theorem fmtN_sp {l : List Int} : ∀ c ∈ fmtN l, c ≠ 32 := fun c hc e => by
  have := dec_dg _ c hc
  unfold Dg at this
  rw [e] at this
  have e2 : (32 : UInt8).toNat = 32 := rfl
  omega
theorem fmtZ_sp {g : Bool} {l : List Int} : ∀ c ∈ fmtZ g l, c ≠ 32 := by
  intro c hc
  cases g with
  | false => exact fmtN_sp c hc
  | true =>
    rcases List.mem_cons.1 (show c ∈ 45 :: fmtN l from hc) with h | h
    · rw [h]; decide
    · exact fmtN_sp c h
theorem fmtR_sp {g : Bool} {xs ys : List Int} : ∀ c ∈ fmtR g xs ys, c ≠ 32 := by
  intro c hc
  by_cases hy : ys = [1]
  · subst hy
    rw [fmtR_one] at hc
    exact fmtZ_sp c hc
  · rw [fmtR_more hy] at hc
    rcases List.mem_append.1 hc with h | h
    · exact fmtZ_sp c h
    · rcases List.mem_cons.1 h with h | h
      · rw [h]; decide
      · exact fmtN_sp c h
theorem bs_map (l : List ByteArray) : (l.map (·.data.toList)).map bs = l := by
  rw [List.map_map]
  have e : bs ∘ (fun x : ByteArray => x.data.toList) = id := by funext x; exact bs_list x
  rw [e, List.map_id]
theorem pvS_join {l : List ByteArray} (h0 : l ≠ []) (h : ∀ y ∈ l, ∀ c ∈ y.data.toList, c ≠ 32) : pvS (joinB l spS) = l := by
  unfold pvS pcs joinB
  have e : isIn spS = (· == 32) := by funext c; exact isIn_sp c
  rw [bs_data, e]
  have hk : spl (· == 32) [] (Lib.join (l.map (·.data.toList)) [32]) = l.map (·.data.toList) := by
    cases l with
    | nil => exact absurd rfl h0
    | cons x r =>
      rw [List.map_cons]
      refine spl_join 32 _ _ fun y hy c hc => ?_
      rw [← List.map_cons (f := fun x : ByteArray => x.data.toList)] at hy
      obtain ⟨z, hz, rfl⟩ := List.mem_map.1 hy
      exact h z hz c hc
  show (spl (· == 32) [] (Lib.join (l.map (·.data.toList)) [32])).map bs = l
  rw [hk, bs_map]
theorem fVs_mem {R : Nat → Rc} {n : Nat} : ∀ y ∈ fVs R n, ∃ j, j < n ∧ y = fRc (R j) := by
  induction n with
  | zero => intro y hy; cases hy
  | succ n ih =>
    intro y hy
    simp only [fVs] at hy
    rcases List.mem_append.1 hy with h | h
    · obtain ⟨j, hj, e⟩ := ih y h
      exact ⟨j, by omega, e⟩
    · exact ⟨n, by omega, List.mem_singleton.1 h⟩
theorem fVs_sat (R : Nat → Rc) (n j : Nat) (h : j < n) : sat (fVs R n) j = fRc (R j) := by
  induction n with
  | zero => omega
  | succ n ih =>
    have hl := fVs_length R n
    have hs : j < (fVs R (n + 1)).length := by rw [fVs_length]; exact h
    rw [sat_of_lt hs]
    by_cases hj : j < n
    · have := ih hj
      rw [sat_of_lt (by omega)] at this
      rw [← this]
      simp only [fVs]
      exact List.getElem_append_left (by omega)
    · obtain rfl : j = n := by omega
      simp only [fVs]
      rw [List.getElem_append_right (by omega)]
      simp [hl]
/-- A vector's text, read back. -/
theorem pv_back {n : Nat} {A : Nat → Rc} (h0 : 0 < n) (hA : OkV n A) : pvB (fV n A) = true ∧ pvN (fV n A) = n ∧ ∀ j, j < n → pvR (fV n A) j = A j := by
  have hne : fVs A n ≠ [] := fun e => by have := fVs_length A n; rw [e] at this; simp at this; omega
  have hS : pvS (fV n A) = fVs A n := by
    rw [fV_yes hA]
    refine pvS_join hne fun y hy c hc => ?_
    obtain ⟨j, hj, rfl⟩ := fVs_mem y hy
    unfold fRc at hc
    rw [bs_data] at hc
    exact fmtR_sp c hc
  have hs0 : sat (fVs A n) 0 = fRc (A 0) := fVs_sat A n 0 h0
  have hE : (fV n A).toList.isEmpty = false := by
    rw [isEmpty_size]
    refine decide_eq_false fun e => ?_
    have h1 := pvS_size (fV n A) 0 (by rw [hS, fVs_length]; exact h0)
    rw [hS, hs0, e] at h1
    have h2 : (fRc (A 0)).size = (fmtR (A 0).s (A 0).xs (A 0).ys).length := by unfold fRc; exact bs_size _
    have h3 := List.length_pos_iff.2 (fmtR_ne (A 0).s (A 0).xs (A 0).ys)
    omega
  have hb : ∀ j, j < (pvS (fV n A)).length → pRb (sat (pvS (fV n A)) j) = true := fun j hj => by
    rw [hS, fVs_length] at hj
    rw [hS, fVs_sat A n j hj]
    exact (pRc_fRc (hA.2 j hj)).1
  obtain ⟨a, b⟩ := pv_yes hE (by rw [hS, fVs_length]; exact hA.1) hb
  refine ⟨a, by rw [b, hS, fVs_length], fun j hj => ?_⟩
  unfold pvR
  rw [hS, fVs_sat A n j hj]
  exact (pRc_fRc (hA.2 j hj)).2
theorem fV_size {n : Nat} {A : Nat → Rc} (hA : OkV n A) : (fV n A).size ≤ 1048576 := by
  rw [fV_yes hA]
  have h1 := joinB_size (fVs A n) spS
  have h2 := fVs_lens (R := A) (n := n) fun i hi => hA.2 i hi
  have h3 := fVs_length A n
  have h4 := hA.1
  rw [h3] at h1
  have h5 : spS.size = 1 := rfl
  rw [h5] at h1
  omega

/-! The numbers. -/
theorem zero_sz : Sz 1 0 1 := ⟨isQ_01, by show ((0 : Nat) : Int) < pw 1; have e : pw 1 = 1000000000 := rfl; omega, by have e : pw 1 = 1000000000 := rfl; omega⟩
theorem vq_z1 : vq 0 1 = 0 := vq_zero 1
theorem inn3 {k : Nat} {X S : Nat → Int} {Y T : Nat → Nat} (hm : ∀ j, j < 3 → Sz k (qmul (X j) (Y j) (S j) (T j)).1 (qmul (X j) (Y j) (S j) (T j)).2 ∧ vq (qmul (X j) (Y j) (S j) (T j)).1 (qmul (X j) (Y j) (S j) (T j)).2 = vq (X j) (Y j) * vq (S j) (T j)) (hk : 3 * k + 4 ≤ 24) :
    Sz (3 * k + 4) (inn X Y S T 3).1 (inn X Y S T 3).2 ∧ vq (inn X Y S T 3).1 (inn X Y S T 3).2 = vq (X 0) (Y 0) * vq (S 0) (T 0) + vq (X 1) (Y 1) * vq (S 1) (T 1) + vq (X 2) (Y 2) * vq (S 2) (T 2) := by
  obtain ⟨a0, b0⟩ := hm 0 (by omega)
  obtain ⟨a1, b1⟩ := hm 1 (by omega)
  obtain ⟨a2, b2⟩ := hm 2 (by omega)
  obtain ⟨c1, e1⟩ := add_sz zero_sz a0 (by omega)
  obtain ⟨c2, e2⟩ := add_sz c1 a1 (by omega)
  obtain ⟨c3, e3⟩ := add_sz c2 a2 (by omega)
  exact ⟨c3.up (by omega), e3.trans (by rw [e2, e1, b0, b1, b2, vq_z1]; grind)⟩

theorem numR_qv (z : Int) (d : Nat) : numR (qv z d) = z := zv_ng z
theorem denR_qv (z : Int) (d : Nat) : denR (qv z d) = d := nv_toNat d

/-- All that the law on vectors says of numbers. -/
structure VLaw (Za Zb Zs Zt : Nat → Int) (Da Db Ds Dt : Nat → Nat) (zr zx zy zz zp : Int) (dr dx dy dz dp : Nat) : Prop where
  s : ∀ j, j < 3 → (Zs j = (qmul (Za j) (Da j) zr dr).1 ∧ Ds j = (qmul (Za j) (Da j) zr dr).2) ∧ IsQ (Zs j) (Ds j)
  t : ∀ j, j < 3 → (Zt j = (qadd (Zs j) (Ds j) (Zb j) (Db j)).1 ∧ Dt j = (qadd (Zs j) (Ds j) (Zb j) (Db j)).2) ∧ IsQ (Zt j) (Dt j)
  d : ∀ j, j < 3 → Zs j = (qsub (Zt j) (Dt j) (Zb j) (Db j)).1 ∧ Ds j = (qsub (Zt j) (Dt j) (Zb j) (Db j)).2
  x : zx = (inn Zt Dt Zb Db 3).1 ∧ dx = (inn Zt Dt Zb Db 3).2 ∧ IsQ zx dx
  y : zy = (inn Za Da Zb Db 3).1 ∧ dy = (inn Za Da Zb Db 3).2 ∧ IsQ zy dy
  z : zz = (inn Zb Db Zb Db 3).1 ∧ dz = (inn Zb Db Zb Db 3).2 ∧ IsQ zz dz
  w : zy = (inn Zb Db Za Da 3).1 ∧ dy = (inn Zb Db Za Da 3).2
  p : zp = (qmul zr dr zy dy).1 ∧ dp = (qmul zr dr zy dy).2 ∧ IsQ zp dp
  e : zx = (qadd zp dp zz dz).1 ∧ dx = (qadd zp dp zz dz).2
theorem vlaw {Za Zb : Nat → Int} {Da Db : Nat → Nat} {zr : Int} {dr : Nat} (ha : ∀ j, j < 3 → Sz 1 (Za j) (Da j)) (hb : ∀ j, j < 3 → Sz 1 (Zb j) (Db j)) (hr : Sz 1 zr dr) :
    ∃ (Zs Zt : Nat → Int) (Ds Dt : Nat → Nat) (zx zy zz zp : Int) (dx dy dz dp : Nat), VLaw Za Zb Zs Zt Da Db Ds Dt zr zx zy zz zp dr dx dy dz dp := by
  have hs : ∀ j, j < 3 → Sz 2 (qmul (Za j) (Da j) zr dr).1 (qmul (Za j) (Da j) zr dr).2 ∧ vq (qmul (Za j) (Da j) zr dr).1 (qmul (Za j) (Da j) zr dr).2 = vq (Za j) (Da j) * vq zr dr := fun j hj => by have h := mul_sz (ha j hj) hr (by omega); exact h
  obtain ⟨Zs, hZs⟩ : ∃ Zs : Nat → Int, ∀ j, Zs j = (qmul (Za j) (Da j) zr dr).1 := ⟨fun j => _, fun _ => rfl⟩
  obtain ⟨Ds, hDs⟩ : ∃ Ds : Nat → Nat, ∀ j, Ds j = (qmul (Za j) (Da j) zr dr).2 := ⟨fun j => _, fun _ => rfl⟩
  have ks : ∀ j, j < 3 → Sz 2 (Zs j) (Ds j) ∧ vq (Zs j) (Ds j) = vq (Za j) (Da j) * vq zr dr := fun j hj => by rw [hZs, hDs]; exact hs j hj
  obtain ⟨Zt, hZt⟩ : ∃ Zt : Nat → Int, ∀ j, Zt j = (qadd (Zs j) (Ds j) (Zb j) (Db j)).1 := ⟨fun j => _, fun _ => rfl⟩
  obtain ⟨Dt, hDt⟩ : ∃ Dt : Nat → Nat, ∀ j, Dt j = (qadd (Zs j) (Ds j) (Zb j) (Db j)).2 := ⟨fun j => _, fun _ => rfl⟩
  have kt : ∀ j, j < 3 → Sz 4 (Zt j) (Dt j) ∧ vq (Zt j) (Dt j) = vq (Za j) (Da j) * vq zr dr + vq (Zb j) (Db j) := fun j hj => by
    obtain ⟨a, b⟩ := add_sz (ks j hj).1 (hb j hj) (by omega)
    rw [hZt, hDt]
    exact ⟨a, by rw [b, (ks j hj).2]⟩
  have kd : ∀ j, j < 3 → Zs j = (qsub (Zt j) (Dt j) (Zb j) (Db j)).1 ∧ Ds j = (qsub (Zt j) (Dt j) (Zb j) (Db j)).2 := fun j hj => by
    obtain ⟨a, b⟩ := sub_sz (kt j hj).1 (hb j hj) (by omega)
    exact isQ_inj (ks j hj).1.1 a.1 (by rw [b, (kt j hj).2, (ks j hj).2]; grind)
  obtain ⟨x1, x2⟩ := inn3 (X := Zt) (S := Zb) (Y := Dt) (T := Db) (k := 5) (fun j hj => by have h := mul_sz (kt j hj).1 (hb j hj) (by omega); exact h) (by omega)
  obtain ⟨y1, y2⟩ := inn3 (X := Za) (S := Zb) (Y := Da) (T := Db) (k := 2) (fun j hj => by have h := mul_sz (ha j hj) (hb j hj) (by omega); exact h) (by omega)
  obtain ⟨z1, z2⟩ := inn3 (X := Zb) (S := Zb) (Y := Db) (T := Db) (k := 2) (fun j hj => by have h := mul_sz (hb j hj) (hb j hj) (by omega); exact h) (by omega)
  obtain ⟨w1, w2⟩ := inn3 (X := Zb) (S := Za) (Y := Db) (T := Da) (k := 2) (fun j hj => by have h := mul_sz (hb j hj) (ha j hj) (by omega); exact h) (by omega)
  obtain ⟨p1, p2⟩ := mul_sz hr y1 (by omega)
  obtain ⟨e1, e2⟩ := add_sz p1 z1 (by omega)
  refine ⟨Zs, Zt, Ds, Dt, _, _, _, _, _, _, _, _, fun j hj => ⟨⟨hZs j, hDs j⟩, (ks j hj).1.1⟩, fun j hj => ⟨⟨hZt j, hDt j⟩, (kt j hj).1.1⟩, kd, ⟨rfl, rfl, x1.1⟩, ⟨rfl, rfl, y1.1⟩, ⟨rfl, rfl, z1.1⟩, ?_, ⟨rfl, rfl, p1.1⟩, ?_⟩
  · exact isQ_inj y1.1 w1.1 (by rw [y2, w2]; grind)
  · refine isQ_inj x1.1 e1.1 ?_
    rw [x2, e2, p2, y2, z2, (kt 0 (by omega)).2, (kt 1 (by omega)).2, (kt 2 (by omega)).2]
    grind

end Go.Proofs.YtijeplcjbhkkoaaGreatDoor
