/- ParseVector, of the program and of the reference. -/
import Derived.Test.YtijeplcjbhkkoaaGreatDoorVecX
import Derived.Test.YtijeplcjbhkkoaaGreatDoorParR
namespace Go.Proofs.YtijeplcjbhkkoaaGreatDoor
open Go.RowKit Lm Tx

/-- What ParseRat gives, as an element. -/
noncomputable def pRc (p : ByteArray) : Rc := ⟨pRg p, pRn p, pRd p⟩
theorem pRc_ok {p : ByteArray} (h : pRb p = true) : OkRc (pRc p) ∧ fRc (pRc p) = p := by
  obtain ⟨e1, e2, e3, _⟩ := ansR_yes h
  obtain ⟨_, _, h3, h4⟩ := (pRb_iff p).1 h
  unfold pRc
  rw [← e1, ← e2, ← e3]
  refine ⟨h3, ?_⟩
  unfold fRc
  rw [h4, bs_list]
/-- The pieces of the text. -/
def pvS (s : ByteArray) : List ByteArray := pcs s spS
noncomputable def pvB (s : ByteArray) : Bool := s.toList.isEmpty || (decide ((pvS s).length ≤ 24) && (pvS s).all pRb)
noncomputable def pvN (s : ByteArray) : Nat := if s.toList.isEmpty then 0 else if pvB s then (pvS s).length else 0
noncomputable def pvR (s : ByteArray) (i : Nat) : Rc := pRc (sat (pvS s) i)
theorem pv_empty {s : ByteArray} (h : s.toList.isEmpty = true) : pvB s = true ∧ pvN s = 0 := by
  unfold pvB pvN; rw [h]; exact ⟨rfl, rfl⟩
theorem all_sat {xs : List ByteArray} (h : ∀ j, j < xs.length → pRb (sat xs j) = true) : xs.all pRb = true := by
  rw [List.all_eq_true]
  intro x hx
  obtain ⟨j, hj, rfl⟩ := List.mem_iff_getElem.1 hx
  have := h j hj
  rwa [sat_of_lt hj] at this
theorem pv_yes {s : ByteArray} (hE : s.toList.isEmpty = false) (h24 : (pvS s).length ≤ 24) (h : ∀ j, j < (pvS s).length → pRb (sat (pvS s) j) = true) : pvB s = true ∧ pvN s = (pvS s).length := by
  have e : pvB s = true := by unfold pvB; rw [hE, all_sat h, decide_eq_true h24]; rfl
  refine ⟨e, ?_⟩
  unfold pvN; rw [hE, e]; rfl
theorem pv_no {s : ByteArray} (hE : s.toList.isEmpty = false) (h : pvB s = false) : pvN s = 0 := by unfold pvN; rw [hE, h]; rfl
theorem pv_no1 {s : ByteArray} (hE : s.toList.isEmpty = false) {i : Nat} (hi : i < (pvS s).length) (h : pRb (sat (pvS s) i) = false) : pvB s = false ∧ pvN s = 0 := by
  have e : pvB s = false := by
    unfold pvB
    rw [hE, Bool.false_or, Bool.and_eq_false_iff]
    right
    rw [Bool.eq_false_iff]
    intro e
    rw [List.all_eq_true] at e
    have := e _ (List.getElem_mem hi)
    rw [sat_of_lt hi] at h
    rw [h] at this; exact absurd this (by simp)
  exact ⟨e, pv_no hE e⟩
theorem pv_no2 {s : ByteArray} (hE : s.toList.isEmpty = false) (h : 24 < (pvS s).length) : pvB s = false ∧ pvN s = 0 := by
  have e : pvB s = false := by
    unfold pvB
    rw [hE, Bool.false_or, Bool.and_eq_false_iff]
    left
    exact decide_eq_false (by omega)
  exact ⟨e, pv_no hE e⟩
theorem isIn_sp (c : UInt8) : isIn spS c = (c == 32) := by
  unfold isIn spS
  show [32].contains c = _
  rw [Bool.eq_iff_iff]
  simp
theorem map_bs (l : List (List UInt8)) : (l.map bs).map (·.data.toList) = l := by
  rw [List.map_map]
  have e : (fun x : ByteArray => x.data.toList) ∘ bs = id := by funext x; exact bs_data x
  rw [e, List.map_id]
theorem join_pvS (s : ByteArray) : joinB (pvS s) spS = s := by
  unfold joinB pvS pcs
  rw [map_bs]
  have e : isIn spS = (· == 32) := by funext c; exact isIn_sp c
  rw [e]
  have := join_spl 32 s.data.toList []
  show bs (Lib.join (spl (· == 32) [] s.data.toList) [32]) = s
  rw [this, List.nil_append, bs_list]
theorem pvS_size (s : ByteArray) (i : Nat) (hi : i < (pvS s).length) : (sat (pvS s) i).size ≤ s.size := by
  rw [sat_of_lt hi]
  have hm := List.getElem_mem hi
  unfold pvS pcs at hm
  obtain ⟨x, hx, he⟩ := List.mem_map.1 hm
  have := spl_piece_len _ _ _ x hx
  have e2 : ((pvS s)[i]).size = x.length := by
    rw [show (pvS s)[i] = bs x from he.symm, bs_size]
  rw [e2, size_list]
  simpa using this
theorem fVs_take {R : Nat → Rc} {xs : List ByteArray} {n : Nat} (hn : n ≤ xs.length) (h : ∀ i, i < n → fRc (R i) = sat xs i) : fVs R n = xs.take n := by
  induction n with
  | zero => rfl
  | succ n ih =>
    simp only [fVs]
    rw [ih (by omega) fun i hi => h i (by omega), h n (by omega), take_snocS xs n (by omega)]
theorem fV_back {s : ByteArray} (h24 : (pvS s).length ≤ 24) (h : ∀ j, j < (pvS s).length → pRb (sat (pvS s) j) = true) : OkV (pvS s).length (pvR s) ∧ fV (pvS s).length (pvR s) = s := by
  have hok : OkV (pvS s).length (pvR s) := ⟨h24, fun i hi => (pRc_ok (h i hi)).1⟩
  refine ⟨hok, ?_⟩
  rw [fV_yes hok, fVs_take (R := pvR s) (xs := pvS s) (Nat.le_refl _) (fun i hi => (pRc_ok (h i hi)).2), List.take_length, join_pvS]

/-- append(v, r) of an element that a call has made behind w, with all that is known of it. -/
theorem app_all {w w1 : World} {ops : Array Oper} {rest : List Oper} {o : Oper} {a : Act} {Q : Exit → Act → World → Prop} (hgd : o.guard = none) (x y : Operand)
    (ho : o.op = .call { callee := .builtin .append, args := #[x, y], argTypes := #[38, 38] })
    {v u d : Value} {lo hi n : Nat} {E : Nat → Ent} {R : Nat → Rc} {s : Bool} (hx : a.eval x = v) (hy : a.eval y = .slice (some ⟨w1.heap.size, 0, none⟩) 1 1) (h1 : VecF w lo hi v n E R) (hlo : lo ≤ w.heap.size) (hb : Below w.heap.size w w1)
    (hs : s = (R n).s) (ho1 : Own w1 w.heap.size u (R n).xs) (ho2 : Own w1 w.heap.size d (R n).ys) (ha : Apart u d) (hlen : n ≤ 1000000000000)
    (h : ∀ v' w', Vec w' lo w'.heap.size v' (n + 1) R → Below lo w w' → (w1.alloc (.cells #[.bool s, u, d] 27)).grownBy w' v.ownBlock → (v'.ownBlock = v.ownBlock ∨ v'.ownBlock = some (w1.heap.size + 1)) → wpList Tryz.prog ops Q rest (a.put o.dst v') w') :
    wpList Tryz.prog ops Q (o :: rest) a (w1.alloc (.cells #[.bool s, u, d] 27)) := by
  have B1 : Below w.heap.size w (w1.alloc (.cells #[.bool s, u, d] 27)) := hb.alloc hb.size _
  obtain ⟨c0, c1, c2⟩ : (w1.alloc (.cells #[.bool s, u, d] 27)).cell? ⟨w1.heap.size, 0, none⟩ = some (.bool s) ∧ (w1.alloc (.cells #[.bool s, u, d] 27)).cell? ⟨w1.heap.size, 1, none⟩ = some u ∧ (w1.alloc (.cells #[.bool s, u, d] 27)).cell? ⟨w1.heap.size, 2, none⟩ = some d := by simp [go_sem]
  have hsz := B1.size
  have hw1 : (w1.alloc (.cells #[.bool s, u, d] 27)).heap.size = w1.heap.size + 1 := by simp
  have hl1 : ∀ k, u.ownBlock = some k → w.heap.size ≤ k ∧ k < w1.heap.size := ho1.lt
  have hl2 : ∀ k, d.ownBlock = some k → w.heap.size ≤ k ∧ k < w1.heap.size := ho2.lt
  have htop := h1.top
  obtain ⟨i, hi', hz, hsz2, hby⟩ := info_parts Tryz.infoRat
  have hv := h1.below B1 h1.top
  refine wpList_plain hgd fun K hK => ?_
  obtain ⟨v', w', hr, r2, r3, _, r5⟩ := run_append_own_at (P := Tryz.prog) (w1.alloc (.cells #[.bool s, u, d] 27)) lo 38 o.type 27 i _ 3 56 Tryz.underlying38 hi' hz hsz2 hby rfl (by decide) v n (cellsF n E) hv.row
    ⟨w1.heap.size, 0, none⟩ 1 1 (Ent.mk s u d).cs rfl (cell_three c0 c1 c2) (by
      intro x hx
      simp only [Ent.cs, List.mem_cons, List.not_mem_nil, or_false] at hx
      rcases hx with rfl | rfl | rfl
      · rfl
      · exact own_oneCell ho1
      · exact own_oneCell ho2) (by unfold maxLen; omega) (by omega) (by omega)
  have hpush := hv.push (e := ⟨s, u, d⟩) ⟨hs, (ho1.alloc _).mono hlo, (ho2.alloc _).mono hlo, fun k hk => by have := hl1 k hk; omega, fun k hk => by have := hl2 k hk; omega⟩ ha (fun k hk => Nat.le_trans htop (hl1 k hk).1) (fun k hk => Nat.le_trans htop (hl2 k hk).1) r2 r3 r5
  have hbl : Below lo w w' := (B1.mono hlo).grown r3 (by omega) fun k hk => (hv.row.lt k hk).1
  rw [hw1] at r5
  unfold Oper.wp
  simp only [execOp, ho, resolve, invoke, builtin, Sem.run_bind, Sem.run_pure, Result.andThen_ok, List.map_toArray, List.map_cons, List.map_nil, hx, hy, hr]
  exact hK _ _ (h v' w' ⟨_, hpush⟩ hbl r3 r5)

theorem ParseRat_t (w : World) (p : ByteArray) (r : Rc) (hl : p.size ≤ 1048576) (ht : Tabs w) (hs : Shp w) (h : pRb p = true) (hr : r = pRc p) : Calls Tryz.prog 8 #[.string p] w (RetRB w r.s r.xs r.ys true) := by
  have := ParseRat_c w p hl ht hs
  rw [h] at this
  subst hr; exact this

theorem ParseRat_f (w : World) (p : ByteArray) (r : Rc) (hl : p.size ≤ 1048576) (ht : Tabs w) (hs : Shp w) (h : pRb p = false) (hr : r = pRc p) : Calls Tryz.prog 8 #[.string p] w (RetRB w r.s r.xs r.ys false) := by
  have := ParseRat_c w p hl ht hs
  rw [h] at this
  subst hr; exact this

set_option maxHeartbeats 2000000 in
set_option maxRecDepth 100000 in
theorem ParseVector_e (w : World) (s : ByteArray) (hE : s.toList.isEmpty = true) : Calls Tryz.prog 20 #[.string s] w (RetVB w (pvN s) (pvR s) (pvB s)) := by
  have HP := Lib.hid (pv_empty hE)
  go_enter Tryz.func20, Tryz.ntmps20
  go_wp2
  go_ret2
  exact retVB (Vec.nil _ _ (Nat.le_refl _)) (Nat.le_refl _) HP.out.2.symm (fun _ _ => rfl) HP.out.1.symm (Below.refl _ _)

set_option maxHeartbeats 2000000 in
set_option maxRecDepth 100000 in
theorem ParseVector_f (w : World) (s : ByteArray) (hl : s.size ≤ 1048576) (ht : Tabs w) (hs : Shp w) (hE : s.toList.isEmpty = false) (N : Nat) (b : Bool) (hN : N = pvN s) (hb : b = pvB s) : Calls Tryz.prog 20 #[.string s] w (RetVB w N (pvR s) b) := by
  have HE := Lib.hid hE
  have HN := Lib.hid hN
  have HB := Lib.hid hb
  have HT := Lib.hid ht
  have HS := Lib.hid hs
  clear ht hs
  clear hN hb
  obtain ⟨xs, hxs⟩ : ∃ xs, xs = pvS s := ⟨_, rfl⟩
  have HX := Lib.hid hxs
  have hsz := Lib.hid (pvS_size s)
  have hpl := pcs_len s spS
  have hxl : xs.length ≤ 1048577 := by rw [hxs]; unfold pvS; omega
  clear hxs hpl
  go_enter Tryz.func20, Tryz.ntmps20
  go_wp2_with fail
  refine (splitAny_c _ s spS xs HX.out hl).mono ?_
  rintro e w1 ⟨v, rfl, ho, hb⟩
  have HF0 := Lib.hid (VecF.nil w1 (lo := w.heap.size) (hi := w1.heap.size) (fun _ => ⟨false, .slice none 0 0, .slice none 0 0⟩) (fun i => pRc (sat xs i)) (Nat.le_refl _))
  have HAP0 : Hid (Apart (.slice none 0 0) v) := fun k hk => (nomatch hk)
  obtain ⟨ao, cap, rfl, g1, -, -, -, -⟩ := ho.form
  have HO := Lib.hid ho
  clear ho
  go_wp2
  go_loopw [4, 14] (fun v k wr => ∃ (i : Nat) (E : Nat → Ent) (bo : Option Addr) (bc : Nat), i ≤ xs.length ∧ i ≤ 24 ∧ k = .int .i64 i ∧ v = .slice bo i bc ∧ Hid (∀ j, j < i → pRb (sat xs j) = true) ∧ Hid (VecF wr w.heap.size wr.heap.size (.slice bo i bc) i E (fun i => pRc (sat xs i))) ∧ Hid (OwnS wr w.heap.size (.slice ao xs.length cap) xs) ∧ Hid (Apart (.slice bo i bc) (.slice ao xs.length cap)) ∧ Below w.heap.size w wr) (fun _ k _ => xs.length - (intOf k).toNat)
  case atStart => exact ⟨0, _, _, _, by omega, by omega, rfl, rfl, fun j hj => absurd hj (by omega), HF0.out, HO.out, HAP0.out, hb⟩
  case round =>
    clear HF0 HAP0 hb HO
    obtain ⟨i, E, bo, bc, hi, h24, rfl, rfl, HOK, HF, HO, HAP, hb⟩ := hrel
    by_cases hlt : i < xs.length
    · obtain ⟨g, rfl, -, hgs⟩ := HO.out.addr hlt
      have k1 := HO.out.cell i hlt
      have t1 : (i : Int) < xs.length := by omega
      obtain ⟨p, hp⟩ : ∃ p, p = sat xs i := ⟨_, rfl⟩
      have hpz : p.size ≤ 1048576 := by
        have := hsz.out i (by rw [← HX.out]; exact hlt)
        rw [← HX.out, ← hp] at this; omega
      rw [← hp] at k1
      have HP := Lib.hid hp
      clear hp
      obtain ⟨r, hr⟩ : ∃ r, r = pRc p := ⟨_, rfl⟩
      have HR := Lib.hid hr
      clear hr
      have stop : pRb p = false → Hid (pvB s = false ∧ pvN s = 0) := fun hf => pv_no1 HE.out (i := i) (by rw [← HX.out]; exact hlt) (by rw [← HX.out, ← HP.out]; exact hf)
      have HSTOP := Lib.hid stop
      clear stop
      by_cases hok : pRb p = true
      · have HK := Lib.hid hok
        clear hok HSTOP
        go_wp2_with fail
        refine (ParseRat_t _ p r hpz (HT.out.below hb (Nat.le_refl _)) (HS.out.below hb (Nat.le_refl _)) HK.out HR.out).mono ?_
        rintro e2 w2 ⟨u, d, rfl, ho1, ho2, ha, hb3⟩
        obtain ⟨ua, uc, rfl, -, -, -, -, -⟩ := ho1.form
        obtain ⟨da, dc, rfl, -, -, -, -, -⟩ := ho2.form
        have BA := alloc_bel w2 (.cells #[.bool r.s, .slice ua r.xs.length uc, .slice da r.ys.length dc] 27)
        obtain ⟨c0, c1, c2⟩ : (w2.alloc (.cells #[.bool r.s, .slice ua r.xs.length uc, .slice da r.ys.length dc] 27)).cell? ⟨w2.heap.size, 0, none⟩ = some (.bool r.s) ∧ (w2.alloc (.cells #[.bool r.s, .slice ua r.xs.length uc, .slice da r.ys.length dc] 27)).cell? ⟨w2.heap.size, 1, none⟩ = some (.slice ua r.xs.length uc) ∧ (w2.alloc (.cells #[.bool r.s, .slice ua r.xs.length uc, .slice da r.ys.length dc] 27)).cell? ⟨w2.heap.size, 2, none⟩ = some (.slice da r.ys.length dc) := by simp [go_sem]
        have hb4 := hb3.trans (BA.mono hb3.size)
        have HN0 := Lib.hid (And.intro (And.intro (ho1.below BA (Nat.le_refl _)) (ho2.below BA (Nat.le_refl _))) (And.intro ha hb4))
        have B5 := hb.trans (hb4.mono hb.size)
        have HO5 := Lib.hid (HO.out.below hb4 (Nat.le_refl _))
        have er : r = pRc (sat xs i) := by rw [← HP.out]; exact HR.out
        have HER := Lib.hid er
        clear ho1 ho2 ha hb3 BA er k1 hb4
        by_cases h4 : i < 24
        · have d4 : decide ((24 : Int) ≤ i) = false := decide_eq_false (by omega)
          go_upto_region 10 with fail
          generalize w2.alloc (.cells #[.bool r.s, .slice ua r.xs.length uc, .slice da r.ys.length dc] 27) = wx at *
          have HA : Hid (Own wx wr.heap.size (.slice ua r.xs.length uc) (pRc (sat xs i)).xs ∧ Own wx wr.heap.size (.slice da r.ys.length dc) (pRc (sat xs i)).ys) := by
            unfold Hid
            rw [← HER.out]; exact HN0.out.1
          go_wp2_with (at_builtin; refine app_all (w := wr) rfl _ _ rfl rfl rfl HF.out hb.size HN0.out.2.2 (congrArg Rc.s HER.out) HA.out.1 HA.out.2 HN0.out.2.1 (by omega) ?_)
          intro v' w3 hv hbl hg hat
          have HOK2 : Hid (∀ j, j < i + 1 → pRb (sat xs j) = true) := fun j hj => by
            by_cases hji : j = i
            · subst hji; rw [← HP.out]; exact HK.out
            · exact HOK.out j (by omega)
          have hgx : g < wx.heap.size := Nat.lt_of_lt_of_le hgs HN0.out.2.2.size
          have HO6 := Lib.hid ((HO5.out.alloc _).grown hg (HAP.out.symm.ne))
          have HAP6 : Hid (Apart v' (.slice (some ⟨g, 0, none⟩) xs.length cap)) := by
            intro k hk hk2
            rcases hat with h | h
            · exact HAP.out k (h ▸ hk) hk2
            · rw [h] at hk
              have e1 : wx.heap.size + 1 = k := Option.some.inj hk
              have e2 : g = k := Option.some.inj hk2
              omega
          have B7 := hb.trans hbl
          obtain ⟨G, hG⟩ := hv
          obtain ⟨bo2, bc2, rfl, -, -, -⟩ := hG.form
          have HVF := Lib.hid hG
          clear hG hbl hg hat HN0 HA HF B5 HO5 HAP HO
          go_wp2
          go_roundw
          case rel => exact ⟨i + 1, G, bo2, bc2, by omega, by omega, by go_num, rfl, HOK2.out, HVF.out, HO6.out, HAP6.out, B7⟩
          case measure => (simp [intOf]) <;> omega
        · have d4 : decide ((24 : Int) ≤ i) = true := decide_eq_true (by omega)
          have HZ := Lib.hid (pv_no2 HE.out (by rw [← HX.out]; omega))
          go_wp2
          go_ret2
          exact retVB (Vec.nil _ _ (Nat.le_refl _)) (Nat.le_refl _) (HZ.out.2.symm.trans HN.out.symm) (fun _ _ => rfl) (HZ.out.1.symm.trans HB.out.symm) B5
      · have HZ := HSTOP.out (by simpa using hok)
        have HK := Lib.hid (show pRb p = false by simpa using hok)
        clear hok HSTOP
        go_wp2_with fail
        refine (ParseRat_f _ p r hpz (HT.out.below hb (Nat.le_refl _)) (HS.out.below hb (Nat.le_refl _)) HK.out HR.out).mono ?_
        rintro e2 w2 ⟨u, d, rfl, ho1, ho2, ha, hb3⟩
        obtain ⟨ua, uc, rfl, -, -, -, -, -⟩ := ho1.form
        obtain ⟨da, dc, rfl, -, -, -, -, -⟩ := ho2.form
        have B5 := hb.trans (hb3.mono hb.size)
        have HO1 := Lib.hid (And.intro ho1 ho2)
        clear ho1 ho2 ha hb3 k1
        go_wp2
        go_ret2
        exact retVB (Vec.nil _ _ (Nat.le_refl _)) (Nat.le_refl _) (HZ.out.2.symm.trans HN.out.symm) (fun _ _ => rfl) (HZ.out.1.symm.trans HB.out.symm) (B5.alloc B5.size _)
    · obtain rfl : i = xs.length := by omega
      have HZ := Lib.hid (pv_yes HE.out (by rw [← HX.out]; exact h24) (by rw [← HX.out]; exact HOK.out))
      go_wp2
      go_ret2
      exact retVB ⟨_, HF.out⟩ (Nat.le_refl _) (by rw [HN.out, HZ.out.2, ← HX.out]) (fun j _ => by unfold pvR; rw [← HX.out]) (HZ.out.1.symm.trans HB.out.symm) hb

theorem ParseVector_c (w : World) (s : ByteArray) (hl : s.size ≤ 1048576) (ht : Tabs w) (hs : Shp w) : Calls Tryz.prog 20 #[.string s] w (RetVB w (pvN s) (pvR s) (pvB s)) := by
  rcases hE : s.toList.isEmpty with _ | _
  · exact ParseVector_f w s hl ht hs hE _ _ rfl rfl
  · exact ParseVector_e w s hE

end Go.Proofs.YtijeplcjbhkkoaaGreatDoor
