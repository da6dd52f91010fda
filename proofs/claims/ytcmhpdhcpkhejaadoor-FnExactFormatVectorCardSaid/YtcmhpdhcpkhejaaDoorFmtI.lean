/- FormatInt of the reference. -/
import Derived.Test.YtcmhpdhcpkhejaaDoorTab
import Derived.Deep.RegionHeld3
import Derived.IntWalk
namespace Go.Proofs.YtcmhpdhcpkhejaaDoor
open Go.RowKit Tx Go.Lib

theorem str_snoc (l : List UInt8) (d : Nat) : bs l ++ bs [UInt8.ofNat d] = bs (l ++ [UInt8.ofNat d]) := bs_append _ _
theorem itoa_nonnegT (n : Nat) : itoa (n : Int) = decDigits n := by unfold itoa; rw [if_neg (by omega)]; rfl
theorem itoa_negT (n : Nat) (h : 0 < n) : itoa (-(n : Int)) = 45 :: decDigits n := by unfold itoa; rw [if_pos (by omega), Int.natAbs_neg]; rfl
theorem itoa_size (n : Int) (h0 : -9223372036854775808 ≤ n) (h1 : n ≤ 9223372036854775807) : (itoa n).length ≤ 21 := itoa_length_le n h0 h1

set_option maxHeartbeats 1000000 in
theorem sFormatInt_pos (w : World) (m : Nat) (hm : m ≤ 9223372036854775807) (t : ByteArray) (hT : Hid (t = bs (decDigits m))) : Calls Tryd.prog 36 #[.int .i64 m] w (RetT w t) := by
  have d0 : decide ((m : Int) < 0) = false := decide_eq_false (by omega)
  go_enter Tryd.func36, Tryd.ntmps36
  go_wp2_with fail
  go_loopw [0, 3] (fun n s wr => ∃ (q : Nat) (u : ByteArray), n = .int .i64 q ∧ s = .string u ∧ q ≤ m ∧ Hid (decDigits q ++ u.data.toList = decDigits m) ∧ Below w.heap.size w wr) (fun n _ _ => (RowKit.intOf n).toNat)
  case atStart => exact ⟨m, { data := #[] }, rfl, rfl, Nat.le_refl _, by unfold Hid; exact List.append_nil _, Below.refl _ _⟩
  case round =>
    obtain ⟨q, u, rfl, rfl, hqm, HQ, hb⟩ := hrel
    have hul : u.size ≤ 20 := by
      have h1 := congrArg List.length HQ.out
      rw [List.length_append, decDigits_length m, ← size_list] at h1
      have := nDigits_le20 m (by omega)
      omega
    by_cases hq : 9 < q
    · obtain ⟨z, hz⟩ : ∃ z : ByteArray, z = bs [UInt8.ofNat (48 + q % 10)] := ⟨_, rfl⟩
      have hcv := conv_byte wr (48 + (q : Int) % 10) (48 + q % 10) (by omega) (by omega)
      rw [← hz] at hcv
      have hsz : z.size + u.size ≤ 9223372036854775807 := by rw [hz, bs_size, List.length_singleton]; omega
      have d1 : decide ((9 : Int) < q) = true := decide_eq_true (by omega)
      have HN : Hid (decDigits (q / 10) ++ (z ++ u).data.toList = decDigits m) := by
        unfold Hid
        rw [← HQ.out, hz, ← bs_list u, bs_append, bs_data, bs_data, dec_big (u := q) (by omega), List.append_assoc]
      clear hz hul
      go_wp2
      go_roundw
      case rel => exact ⟨q / 10, _, by go_num, rfl, by omega, HN.out, hb.alloc hb.size _⟩
      case measure => (simp [RowKit.intOf]) <;> omega
    · obtain ⟨z, hz⟩ : ∃ z : ByteArray, z = bs [UInt8.ofNat (48 + q)] := ⟨_, rfl⟩
      have hcv := conv_byte wr (48 + (q : Int)) (48 + q) (by omega) (by omega)
      rw [← hz] at hcv
      have hsz : z.size + u.size ≤ 9223372036854775807 := by rw [hz, bs_size, List.length_singleton]; omega
      have d1 : decide ((9 : Int) < q) = false := decide_eq_false (by omega)
      have HF : Hid (z ++ u = t) := by
        unfold Hid
        rw [hT.out, ← HQ.out, hz, ← bs_list u, bs_append, bs_data, dec_small (by omega)]
      clear hz hul
      go_wp2
      go_ret
      exact retT HF.out (hb.alloc hb.size _)

set_option maxHeartbeats 1000000 in
theorem sFormatInt_small (w : World) (m : Nat) (hm : 0 < m) (hm9 : m ≤ 9) (n : Int) (hn : n = -(m : Int)) (t : ByteArray) (hT : Hid (t = bs (45 :: decDigits m))) : Calls Tryd.prog 36 #[.int .i64 n] w (RetT w t) := by
  obtain ⟨z, hz⟩ : ∃ z : ByteArray, z = bs [UInt8.ofNat (48 + m)] := ⟨_, rfl⟩
  have hcv := conv_byte w (48 - n) (48 + m) (by omega) (by omega)
  rw [← hz] at hcv
  have hsz : ({ data := #[45] } : ByteArray).size + z.size ≤ 9223372036854775807 := by rw [hz, bs_size]; simp; decide
  have HF : Hid ({ data := #[45] } ++ z = t) := by
    unfold Hid
    rw [hT.out, hz, show ({ data := #[45] } : ByteArray) = bs [45] from rfl, bs_append, dec_small (by omega)]
    rfl
  have d0 : decide (n < 0) = true := decide_eq_true (by omega)
  have hq : n.tdiv 10 = 0 := by
    have h9 : n = -1 ∨ n = -2 ∨ n = -3 ∨ n = -4 ∨ n = -5 ∨ n = -6 ∨ n = -7 ∨ n = -8 ∨ n = -9 := by omega
    rcases h9 with h | h | h | h | h | h | h | h | h <;> (rw [h]; rfl)
  have d1 : (n.tdiv 10 == 0) = true := by rw [hq]; rfl
  have b0 : -9 ≤ n := by omega
  have b1 : n < 0 := by omega
  clear hz hn hT hm hm9
  go_enter Tryd.func36, Tryd.ntmps36
  go_wp2
  go_ret
  exact retT HF.out ((Below.refl _ _).alloc (Nat.le_refl _) _)

theorem conv_at (w : World) (g : Nat) (z : Int) (d : Nat) (hz : z = (d : Int)) (hd : d < 256) (hc : w.cell? ⟨g, 0, none⟩ = some (.int .u8 z)) :
    (convert 59 9 (.slice (some ⟨g, 0, none⟩) 1 1)).run Tryd.prog w = .ok (.string (bs [UInt8.ofNat d])) w := by
  refine run_convert_bytes_back w 59 9 5 ⟨g, 0, none⟩ 1 [UInt8.ofNat d] Tryd.underlying59 Tryd.underlying5 Tryd.underlying9 ?_
  intro j hj
  obtain rfl : j = 0 := by simpa using hj
  subst hz
  rw [show (⟨g, 0, none⟩ : Addr).add 0 = ⟨g, 0, none⟩ from rfl, hc]
  simp [Nat.mod_eq_of_lt hd]
theorem lit_cell {w w' : World} {z : Value} {T : TypeId} (hb : Below (w.alloc (.cells #[z] T)).heap.size (w.alloc (.cells #[z] T)) w') : w'.cell? ⟨w.heap.size, 0, none⟩ = some z :=
  (hb.cell (p := ⟨w.heap.size, 0, none⟩) (by simp)).trans (by simp [go_sem])
theorem lit_celld {w w' : World} {z : Value} {T : TypeId} (hb : Below (w.alloc (.cells #[z] T)).drew.heap.size (w.alloc (.cells #[z] T)).drew w') : w'.cell? ⟨w.heap.size, 0, none⟩ = some z :=
  lit_cell (show Below (w.alloc (.cells #[z] T)).heap.size (w.alloc (.cells #[z] T)) w' from ⟨hb.os, hb.tape, hb.output, hb.size, hb.block⟩)
theorem unalloc_below {w w' : World} {o : Obj} (h : Below (w.alloc o).heap.size (w.alloc o) w') : Below w.heap.size w w' := ((Below.refl w.heap.size w).alloc (Nat.le_refl _) o).trans (h.mono (by simp))
theorem unalloc_belowd {w w' : World} {o : Obj} (h : Below (w.alloc o).drew.heap.size (w.alloc o).drew w') : Below w.drew.heap.size w.drew w' :=
  have h2 : Below w.heap.size w w' := unalloc_below (show Below (w.alloc o).heap.size (w.alloc o) w' from ⟨h.os, h.tape, h.output, h.size, h.block⟩)
  ⟨h2.os, h2.tape, h2.output, h2.size, h2.block⟩
theorem drew_bel {B : Nat} {a w : World} (h : Below B a w) : Below B a w.drew := ⟨h.os, h.tape, h.output, h.size, h.block⟩
theorem undrew_bel {B : Nat} {a w : World} (h : Below B a w.drew) : Below B a w := ⟨h.os, h.tape, h.output, h.size, h.block⟩

set_option maxHeartbeats 400000 in
set_option maxRecDepth 100000 in
theorem sFormatInt_step (w : World) (m : Nat) (hm : 10 ≤ m) (hm9 : m ≤ 9223372036854775808) (n : Int) (hn : n = -(m : Int)) (t : ByteArray) (hT : Hid (t = bs (45 :: decDigits m)))
    (ih : ∀ (w : World) (k : Int) (u : ByteArray), k = -((m / 10 : Nat) : Int) → u = bs (45 :: decDigits (m / 10)) → Calls Tryd.prog 36 #[.int .i64 k] w (RetT w u)) : Calls Tryd.prog 36 #[.int .i64 n] w (RetT w t) := by
  obtain ⟨k, hk⟩ : ∃ k : Int, k = -((m / 10 : Nat) : Int) := ⟨_, rfl⟩
  obtain ⟨u, hu⟩ : ∃ u : ByteArray, u = bs (45 :: decDigits (m / 10)) := ⟨_, rfl⟩
  obtain ⟨r, hr⟩ : ∃ r : Int, r = -((m % 10 : Nat) : Int) := ⟨_, rfl⟩
  obtain ⟨z, hz⟩ : ∃ z : ByteArray, z = bs [UInt8.ofNat (48 + m % 10)] := ⟨_, rfl⟩
  have hq1 : n.tdiv 10 = k := by rw [hn, hk, Int.neg_tdiv]; rfl
  have hr1 : n.tmod 10 = r := by rw [hn, hr, Int.neg_tmod]; rfl
  have CV := fun (W : World) (g : Nat) (hc : W.cell? ⟨g, 0, none⟩ = some (.int .u8 (48 - r))) => conv_at W g (48 - r) (48 + m % 10) (by omega) (by omega) hc
  rw [← hz] at CV
  have hcv := CV (w.alloc (.cells #[.int .u8 (48 - r)] 5)).drew w.heap.size (by simp [go_sem])
  have HCV := Lib.hid CV
  have hd1 := decDigits_length (m / 10)
  have hd2 := nDigits_le20 (m / 10) (by omega)
  have hsz : u.size + z.size ≤ 9223372036854775807 := by rw [hz, hu, bs_size, bs_size, List.length_singleton, List.length_cons]; omega
  have HF : Hid (u ++ z = t) := by
    unfold Hid
    rw [hT.out, hu, hz, bs_append, List.cons_append, dec_big (u := m) (by omega)]
  have HI := Lib.hid (fun (w : World) => ih w k u hk hu)
  have d0 : decide (n < 0) = true := decide_eq_true (by omega)
  have d1 : (k == 0) = false := beq_eq_false_iff_ne.2 (by omega)
  have b0 : -9223372036854775808 ≤ n := by omega
  have b1 : n < 0 := by omega
  have b2 : -9 ≤ r := by omega
  have b3 : r ≤ 0 := by omega
  have b4 : -922337203685477580 ≤ k := by omega
  have b5 : k < 0 := by omega
  clear CV hz hu hk hr hn hT hm hm9 ih hd1 hd2
  go_enter Tryd.func36, Tryd.ntmps36
  go_wp2_with fail
  have B0 := drew_bel (Below.refl w.heap.size w)
  have e1 : IntKind.i64.wrap k = k := IntWalk.i64_in _ (by omega)
  have e2 : IntKind.i64.wrap (48 - r) = 48 - r := IntWalk.i64_in _ (by omega)
  have e3 : IntKind.u8.wrap (48 - r) = 48 - r := IntWalk.u8_in _ (by omega)
  go_region_with (first | (go_at_call 36; refine (HI.out _).mono ?_; rintro e w1 ⟨rfl, hb⟩; (first | (with_reducible have hk := lit_celld hb; have hcw := HCV.out w1 _ hk; clear hk) | (have hcw := HCV.out (w1.alloc (.cells #[.int .u8 (48 - r)] 5)) w1.heap.size (by simp [go_sem]))); (first | (with_reducible replace hb := unalloc_belowd hb) | skip); replace B0 := B0.trans (hb.mono B0.size); clear hb))
  all_goals
    go_wp2
    go_ret
    first | exact retT HF.out B0 | exact retT HF.out (B0.alloc B0.size _) | exact retT HF.out (drew_bel ((undrew_bel B0).alloc B0.size _))

theorem sFormatInt_neg (m : Nat) : 0 < m → m ≤ 9223372036854775808 → ∀ (w : World) (n : Int) (t : ByteArray), n = -(m : Int) → t = bs (45 :: decDigits m) → Calls Tryd.prog 36 #[.int .i64 n] w (RetT w t) := by
  induction m using Nat.strongRecOn with
  | _ m ih =>
    intro h0 h1 w n t hn ht
    by_cases h9 : m ≤ 9
    · exact sFormatInt_small w m h0 h9 n hn t ht
    · exact sFormatInt_step w m (by omega) h1 n hn t ht (ih (m / 10) (by omega) (by omega) (by omega))
theorem sFormatInt_c (w : World) (n : Int) (h0 : -9223372036854775808 ≤ n) (h1 : n ≤ 9223372036854775807) (t : ByteArray) (hT : Hid (t = bs (itoa n))) : Calls Tryd.prog 36 #[.int .i64 n] w (RetT w t) := by
  rcases Int.lt_or_le n 0 with h | h
  · exact sFormatInt_neg n.natAbs (by omega) (by omega) w n t (by omega) (by rw [hT.out]; unfold itoa; rw [if_pos h])
  · obtain ⟨m, rfl⟩ := Int.eq_ofNat_of_zero_le h
    exact sFormatInt_pos w m (by omega) t (by unfold Hid; rw [hT.out, itoa_nonnegT])

end Go.Proofs.YtcmhpdhcpkhejaaDoor
