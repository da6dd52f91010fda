/- The statements' marks on slices of strings: markText, markStringS, heldStringS. -/
import Derived.Test.YtfchcpahaapgdaaLawS
import Derived.Test.YtfchcpahaapgdaaTxtN
import Derived.Lib.ItoaLen
import Derived.Deep.RegionHeld3
namespace Go.Proofs.Ytfchcpahaapgdaa
open Go.RowKit Tx Go.Lib

/-- The mark k. -/
def mkT (k : Int) : ByteArray := if k ≤ 0 then { data := #[109, 48] } else bs (109 :: decDigits k.toNat)

/-- One byte, made a string. -/
theorem conv_byte (w : World) (z : Int) (d : Nat) (hz : z = (d : Int)) (hd : d < 256) :
    (convert 38 9 (.slice (some ⟨w.heap.size, 0, none⟩) 1 1)).run Try.prog (w.alloc (.cells #[.int .u8 z] 5)) = .ok (.string (bs [UInt8.ofNat d])) (w.alloc (.cells #[.int .u8 z] 5)) := by
  refine run_convert_bytes_back (w.alloc (.cells #[.int .u8 z] 5)) 38 9 5 ⟨w.heap.size, 0, none⟩ 1 [UInt8.ofNat d] Try.underlying38 Try.underlying5 Try.underlying9 ?_
  intro j hj
  obtain rfl : j = 0 := by simpa using hj
  subst hz
  simp [Addr.add, Nat.mod_eq_of_lt hd]
set_option maxHeartbeats 1000000 in
theorem markText_c (w : World) (k : Int) (t : ByteArray) (ht : Hid (t = mkT k)) (hk : k ≤ 17592186044415) :
    Calls Try.prog 29 #[.int .i64 k] w (RetT w t) := by
  by_cases h0 : k ≤ 0
  · have HT : Hid (t = { data := #[109, 48] }) := by unfold Hid; rw [ht.out]; unfold mkT; rw [if_pos h0]
    have d0 : decide (k ≤ 0) = true := decide_eq_true h0
    go_enter Try.func29, Try.ntmps29
    go_wp2
    go_ret
    exact retT HT.out.symm (Below.refl _ _)
  · have d0 : decide (k ≤ 0) = false := decide_eq_false h0
    obtain ⟨m, rfl⟩ := Int.eq_ofNat_of_zero_le (show 0 ≤ k by omega)
    have HT : Hid (t = bs (109 :: decDigits m)) := by unfold Hid; rw [ht.out]; unfold mkT; rw [if_neg h0]; rfl
    go_enter Try.func29, Try.ntmps29
    go_wp2_with fail
    go_loopw [0, 3] (fun n s wr => ∃ (q : Nat) (u : ByteArray), n = .int .i64 q ∧ s = .string u ∧ q ≤ m ∧ Hid ((if q = 0 then [] else decDigits q) ++ u.data.toList = decDigits m) ∧ Below w.heap.size w wr) (fun n _ _ => (RowKit.intOf n).toNat)
    case atStart => exact ⟨m, { data := #[] }, rfl, rfl, Nat.le_refl _, by unfold Hid; rw [if_neg (by omega)]; exact List.append_nil _, Below.refl _ _⟩
    case round =>
      obtain ⟨q, u, rfl, rfl, hqm, HQ, hb⟩ := hrel
      by_cases hq : 0 < q
      · obtain ⟨z, hz⟩ : ∃ z : ByteArray, z = bs [UInt8.ofNat (48 + q % 10)] := ⟨_, rfl⟩
        have hcv := conv_byte wr (48 + (q : Int) % 10) (48 + q % 10) (by omega) (by omega)
        rw [← hz] at hcv
        have hul : u.size ≤ 20 := by
          have h1 := congrArg List.length HQ.out
          rw [List.length_append, decDigits_length, ← size_list] at h1
          have := nDigits_le20 m (by omega)
          omega
        have hsz : z.size + u.size ≤ 9223372036854775807 := by rw [hz, bs_size]; simp; omega
        have d1 : decide ((0 : Int) < q) = true := decide_eq_true (by omega)
        have HN : Hid ((if q / 10 = 0 then [] else decDigits (q / 10)) ++ (z ++ u).data.toList = decDigits m) := by
          have h1 := HQ.out
          rw [if_neg (by omega)] at h1
          unfold Hid
          rw [← h1, hz, ← bs_list u, bs_append, bs_data, bs_data]
          by_cases h10 : q < 10
          · rw [if_pos (by omega), dec_small h10, show q % 10 = q by omega]; rfl
          · rw [if_neg (by omega), dec_big h10, List.append_assoc]
        clear hz hul
        go_wp2
        go_roundw
        case rel => exact ⟨q / 10, _, by go_num, rfl, by omega, HN.out, hb.alloc hb.size _⟩
        case measure => (simp [RowKit.intOf]) <;> omega
      · obtain rfl : q = 0 := by omega
        have HE : Hid (u = bs (decDigits m)) := by
          have h1 := HQ.out
          rw [if_pos rfl, List.nil_append] at h1
          unfold Hid
          rw [← h1, bs_list]
        have hul : u.size ≤ 20 := by
          rw [HE.out, bs_size, decDigits_length]
          exact nDigits_le20 m (by omega)
        have hsz : ({ data := #[109] } : ByteArray).size + u.size ≤ 9223372036854775807 := by show 1 + _ ≤ _; omega
        have HF : Hid ({ data := #[109] } ++ u = t) := by
          unfold Hid
          rw [HT.out, HE.out, show ({ data := #[109] } : ByteArray) = bs [109] from rfl, bs_append]; rfl
        clear HQ
        go_wp2
        go_ret
        exact retT HF.out hb

/-- The marks k, k + 1, .. -/
def mks (k : Int) (n : Nat) : List ByteArray := (List.range n).map (fun i => mkT (k + (i : Nat)))
theorem mks_length (k : Int) (n : Nat) : (mks k n).length = n := by simp [mks]
theorem mks_succ (k : Int) (n : Nat) : mks k (n + 1) = mks k n ++ [mkT (k + n)] := by simp [mks, List.range_succ]
theorem mks_sat (k : Int) (n i : Nat) (h : i < n) : sat (mks k n) i = mkT (k + i) := by simp [mks, sat, h]
theorem set_midS {a b : List ByteArray} {i : Nat} (ha : a.length = i) (h : i < b.length) (u : ByteArray) : (a ++ b.drop i).set i u = a ++ [u] ++ b.drop (i + 1) := by
  subst ha
  rw [List.set_append_right _ _ (Nat.le_refl _), Nat.sub_self, List.drop_eq_getElem_cons h, List.set_cons_zero, List.append_assoc]
  rfl
def RetMarkS (w : World) (base : Nat) (v : Value) (k : Int) (n : Nat) (e : Ending) (w' : World) : Prop := e = .returned (.int .i64 (k + n)) ∧ OwnS w' base v (mks k n) ∧ w.grownBy w' v.ownBlock
theorem retMarkS {w w' : World} {base : Nat} {v : Value} {k m : Int} {n : Nat} (h : m = k + n) (ho : OwnS w' base v (mks k n)) (hg : w.grownBy w' v.ownBlock) : RetMarkS w base v k n (.returned (.int .i64 m)) w' := ⟨by rw [h], ho, hg⟩
theorem grown_below {w w' : World} {row : Option Nat} (h : Below w.heap.size w w') : w.grownBy w' row := ⟨h.os, h.tape, h.output, h.size, fun i hi _ => h.block i hi⟩

set_option maxHeartbeats 1000000 in
theorem markStringS_c (w : World) (b1 : Nat) (v1 : Value) (xs : List ByteArray) (k : Int) (h1 : OwnS w b1 v1 xs) (hl : xs.length ≤ 8796093022207) (hk0 : 0 ≤ k) (hk1 : k ≤ 8796093022207) :
    Calls Try.prog 17 #[v1, .int .i64 k] w (RetMarkS w b1 v1 k xs.length) := by
  obtain ⟨ao, cap, rfl, -, f2, f3, -, -⟩ := h1.form
  have H1 := Lib.hid h1
  clear h1 f3
  go_enter Try.func17, Try.ntmps17
  go_wp2
  go_loopw [1, 5] (fun kk k' wr => ∃ (i : Nat), i ≤ xs.length ∧ k' = .int .i64 i ∧ kk = .int .i64 (k + i) ∧ Hid (OwnS wr b1 (.slice ao xs.length cap) (mks k i ++ xs.drop i)) ∧ Hid (w.grownBy wr (Value.slice ao xs.length cap).ownBlock)) (fun _ k _ => xs.length - (RowKit.intOf k).toNat)
  case atStart => exact ⟨0, by omega, rfl, by simp, by unfold Hid; simpa [mks] using H1.out, ⟨rfl, rfl, rfl, Nat.le_refl _, fun _ _ _ => rfl⟩⟩
  case round =>
    obtain ⟨i, hi, rfl, rfl, HO, HG⟩ := hrel
    by_cases hlt : i < xs.length
    · obtain ⟨t, ht⟩ : ∃ t, t = mkT (k + i) := ⟨_, rfl⟩
      have HT := Lib.hid ht
      clear ht
      have t1 : (i : Int) < xs.length := by omega
      go_wp2_with fail
      refine (markText_c _ _ t HT (by omega)).mono ?_
      rintro e w1 ⟨rfl, hb1⟩
      have HO1 := Lib.hid (HO.out.below hb1 (Nat.le_refl _))
      have HG1 := Lib.hid (HG.out.trans (grown_below hb1))
      clear HO HG hb1
      have hli : i < (mks k i ++ xs.drop i).length := by simp [mks_length]; omega
      obtain ⟨g, rfl, -, -⟩ := HO1.out.addr hli
      have k1 := HO1.out.cell i hli
      have z1 := HO1.out.frozen i
      have hst := HO1.out.store i t
      rw [set_midS (mks_length k i) hlt, HT.out, ← mks_succ, ← HT.out] at hst
      have HST := Lib.hid hst
      clear hst
      go_wp2
      go_roundw
      case rel => exact ⟨i + 1, by omega, by go_num, by congr 1; omega, HST.out.1, HG1.out.trans HST.out.2⟩
      case measure => (simp [RowKit.intOf]) <;> omega
    · obtain rfl : i = xs.length := by omega
      have ho := HO.out
      rw [List.drop_length, List.append_nil] at ho
      have HO2 := Lib.hid ho
      clear ho
      go_wp2
      go_ret
      exact retMarkS rfl HO2.out HG.out

theorem keep_cellS {W w1 : World} {p : Addr} {v : Value} (hb : Below W.heap.size W w1) (h : W.cell? p = some v) : w1.cell? p = some v := (hb.cell (World.block_lt_of_cell? W _ h)).trans h
theorem cell_drewS {w : World} {p : Addr} {v : Value} (h : w.cell? p = some v) : w.drew.cell? p = some v := h
theorem below_drewS {B : Nat} {a w : World} (h : Below B a w) : Below B a w.drew := ⟨h.os, h.tape, h.output, h.size, h.block⟩

set_option maxHeartbeats 1000000 in
theorem heldStringS_c (w : World) (b1 : Nat) (v1 : Value) (n : Nat) (k : Int) (h1 : OwnS w b1 v1 (mks k n)) (hl : n ≤ 8796093022207) (hk0 : 0 ≤ k) (hk1 : k ≤ 8796093022207) :
    Calls Try.prog 18 #[v1, .int .i64 k] w (RetI w (k + n)) := by
  obtain ⟨ao, cap, rfl, -, f2, f3, -, -⟩ := h1.form
  rw [mks_length] at f2
  have H1 := Lib.hid h1
  rw [mks_length] at H1 ⊢
  clear h1 f3
  go_enter Try.func18, Try.ntmps18
  go_wp2
  go_loopw [1, 5] (fun kk k' wr => ∃ (i : Nat), i ≤ n ∧ k' = .int .i64 i ∧ kk = .int .i64 (k + i) ∧ Below w.heap.size w wr) (fun _ k _ => n - (RowKit.intOf k).toNat)
  case atStart => exact ⟨0, by omega, rfl, by simp, Below.refl _ _⟩
  case round =>
    obtain ⟨i, hi, rfl, rfl, hb⟩ := hrel
    by_cases hlt : i < n
    · obtain ⟨t, ht⟩ : ∃ t, t = mkT (k + i) := ⟨_, rfl⟩
      obtain ⟨g, rfl, -, -⟩ := H1.out.addr (i := i) (by rw [mks_length]; exact hlt)
      have k1 := (H1.out.below hb (Nat.le_refl _)).cell i (by rw [mks_length]; exact hlt)
      rw [mks_sat k n i hlt, ← ht] at k1
      have HT := Lib.hid ht
      clear ht
      have t1 : (i : Int) < n := by omega
      go_wp2_with fail
      replace hb := below_drewS hb
      replace k1 := cell_drewS k1
      go_region_held3 (fun w' => w'.cell? ⟨g, i, none⟩ = some (.string t)) (first | exact k1 | go_keep) (first | (go_at_call 29; refine (markText_c _ _ t HT (by omega)).mono ?_; rintro e w1 ⟨rfl, hb1⟩; replace k1 := keep_cellS hb1 k1; replace hb := hb.trans (hb1.mono hb.size); clear hb1))
      all_goals
        go_wp2
        go_roundw
        case rel => exact ⟨i + 1, by omega, by go_num, by congr 1; omega, hb⟩
        case measure => (simp [RowKit.intOf]) <;> omega
    · obtain rfl : i = n := by omega
      go_wp2
      go_ret
      exact retI rfl hb

end Go.Proofs.Ytfchcpahaapgdaa
