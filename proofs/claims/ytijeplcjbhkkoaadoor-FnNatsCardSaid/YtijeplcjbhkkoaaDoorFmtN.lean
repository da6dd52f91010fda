/- FormatNat: the program's and the reference's. -/
import Derived.Test.YtijeplcjbhkkoaaDoorMathG
import Derived.Test.YtijeplcjbhkkoaaDoorStrG
import Derived.Test.YtijeplcjbhkkoaaDoorNatOk
import Derived.Test.YtijeplcjbhkkoaaDoorPad
namespace Go.Proofs.YtijeplcjbhkkoaaDoor
open Go.RowKit Tx Go.Lib Lm

theorem limb_pad {l : List Int} (_h : Norm l) (i : Nat) : padZ (bs (itoa (lat l i))) 9 = bs (padL 9 (itoa (lat l i))) := by
  unfold padZ
  rw [if_neg (by omega), bs_data]
  rfl
theorem limb_pad_size {l : List Int} (h : Norm l) (i : Nat) : (bs (padL 9 (itoa (lat l i)))).size = 9 := by
  rw [bs_size, itoa_nonneg (h.1.lat i).1, padL_length (dec_len9 (by have := h.1.lat i; omega))]
theorem limb_size {l : List Int} (h : Norm l) (i : Nat) : (bs (itoa (lat l i))).size ≤ 9 := by
  rw [bs_size, itoa_nonneg (h.1.lat i).1]
  exact dec_len9 (by have := h.1.lat i; omega)
open Classical in
/-- FormatNat. -/
noncomputable def fNs (xs : List Int) : ByteArray := if OkP xs then bs (fmtN xs) else ByteArray.empty

set_option maxHeartbeats 1000000 in
theorem formatNat_c (w : World) (b1 : Nat) (v1 : Value) (xs : List Int) (h1 : Own w b1 v1 xs) (hx : OkP xs) (ht : Tabs w) (t : ByteArray) (hT : Hid (t = bs (fmtN xs))) : Calls Tryd.prog 38 #[v1] w (RetT w t) := by
  have HT := Lib.hid ht
  have HX := Lib.hid hx
  have HFN := hT
  obtain ⟨ao, cap, rfl, f1, f2, f3, -, -⟩ := h1.form
  unfold maxLen at f1 f3
  have H1 := Lib.hid h1
  have hx60 := hx.1
  clear h1 ht hx hT
  by_cases h0 : xs.length = 0
  · have HFE : Hid (bs [48] = t) := by unfold Hid; rw [HFN.out, List.length_eq_zero_iff.1 h0, fmtN_nil]
    have d0 : ((xs.length : Int) == 0) = true := by rw [h0]; rfl
    clear h0
    go_enter Tryd.func38, Tryd.ntmps38
    go_wp2
    go_ret
    exact retT HFE.out (Below.refl _ _)
  · have d0 : ((xs.length : Int) == 0) = false := beq_eq_false_iff_ne.2 (by omega)
    obtain ⟨g, rfl, -, -⟩ := H1.out.addr (i := xs.length - 1) (by omega)
    have B0 := Below.refl w.heap.size w
    go_enter Tryd.func38, Tryd.ntmps38
    have k0 := (H1.out.below B0 (Nat.le_refl _)).cell (xs.length - 1) (by omega)
    have t3 : (1 : Int) ≤ xs.length := by omega
    obtain ⟨u, hu⟩ : ∃ u, u = bs (itoa (lat xs (xs.length - 1))) := ⟨_, rfl⟩
    have HU := Lib.hid hu
    have hus : u.size ≤ 9 := by rw [hu]; exact limb_size HX.out.2 _
    have HF : Hid (u = bs (fN xs (xs.length - 1))) := by unfold Hid; rw [hu, fN_top HX.out.2 (by omega)]
    clear hu
    obtain ⟨lo, hi⟩ := HX.out.2.1.lat (xs.length - 1)
    go_wp2_with fail
    refine (itoa_c _ (lat xs (xs.length - 1)) (by omega) (by omega) (HT.out.below B0 (Nat.le_refl _)) u HU).mono ?_
    rintro e w1 ⟨rfl, hb⟩
    have B1 := B0.trans (hb.mono B0.size)
    clear hb k0 lo hi HU B0
    go_wp2_with fail
    go_loopw [3, 4] (fun s i wr => ∃ (K : Nat) (u : ByteArray), K < xs.length ∧ i = .int .i64 ((K : Int) - 1) ∧ s = .string u ∧ Hid (u = bs (fN xs K)) ∧ u.size ≤ 9 * (xs.length - K) ∧ Below w.heap.size w wr) (fun _ i _ => (RowKit.intOf i + 1).toNat)
    case atStart => exact ⟨xs.length - 1, u, by omega, by go_num, rfl, HF, by omega, B1⟩
    case round =>
      obtain ⟨K, u, hK, rfl, rfl, HF, hus, hb⟩ := hrel
      clear B1
      by_cases h0 : 0 < K
      · obtain ⟨i, rfl⟩ : ∃ i, K = i + 1 := ⟨K - 1, by omega⟩
        have hi : i < xs.length := by omega
        have k1 := (H1.out.below hb (Nat.le_refl _)).cell i hi
        rw [show ((i + 1 : Nat) : Int) - 1 = (i : Int) by omega]
        have t1 : (i : Int) < xs.length := by omega
        obtain ⟨p, hp⟩ : ∃ p, p = bs (itoa (lat xs i)) := ⟨_, rfl⟩
        have HP := Lib.hid hp
        have hps : p.size ≤ 9 := by rw [hp]; exact limb_size HX.out.2 _
        obtain ⟨q, hq⟩ : ∃ q, q = padZ p 9 := ⟨_, rfl⟩
        have HQ := Lib.hid hq
        have hq2 : q = bs (padL 9 (itoa (lat xs i))) := by rw [hq, hp, limb_pad HX.out.2]
        have hqs : q.size = 9 := by rw [hq2, limb_pad_size HX.out.2]
        have HF2 : Hid (u ++ q = bs (fN xs i)) := by unfold Hid; rw [HF.out, hq2, bs_append, ← fN_step HX.out.2 i (by omega)]
        have hua : u.size + q.size ≤ 9223372036854775807 := by have := HX.out.1; omega
        obtain ⟨lo, hi9⟩ := HX.out.2.1.lat i
        clear hp hq hq2
        go_wp2_with fail
        refine (itoa_c _ (lat xs i) (by omega) (by omega) (HT.out.below hb (Nat.le_refl _)) p HP).mono ?_
        rintro e w2 ⟨rfl, hb2⟩
        replace hb := hb.trans (hb2.mono hb.size)
        clear hb2
        go_wp2_with fail
        refine (padZeros_c _ p 9 q HQ (by omega)).mono ?_
        rintro e w3 ⟨rfl, hb3⟩
        replace hb := hb.trans (hb3.mono hb.size)
        clear hb3
        go_wp2
        go_roundw
        case rel => exact ⟨i, u ++ q, by omega, by go_num, rfl, HF2.out, by rw [ByteArray.size_append]; omega, hb⟩
        case measure => (simp [RowKit.intOf]) <;> omega
      · obtain rfl : K = 0 := by omega
        have HR : Hid (u = bs (fmtN xs)) := by unfold Hid; rw [HF.out, fN_zero]
        go_wp2
        go_ret
        exact retT (HR.out.trans HFN.out.symm) hb
theorem formatNat_top_c (w : World) (b1 : Nat) (v1 : Value) (xs : List Int) (h1 : Own w b1 v1 xs) (ht : Tabs w) : Calls Tryd.prog 17 #[v1] w (RetT w (fNs xs)) := by
  by_cases hx : OkP xs
  · obtain ⟨c, hc⟩ : ∃ c, c = okB xs := ⟨_, rfl⟩
    have hc2 : c = true := by rw [hc, okB_true hx]
    obtain ⟨t, hT⟩ : ∃ t, t = fNs xs := ⟨_, rfl⟩
    have HTX : Hid (t = bs (fmtN xs)) := by unfold Hid; rw [hT]; unfold fNs; rw [if_pos hx]
    rw [← hT]
    have H1 := Lib.hid h1
    have HT := Lib.hid ht
    have HX := Lib.hid hx
    have HC : Hid (okB xs = true) := okB_true hx
    clear h1 ht hx hT hc hc2
    go_enter Tryd.func17, Tryd.ntmps17
    go_wp2_with fail
    refine (natOk_c _ b1 v1 xs H1.out).mono ?_
    rw [HC.out]
    rintro e w1 ⟨rfl, hb⟩
    go_wp2_with fail
    refine (formatNat_c _ b1 v1 xs (H1.out.below hb (Nat.le_refl _)) HX.out (HT.out.below hb (Nat.le_refl _)) t HTX).mono ?_
    rintro e w2 ⟨rfl, hb2⟩
    have B := hb.trans (hb2.mono hb.size)
    go_wp2
    go_ret
    exact retT rfl B
  · have HTX : Hid (ByteArray.empty = fNs xs) := by unfold Hid fNs; rw [if_neg hx]
    have HC : Hid (okB xs = false) := okB_false hx
    have H1 := Lib.hid h1
    obtain ⟨t, hT⟩ : ∃ t, t = fNs xs := ⟨_, rfl⟩
    rw [← hT] at HTX ⊢
    clear h1 hx ht hT
    go_enter Tryd.func17, Tryd.ntmps17
    go_wp2_with fail
    refine (natOk_c _ b1 v1 xs H1.out).mono ?_
    rw [HC.out]
    rintro e w1 ⟨rfl, hb⟩
    go_wp2
    go_ret
    exact retT HTX.out hb

end Go.Proofs.YtijeplcjbhkkoaaDoor
