/- One byte, made a string. -/
import Derived.Test.YtcmhpdhcpkhejaaDoorFrame
import Derived.Laws.IdiomStrings
namespace Go.Proofs.YtcmhpdhcpkhejaaDoor
open Go.RowKit

/-- A text of these bytes. -/
def bs (l : List UInt8) : ByteArray := ⟨l.toArray⟩
theorem bs_list (s : ByteArray) : bs s.data.toList = s := by cases s; simp [bs]
theorem bs_data (l : List UInt8) : (bs l).data.toList = l := by simp [bs]
theorem bs_size (l : List UInt8) : (bs l).size = l.length := by unfold bs ByteArray.size; exact List.size_toArray
theorem bs_append (a b : List UInt8) : bs a ++ bs b = bs (a ++ b) := by
  apply ByteArray.ext
  rw [ByteArray.data_append]
  apply Array.toList_inj.1
  rw [Array.toList_append, bs_data, bs_data, bs_data]
theorem size_list (s : ByteArray) : s.size = s.data.toList.length := by unfold ByteArray.size; exact Array.length_toList.symm

/-- One byte, made a string. -/
theorem conv_byte (w : World) (z : Int) (d : Nat) (hz : z = (d : Int)) (hd : d < 256) :
    (convert 59 9 (.slice (some ⟨w.heap.size, 0, none⟩) 1 1)).run Tryd.prog (w.alloc (.cells #[.int .u8 z] 5)) = .ok (.string (bs [UInt8.ofNat d])) (w.alloc (.cells #[.int .u8 z] 5)) := by
  refine run_convert_bytes_back (w.alloc (.cells #[.int .u8 z] 5)) 59 9 5 ⟨w.heap.size, 0, none⟩ 1 [UInt8.ofNat d] Tryd.underlying59 Tryd.underlying5 Tryd.underlying9 ?_
  intro j hj
  obtain rfl : j = 0 := by simpa using hj
  subst hz
  simp [Addr.add, Nat.mod_eq_of_lt hd]

end Go.Proofs.YtcmhpdhcpkhejaaDoor
