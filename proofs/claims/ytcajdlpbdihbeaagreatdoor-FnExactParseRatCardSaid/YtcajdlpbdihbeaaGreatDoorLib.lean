/- The library's functions that the program calls, in this text's own words. -/
import Derived.Test.YtcajdlpbdihbeaaGreatDoorShelf
import Derived.Test.YtcajdlpbdihbeaaGreatDoorStrRow
import Derived.Lib.Repeat
import Derived.Lib.Join
namespace Go.Proofs.YtcajdlpbdihbeaaGreatDoor
open Go.RowKit

theorem repeat_c (w : World) (s : ByteArray) (c : Nat) (n : Int) (hn : n = (c : Int)) (hlen : s.size * c ≤ 140737488355328) (hc : c ≤ 9223372036854775807) : Calls Tryz.prog 73 #[.string s, .int .i64 n] w (RetT w ⟨(Lib.repeatL s.data.toList c).toArray⟩) := by
  subst hn
  exact (Tryz.strings_Repeat s c w hc hlen)
end Go.Proofs.YtcajdlpbdihbeaaGreatDoor
