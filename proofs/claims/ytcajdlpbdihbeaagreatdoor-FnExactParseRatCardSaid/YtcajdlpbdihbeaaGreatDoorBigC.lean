/- The program's exported functions on signed numbers. -/
import Derived.Test.YtcajdlpbdihbeaaGreatDoorBigB
import Derived.Test.YtcajdlpbdihbeaaGreatDoorBigV
namespace Go.Proofs.YtcajdlpbdihbeaaGreatDoor
open Go.RowKit Lm

end Go.Proofs.YtcajdlpbdihbeaaGreatDoor
