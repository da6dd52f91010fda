/- The program's exported functions on signed numbers. -/
import Derived.Test.YtcajdlpbdihbeaaDoorBigB
import Derived.Test.YtcajdlpbdihbeaaDoorBigV
namespace Go.Proofs.YtcajdlpbdihbeaaDoor
open Go.RowKit Lm

end Go.Proofs.YtcajdlpbdihbeaaDoor
