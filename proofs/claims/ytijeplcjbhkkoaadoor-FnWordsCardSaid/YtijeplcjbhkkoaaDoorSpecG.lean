/- The reference's greatest common divisor: l02Gcd. -/
import Derived.Test.YtijeplcjbhkkoaaDoorSpecM
import Derived.Test.YtijeplcjbhkkoaaDoorToInt
namespace Go.Proofs.YtijeplcjbhkkoaaDoor
open Go.RowKit Lm

end Go.Proofs.YtijeplcjbhkkoaaDoor
