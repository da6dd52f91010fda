/- The program's exported functions on signed numbers. -/
import Derived.Test.YtcmhpdhcpkhejaaDoorBigB
import Derived.Test.YtcmhpdhcpkhejaaDoorBigV
namespace Go.Proofs.YtcmhpdhcpkhejaaDoor
open Go.RowKit Lm

end Go.Proofs.YtcmhpdhcpkhejaaDoor
