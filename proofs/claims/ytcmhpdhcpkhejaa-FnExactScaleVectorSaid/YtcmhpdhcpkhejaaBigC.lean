/- The program's exported functions on signed numbers. -/
import Derived.Test.YtcmhpdhcpkhejaaBigB
import Derived.Test.YtcmhpdhcpkhejaaBigV
namespace Go.Proofs.Ytcmhpdhcpkhejaa
open Go.RowKit Lm

end Go.Proofs.Ytcmhpdhcpkhejaa
