/- Contracts: graphs that are valid, by the reference; the law of ValidGraph. -/
import Derived.Test.YtcmoeocemmeofaaTGraphE
import Derived.Test.YtcmoeocemmeofaaTGraphW
set_option linter.unusedVariables false
set_option linter.unusedSimpArgs false
namespace Go.Proofs.Ytcmoeocemmeofaa
open Go.Ab
set_option maxRecDepth 100000
set_option maxHeartbeats 1000000
attribute [local irreducible] Res
end Go.Proofs.Ytcmoeocemmeofaa
