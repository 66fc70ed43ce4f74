/- Contracts: links and lists that are the same. -/
import Derived.Test.YtcmoeocemmeofaaTToLink
set_option linter.unusedVariables false
set_option linter.unusedSimpArgs false
namespace Go.Proofs.Ytcmoeocemmeofaa
open Go.Ab
set_option maxRecDepth 100000
set_option maxHeartbeats 1000000
attribute [local irreducible] Res
end Go.Proofs.Ytcmoeocemmeofaa
