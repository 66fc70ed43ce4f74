/- Contracts of the law's words that write and read marks in slices of records: Link. -/
import Derived.Test.YtllgmcgdkhnilaaTHeldP
import Derived.Test.YtllgmcgdkhnilaaSxD
set_option linter.unusedVariables false
set_option linter.unusedSimpArgs false
namespace Go.Proofs.Ytllgmcgdkhnilaa
open Go.Ab
set_option maxRecDepth 100000
set_option maxHeartbeats 1000000
attribute [local irreducible] Res
end Go.Proofs.Ytllgmcgdkhnilaa
