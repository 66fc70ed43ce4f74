/- Contracts of the law's words that write and read marks in slices of records: Mark. -/
import Derived.Test.YtgjhjemmddojfaaTMap
import Derived.Test.YtgjhjemmddojfaaSxD
set_option linter.unusedVariables false
set_option linter.unusedSimpArgs false
namespace Go.Proofs.Ytgjhjemmddojfaa
open Go.Ab
set_option maxRecDepth 100000
set_option maxHeartbeats 1000000
attribute [local irreducible] Res
end Go.Proofs.Ytgjhjemmddojfaa
