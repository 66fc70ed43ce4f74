/- Contracts: a reading put into a feed, by both. -/
import Derived.Test.YtnleibiniajbnaaTMf
import Derived.Test.YtnleibiniajbnaaSxE
set_option linter.unusedVariables false
set_option linter.unusedSimpArgs false
namespace Go.Proofs.Ytnleibiniajbnaa
open Go.Ab
set_option maxRecDepth 100000
set_option maxHeartbeats 1000000
attribute [local irreducible] Res
end Go.Proofs.Ytnleibiniajbnaa
