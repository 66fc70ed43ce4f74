/- Contracts: marks, sides. -/
import Derived.Test.YtgjhjemmddojfaaTCmp
set_option linter.unusedVariables false
set_option linter.unusedSimpArgs false
namespace Go.Proofs.Ytgjhjemmddojfaa
open Go.Ab
set_option maxRecDepth 100000
attribute [local irreducible] Res
end Go.Proofs.Ytgjhjemmddojfaa
