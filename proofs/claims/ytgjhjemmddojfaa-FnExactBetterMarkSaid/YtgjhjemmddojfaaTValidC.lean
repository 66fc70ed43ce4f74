/- Contracts: maps that are valid, by the program. -/
import Derived.Test.YtgjhjemmddojfaaTValid
set_option linter.unusedVariables false
set_option linter.unusedSimpArgs false
namespace Go.Proofs.Ytgjhjemmddojfaa
open Go.Ab
set_option maxRecDepth 100000
attribute [local irreducible] Res
end Go.Proofs.Ytgjhjemmddojfaa
