/- Contracts of the law's words for slices of records: Link. -/
import Derived.Test.YtllgmcgdkhnilaaTToPose
set_option linter.unusedVariables false
set_option linter.unusedSimpArgs false
namespace Go.Proofs.Ytllgmcgdkhnilaa
open Go.Ab
set_option maxRecDepth 100000
attribute [local irreducible] Res
end Go.Proofs.Ytllgmcgdkhnilaa
