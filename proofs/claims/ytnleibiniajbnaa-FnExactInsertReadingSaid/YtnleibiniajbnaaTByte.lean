/- Bytes as records of one cell. -/
import Derived.Test.YtnleibiniajbnaaTBase
import Derived.Test.YtnleibiniajbnaaSxD
import Derived.Test.YtnleibiniajbnaaSxE
set_option linter.unusedVariables false
set_option linter.unusedSimpArgs false
namespace Go.Proofs.Ytnleibiniajbnaa
open Go.Ab
set_option maxRecDepth 100000
end Go.Proofs.Ytnleibiniajbnaa
