/- Contracts of the law's words that write and read marks in slices of records: Byte. -/
import Derived.Test.YtnleibiniajbnaaTByte
import Derived.Test.YtnleibiniajbnaaSxD
import Derived.Test.YtnleibiniajbnaaSxE
set_option linter.unusedVariables false
set_option linter.unusedSimpArgs false
namespace Go.Proofs.Ytnleibiniajbnaa
open Go.Ab
set_option maxRecDepth 100000
set_option maxHeartbeats 1000000
attribute [local irreducible] Res
end Go.Proofs.Ytnleibiniajbnaa
