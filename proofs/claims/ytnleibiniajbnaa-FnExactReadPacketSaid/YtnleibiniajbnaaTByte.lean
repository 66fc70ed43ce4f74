/- Bytes as records of one cell. -/
import Derived.Test.YtnleibiniajbnaaTBase
import Derived.Test.YtnleibiniajbnaaSxD
import Derived.Test.YtnleibiniajbnaaSxE
set_option linter.unusedVariables false
set_option linter.unusedSimpArgs false
namespace Go.Proofs.Ytnleibiniajbnaa
open Go.Ab
set_option maxRecDepth 100000
def KB : List Kd := [.int .u8]
theorem partsByte {m : List AV} (h : KdsL KB m) : ∃ v0 : Int, m = [.int .u8 v0] := by
 cases h with
 | cons g h =>
  cases h
  obtain ⟨v, rfl⟩ := g
  exact ⟨v, rfl⟩
end Go.Proofs.Ytnleibiniajbnaa
