/- Spots as records of two cells. -/
import Derived.Test.YtnleibiniajbnaaTBase
import Derived.Test.YtnleibiniajbnaaSxD
set_option linter.unusedVariables false
set_option linter.unusedSimpArgs false
namespace Go.Proofs.Ytnleibiniajbnaa
open Go.Ab
set_option maxRecDepth 100000
def KS : List Kd := [.int .i16, .int .i16]
theorem partsSpot {m : List AV} (h : KdsL KS m) : ∃ v0 v1 : Int, m = [.int .i16 v0, .int .i16 v1] := by
 cases h with
 | cons g h =>
  cases h with
  | cons g2 h =>
   cases h
   obtain ⟨v, rfl⟩ := g
   obtain ⟨u, rfl⟩ := g2
   exact ⟨v, u, rfl⟩
end Go.Proofs.Ytnleibiniajbnaa
