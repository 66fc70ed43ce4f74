/- Readings as records of four cells. -/
import Derived.Test.YtnleibiniajbnaaTHeldB
import Derived.Test.YtnleibiniajbnaaSxD
import Derived.Test.YtnleibiniajbnaaSxE
set_option linter.unusedVariables false
set_option linter.unusedSimpArgs false
namespace Go.Proofs.Ytnleibiniajbnaa
open Go.Ab
set_option maxRecDepth 100000
def KR : List Kd := [.int .i64, .int .i16, .int .i16, .int .i16]
theorem partsReading {m : List AV} (h : KdsL KR m) : ∃ v0 v1 v2 v3 : Int, m = [.int .i64 v0, .int .i16 v1, .int .i16 v2, .int .i16 v3] := by
 cases h with | cons g0 h => cases h with | cons g1 h => cases h with | cons g2 h => cases h with | cons g3 h =>
 cases h
 obtain ⟨v0, rfl⟩ := g0
 obtain ⟨v1, rfl⟩ := g1
 obtain ⟨v2, rfl⟩ := g2
 obtain ⟨v3, rfl⟩ := g3
 exact ⟨v0, v1, v2, v3, rfl⟩
end Go.Proofs.Ytnleibiniajbnaa
