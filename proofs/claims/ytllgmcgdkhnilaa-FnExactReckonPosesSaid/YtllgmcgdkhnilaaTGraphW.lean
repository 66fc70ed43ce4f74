/- Contracts of the law's words for graphs: sizes, copies, comparisons. -/
import Derived.Test.YtllgmcgdkhnilaaTGraphB
set_option linter.unusedVariables false
set_option linter.unusedSimpArgs false
namespace Go.Proofs.Ytllgmcgdkhnilaa
open Go.Ab
set_option maxRecDepth 100000
set_option maxHeartbeats 1000000
attribute [local irreducible] Res
theorem w_toPoseS (H : AHeap) (ms : List (List AV)) (hr : Recs KP ms) (S : AV) (hS : SlL H 3 ms S) (hmax : ms.length ≤ 1048576) : ACalls Try.prog 45 [S] H fun r H' => Grew H H' ∧ SlW H' 3 ms r ∧ FreshS H.next r := by
  refine (k_toPoseS H ms hr S hS hmax).mono ?_
  rintro r H' ⟨g, l, hl, rfl, row⟩
  exact ⟨g, .sl (rest := []) (by simpa using row) rfl (Nat.le_refl _), .of_le hl⟩
end Go.Proofs.Ytllgmcgdkhnilaa
