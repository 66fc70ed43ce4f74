/- Contracts: what links are off, and costs. -/
import Derived.Test.YtcmoeocemmeofaaTPoseB
import Derived.Test.YtcmoeocemmeofaaTGraphF
import Derived.Test.YtcmoeocemmeofaaSxD
set_option linter.unusedVariables false
set_option linter.unusedSimpArgs false
namespace Go.Proofs.Ytcmoeocemmeofaa
open Go.Ab
set_option maxRecDepth 100000
set_option maxHeartbeats 1000000
attribute [local irreducible] Res
theorem allB_get {p : Nat → Bool} {n : Nat} (h : allB p n = true) : ∀ i, i < n → p i = true := by
  intro i hi
  cases hp : p i with
  | true => rfl
  | false => rw [allB_at hi hp] at h; cases h
end Go.Proofs.Ytcmoeocemmeofaa
