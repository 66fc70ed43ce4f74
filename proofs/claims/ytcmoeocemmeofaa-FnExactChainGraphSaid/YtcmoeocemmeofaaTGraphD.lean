/- Contracts: graphs that are valid. -/
import Derived.Test.YtcmoeocemmeofaaTGraphB
set_option linter.unusedVariables false
set_option linter.unusedSimpArgs false
namespace Go.Proofs.Ytcmoeocemmeofaa
open Go.Ab
set_option maxRecDepth 100000
set_option maxHeartbeats 1000000
attribute [local irreducible] Res
noncomputable def okK (n : Nat) : List AV → Bool
  | [.int _ a, .int _ b, x, y, z, .flt _ w] => decide (0 ≤ a ∧ a < n ∧ 0 ≤ b ∧ b < n ∧ a ≠ b) && (finP [x, y, z] && sideB w)
  | _ => false
end Go.Proofs.Ytcmoeocemmeofaa
