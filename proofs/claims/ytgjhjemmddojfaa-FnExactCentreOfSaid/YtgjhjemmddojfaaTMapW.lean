/- Contracts of the law's words for maps: copies in new memory, marks. -/
import Derived.Test.YtgjhjemmddojfaaTHeld
import Derived.Test.YtgjhjemmddojfaaSxD
set_option linter.unusedVariables false
set_option linter.unusedSimpArgs false
namespace Go.Proofs.Ytgjhjemmddojfaa
open Go.Ab
set_option maxRecDepth 100000
attribute [local irreducible] Res
theorem w_toLandMap (H : AHeap) (x : Option Nat) (hx : fOk .f32 x) (ms : List (List AV)) (hr : Recs KM ms) (S : AV) (hS : SlL H 9 ms S) (hmax : ms.length ≤ 1048576) : ACalls Try.prog 32 [.agg [.flt .f32 x, S]] H fun r H' => Grew H H' ∧ ∃ S', r = .agg [.flt .f32 x, S'] ∧ SlW H' 9 ms S' ∧ FreshS H.next S' := by
 refine (k_toLandMap H x hx ms hr S hS hmax).mono ?_
 rintro r H' ⟨g, l, hl, rfl, row⟩
 exact ⟨g, _, rfl, .sl (rest := []) (by simpa using row) rfl (Nat.le_refl _), .of_le hl⟩
end Go.Proofs.Ytgjhjemmddojfaa
