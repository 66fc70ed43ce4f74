/- Contracts: the ground of a seat. -/
import Derived.Test.YtacligocjfhckaaSxD
import Derived.Test.YtacligocjfhckaaC
import Derived.Test.YtacligocjfhckaaAbD
import Derived.Test.YtacligocjfhckaaSxC
set_option linter.unusedVariables false
set_option linter.unusedSimpArgs false
namespace Go.Proofs.Ytacligocjfhckaa
open Go.Ab
set_option maxRecDepth 100000
attribute [local irreducible] Res
theorem k_bits32 (H : AHeap) (x : Option Nat) : APure Try.prog 82 [.flt .f32 x] H (bits32 x) := x_bits32 Try.func82 (by kernel_rfl) (by kernel_rfl) (by kernel_rfl) (by kernel_rfl) x
def ap : List (Nat × Nat × List Kd × Kd) := [(82, 0, [.flt .f32], .bits)]
def φ0 : Nat → List AV → AV := fun _ _ => .undef
theorem ap_ok : ApOk Try.prog φ0 ap := .bits (fun x H _ => k_bits32 H x) .nil
def pm : Pm := ⟨0, [], tb, ap, 1000⟩
/-- Without unrolling, from a place in the middle; these facts. -/
def pmR (fl : Nat) (ru : List (RK × SV)) (un : Nat) : Pm := ⟨fl, ru, tb, ap, un⟩
end Go.Proofs.Ytacligocjfhckaa
