/- Walks of functions of the given program, by the theory of the texts Ab. -/
import Derived.Test.YtgjhjemmddojfaaC
import Derived.Test.YtgjhjemmddojfaaAb20
set_option linter.unusedVariables false
set_option linter.unusedSimpArgs false
namespace Go.Proofs.Ytgjhjemmddojfaa
open Go.Ab
set_option maxRecDepth 100000
theorem k_bits32 (H : AHeap) (x : Option Nat) : APure Try.prog 96 [.flt .f32 x] H (bits32 x) := x_bits32 Try.func96 (by kernel_rfl) (by kernel_rfl) (by kernel_rfl) (by kernel_rfl) x
def ap : List (Nat × Nat × List Kd × Kd) := [(96, 0, [.flt .f32], .bits)]
def φ0 : Nat → List AV → AV := fun _ _ => .undef
theorem ap_ok : ApOk Try.prog φ0 ap := .bits (fun x H _ => k_bits32 H x) .nil
def pm : Pm := ⟨0, [], tb, ap, 1000⟩
theorem lawExactEmptyMap : ∀ H vs, FitArgs H [(false, [.flt .f32])] vs → ACalls Try.prog 6 vs H fun r _ => r = .bool true :=
  law_true (pm := pm) 20 (by kernel_rfl) rfl rfl tb_ok ap_ok h_laws_FnExactEmptyMap (Nat.le_of_ble_eq_true (by kernel_rfl)) (by kernel_rfl)
end Go.Proofs.Ytgjhjemmddojfaa
