/- Walks of functions of the given program, by the theory of the texts Ab. -/
import Derived.Test.YtllgmcgdkhnilaaTrigS
set_option linter.unusedVariables false
set_option linter.unusedSimpArgs false
namespace Go.Proofs.Ytllgmcgdkhnilaa
open Go.Ab
set_option maxRecDepth 100000
theorem lawExactStepBetween : ∀ H vs, FitArgs H [(true, [.flt .f32, .flt .f32, .flt .f32]), (true, [.flt .f32, .flt .f32, .flt .f32])] vs → ACalls Try.prog 9 vs H fun r _ => r = .bool true :=
  law_true (pm := pmP) 20 (by kernel_rfl) rfl rfl tb_ok apP_ok h_laws_FnExactStepBetween (Nat.le_of_ble_eq_true (by kernel_rfl)) (by kernel_rfl)
end Go.Proofs.Ytllgmcgdkhnilaa
