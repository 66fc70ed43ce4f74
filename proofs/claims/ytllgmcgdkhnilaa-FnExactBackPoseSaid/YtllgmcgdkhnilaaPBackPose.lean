/- Walks of functions of the given program, by the theory of the texts Ab. -/
import Derived.Test.YtllgmcgdkhnilaaLawBackPose
import Derived.Test.YtllgmcgdkhnilaaAbD
set_option linter.unusedVariables false
set_option linter.unusedSimpArgs false
namespace Go.Proofs.Ytllgmcgdkhnilaa
open Go.Ab Go.ChangeShapes Go.WideShapes Go.ChangeAt Go.RowKit
set_option maxRecDepth 100000
/- ExactBackPose: for every argument the law returns true, panics nowhere and leaves its arguments as they are. -/
theorem ownExactBackPose : ownKnob Try.prog.godebug = none := by kernel_rfl
theorem laidExactBackPose : laidOutB Try.prog = true := by kernel_rfl
set_option maxRecDepth 100000 in
theorem liftedExactBackPose (os : Os) (started : os.Started) (H : Type) (enc : TypeId × Value → H) :
    ReturnsInHanded {} Try.checked os 7 .any (Rows.fnExactBackPoseSpec.pre6 enc Try.prog Try.f7 Rows.fnExactBackPoseRow.domain false) (Rows.fnExactBackPoseSpec.post enc Try.prog Try.f7 false true false false) := by
  refine returnsInHanded_of_change (C := Try.checked) ownExactBackPose started (by kernel_rfl) Try.func7
    (ChangeSpec.witness6 (enc := enc) (C := Try.checked) false ⟨#[], #[.agg #[.float .f32 0, .float .f32 0, .float .f32 0]], []⟩ 8 (by kernel_rfl) (by kernel_rfl) (by kernel_rfl) (by kernel_rfl)) ?_
  intro W base args ds gs before hval hW _ _
  refine law_contract (P := Try.prog) h_laws_FnExactBackPose hW rfl hval laidExactBackPose (by kernel_rfl) (fun ds h => ?_) (tb := 4) (by kernel_rfl) (by kernel_rfl) (xs := [(true, [.flt .f32, .flt .f32, .flt .f32])]) (by kernel_rfl) (fun H vs h => lawExactBackPose H vs h)
  match ds, h with
  | [d0], _ => exact ⟨rfl, rfl, rfl⟩
theorem overExactBackPose : Rows.fnExactBackPoseRow.holds Try.pinned (OpenSpec.ofChange Rows.fnExactBackPoseSpec) :=
  OpenClaim.holds_of_wide 7 Try.f7 rfl rfl rfl rfl rfl rfl rfl ⟨rfl, rfl, rfl, rfl, rfl⟩ rfl rfl rfl rfl rfl (by kernel_rfl) Try.func7 (by kernel_rfl)
    (of_decide_eq_true (by kernel_rfl)) (by unfold Func.isWrapper; rw [if_neg (of_decide_eq_false (by kernel_rfl))]; exact ⟨rfl, rfl⟩)
    (fun os started H enc _ => liftedExactBackPose os started H enc)
theorem provedExactBackPose : Rows.FnExactBackPoseSaid := overExactBackPose
#print axioms provedExactBackPose

end Go.Proofs.Ytllgmcgdkhnilaa
