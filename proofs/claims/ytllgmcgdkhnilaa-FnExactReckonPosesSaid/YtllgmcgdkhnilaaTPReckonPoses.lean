/- Walks of functions of the given program, by the theory of the texts Ab. -/
import Derived.Test.YtllgmcgdkhnilaaTLawReckonPoses
import Derived.Test.YtllgmcgdkhnilaaAbD
set_option linter.unusedVariables false
set_option linter.unusedSimpArgs false
namespace Go.Proofs.Ytllgmcgdkhnilaa
open Go.Ab Go.ChangeShapes Go.WideShapes Go.ChangeAt Go.RowKit
set_option maxRecDepth 100000
/- ExactReckonPoses: for every argument the law returns true, panics nowhere and leaves its arguments as they are. -/
theorem ownExactReckonPoses : ownKnob Try.prog.godebug = none := by kernel_rfl
theorem laidExactReckonPoses : laidOutB Try.prog = true := by kernel_rfl
set_option maxRecDepth 100000 in
theorem liftedExactReckonPoses (os : Os) (started : os.Started) (H : Type) (enc : TypeId × Value → H) :
    ReturnsInHanded {} Try.checked os 12 .any (Rows.fnExactReckonPosesSpec.pre6 enc Try.prog Try.f12 Rows.fnExactReckonPosesRow.domain false) (Rows.fnExactReckonPosesSpec.post enc Try.prog Try.f12 false true false false) := by
  refine returnsInHanded_of_change (C := Try.checked) ownExactReckonPoses started (by kernel_rfl) Try.func12
    (ChangeSpec.witness6 (enc := enc) (C := Try.checked) false ⟨#[], #[.agg #[.float .f32 0, .float .f32 0, .float .f32 0], .slice none 0 0], []⟩ 8 (by kernel_rfl) (by kernel_rfl) (by kernel_rfl) (by kernel_rfl)) ?_
  intro W base args ds gs before hval hW _ _
  refine law_contract (P := Try.prog) h_laws_FnExactReckonPoses hW rfl hval laidExactReckonPoses (by kernel_rfl) (fun ds h => ?_) (tb := 4) (by kernel_rfl) (by kernel_rfl) (xs := [(true, [.flt .f32, .flt .f32, .flt .f32]), (false, [.sl [.flt .f32, .flt .f32, .flt .f32]])]) (by kernel_rfl) (fun H vs h => lawExactReckonPoses H vs h)
  match ds, h with
  | [d0, d1], _ => exact ⟨rfl, rfl, rfl⟩
theorem overExactReckonPoses : Rows.fnExactReckonPosesRow.holds Try.pinned (OpenSpec.ofChange Rows.fnExactReckonPosesSpec) :=
  OpenClaim.holds_of_wide 12 Try.f12 rfl rfl rfl rfl rfl rfl rfl ⟨rfl, rfl, rfl, rfl, rfl⟩ rfl rfl rfl rfl rfl (by kernel_rfl) Try.func12 (by kernel_rfl)
    (of_decide_eq_true (by kernel_rfl)) (by unfold Func.isWrapper; rw [if_neg (of_decide_eq_false (by kernel_rfl))]; exact ⟨rfl, rfl⟩)
    (fun os started H enc _ => liftedExactReckonPoses os started H enc)
theorem provedExactReckonPoses : Rows.FnExactReckonPosesSaid := overExactReckonPoses
#print axioms provedExactReckonPoses
end Go.Proofs.Ytllgmcgdkhnilaa
