/- Walks of functions of the given program, by the theory of the texts Ab. -/
import Derived.Test.YtllgmcgdkhnilaaLawResidualOf
import Derived.Test.YtllgmcgdkhnilaaAbD
set_option linter.unusedVariables false
set_option linter.unusedSimpArgs false
namespace Go.Proofs.Ytllgmcgdkhnilaa
open Go.Ab Go.ChangeShapes Go.WideShapes Go.ChangeAt Go.RowKit
set_option maxRecDepth 100000
/- ExactResidualOf: for every argument the law returns true, panics nowhere and leaves its arguments as they are. -/
theorem ownExactResidualOf : ownKnob Try.prog.godebug = none := by kernel_rfl
theorem laidExactResidualOf : laidOutB Try.prog = true := by kernel_rfl
set_option maxRecDepth 100000 in
theorem liftedExactResidualOf (os : Os) (started : os.Started) (H : Type) (enc : TypeId × Value → H) :
    ReturnsInHanded {} Try.checked os 13 .any (Rows.fnExactResidualOfSpec.pre6 enc Try.prog Try.f13 Rows.fnExactResidualOfRow.domain false) (Rows.fnExactResidualOfSpec.post enc Try.prog Try.f13 false true false false) := by
  refine returnsInHanded_of_change (C := Try.checked) ownExactResidualOf started (by kernel_rfl) Try.func13
    (ChangeSpec.witness6 (enc := enc) (C := Try.checked) false ⟨#[], #[.agg #[.slice none 0 0, .slice none 0 0], .int .i64 0], []⟩ 8 (by kernel_rfl) (by kernel_rfl) (by kernel_rfl) (by kernel_rfl)) ?_
  intro W base args ds gs before hval hW _ _
  refine law_contract (P := Try.prog) h_laws_FnExactResidualOf hW rfl hval laidExactResidualOf (by kernel_rfl) (fun ds h => ?_) (tb := 4) (by kernel_rfl) (by kernel_rfl) (xs := [(true, [.sl [.flt .f32, .flt .f32, .flt .f32], .sl [.int .i64, .int .i64, .flt .f32, .flt .f32, .flt .f32, .flt .f32]]), (false, [.int .i64])]) (by kernel_rfl) (fun H vs h => lawExactResidualOf H vs h)
  match ds, h with
  | [d0, d1], _ => exact ⟨rfl, rfl, rfl⟩
theorem overExactResidualOf : Rows.fnExactResidualOfRow.holds Try.pinned (OpenSpec.ofChange Rows.fnExactResidualOfSpec) :=
  OpenClaim.holds_of_wide 13 Try.f13 rfl rfl rfl rfl rfl rfl rfl ⟨rfl, rfl, rfl, rfl, rfl⟩ rfl rfl rfl rfl rfl (by kernel_rfl) Try.func13 (by kernel_rfl)
    (of_decide_eq_true (by kernel_rfl)) (by unfold Func.isWrapper; rw [if_neg (of_decide_eq_false (by kernel_rfl))]; exact ⟨rfl, rfl⟩)
    (fun os started H enc _ => liftedExactResidualOf os started H enc)
theorem provedExactResidualOf : Rows.FnExactResidualOfSaid := overExactResidualOf
#print axioms provedExactResidualOf

end Go.Proofs.Ytllgmcgdkhnilaa
