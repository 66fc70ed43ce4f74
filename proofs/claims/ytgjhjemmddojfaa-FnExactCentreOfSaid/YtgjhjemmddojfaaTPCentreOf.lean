/- Walks of functions of the given program, by the theory of the texts Ab. -/
import Derived.Test.YtgjhjemmddojfaaTLawCentreOf
import Derived.Test.YtgjhjemmddojfaaAbD
set_option linter.unusedVariables false
set_option linter.unusedSimpArgs false
namespace Go.Proofs.Ytgjhjemmddojfaa
open Go.Ab Go.ChangeShapes Go.WideShapes Go.ChangeAt Go.RowKit
set_option maxRecDepth 100000
/- ExactCentreOf: for every argument the law returns true, panics nowhere and leaves its arguments as they are. -/
theorem ownExactCentreOf : ownKnob Try.prog.godebug = none := by kernel_rfl
theorem laidExactCentreOf : laidOutB Try.prog = true := by kernel_rfl
set_option maxRecDepth 100000 in
theorem liftedExactCentreOf (os : Os) (started : os.Started) (H : Type) (enc : TypeId × Value → H) :
  ReturnsInHanded {} Try.checked os 10 .any (Rows.fnExactCentreOfSpec.pre6 enc Try.prog Try.f10 Rows.fnExactCentreOfRow.domain false) (Rows.fnExactCentreOfSpec.post enc Try.prog Try.f10 false true false false) := by
 refine returnsInHanded_of_change (C := Try.checked) ownExactCentreOf started (by kernel_rfl) Try.func10
  (ChangeSpec.witness6 (enc := enc) (C := Try.checked) false ⟨#[], #[.agg #[.float .f32 0, .slice none 0 0]], []⟩ 8 (by kernel_rfl) (by kernel_rfl) (by kernel_rfl) (by kernel_rfl)) ?_
 intro W base args ds gs before hval hW _ _
 refine law_contract (P := Try.prog) h_laws_FnExactCentreOf hW rfl hval laidExactCentreOf (by kernel_rfl) (fun ds h => ?_) (tb := 4) (by kernel_rfl) (by kernel_rfl) (xs := [(true, [.flt .f32, .sl [.int .i32, .int .i32, .int .i32, .flt .f32, .flt .f32, .flt .f32, .flt .f32, .int .i64, .int .i64]])]) (by kernel_rfl) (fun H vs h => lawExactCentreOf H vs h)
 match ds, h with
 | [d0], _ => exact ⟨rfl, rfl, rfl⟩
theorem overExactCentreOf : Rows.fnExactCentreOfRow.holds Try.pinned (OpenSpec.ofChange Rows.fnExactCentreOfSpec) :=
 OpenClaim.holds_of_wide 10 Try.f10 rfl rfl rfl rfl rfl rfl rfl ⟨rfl, rfl, rfl, rfl, rfl⟩ rfl rfl rfl rfl rfl (by kernel_rfl) Try.func10 (by kernel_rfl)
  (of_decide_eq_true (by kernel_rfl)) (by unfold Func.isWrapper; rw [if_neg (of_decide_eq_false (by kernel_rfl))]; exact ⟨rfl, rfl⟩)
  (fun os started H enc _ => liftedExactCentreOf os started H enc)
theorem provedExactCentreOf : Rows.FnExactCentreOfSaid := overExactCentreOf
#print axioms provedExactCentreOf
end Go.Proofs.Ytgjhjemmddojfaa
