/- Walks of functions of the given program, by the theory of the texts Ab. -/
import Derived.Test.YtgjhjemmddojfaaTLawCell
import Derived.Test.YtgjhjemmddojfaaAbD
set_option linter.unusedVariables false
set_option linter.unusedSimpArgs false
namespace Go.Proofs.Ytgjhjemmddojfaa
open Go.Ab Go.ChangeShapes Go.WideShapes Go.ChangeAt Go.RowKit
set_option maxRecDepth 100000
/- ExactCellOf: for every argument the law returns true, panics nowhere and leaves its arguments as they are. -/
theorem ownExactCellOf : ownKnob Try.prog.godebug = none := by kernel_rfl
theorem laidExactCellOf : laidOutB Try.prog = true := by kernel_rfl
set_option maxRecDepth 100000 in
theorem liftedExactCellOf (os : Os) (started : os.Started) (H : Type) (enc : TypeId × Value → H) :
    ReturnsInHanded {} Try.checked os 5 .any (Rows.fnExactCellOfSpec.pre6 enc Try.prog Try.f5 Rows.fnExactCellOfRow.domain false) (Rows.fnExactCellOfSpec.post enc Try.prog Try.f5 false true false false) := by
  refine returnsInHanded_of_change (C := Try.checked) ownExactCellOf started (by kernel_rfl) Try.func5
    (ChangeSpec.witness6 (enc := enc) (C := Try.checked) false ⟨#[], #[.float .f32 0, .agg #[.float .f32 0, .float .f32 0, .float .f32 0]], []⟩ 8 (by kernel_rfl) (by kernel_rfl) (by kernel_rfl) (by kernel_rfl)) ?_
  intro W base args ds gs before hval hW _ _
  refine law_contract (P := Try.prog) h_laws_FnExactCellOf hW rfl hval laidExactCellOf (by kernel_rfl) (fun ds h => ?_) (tb := 4) (by kernel_rfl) (by kernel_rfl) (xs := [(false, [.flt .f32]), (true, [.flt .f32, .flt .f32, .flt .f32])]) (by kernel_rfl) (fun H vs h => lawExactCellOf H vs h)
  match ds, h with
  | [d0, d1], _ => exact ⟨rfl, rfl, rfl⟩
theorem overExactCellOf : Rows.fnExactCellOfRow.holds Try.pinned (OpenSpec.ofChange Rows.fnExactCellOfSpec) :=
  OpenClaim.holds_of_wide 5 Try.f5 rfl rfl rfl rfl rfl rfl rfl ⟨rfl, rfl, rfl, rfl, rfl⟩ rfl rfl rfl rfl rfl (by kernel_rfl) Try.func5 (by kernel_rfl)
    (of_decide_eq_true (by kernel_rfl)) (by unfold Func.isWrapper; rw [if_neg (of_decide_eq_false (by kernel_rfl))]; exact ⟨rfl, rfl⟩)
    (fun os started H enc _ => liftedExactCellOf os started H enc)
theorem provedExactCellOf : Rows.FnExactCellOfSaid := overExactCellOf
#print axioms provedExactCellOf
end Go.Proofs.Ytgjhjemmddojfaa
