/- Walks of functions of the given program, by the theory of the texts Ab. -/
import Derived.Test.YtnleibiniajbnaaGridA
import Derived.Test.YtnleibiniajbnaaAbD
set_option linter.unusedVariables false
set_option linter.unusedSimpArgs false
namespace Go.Proofs.Ytnleibiniajbnaa
open Go.Ab Go.ChangeShapes Go.WideShapes Go.ChangeAt Go.RowKit
set_option maxRecDepth 100000
/- ExactEmptyGrid: for every argument the law returns true, panics nowhere and leaves its arguments as they are. -/
theorem ownExactEmptyGrid : ownKnob Try.prog.godebug = none := by kernel_rfl
theorem laidExactEmptyGrid : laidOutB Try.prog = true := by kernel_rfl
set_option maxRecDepth 100000 in
theorem liftedExactEmptyGrid (os : Os) (started : os.Started) (H : Type) (enc : TypeId × Value → H) :
    ReturnsInHanded {} Try.checked os 4 .any (Rows.fnExactEmptyGridSpec.pre6 enc Try.prog Try.f4 Rows.fnExactEmptyGridRow.domain false) (Rows.fnExactEmptyGridSpec.post enc Try.prog Try.f4 false true false false) := by
  refine returnsInHanded_of_change (C := Try.checked) ownExactEmptyGrid started (by kernel_rfl) Try.func4
    (ChangeSpec.witness6 (enc := enc) (C := Try.checked) false ⟨#[], #[.int .i64 0, .int .i64 0], []⟩ 8 (by kernel_rfl) (by kernel_rfl) (by kernel_rfl) (by kernel_rfl)) ?_
  intro W base args ds gs before hval hW _ _
  refine law_contract (P := Try.prog) h_laws_FnExactEmptyGrid hW rfl hval laidExactEmptyGrid (by kernel_rfl) (fun ds h => ?_) (tb := 4) (by kernel_rfl) (by kernel_rfl) (xs := [(false, [.int .i64]), (false, [.int .i64])]) (by kernel_rfl) (fun H vs h => lawExactEmptyGrid H vs h)
  match ds, h with
  | [d0, d1], _ => exact ⟨rfl, rfl, rfl⟩
theorem overExactEmptyGrid : Rows.fnExactEmptyGridRow.holds Try.pinned (OpenSpec.ofChange Rows.fnExactEmptyGridSpec) :=
  OpenClaim.holds_of_wide 4 Try.f4 rfl rfl rfl rfl rfl rfl rfl ⟨rfl, rfl, rfl, rfl, rfl⟩ rfl rfl rfl rfl rfl (by kernel_rfl) Try.func4 (by kernel_rfl)
    (of_decide_eq_true (by kernel_rfl)) (by unfold Func.isWrapper; rw [if_neg (of_decide_eq_false (by kernel_rfl))]; exact ⟨rfl, rfl⟩)
    (fun os started H enc _ => liftedExactEmptyGrid os started H enc)
theorem provedExactEmptyGrid : Rows.FnExactEmptyGridSaid := overExactEmptyGrid
#print axioms provedExactEmptyGrid

end Go.Proofs.Ytnleibiniajbnaa
