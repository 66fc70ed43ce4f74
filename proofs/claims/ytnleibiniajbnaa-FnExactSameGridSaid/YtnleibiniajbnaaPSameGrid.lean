/- Walks of functions of the given program, by the theory of the texts Ab. -/
import Derived.Test.YtnleibiniajbnaaLawSameGrid
import Derived.Test.YtnleibiniajbnaaAbD
set_option linter.unusedVariables false
set_option linter.unusedSimpArgs false
namespace Go.Proofs.Ytnleibiniajbnaa
open Go.Ab Go.ChangeShapes Go.WideShapes Go.ChangeAt Go.RowKit
set_option maxRecDepth 100000
/- ExactSameGrid: for every argument the law returns true, panics nowhere and leaves its arguments as they are. -/
theorem ownExactSameGrid : ownKnob Try.prog.godebug = none := by kernel_rfl
theorem laidExactSameGrid : laidOutB Try.prog = true := by kernel_rfl
set_option maxRecDepth 100000 in
theorem liftedExactSameGrid (os : Os) (started : os.Started) (H : Type) (enc : TypeId × Value → H) :
    ReturnsInHanded {} Try.checked os 5 .any (Rows.fnExactSameGridSpec.pre6 enc Try.prog Try.f5 Rows.fnExactSameGridRow.domain false) (Rows.fnExactSameGridSpec.post enc Try.prog Try.f5 false true false false) := by
  refine returnsInHanded_of_change (C := Try.checked) ownExactSameGrid started (by kernel_rfl) Try.func5
    (ChangeSpec.witness6 (enc := enc) (C := Try.checked) false ⟨#[], #[.agg #[.int .i64 0, .int .i64 0, .slice none 0 0], .agg #[.int .i64 0, .int .i64 0, .slice none 0 0]], []⟩ 8 (by kernel_rfl) (by kernel_rfl) (by kernel_rfl) (by kernel_rfl)) ?_
  intro W base args ds gs before hval hW _ _
  refine law_contract (P := Try.prog) h_laws_FnExactSameGrid hW rfl hval laidExactSameGrid (by kernel_rfl) (fun ds h => ?_) (tb := 4) (by kernel_rfl) (by kernel_rfl) (xs := [(true, [.int .i64, .int .i64, .sl [.int .u8]]), (true, [.int .i64, .int .i64, .sl [.int .u8]])]) (by kernel_rfl) (fun H vs h => lawExactSameGrid H vs h)
  match ds, h with
  | [d0, d1], _ => exact ⟨rfl, rfl, rfl⟩
theorem overExactSameGrid : Rows.fnExactSameGridRow.holds Try.pinned (OpenSpec.ofChange Rows.fnExactSameGridSpec) :=
  OpenClaim.holds_of_wide 5 Try.f5 rfl rfl rfl rfl rfl rfl rfl ⟨rfl, rfl, rfl, rfl, rfl⟩ rfl rfl rfl rfl rfl (by kernel_rfl) Try.func5 (by kernel_rfl)
    (of_decide_eq_true (by kernel_rfl)) (by unfold Func.isWrapper; rw [if_neg (of_decide_eq_false (by kernel_rfl))]; exact ⟨rfl, rfl⟩)
    (fun os started H enc _ => liftedExactSameGrid os started H enc)
theorem provedExactSameGrid : Rows.FnExactSameGridSaid := overExactSameGrid
#print axioms provedExactSameGrid

end Go.Proofs.Ytnleibiniajbnaa
