/- Walks of functions of the given program, by the theory of the texts Ab. -/
import Derived.Test.YtnleibiniajbnaaTLawGridText
import Derived.Test.YtnleibiniajbnaaAbD
set_option linter.unusedVariables false
set_option linter.unusedSimpArgs false
namespace Go.Proofs.Ytnleibiniajbnaa
open Go.Ab Go.ChangeShapes Go.WideShapes Go.ChangeAt Go.RowKit
set_option maxRecDepth 100000
/- ExactGridText: for every argument the law returns true, panics nowhere and leaves its arguments as they are. -/
theorem ownExactGridText : ownKnob Try.prog.godebug = none := by kernel_rfl
theorem laidExactGridText : laidOutB Try.prog = true := by kernel_rfl
set_option maxRecDepth 100000 in
theorem liftedExactGridText (os : Os) (started : os.Started) (H : Type) (enc : TypeId × Value → H) :
  ReturnsInHanded {} Try.checked os 7 .any (Rows.fnExactGridTextSpec.pre6 enc Try.prog Try.f7 Rows.fnExactGridTextRow.domain false) (Rows.fnExactGridTextSpec.post enc Try.prog Try.f7 false true false false) := by
 refine returnsInHanded_of_change (C := Try.checked) ownExactGridText started (by kernel_rfl) Try.func7
  (ChangeSpec.witness6 (enc := enc) (C := Try.checked) false ⟨#[], #[.agg #[.int .i64 0, .int .i64 0, .slice none 0 0]], []⟩ 8 (by kernel_rfl) (by kernel_rfl) (by kernel_rfl) (by kernel_rfl)) ?_
 intro W base args ds gs before hval hW _ _
 refine law_contract (P := Try.prog) h_laws_FnExactGridText hW rfl hval laidExactGridText (by kernel_rfl) (fun ds h => ?_) (tb := 4) (by kernel_rfl) (by kernel_rfl) (xs := [(true, [.int .i64, .int .i64, .sl [.int .u8]])]) (by kernel_rfl) (fun H vs h => lawExactGridText H vs h)
 match ds, h with
 | [d0], _ => exact ⟨rfl, rfl, rfl⟩
theorem overExactGridText : Rows.fnExactGridTextRow.holds Try.pinned (OpenSpec.ofChange Rows.fnExactGridTextSpec) :=
 OpenClaim.holds_of_wide 7 Try.f7 rfl rfl rfl rfl rfl rfl rfl ⟨rfl, rfl, rfl, rfl, rfl⟩ rfl rfl rfl rfl rfl (by kernel_rfl) Try.func7 (by kernel_rfl)
  (of_decide_eq_true (by kernel_rfl)) (by unfold Func.isWrapper; rw [if_neg (of_decide_eq_false (by kernel_rfl))]; exact ⟨rfl, rfl⟩)
  (fun os started H enc _ => liftedExactGridText os started H enc)
theorem provedExactGridText : Rows.FnExactGridTextSaid := overExactGridText
#print axioms provedExactGridText
end Go.Proofs.Ytnleibiniajbnaa
