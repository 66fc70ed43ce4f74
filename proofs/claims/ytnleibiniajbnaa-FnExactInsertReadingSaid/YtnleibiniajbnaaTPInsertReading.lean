/- Walks of functions of the given program, by the theory of the texts Ab. -/
import Derived.Test.YtnleibiniajbnaaTLawInsertReading
import Derived.Test.YtnleibiniajbnaaAbD
import Derived.Test.YtnleibiniajbnaaSxE
set_option linter.unusedVariables false
set_option linter.unusedSimpArgs false
namespace Go.Proofs.Ytnleibiniajbnaa
open Go.Ab Go.ChangeShapes Go.WideShapes Go.ChangeAt Go.RowKit
set_option maxRecDepth 100000
/- ExactInsertReading: for every argument the law returns true, panics nowhere and leaves its arguments as they are. -/
theorem ownExactInsertReading : ownKnob Try.prog.godebug = none := by kernel_rfl
theorem laidExactInsertReading : laidOutB Try.prog = true := by kernel_rfl
set_option maxRecDepth 100000 in
theorem liftedExactInsertReading (os : Os) (started : os.Started) (H : Type) (enc : TypeId × Value → H) :
  ReturnsInHanded {} Try.checked os 10 .any (Rows.fnExactInsertReadingSpec.pre6 enc Try.prog Try.f10 Rows.fnExactInsertReadingRow.domain false) (Rows.fnExactInsertReadingSpec.post enc Try.prog Try.f10 false true false false) := by
 refine returnsInHanded_of_change (C := Try.checked) ownExactInsertReading started kr Try.func10
  (ChangeSpec.witness6 (enc := enc) (C := Try.checked) false ⟨#[], #[.slice none 0 0, .agg #[.int .i64 0, .int .i16 0, .int .i16 0, .int .i16 0]], []⟩ 8 kr kr kr kr) ?_
 intro W base args ds gs before hval hW _ _
 refine law_contract (P := Try.prog) h_laws_FnExactInsertReading hW rfl hval laidExactInsertReading kr (fun ds h => ?_) (tb := 4) kr kr (xs := [(false, [.sl [.int .i64, .int .i16, .int .i16, .int .i16]]), (true, [.int .i64, .int .i16, .int .i16, .int .i16])]) kr (fun H vs h => lawExactInsertReading H vs h)
 match ds, h with
 | [d0, d1], _ => exact ⟨rfl, rfl, rfl⟩
theorem overExactInsertReading : Rows.fnExactInsertReadingRow.holds Try.pinned (OpenSpec.ofChange Rows.fnExactInsertReadingSpec) :=
 OpenClaim.holds_of_wide 10 Try.f10 rfl rfl rfl rfl rfl rfl rfl ⟨rfl, rfl, rfl, rfl, rfl⟩ rfl rfl rfl rfl rfl kr Try.func10 kr
  (of_decide_eq_true kr) (by unfold Func.isWrapper; rw [if_neg (of_decide_eq_false kr)]; exact ⟨rfl, rfl⟩)
  (fun os started H enc _ => liftedExactInsertReading os started H enc)
theorem provedExactInsertReading : Rows.FnExactInsertReadingSaid := overExactInsertReading
#print axioms provedExactInsertReading
end Go.Proofs.Ytnleibiniajbnaa
