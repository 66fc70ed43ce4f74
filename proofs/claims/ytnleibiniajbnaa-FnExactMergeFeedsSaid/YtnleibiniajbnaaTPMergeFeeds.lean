/- Walks of functions of the given program, by the theory of the texts Ab. -/
import Derived.Test.YtnleibiniajbnaaTLawMergeFeeds
import Derived.Test.YtnleibiniajbnaaAbD
import Derived.Test.YtnleibiniajbnaaSxE
set_option linter.unusedVariables false
set_option linter.unusedSimpArgs false
namespace Go.Proofs.Ytnleibiniajbnaa
open Go.Ab Go.ChangeShapes Go.WideShapes Go.ChangeAt Go.RowKit
set_option maxRecDepth 100000
/- ExactMergeFeeds: for every argument the law returns true, panics nowhere and leaves its arguments as they are. -/
theorem ownExactMergeFeeds : ownKnob Try.prog.godebug = none := by kernel_rfl
theorem laidExactMergeFeeds : laidOutB Try.prog = true := by kernel_rfl
set_option maxRecDepth 100000 in
theorem liftedExactMergeFeeds (os : Os) (started : os.Started) (H : Type) (enc : TypeId × Value → H) :
  ReturnsInHanded {} Try.checked os 9 .any (Rows.fnExactMergeFeedsSpec.pre6 enc Try.prog Try.f9 Rows.fnExactMergeFeedsRow.domain false) (Rows.fnExactMergeFeedsSpec.post enc Try.prog Try.f9 false true false false) := by
 refine returnsInHanded_of_change (C := Try.checked) ownExactMergeFeeds started kr Try.func9
  (ChangeSpec.witness6 (enc := enc) (C := Try.checked) false ⟨#[], #[.slice none 0 0, .slice none 0 0], []⟩ 8 kr kr kr kr) ?_
 intro W base args ds gs before hval hW _ _
 refine law_contract (P := Try.prog) h_laws_FnExactMergeFeeds hW rfl hval laidExactMergeFeeds kr (fun ds h => ?_) (tb := 4) kr kr (xs := [(false, [.sl [.int .i64, .int .i16, .int .i16, .int .i16]]), (false, [.sl [.int .i64, .int .i16, .int .i16, .int .i16]])]) kr (fun H vs h => lawExactMergeFeeds H vs h)
 match ds, h with
 | [d0, d1], _ => exact ⟨rfl, rfl, rfl⟩
theorem overExactMergeFeeds : Rows.fnExactMergeFeedsRow.holds Try.pinned (OpenSpec.ofChange Rows.fnExactMergeFeedsSpec) :=
 OpenClaim.holds_of_wide 9 Try.f9 rfl rfl rfl rfl rfl rfl rfl ⟨rfl, rfl, rfl, rfl, rfl⟩ rfl rfl rfl rfl rfl kr Try.func9 kr
  (of_decide_eq_true kr) (by unfold Func.isWrapper; rw [if_neg (of_decide_eq_false kr)]; exact ⟨rfl, rfl⟩)
  (fun os started H enc _ => liftedExactMergeFeeds os started H enc)
theorem provedExactMergeFeeds : Rows.FnExactMergeFeedsSaid := overExactMergeFeeds
#print axioms provedExactMergeFeeds
end Go.Proofs.Ytnleibiniajbnaa
