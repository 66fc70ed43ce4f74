/- Walks of functions of the given program, by the theory of the texts Ab. -/
import Derived.Test.YtnleibiniajbnaaTLawSpots
import Derived.Test.YtnleibiniajbnaaAbD
set_option linter.unusedVariables false
set_option linter.unusedSimpArgs false
namespace Go.Proofs.Ytnleibiniajbnaa
open Go.Ab Go.ChangeShapes Go.WideShapes Go.ChangeAt Go.RowKit
set_option maxRecDepth 100000
/- ExactSpotsBetween: for every argument the law returns true, panics nowhere and leaves its arguments as they are. -/
theorem ownExactSpotsBetween : ownKnob Try.prog.godebug = none := by kernel_rfl
theorem laidExactSpotsBetween : laidOutB Try.prog = true := by kernel_rfl
set_option maxRecDepth 100000 in
theorem liftedExactSpotsBetween (os : Os) (started : os.Started) (H : Type) (enc : TypeId × Value → H) :
  ReturnsInHanded {} Try.checked os 6 .any (Rows.fnExactSpotsBetweenSpec.pre6 enc Try.prog Try.f6 Rows.fnExactSpotsBetweenRow.domain false) (Rows.fnExactSpotsBetweenSpec.post enc Try.prog Try.f6 false true false false) := by
 refine returnsInHanded_of_change (C := Try.checked) ownExactSpotsBetween started (by kernel_rfl) Try.func6
  (ChangeSpec.witness6 (enc := enc) (C := Try.checked) false ⟨#[], #[.agg #[.int .i16 0, .int .i16 0], .agg #[.int .i16 0, .int .i16 0]], []⟩ 8 (by kernel_rfl) (by kernel_rfl) (by kernel_rfl) (by kernel_rfl)) ?_
 intro W base args ds gs before hval hW _ _
 refine law_contract (P := Try.prog) h_laws_FnExactSpotsBetween hW rfl hval laidExactSpotsBetween (by kernel_rfl) (fun ds h => ?_) (tb := 4) (by kernel_rfl) (by kernel_rfl) (xs := [(true, [.int .i16, .int .i16]), (true, [.int .i16, .int .i16])]) (by kernel_rfl) (fun H vs h => lawExactSpotsBetween H vs h)
 match ds, h with
 | [d0, d1], _ => exact ⟨rfl, rfl, rfl⟩
theorem overExactSpotsBetween : Rows.fnExactSpotsBetweenRow.holds Try.pinned (OpenSpec.ofChange Rows.fnExactSpotsBetweenSpec) :=
 OpenClaim.holds_of_wide 6 Try.f6 rfl rfl rfl rfl rfl rfl rfl ⟨rfl, rfl, rfl, rfl, rfl⟩ rfl rfl rfl rfl rfl (by kernel_rfl) Try.func6 (by kernel_rfl)
  (of_decide_eq_true (by kernel_rfl)) (by unfold Func.isWrapper; rw [if_neg (of_decide_eq_false (by kernel_rfl))]; exact ⟨rfl, rfl⟩)
  (fun os started H enc _ => liftedExactSpotsBetween os started H enc)
theorem provedExactSpotsBetween : Rows.FnExactSpotsBetweenSaid := overExactSpotsBetween
#print axioms provedExactSpotsBetween
end Go.Proofs.Ytnleibiniajbnaa
