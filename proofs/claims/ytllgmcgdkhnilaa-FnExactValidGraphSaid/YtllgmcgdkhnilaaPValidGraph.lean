/- Walks of functions of the given program, by the theory of the texts Ab. -/
import Derived.Test.YtllgmcgdkhnilaaGraphE
import Derived.Test.YtllgmcgdkhnilaaAbD
set_option linter.unusedVariables false
set_option linter.unusedSimpArgs false
namespace Go.Proofs.Ytllgmcgdkhnilaa
open Go.Ab Go.ChangeShapes Go.WideShapes Go.ChangeAt Go.RowKit
set_option maxRecDepth 100000
/- ExactValidGraph: for every argument the law returns true, panics nowhere and leaves its arguments as they are. -/
theorem ownExactValidGraph : ownKnob Try.prog.godebug = none := by kernel_rfl
theorem laidExactValidGraph : laidOutB Try.prog = true := by kernel_rfl
set_option maxRecDepth 100000 in
theorem liftedExactValidGraph (os : Os) (started : os.Started) (H : Type) (enc : TypeId × Value → H) :
    ReturnsInHanded {} Try.checked os 6 .any (Rows.fnExactValidGraphSpec.pre6 enc Try.prog Try.f6 Rows.fnExactValidGraphRow.domain false) (Rows.fnExactValidGraphSpec.post enc Try.prog Try.f6 false true false false) := by
  refine returnsInHanded_of_change (C := Try.checked) ownExactValidGraph started (by kernel_rfl) Try.func6
    (ChangeSpec.witness6 (enc := enc) (C := Try.checked) false ⟨#[], #[.agg #[.slice none 0 0, .slice none 0 0]], []⟩ 8 (by kernel_rfl) (by kernel_rfl) (by kernel_rfl) (by kernel_rfl)) ?_
  intro W base args ds gs before hval hW _ _
  refine law_contract (P := Try.prog) h_laws_FnExactValidGraph hW rfl hval laidExactValidGraph (by kernel_rfl) (fun ds h => ?_) (tb := 4) (by kernel_rfl) (by kernel_rfl) (xs := [(true, [.sl [.flt .f32, .flt .f32, .flt .f32], .sl [.int .i64, .int .i64, .flt .f32, .flt .f32, .flt .f32, .flt .f32]])]) (by kernel_rfl) (fun H vs h => lawExactValidGraph H vs h)
  match ds, h with
  | [d0], _ => exact ⟨rfl, rfl, rfl⟩
theorem overExactValidGraph : Rows.fnExactValidGraphRow.holds Try.pinned (OpenSpec.ofChange Rows.fnExactValidGraphSpec) :=
  OpenClaim.holds_of_wide 6 Try.f6 rfl rfl rfl rfl rfl rfl rfl ⟨rfl, rfl, rfl, rfl, rfl⟩ rfl rfl rfl rfl rfl (by kernel_rfl) Try.func6 (by kernel_rfl)
    (of_decide_eq_true (by kernel_rfl)) (by unfold Func.isWrapper; rw [if_neg (of_decide_eq_false (by kernel_rfl))]; exact ⟨rfl, rfl⟩)
    (fun os started H enc _ => liftedExactValidGraph os started H enc)
theorem provedExactValidGraph : Rows.FnExactValidGraphSaid := overExactValidGraph
#print axioms provedExactValidGraph

end Go.Proofs.Ytllgmcgdkhnilaa
