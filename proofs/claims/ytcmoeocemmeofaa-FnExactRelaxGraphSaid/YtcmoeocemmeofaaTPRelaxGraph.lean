/- Walks of functions of the given program, by the theory of the texts Ab. -/
import Derived.Test.YtcmoeocemmeofaaTLawRelaxGraph
import Derived.Test.YtcmoeocemmeofaaAbD
set_option linter.unusedVariables false
set_option linter.unusedSimpArgs false
namespace Go.Proofs.Ytcmoeocemmeofaa
open Go.Ab Go.ChangeShapes Go.WideShapes Go.ChangeAt Go.RowKit
set_option maxRecDepth 100000
/- ExactRelaxGraph: for every argument the law returns true, panics nowhere and leaves its arguments as they are. -/
theorem ownExactRelaxGraph : ownKnob Try.prog.godebug = none := by kernel_rfl
theorem laidExactRelaxGraph : laidOutB Try.prog = true := by kernel_rfl
set_option maxRecDepth 100000 in
theorem liftedExactRelaxGraph (os : Os) (started : os.Started) (H : Type) (enc : TypeId × Value → H) :
  ReturnsInHanded {} Try.checked os 12 .any (Rows.fnExactRelaxGraphSpec.pre6 enc Try.prog Try.f12 Rows.fnExactRelaxGraphRow.domain false) (Rows.fnExactRelaxGraphSpec.post enc Try.prog Try.f12 false true false false) := by
 refine returnsInHanded_of_change (C := Try.checked) ownExactRelaxGraph started (by kernel_rfl) Try.func12
  (ChangeSpec.witness6 (enc := enc) (C := Try.checked) false ⟨#[], #[.agg #[.slice none 0 0, .slice none 0 0], .int .i64 0], []⟩ 8 (by kernel_rfl) (by kernel_rfl) (by kernel_rfl) (by kernel_rfl)) ?_
 intro W base args ds gs before hval hW _ _
 refine law_contract (P := Try.prog) h_laws_FnExactRelaxGraph hW rfl hval laidExactRelaxGraph (by kernel_rfl) (fun ds h => ?_) (tb := 4) (by kernel_rfl) (by kernel_rfl) (xs := [(true, [.sl [.flt .f32, .flt .f32, .flt .f32], .sl [.int .i64, .int .i64, .flt .f32, .flt .f32, .flt .f32, .flt .f32]]), (false, [.int .i64])]) (by kernel_rfl) (fun H vs h => lawExactRelaxGraph H vs h)
 match ds, h with
 | [d0, d1], _ => exact ⟨rfl, rfl, rfl⟩
theorem overExactRelaxGraph : Rows.fnExactRelaxGraphRow.holds Try.pinned (OpenSpec.ofChange Rows.fnExactRelaxGraphSpec) :=
 OpenClaim.holds_of_wide 12 Try.f12 rfl rfl rfl rfl rfl rfl rfl ⟨rfl, rfl, rfl, rfl, rfl⟩ rfl rfl rfl rfl rfl (by kernel_rfl) Try.func12 (by kernel_rfl)
  (of_decide_eq_true (by kernel_rfl)) (by unfold Func.isWrapper; rw [if_neg (of_decide_eq_false (by kernel_rfl))]; exact ⟨rfl, rfl⟩)
  (fun os started H enc _ => liftedExactRelaxGraph os started H enc)
theorem provedExactRelaxGraph : Rows.FnExactRelaxGraphSaid := overExactRelaxGraph
#print axioms provedExactRelaxGraph
end Go.Proofs.Ytcmoeocemmeofaa
