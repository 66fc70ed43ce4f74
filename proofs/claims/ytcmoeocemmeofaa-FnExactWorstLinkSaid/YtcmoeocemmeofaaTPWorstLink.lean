/- Walks of functions of the given program, by the theory of the texts Ab. -/
import Derived.Test.YtcmoeocemmeofaaTLawWorstLink
import Derived.Test.YtcmoeocemmeofaaAbD
set_option linter.unusedVariables false
set_option linter.unusedSimpArgs false
namespace Go.Proofs.Ytcmoeocemmeofaa
open Go.Ab Go.ChangeShapes Go.WideShapes Go.ChangeAt Go.RowKit
set_option maxRecDepth 100000
/- ExactWorstLink: for every argument the law returns true, panics nowhere and leaves its arguments as they are. -/
theorem ownExactWorstLink : ownKnob Try.prog.godebug = none := by kernel_rfl
theorem laidExactWorstLink : laidOutB Try.prog = true := by kernel_rfl
set_option maxRecDepth 100000 in
theorem liftedExactWorstLink (os : Os) (started : os.Started) (H : Type) (enc : TypeId × Value → H) :
    ReturnsInHanded {} Try.checked os 8 .any (Rows.fnExactWorstLinkSpec.pre6 enc Try.prog Try.f8 Rows.fnExactWorstLinkRow.domain false) (Rows.fnExactWorstLinkSpec.post enc Try.prog Try.f8 false true false false) := by
  refine returnsInHanded_of_change (C := Try.checked) ownExactWorstLink started (by kernel_rfl) Try.func8
    (ChangeSpec.witness6 (enc := enc) (C := Try.checked) false ⟨#[], #[.agg #[.slice none 0 0, .slice none 0 0]], []⟩ 8 (by kernel_rfl) (by kernel_rfl) (by kernel_rfl) (by kernel_rfl)) ?_
  intro W base args ds gs before hval hW _ _
  refine law_contract (P := Try.prog) h_laws_FnExactWorstLink hW rfl hval laidExactWorstLink (by kernel_rfl) (fun ds h => ?_) (tb := 4) (by kernel_rfl) (by kernel_rfl) (xs := [(true, [.sl [.flt .f32, .flt .f32, .flt .f32], .sl [.int .i64, .int .i64, .flt .f32, .flt .f32, .flt .f32, .flt .f32]])]) (by kernel_rfl) (fun H vs h => lawExactWorstLink H vs h)
  match ds, h with
  | [d0], _ => exact ⟨rfl, rfl, rfl⟩
theorem overExactWorstLink : Rows.fnExactWorstLinkRow.holds Try.pinned (OpenSpec.ofChange Rows.fnExactWorstLinkSpec) :=
  OpenClaim.holds_of_wide 8 Try.f8 rfl rfl rfl rfl rfl rfl rfl ⟨rfl, rfl, rfl, rfl, rfl⟩ rfl rfl rfl rfl rfl (by kernel_rfl) Try.func8 (by kernel_rfl)
    (of_decide_eq_true (by kernel_rfl)) (by unfold Func.isWrapper; rw [if_neg (of_decide_eq_false (by kernel_rfl))]; exact ⟨rfl, rfl⟩)
    (fun os started H enc _ => liftedExactWorstLink os started H enc)
theorem provedExactWorstLink : Rows.FnExactWorstLinkSaid := overExactWorstLink
#print axioms provedExactWorstLink
end Go.Proofs.Ytcmoeocemmeofaa
