/- Walks of functions of the given program, by the theory of the texts Ab. -/
import Derived.Test.YtgjhjemmddojfaaEmptyMap
import Derived.Test.YtgjhjemmddojfaaAb17
set_option linter.unusedVariables false
set_option linter.unusedSimpArgs false
namespace Go.Proofs.Ytgjhjemmddojfaa
open Go.Ab Go.ChangeShapes Go.WideShapes Go.ChangeAt Go.RowKit
set_option maxRecDepth 100000
/- ExactEmptyMap: for every argument the law returns true, panics nowhere and leaves its arguments as they are. -/
theorem ownExactEmptyMap : ownKnob Try.prog.godebug = none := by kernel_rfl
theorem laidExactEmptyMap : laidOutB Try.prog = true := by kernel_rfl
set_option maxRecDepth 100000 in
theorem liftedExactEmptyMap (os : Os) (started : os.Started) (H : Type) (enc : TypeId × Value → H) :
    ReturnsInHanded {} Try.checked os 6 .any (Rows.fnExactEmptyMapSpec.pre6 enc Try.prog Try.f6 Rows.fnExactEmptyMapRow.domain false) (Rows.fnExactEmptyMapSpec.post enc Try.prog Try.f6 false true false false) := by
  refine returnsInHanded_of_change (C := Try.checked) ownExactEmptyMap started (by kernel_rfl) Try.func6
    (ChangeSpec.witness6 (enc := enc) (C := Try.checked) false ⟨#[], #[.float .f32 0], []⟩ 8 (by kernel_rfl) (by kernel_rfl) (by kernel_rfl) (by kernel_rfl)) ?_
  intro W base args ds gs before hval hW _ _
  refine law_contract (P := Try.prog) h_laws_FnExactEmptyMap hW rfl hval laidExactEmptyMap (by kernel_rfl) (fun ds h => ?_) (tb := 4) (by kernel_rfl) (by kernel_rfl) (xs := [(false, [.flt .f32])]) (by kernel_rfl) (fun H vs h => lawExactEmptyMap H vs h)
  match ds, h with
  | [d0], _ => exact ⟨rfl, rfl, rfl⟩
theorem overExactEmptyMap : Rows.fnExactEmptyMapRow.holds Try.pinned (OpenSpec.ofChange Rows.fnExactEmptyMapSpec) :=
  OpenClaim.holds_of_wide 6 Try.f6 rfl rfl rfl rfl rfl rfl rfl ⟨rfl, rfl, rfl, rfl, rfl⟩ rfl rfl rfl rfl rfl (by kernel_rfl) Try.func6 (by kernel_rfl)
    (of_decide_eq_true (by kernel_rfl)) (by unfold Func.isWrapper; rw [if_neg (of_decide_eq_false (by kernel_rfl))]; exact ⟨rfl, rfl⟩)
    (fun os started H enc _ => liftedExactEmptyMap os started H enc)
theorem provedExactEmptyMap : Rows.FnExactEmptyMapSaid := overExactEmptyMap
#print axioms provedExactEmptyMap

end Go.Proofs.Ytgjhjemmddojfaa
