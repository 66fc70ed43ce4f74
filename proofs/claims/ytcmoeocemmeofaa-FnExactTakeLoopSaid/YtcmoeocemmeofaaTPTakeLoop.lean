/- Walks of functions of the given program, by the theory of the texts Ab. -/
import Derived.Test.YtcmoeocemmeofaaTLawTakeLoop
import Derived.Test.YtcmoeocemmeofaaAbD
set_option linter.unusedVariables false
set_option linter.unusedSimpArgs false
namespace Go.Proofs.Ytcmoeocemmeofaa
open Go.Ab Go.ChangeShapes Go.WideShapes Go.ChangeAt Go.RowKit
set_option maxRecDepth 100000
/- ExactTakeLoop: for every argument the law returns true, panics nowhere and leaves its arguments as they are. -/
theorem ownExactTakeLoop : ownKnob Try.prog.godebug = none := by kernel_rfl
theorem laidExactTakeLoop : laidOutB Try.prog = true := by kernel_rfl
set_option maxRecDepth 100000 in
theorem liftedExactTakeLoop (os : Os) (started : os.Started) (H : Type) (enc : TypeId × Value → H) :
    ReturnsInHanded {} Try.checked os 10 .any (Rows.fnExactTakeLoopSpec.pre6 enc Try.prog Try.f10 Rows.fnExactTakeLoopRow.domain false) (Rows.fnExactTakeLoopSpec.post enc Try.prog Try.f10 false true false false) := by
  refine returnsInHanded_of_change (C := Try.checked) ownExactTakeLoop started (by kernel_rfl) Try.func10
    (ChangeSpec.witness6 (enc := enc) (C := Try.checked) false ⟨#[], #[.agg #[.slice none 0 0, .slice none 0 0], .agg #[.int .i64 0, .int .i64 0, .float .f32 0, .float .f32 0, .float .f32 0, .float .f32 0], .float .f32 0], []⟩ 8 (by kernel_rfl) (by kernel_rfl) (by kernel_rfl) (by kernel_rfl)) ?_
  intro W base args ds gs before hval hW _ _
  refine law_contract (P := Try.prog) h_laws_FnExactTakeLoop hW rfl hval laidExactTakeLoop (by kernel_rfl) (fun ds h => ?_) (tb := 4) (by kernel_rfl) (by kernel_rfl) (xs := [(true, [.sl [.flt .f32, .flt .f32, .flt .f32], .sl [.int .i64, .int .i64, .flt .f32, .flt .f32, .flt .f32, .flt .f32]]), (true, [.int .i64, .int .i64, .flt .f32, .flt .f32, .flt .f32, .flt .f32]), (false, [.flt .f32])]) (by kernel_rfl) (fun H vs h => lawExactTakeLoop H vs h)
  match ds, h with
  | [d0, d1, d2], _ => exact ⟨rfl, rfl, rfl⟩
theorem overExactTakeLoop : Rows.fnExactTakeLoopRow.holds Try.pinned (OpenSpec.ofChange Rows.fnExactTakeLoopSpec) :=
  OpenClaim.holds_of_wide 10 Try.f10 rfl rfl rfl rfl rfl rfl rfl ⟨rfl, rfl, rfl, rfl, rfl⟩ rfl rfl rfl rfl rfl (by kernel_rfl) Try.func10 (by kernel_rfl)
    (of_decide_eq_true (by kernel_rfl)) (by unfold Func.isWrapper; rw [if_neg (of_decide_eq_false (by kernel_rfl))]; exact ⟨rfl, rfl⟩)
    (fun os started H enc _ => liftedExactTakeLoop os started H enc)
theorem provedExactTakeLoop : Rows.FnExactTakeLoopSaid := overExactTakeLoop
#print axioms provedExactTakeLoop
end Go.Proofs.Ytcmoeocemmeofaa
