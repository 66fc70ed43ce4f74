/- Walks of functions of the given program, by the theory of the texts Ab. -/
import Derived.Test.YtcmoeocemmeofaaTLawSweepOnce
import Derived.Test.YtcmoeocemmeofaaAbD
set_option linter.unusedVariables false
set_option linter.unusedSimpArgs false
namespace Go.Proofs.Ytcmoeocemmeofaa
open Go.Ab Go.ChangeShapes Go.WideShapes Go.ChangeAt Go.RowKit
set_option maxRecDepth 100000
/- ExactSweepOnce: for every argument the law returns true, panics nowhere and leaves its arguments as they are. -/
theorem ownExactSweepOnce : ownKnob Try.prog.godebug = none := by kernel_rfl
theorem laidExactSweepOnce : laidOutB Try.prog = true := by kernel_rfl
set_option maxRecDepth 100000 in
theorem liftedExactSweepOnce (os : Os) (started : os.Started) (H : Type) (enc : TypeId × Value → H) :
  ReturnsInHanded {} Try.checked os 11 .any (Rows.fnExactSweepOnceSpec.pre6 enc Try.prog Try.f11 Rows.fnExactSweepOnceRow.domain false) (Rows.fnExactSweepOnceSpec.post enc Try.prog Try.f11 false true false false) := by
 refine returnsInHanded_of_change (C := Try.checked) ownExactSweepOnce started (by kernel_rfl) Try.func11
  (ChangeSpec.witness6 (enc := enc) (C := Try.checked) false ⟨#[], #[.agg #[.slice none 0 0, .slice none 0 0]], []⟩ 8 (by kernel_rfl) (by kernel_rfl) (by kernel_rfl) (by kernel_rfl)) ?_
 intro W base args ds gs before hval hW _ _
 refine law_contract (P := Try.prog) h_laws_FnExactSweepOnce hW rfl hval laidExactSweepOnce (by kernel_rfl) (fun ds h => ?_) (tb := 4) (by kernel_rfl) (by kernel_rfl) (xs := [(true, [.sl [.flt .f32, .flt .f32, .flt .f32], .sl [.int .i64, .int .i64, .flt .f32, .flt .f32, .flt .f32, .flt .f32]])]) (by kernel_rfl) (fun H vs h => lawExactSweepOnce H vs h)
 match ds, h with
 | [d0], _ => exact ⟨rfl, rfl, rfl⟩
theorem overExactSweepOnce : Rows.fnExactSweepOnceRow.holds Try.pinned (OpenSpec.ofChange Rows.fnExactSweepOnceSpec) :=
 OpenClaim.holds_of_wide 11 Try.f11 rfl rfl rfl rfl rfl rfl rfl ⟨rfl, rfl, rfl, rfl, rfl⟩ rfl rfl rfl rfl rfl (by kernel_rfl) Try.func11 (by kernel_rfl)
  (of_decide_eq_true (by kernel_rfl)) (by unfold Func.isWrapper; rw [if_neg (of_decide_eq_false (by kernel_rfl))]; exact ⟨rfl, rfl⟩)
  (fun os started H enc _ => liftedExactSweepOnce os started H enc)
theorem provedExactSweepOnce : Rows.FnExactSweepOnceSaid := overExactSweepOnce
#print axioms provedExactSweepOnce
end Go.Proofs.Ytcmoeocemmeofaa
