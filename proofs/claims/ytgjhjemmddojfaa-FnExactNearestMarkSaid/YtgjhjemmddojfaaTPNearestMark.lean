/- Walks of functions of the given program, by the theory of the texts Ab. -/
import Derived.Test.YtgjhjemmddojfaaTLawNearestMark
import Derived.Test.YtgjhjemmddojfaaAbD
set_option linter.unusedVariables false
set_option linter.unusedSimpArgs false
namespace Go.Proofs.Ytgjhjemmddojfaa
open Go.Ab Go.ChangeShapes Go.WideShapes Go.ChangeAt Go.RowKit
set_option maxRecDepth 100000
/- ExactNearestMark: for every argument the law returns true, panics nowhere and leaves its arguments as they are. -/
theorem ownExactNearestMark : ownKnob Try.prog.godebug = none := by kernel_rfl
theorem laidExactNearestMark : laidOutB Try.prog = true := by kernel_rfl
set_option maxRecDepth 100000 in
theorem liftedExactNearestMark (os : Os) (started : os.Started) (H : Type) (enc : TypeId × Value → H) :
  ReturnsInHanded {} Try.checked os 14 .any (Rows.fnExactNearestMarkSpec.pre6 enc Try.prog Try.f14 Rows.fnExactNearestMarkRow.domain false) (Rows.fnExactNearestMarkSpec.post enc Try.prog Try.f14 false true false false) := by
 refine returnsInHanded_of_change (C := Try.checked) ownExactNearestMark started (by kernel_rfl) Try.func14
  (ChangeSpec.witness6 (enc := enc) (C := Try.checked) false ⟨#[], #[.agg #[.float .f32 0, .slice none 0 0], .agg #[.float .f32 0, .float .f32 0, .float .f32 0], .float .f32 0], []⟩ 8 (by kernel_rfl) (by kernel_rfl) (by kernel_rfl) (by kernel_rfl)) ?_
 intro W base args ds gs before hval hW _ _
 refine law_contract (P := Try.prog) h_laws_FnExactNearestMark hW rfl hval laidExactNearestMark (by kernel_rfl) (fun ds h => ?_) (tb := 4) (by kernel_rfl) (by kernel_rfl) (xs := [(true, [.flt .f32, .sl [.int .i32, .int .i32, .int .i32, .flt .f32, .flt .f32, .flt .f32, .flt .f32, .int .i64, .int .i64]]), (true, [.flt .f32, .flt .f32, .flt .f32]), (false, [.flt .f32])]) (by kernel_rfl) (fun H vs h => lawExactNearestMark H vs h)
 match ds, h with
 | [d0, d1, d2], _ => exact ⟨rfl, rfl, rfl⟩
theorem overExactNearestMark : Rows.fnExactNearestMarkRow.holds Try.pinned (OpenSpec.ofChange Rows.fnExactNearestMarkSpec) :=
 OpenClaim.holds_of_wide 14 Try.f14 rfl rfl rfl rfl rfl rfl rfl ⟨rfl, rfl, rfl, rfl, rfl⟩ rfl rfl rfl rfl rfl (by kernel_rfl) Try.func14 (by kernel_rfl)
  (of_decide_eq_true (by kernel_rfl)) (by unfold Func.isWrapper; rw [if_neg (of_decide_eq_false (by kernel_rfl))]; exact ⟨rfl, rfl⟩)
  (fun os started H enc _ => liftedExactNearestMark os started H enc)
theorem provedExactNearestMark : Rows.FnExactNearestMarkSaid := overExactNearestMark
#print axioms provedExactNearestMark
end Go.Proofs.Ytgjhjemmddojfaa
