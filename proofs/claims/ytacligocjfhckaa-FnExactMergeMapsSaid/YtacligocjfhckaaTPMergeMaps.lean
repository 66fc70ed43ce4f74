/- Walks of functions of the given program, by the theory of the texts Ab. -/
import Derived.Test.YtacligocjfhckaaTLawMergeMaps
import Derived.Test.YtacligocjfhckaaAbD
set_option linter.unusedVariables false
set_option linter.unusedSimpArgs false
namespace Go.Proofs.Ytacligocjfhckaa
open Go.Ab Go.ChangeShapes Go.WideShapes Go.ChangeAt Go.RowKit
set_option maxRecDepth 100000
/- ExactMergeMaps: for every argument the law returns true, panics nowhere and leaves its arguments as they are. -/
theorem ownExactMergeMaps : ownKnob Try.prog.godebug = none := by kernel_rfl
theorem laidExactMergeMaps : laidOutB Try.prog = true := by kernel_rfl
set_option maxRecDepth 100000 in
theorem liftedExactMergeMaps (os : Os) (started : os.Started) (H : Type) (enc : TypeId × Value → H) :
  ReturnsInHanded {} Try.checked os 4 .any (Rows.fnExactMergeMapsSpec.pre6 enc Try.prog Try.f4 Rows.fnExactMergeMapsRow.domain false) (Rows.fnExactMergeMapsSpec.post enc Try.prog Try.f4 false true false false) := by
 refine returnsInHanded_of_change (C := Try.checked) ownExactMergeMaps started (by kernel_rfl) Try.func4
  (ChangeSpec.witness6 (enc := enc) (C := Try.checked) false ⟨#[], #[.agg #[.float .f32 0, .slice none 0 0], .agg #[.float .f32 0, .slice none 0 0]], []⟩ 8 (by kernel_rfl) (by kernel_rfl) (by kernel_rfl) (by kernel_rfl)) ?_
 intro W base args ds gs before hval hW _ _
 refine law_contract (P := Try.prog) h_laws_FnExactMergeMaps hW rfl hval laidExactMergeMaps (by kernel_rfl) (fun ds h => ?_) (tb := 4) (by kernel_rfl) (by kernel_rfl) (xs := [(true, [.flt .f32, .sl [.int .i32, .int .i32, .int .i32, .flt .f32, .flt .f32, .flt .f32, .flt .f32, .int .i64, .int .i64]]), (true, [.flt .f32, .sl [.int .i32, .int .i32, .int .i32, .flt .f32, .flt .f32, .flt .f32, .flt .f32, .int .i64, .int .i64]])]) (by kernel_rfl) (fun H vs h => lawExactMergeMaps H vs h)
 match ds, h with
 | [d0, d1], _ => exact ⟨rfl, rfl, rfl⟩
theorem overExactMergeMaps : Rows.fnExactMergeMapsRow.holds Try.pinned (OpenSpec.ofChange Rows.fnExactMergeMapsSpec) :=
 OpenClaim.holds_of_wide 4 Try.f4 rfl rfl rfl rfl rfl rfl rfl ⟨rfl, rfl, rfl, rfl, rfl⟩ rfl rfl rfl rfl rfl (by kernel_rfl) Try.func4 (by kernel_rfl)
  (of_decide_eq_true (by kernel_rfl)) (by unfold Func.isWrapper; rw [if_neg (of_decide_eq_false (by kernel_rfl))]; exact ⟨rfl, rfl⟩)
  (fun os started H enc _ => liftedExactMergeMaps os started H enc)
theorem provedExactMergeMaps : Rows.FnExactMergeMapsSaid := overExactMergeMaps
#print axioms provedExactMergeMaps
end Go.Proofs.Ytacligocjfhckaa
