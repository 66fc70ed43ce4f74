/- Walks of functions of the given program, by the theory of the texts Ab. -/
import Derived.Test.YtacligocjfhckaaTLawPutMark
import Derived.Test.YtacligocjfhckaaAbD
set_option linter.unusedVariables false
set_option linter.unusedSimpArgs false
namespace Go.Proofs.Ytacligocjfhckaa
open Go.Ab Go.ChangeShapes Go.WideShapes Go.ChangeAt Go.RowKit
set_option maxRecDepth 100000
/- ExactPutMark: for every argument the law returns true, panics nowhere and leaves its arguments as they are. -/
theorem ownExactPutMark : ownKnob Try.prog.godebug = none := by kernel_rfl
theorem laidExactPutMark : laidOutB Try.prog = true := by kernel_rfl
set_option maxRecDepth 100000 in
theorem liftedExactPutMark (os : Os) (started : os.Started) (H : Type) (enc : TypeId × Value → H) :
  ReturnsInHanded {} Try.checked os 3 .any (Rows.fnExactPutMarkSpec.pre6 enc Try.prog Try.f3 Rows.fnExactPutMarkRow.domain false) (Rows.fnExactPutMarkSpec.post enc Try.prog Try.f3 false true false false) := by
 refine returnsInHanded_of_change (C := Try.checked) ownExactPutMark started (by kernel_rfl) Try.func3
  (ChangeSpec.witness6 (enc := enc) (C := Try.checked) false ⟨#[], #[.agg #[.float .f32 0, .slice none 0 0], .agg #[.int .i32 0, .int .i32 0, .int .i32 0, .float .f32 0, .float .f32 0, .float .f32 0, .float .f32 0, .int .i64 0, .int .i64 0]], []⟩ 8 (by kernel_rfl) (by kernel_rfl) (by kernel_rfl) (by kernel_rfl)) ?_
 intro W base args ds gs before hval hW _ _
 refine law_contract (P := Try.prog) h_laws_FnExactPutMark hW rfl hval laidExactPutMark (by kernel_rfl) (fun ds h => ?_) (tb := 4) (by kernel_rfl) (by kernel_rfl) (xs := [(true, [.flt .f32, .sl [.int .i32, .int .i32, .int .i32, .flt .f32, .flt .f32, .flt .f32, .flt .f32, .int .i64, .int .i64]]), (true, [.int .i32, .int .i32, .int .i32, .flt .f32, .flt .f32, .flt .f32, .flt .f32, .int .i64, .int .i64])]) (by kernel_rfl) (fun H vs h => lawExactPutMark H vs h)
 match ds, h with
 | [d0, d1], _ => exact ⟨rfl, rfl, rfl⟩
theorem overExactPutMark : Rows.fnExactPutMarkRow.holds Try.pinned (OpenSpec.ofChange Rows.fnExactPutMarkSpec) :=
 OpenClaim.holds_of_wide 3 Try.f3 rfl rfl rfl rfl rfl rfl rfl ⟨rfl, rfl, rfl, rfl, rfl⟩ rfl rfl rfl rfl rfl (by kernel_rfl) Try.func3 (by kernel_rfl)
  (of_decide_eq_true (by kernel_rfl)) (by unfold Func.isWrapper; rw [if_neg (of_decide_eq_false (by kernel_rfl))]; exact ⟨rfl, rfl⟩)
  (fun os started H enc _ => liftedExactPutMark os started H enc)
theorem provedExactPutMark : Rows.FnExactPutMarkSaid := overExactPutMark
#print axioms provedExactPutMark
end Go.Proofs.Ytacligocjfhckaa
