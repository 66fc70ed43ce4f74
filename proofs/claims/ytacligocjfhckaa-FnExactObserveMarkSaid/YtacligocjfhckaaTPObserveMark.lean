/- Walks of functions of the given program, by the theory of the texts Ab. -/
import Derived.Test.YtacligocjfhckaaTLawObs
import Derived.Test.YtacligocjfhckaaAbD
import Derived.Test.YtacligocjfhckaaSxE
set_option linter.unusedVariables false
set_option linter.unusedSimpArgs false
namespace Go.Proofs.Ytacligocjfhckaa
open Go.Ab Go.ChangeShapes Go.WideShapes Go.ChangeAt Go.RowKit
set_option maxRecDepth 100000
/- ExactObserveMark: for every argument the law returns true, panics nowhere and leaves its arguments as they are. -/
theorem kU : ownKnob Try.prog.godebug = none := by kernel_rfl
theorem uB : laidOutB Try.prog = true := by kernel_rfl
set_option maxRecDepth 100000 in
theorem pE (os : Os) (started : os.Started) (H : Type) (enc : TypeId × Value -> H) :
  ReturnsInHanded {} Try.checked os 5 .any (Rows.fnExactObserveMarkSpec.pre6 enc Try.prog Try.f5 Rows.fnExactObserveMarkRow.domain false) (Rows.fnExactObserveMarkSpec.post enc Try.prog Try.f5 false true false false) := by
 refine returnsInHanded_of_change (C := Try.checked) kU started kr Try.func5
  (ChangeSpec.witness6 (enc := enc) (C := Try.checked) false ⟨#[], #[.agg #[.float .f32 0, .slice none 0 0], .agg #[.float .f32 0, .float .f32 0, .float .f32 0], .float .f32 0, .int .i64 0, .float .f32 0], []⟩ 8 kr kr kr kr) ?_
 intro W base args ds gs before hval hW _ _
 refine qFx (P := Try.prog) xG hW rfl hval uB kr (fun ds h => ?_) (tb := 4) kr kr (xs := [(true, [.flt .f32, .sl [.int .i32, .int .i32, .int .i32, .flt .f32, .flt .f32, .flt .f32, .flt .f32, .int .i64, .int .i64]]), (true, [.flt .f32, .flt .f32, .flt .f32]), (false, [.flt .f32]), (false, [.int .i64]), (false, [.flt .f32])]) kr (fun H vs h => kT H vs h)
 match ds, h with
 | [d0, d1, d2, d3, d4], _ => exact ⟨rfl, rfl, rfl⟩
theorem uC : Rows.fnExactObserveMarkRow.holds Try.pinned (OpenSpec.ofChange Rows.fnExactObserveMarkSpec) :=
 OpenClaim.holds_of_wide 5 Try.f5 rfl rfl rfl rfl rfl rfl rfl ⟨rfl, rfl, rfl, rfl, rfl⟩ rfl rfl rfl rfl rfl kr Try.func5 kr
  (of_decide_eq_true kr) (by unfold Func.isWrapper; rw [if_neg (of_decide_eq_false kr)]; exact ⟨rfl, rfl⟩)
  (fun os started H enc _ => pE os started H enc)
theorem provedExactObserveMark : Rows.FnExactObserveMarkSaid := uC
#print axioms provedExactObserveMark
end Go.Proofs.Ytacligocjfhckaa
