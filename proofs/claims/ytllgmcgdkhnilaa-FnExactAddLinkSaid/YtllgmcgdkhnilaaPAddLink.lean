/- Walks of functions of the given program, by the theory of the texts Ab. -/
import Derived.Test.YtllgmcgdkhnilaaLawAddLink
import Derived.Test.YtllgmcgdkhnilaaAbD
set_option linter.unusedVariables false
set_option linter.unusedSimpArgs false
namespace Go.Proofs.Ytllgmcgdkhnilaa
open Go.Ab Go.ChangeShapes Go.WideShapes Go.ChangeAt Go.RowKit
set_option maxRecDepth 100000
/- ExactAddLink: for every argument the law returns true, panics nowhere and leaves its arguments as they are. -/
theorem ownExactAddLink : ownKnob Try.prog.godebug = none := by kernel_rfl
theorem laidExactAddLink : laidOutB Try.prog = true := by kernel_rfl
set_option maxRecDepth 100000 in
theorem liftedExactAddLink (os : Os) (started : os.Started) (H : Type) (enc : TypeId × Value → H) :
    ReturnsInHanded {} Try.checked os 11 .any (Rows.fnExactAddLinkSpec.pre6 enc Try.prog Try.f11 Rows.fnExactAddLinkRow.domain false) (Rows.fnExactAddLinkSpec.post enc Try.prog Try.f11 false true false false) := by
  refine returnsInHanded_of_change (C := Try.checked) ownExactAddLink started (by kernel_rfl) Try.func11
    (ChangeSpec.witness6 (enc := enc) (C := Try.checked) false ⟨#[], #[.agg #[.slice none 0 0, .slice none 0 0], .agg #[.int .i64 0, .int .i64 0, .float .f32 0, .float .f32 0, .float .f32 0, .float .f32 0]], []⟩ 8 (by kernel_rfl) (by kernel_rfl) (by kernel_rfl) (by kernel_rfl)) ?_
  intro W base args ds gs before hval hW _ _
  refine law_contract (P := Try.prog) h_laws_FnExactAddLink hW rfl hval laidExactAddLink (by kernel_rfl) (fun ds h => ?_) (tb := 4) (by kernel_rfl) (by kernel_rfl) (xs := [(true, [.sl [.flt .f32, .flt .f32, .flt .f32], .sl [.int .i64, .int .i64, .flt .f32, .flt .f32, .flt .f32, .flt .f32]]), (true, [.int .i64, .int .i64, .flt .f32, .flt .f32, .flt .f32, .flt .f32])]) (by kernel_rfl) (fun H vs h => lawExactAddLink H vs h)
  match ds, h with
  | [d0, d1], _ => exact ⟨rfl, rfl, rfl⟩
theorem overExactAddLink : Rows.fnExactAddLinkRow.holds Try.pinned (OpenSpec.ofChange Rows.fnExactAddLinkSpec) :=
  OpenClaim.holds_of_wide 11 Try.f11 rfl rfl rfl rfl rfl rfl rfl ⟨rfl, rfl, rfl, rfl, rfl⟩ rfl rfl rfl rfl rfl (by kernel_rfl) Try.func11 (by kernel_rfl)
    (of_decide_eq_true (by kernel_rfl)) (by unfold Func.isWrapper; rw [if_neg (of_decide_eq_false (by kernel_rfl))]; exact ⟨rfl, rfl⟩)
    (fun os started H enc _ => liftedExactAddLink os started H enc)
theorem provedExactAddLink : Rows.FnExactAddLinkSaid := overExactAddLink
#print axioms provedExactAddLink

end Go.Proofs.Ytllgmcgdkhnilaa
