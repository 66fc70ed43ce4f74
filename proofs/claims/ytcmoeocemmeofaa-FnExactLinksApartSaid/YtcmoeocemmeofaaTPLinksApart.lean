/- Walks of functions of the given program, by the theory of the texts Ab. -/
import Derived.Test.YtcmoeocemmeofaaTLawLinksApart
import Derived.Test.YtcmoeocemmeofaaAbD
set_option linter.unusedVariables false
set_option linter.unusedSimpArgs false
namespace Go.Proofs.Ytcmoeocemmeofaa
open Go.Ab Go.ChangeShapes Go.WideShapes Go.ChangeAt Go.RowKit
set_option maxRecDepth 100000
/- ExactLinksApart: for every argument the law returns true, panics nowhere and leaves its arguments as they are. -/
theorem ownExactLinksApart : ownKnob Try.prog.godebug = none := by kernel_rfl
theorem laidExactLinksApart : laidOutB Try.prog = true := by kernel_rfl
set_option maxRecDepth 100000 in
theorem liftedExactLinksApart (os : Os) (started : os.Started) (H : Type) (enc : TypeId × Value → H) :
  ReturnsInHanded {} Try.checked os 7 .any (Rows.fnExactLinksApartSpec.pre6 enc Try.prog Try.f7 Rows.fnExactLinksApartRow.domain false) (Rows.fnExactLinksApartSpec.post enc Try.prog Try.f7 false true false false) := by
 refine returnsInHanded_of_change (C := Try.checked) ownExactLinksApart started (by kernel_rfl) Try.func7
  (ChangeSpec.witness6 (enc := enc) (C := Try.checked) false ⟨#[], #[.agg #[.slice none 0 0, .slice none 0 0], .int .i64 0, .int .i64 0], []⟩ 8 (by kernel_rfl) (by kernel_rfl) (by kernel_rfl) (by kernel_rfl)) ?_
 intro W base args ds gs before hval hW _ _
 refine law_contract (P := Try.prog) h_laws_FnExactLinksApart hW rfl hval laidExactLinksApart (by kernel_rfl) (fun ds h => ?_) (tb := 4) (by kernel_rfl) (by kernel_rfl) (xs := [(true, [.sl [.flt .f32, .flt .f32, .flt .f32], .sl [.int .i64, .int .i64, .flt .f32, .flt .f32, .flt .f32, .flt .f32]]), (false, [.int .i64]), (false, [.int .i64])]) (by kernel_rfl) (fun H vs h => lawExactLinksApart H vs h)
 match ds, h with
 | [d0, d1, d2], _ => exact ⟨rfl, rfl, rfl⟩
theorem overExactLinksApart : Rows.fnExactLinksApartRow.holds Try.pinned (OpenSpec.ofChange Rows.fnExactLinksApartSpec) :=
 OpenClaim.holds_of_wide 7 Try.f7 rfl rfl rfl rfl rfl rfl rfl ⟨rfl, rfl, rfl, rfl, rfl⟩ rfl rfl rfl rfl rfl (by kernel_rfl) Try.func7 (by kernel_rfl)
  (of_decide_eq_true (by kernel_rfl)) (by unfold Func.isWrapper; rw [if_neg (of_decide_eq_false (by kernel_rfl))]; exact ⟨rfl, rfl⟩)
  (fun os started H enc _ => liftedExactLinksApart os started H enc)
theorem provedExactLinksApart : Rows.FnExactLinksApartSaid := overExactLinksApart
#print axioms provedExactLinksApart
end Go.Proofs.Ytcmoeocemmeofaa
