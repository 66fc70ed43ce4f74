/- Walks of functions of the given program, by the theory of the texts Ab. -/
import Derived.Test.YtcmoeocemmeofaaTLawChainGraph
import Derived.Test.YtcmoeocemmeofaaAbD
set_option linter.unusedVariables false
set_option linter.unusedSimpArgs false
namespace Go.Proofs.Ytcmoeocemmeofaa
open Go.Ab Go.ChangeShapes Go.WideShapes Go.ChangeAt Go.RowKit
set_option maxRecDepth 100000
/- ExactChainGraph: for every argument the law returns true, panics nowhere and leaves its arguments as they are. -/
theorem ownExactChainGraph : ownKnob Try.prog.godebug = none := by kernel_rfl
theorem laidExactChainGraph : laidOutB Try.prog = true := by kernel_rfl
set_option maxRecDepth 100000 in
theorem liftedExactChainGraph (os : Os) (started : os.Started) (H : Type) (enc : TypeId × Value → H) :
    ReturnsInHanded {} Try.checked os 9 .any (Rows.fnExactChainGraphSpec.pre6 enc Try.prog Try.f9 Rows.fnExactChainGraphRow.domain false) (Rows.fnExactChainGraphSpec.post enc Try.prog Try.f9 false true false false) := by
  refine returnsInHanded_of_change (C := Try.checked) ownExactChainGraph started (by kernel_rfl) Try.func9
    (ChangeSpec.witness6 (enc := enc) (C := Try.checked) false ⟨#[], #[.agg #[.float .f32 0, .float .f32 0, .float .f32 0], .slice none 0 0, .float .f32 0], []⟩ 8 (by kernel_rfl) (by kernel_rfl) (by kernel_rfl) (by kernel_rfl)) ?_
  intro W base args ds gs before hval hW _ _
  refine law_contract (P := Try.prog) h_laws_FnExactChainGraph hW rfl hval laidExactChainGraph (by kernel_rfl) (fun ds h => ?_) (tb := 4) (by kernel_rfl) (by kernel_rfl) (xs := [(true, [.flt .f32, .flt .f32, .flt .f32]), (false, [.sl [.flt .f32, .flt .f32, .flt .f32]]), (false, [.flt .f32])]) (by kernel_rfl) (fun H vs h => lawExactChainGraph H vs h)
  match ds, h with
  | [d0, d1, d2], _ => exact ⟨rfl, rfl, rfl⟩
theorem overExactChainGraph : Rows.fnExactChainGraphRow.holds Try.pinned (OpenSpec.ofChange Rows.fnExactChainGraphSpec) :=
  OpenClaim.holds_of_wide 9 Try.f9 rfl rfl rfl rfl rfl rfl rfl ⟨rfl, rfl, rfl, rfl, rfl⟩ rfl rfl rfl rfl rfl (by kernel_rfl) Try.func9 (by kernel_rfl)
    (of_decide_eq_true (by kernel_rfl)) (by unfold Func.isWrapper; rw [if_neg (of_decide_eq_false (by kernel_rfl))]; exact ⟨rfl, rfl⟩)
    (fun os started H enc _ => liftedExactChainGraph os started H enc)
theorem provedExactChainGraph : Rows.FnExactChainGraphSaid := overExactChainGraph
#print axioms provedExactChainGraph
end Go.Proofs.Ytcmoeocemmeofaa
