/- Walks of functions of the given program, by the theory of the texts Ab. -/
import Derived.Test.YtooeabknooofnaaW1
import Derived.Test.YtooeabknooofnaaAb17
set_option linter.unusedVariables false
set_option linter.unusedSimpArgs false
namespace Go.Proofs.Ytooeabknooofnaa
open Go.Ab Go.ChangeShapes Go.WideShapes Go.ChangeAt Go.RowKit
theorem own : ownKnob Try.prog.godebug = none := by kernel_rfl
theorem laid_ : laidOutB Try.prog = true := by kernel_rfl
theorem fits1 {H : AHeap} {vs : List AV} (h : FitArgs H [(true, [.flt .f32, .flt .f32, .flt .f32])] vs) : ∃ x y z, vs = [.agg [.flt .f32 x, .flt .f32 y, .flt .f32 z]] := by
  match vs, h with
  | [a], h =>
    obtain ⟨⟨cs, rfl, hl, hc⟩, _⟩ := h
    match cs, hl with
    | [c0, c1, c2], _ =>
      have h0 := hc 0 _ _ rfl rfl
      have h1 := hc 1 _ _ rfl rfl
      have h2 := hc 2 _ _ rfl rfl
      cases h0; cases h1; cases h2
      exact ⟨_, _, _, rfl⟩
set_option maxRecDepth 100000 in
theorem lifted (os : Os) (started : os.Started) (H : Type) (enc : TypeId × Value → H) :
    ReturnsInHanded {} Try.checked os 3 .any (Rows.fnExactIsFinitePoseSpec.pre6 enc Try.prog Try.f3 Rows.fnExactIsFinitePoseRow.domain false) (Rows.fnExactIsFinitePoseSpec.post enc Try.prog Try.f3 false true false false) := by
  refine returnsInHanded_of_change (C := Try.checked) own started (by kernel_rfl) Try.func3
    (ChangeSpec.witness6 (enc := enc) (C := Try.checked) false ⟨#[], #[.agg #[.float .f32 0, .float .f32 0, .float .f32 0]], []⟩ 8 (by kernel_rfl) (by kernel_rfl) (by kernel_rfl) (by kernel_rfl)) ?_
  intro W base args ds gs before hval hW _ _
  refine law_contract (P := Try.prog) h_laws_FnExactIsFinitePose hW rfl hval laid_ (by kernel_rfl) (fun ds h => ?_) (tb := 4) (by kernel_rfl) (by kernel_rfl) (xs := [(true, [.flt .f32, .flt .f32, .flt .f32])]) (by kernel_rfl) (fun H vs h => ?_)
  · match ds, h with
    | [d], _ => exact ⟨rfl, rfl, rfl⟩
  · obtain ⟨x, y, z, rfl⟩ := fits1 h
    exact (k_law H x y z).mono fun r H' h => h.1
theorem over : Rows.fnExactIsFinitePoseRow.holds Try.pinned (OpenSpec.ofChange Rows.fnExactIsFinitePoseSpec) :=
  OpenClaim.holds_of_wide 3 Try.f3 rfl rfl rfl rfl rfl rfl rfl ⟨rfl, rfl, rfl, rfl, rfl⟩ rfl rfl rfl rfl rfl (by kernel_rfl) Try.func3 (by kernel_rfl)
    (of_decide_eq_true (by kernel_rfl)) (by unfold Func.isWrapper; rw [if_neg (of_decide_eq_false (by kernel_rfl))]; exact ⟨rfl, rfl⟩)
    (fun os started H enc _ => lifted os started H enc)
theorem proved : Rows.FnExactIsFinitePoseSaid := over
#print axioms proved
end Go.Proofs.Ytooeabknooofnaa
