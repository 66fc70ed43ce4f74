/- Walks of functions of the given program, by the theory of the texts Ab. -/
import Derived.Test.YtooeabknooofnaaW4
import Derived.Test.YtooeabknooofnaaAb17
set_option linter.unusedVariables false
set_option linter.unusedSimpArgs false
namespace Go.Proofs.Ytooeabknooofnaa
open Go.Ab Go.ChangeShapes Go.WideShapes Go.ChangeAt Go.RowKit
theorem own2 : ownKnob Try.prog.godebug = none := by kernel_rfl
theorem laid2 : laidOutB Try.prog = true := by kernel_rfl
theorem arrF3 {H : AHeap} {a : AV} (h : FitArg H (true, [.flt .f32, .flt .f32, .flt .f32]) a) : ∃ x y z, a = .agg [.flt .f32 x, .flt .f32 y, .flt .f32 z] ∧ fOk .f32 x ∧ fOk .f32 y ∧ fOk .f32 z := by
  obtain ⟨cs, rfl, hl, hc⟩ := h
  match cs, hl with
  | [c0, c1, c2], _ =>
    have h0 := hc 0 _ _ rfl rfl
    have h1 := hc 1 _ _ rfl rfl
    have h2 := hc 2 _ _ rfl rfl
    cases h0 with | flt h0 => cases h1 with | flt h1 => cases h2 with | flt h2 => exact ⟨_, _, _, rfl, h0, h1, h2⟩
theorem args2 {H : AHeap} {p q : Bool × List Sh} {vs : List AV} (h : FitArgs H [p, q] vs) : ∃ a b, vs = [a, b] ∧ FitArg H p a ∧ FitArg H q b := by
  match vs, h with
  | [a, b], h => exact ⟨a, b, rfl, h.1, h.2.1⟩
set_option maxRecDepth 100000 in
theorem liftedSamePose (os : Os) (started : os.Started) (H : Type) (enc : TypeId × Value → H) :
    ReturnsInHanded {} Try.checked os 4 .any (Rows.fnExactSamePoseSpec.pre6 enc Try.prog Try.f4 Rows.fnExactSamePoseRow.domain false) (Rows.fnExactSamePoseSpec.post enc Try.prog Try.f4 false true false false) := by
  refine returnsInHanded_of_change (C := Try.checked) own2 started (by kernel_rfl) Try.func4
    (ChangeSpec.witness6 (enc := enc) (C := Try.checked) false ⟨#[], #[.agg #[.float .f32 0, .float .f32 0, .float .f32 0], .agg #[.float .f32 0, .float .f32 0, .float .f32 0]], []⟩ 8 (by kernel_rfl) (by kernel_rfl) (by kernel_rfl) (by kernel_rfl)) ?_
  intro W base args ds gs before hval hW _ _
  refine law_contract (P := Try.prog) h_laws_FnExactSamePose hW rfl hval laid2 (by kernel_rfl) (fun ds h => ?_) (tb := 4) (by kernel_rfl) (by kernel_rfl) (xs := [(true, [.flt .f32, .flt .f32, .flt .f32]), (true, [.flt .f32, .flt .f32, .flt .f32])]) (by kernel_rfl) (fun H vs h => ?_)
  · match ds, h with
    | [d1, d2], _ => exact ⟨rfl, rfl, rfl⟩
  · obtain ⟨a, b, rfl, ha, hb⟩ := args2 h
    obtain ⟨x, y, z, rfl, hx, hy, hz⟩ := arrF3 ha
    obtain ⟨x', y', z', rfl, hx', hy', hz'⟩ := arrF3 hb
    exact (k_lawSamePose H x y z x' y' z' hx hy hz hx' hy' hz').mono fun r H' h => h.1
theorem overSamePose : Rows.fnExactSamePoseRow.holds Try.pinned (OpenSpec.ofChange Rows.fnExactSamePoseSpec) :=
  OpenClaim.holds_of_wide 4 Try.f4 rfl rfl rfl rfl rfl rfl rfl ⟨rfl, rfl, rfl, rfl, rfl⟩ rfl rfl rfl rfl rfl (by kernel_rfl) Try.func4 (by kernel_rfl)
    (of_decide_eq_true (by kernel_rfl)) (by unfold Func.isWrapper; rw [if_neg (of_decide_eq_false (by kernel_rfl))]; exact ⟨rfl, rfl⟩)
    (fun os started H enc _ => liftedSamePose os started H enc)
theorem provedSamePose : Rows.FnExactSamePoseSaid := overSamePose
#print axioms provedSamePose
end Go.Proofs.Ytooeabknooofnaa
