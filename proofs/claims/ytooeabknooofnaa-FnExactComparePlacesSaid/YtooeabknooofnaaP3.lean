/- Walks of functions of the given program, by the theory of the texts Ab. -/
import Derived.Test.YtooeabknooofnaaW6
import Derived.Test.YtooeabknooofnaaAb17
set_option linter.unusedVariables false
set_option linter.unusedSimpArgs false
namespace Go.Proofs.Ytooeabknooofnaa
open Go.Ab Go.ChangeShapes Go.WideShapes Go.ChangeAt Go.RowKit
theorem own3 : ownKnob Try.prog.godebug = none := by kernel_rfl
theorem laid3 : laidOutB Try.prog = true := by kernel_rfl
theorem arrI3 {H : AHeap} {a : AV} (h : FitArg H (true, [.int .i32, .int .i32, .int .i32]) a) : ∃ x y z, a = .agg [.int .i32 x, .int .i32 y, .int .i32 z] := by
  obtain ⟨cs, rfl, hl, hc⟩ := h
  match cs, hl with
  | [c0, c1, c2], _ =>
    have h0 := hc 0 _ _ rfl rfl
    have h1 := hc 1 _ _ rfl rfl
    have h2 := hc 2 _ _ rfl rfl
    cases h0; cases h1; cases h2
    exact ⟨_, _, _, rfl⟩
theorem args2' {H : AHeap} {p q : Bool × List Sh} {vs : List AV} (h : FitArgs H [p, q] vs) : ∃ a b, vs = [a, b] ∧ FitArg H p a ∧ FitArg H q b := by
  match vs, h with
  | [a, b], h => exact ⟨a, b, rfl, h.1, h.2.1⟩
set_option maxRecDepth 100000 in
theorem liftedComparePlaces (os : Os) (started : os.Started) (H : Type) (enc : TypeId × Value → H) :
    ReturnsInHanded {} Try.checked os 5 .any (Rows.fnExactComparePlacesSpec.pre6 enc Try.prog Try.f5 Rows.fnExactComparePlacesRow.domain false) (Rows.fnExactComparePlacesSpec.post enc Try.prog Try.f5 false true false false) := by
  refine returnsInHanded_of_change (C := Try.checked) own3 started (by kernel_rfl) Try.func5
    (ChangeSpec.witness6 (enc := enc) (C := Try.checked) false ⟨#[], #[.agg #[.int .i32 0, .int .i32 0, .int .i32 0], .agg #[.int .i32 0, .int .i32 0, .int .i32 0]], []⟩ 8 (by kernel_rfl) (by kernel_rfl) (by kernel_rfl) (by kernel_rfl)) ?_
  intro W base args ds gs before hval hW _ _
  refine law_contract (P := Try.prog) h_laws_FnExactComparePlaces hW rfl hval laid3 (by kernel_rfl) (fun ds h => ?_) (tb := 4) (by kernel_rfl) (by kernel_rfl) (xs := [(true, [.int .i32, .int .i32, .int .i32]), (true, [.int .i32, .int .i32, .int .i32])]) (by kernel_rfl) (fun H vs h => ?_)
  · match ds, h with
    | [d1, d2], _ => exact ⟨rfl, rfl, rfl⟩
  · obtain ⟨a, b, rfl, ha, hb⟩ := args2' h
    obtain ⟨x, y, z, rfl⟩ := arrI3 ha
    obtain ⟨x', y', z', rfl⟩ := arrI3 hb
    exact (k_lawComparePlaces H x y z x' y' z').mono fun r H' h => h.1
theorem overComparePlaces : Rows.fnExactComparePlacesRow.holds Try.pinned (OpenSpec.ofChange Rows.fnExactComparePlacesSpec) :=
  OpenClaim.holds_of_wide 5 Try.f5 rfl rfl rfl rfl rfl rfl rfl ⟨rfl, rfl, rfl, rfl, rfl⟩ rfl rfl rfl rfl rfl (by kernel_rfl) Try.func5 (by kernel_rfl)
    (of_decide_eq_true (by kernel_rfl)) (by unfold Func.isWrapper; rw [if_neg (of_decide_eq_false (by kernel_rfl))]; exact ⟨rfl, rfl⟩)
    (fun os started H enc _ => liftedComparePlaces os started H enc)
theorem provedComparePlaces : Rows.FnExactComparePlacesSaid := overComparePlaces
#print axioms provedComparePlaces
end Go.Proofs.Ytooeabknooofnaa
