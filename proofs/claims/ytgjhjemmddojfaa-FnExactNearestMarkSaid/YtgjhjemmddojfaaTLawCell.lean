/- The law of CellOf, walked. -/
import Derived.Test.YtgjhjemmddojfaaTCell
set_option linter.unusedVariables false
set_option linter.unusedSimpArgs false
namespace Go.Proofs.Ytgjhjemmddojfaa
open Go.Ab
set_option maxRecDepth 100000
set_option maxHeartbeats 1000000
attribute [local irreducible] Res
theorem cellX_form (s a b c : Option Nat) : ∃ p0 p1 p2 d : Int, cellX s a b c = ([.int .i32 p0, .int .i32 p1, .int .i32 p2], d) := by
 unfold cellX
 repeat' split
 all_goals exact ⟨_, _, _, _, rfl⟩
theorem vecArg {H : AHeap} {a : AV} (h : FitArg H (true, [.flt .f32, .flt .f32, .flt .f32]) a) : ∃ s0 s1 s2 : Option Nat, a = .agg [.flt .f32 s0, .flt .f32 s1, .flt .f32 s2] ∧ fOk .f32 s0 ∧ fOk .f32 s1 ∧ fOk .f32 s2 := by
 obtain ⟨cs, rfl, hl, hc⟩ := h
 match cs, hl with
 | [c0, c1, c2], _ =>
  have h0 := hc 0 _ _ rfl rfl
  have h1 := hc 1 _ _ rfl rfl
  have h2 := hc 2 _ _ rfl rfl
  cases h0 with | flt h0 => cases h1 with | flt h1 => cases h2 with | flt h2 =>
  exact ⟨_, _, _, rfl, h0, h1, h2⟩
end Go.Proofs.Ytgjhjemmddojfaa
