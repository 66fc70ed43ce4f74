/- Arguments that are maps. -/
import Derived.Test.YtacligocjfhckaaTMap
import Derived.Test.YtacligocjfhckaaSxC
set_option linter.unusedVariables false
set_option linter.unusedSimpArgs false
namespace Go.Proofs.Ytacligocjfhckaa
open Go.Ab
set_option maxRecDepth 100000
attribute [local irreducible] Res
theorem mapArg {H : AHeap} {a : AV} (h : FitArg H (true, [.flt .f32, .sl [.int .i32, .int .i32, .int .i32, .flt .f32, .flt .f32, .flt .f32, .flt .f32, .int .i64, .int .i64]]) a) : ∃ (x : Option Nat) (ms : List (List AV)) (S : AV), a = .agg [.flt .f32 x, S] ∧ fOk .f32 x ∧ Recs KM ms ∧ SlL H 9 ms S ∧ ms.length ≤ 9223372036854775807 := by
 obtain ⟨cs, rfl, hl, hc⟩ := h
 match cs, hl with
 | [c0, c1], _ =>
  have h0 := hc 0 _ _ rfl rfl
  have h1 := hc 1 _ _ rfl rfl
  cases h0 with
  | flt h0 =>
   obtain ⟨ms, g1, g2, g3⟩ := slArg (ks := KM) (sz := 9) h1 rfl rfl
   exact ⟨_, ms, c1, rfl, h0, g1, g2, g3⟩
end Go.Proofs.Ytacligocjfhckaa
