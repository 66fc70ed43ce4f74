/- Contracts: steps of poses as plain functions. -/
import Derived.Test.YtcmoeocemmeofaaTTrigS
import Derived.Test.YtcmoeocemmeofaaTGA
set_option linter.unusedVariables false
set_option linter.unusedSimpArgs false
namespace Go.Proofs.Ytcmoeocemmeofaa
open Go.Ab
set_option maxRecDepth 100000
attribute [local irreducible] Res
theorem e_comp (m m' : List AV) (h : KdsL KP m ∧ KdsL KP m') : ∃ r : List AV, KdsL KP r ∧ ∀ H, APure Try.prog 60 [.agg m, .agg m'] H (.agg r) ∧ APure Try.prog 88 [.agg m, .agg m'] H (.agg r) := by
  obtain ⟨r, h1, _, h2⟩ := pair_flat (φ := φP) (pm := pmP) 20 (sh := .agg KP) (f := 60) (g := 88) rfl rfl tb_ok apP_ok (gk := [(true, KP), (true, KP)]) (gv := [(true, m), (true, m')]) (.cons h.1 (.cons h.2 .nil)) (by decide) (by kernel_rfl)
  cases h1 with
  | agg h1 => exact ⟨_, h1, h2⟩
def zeroP : List AV := [.flt .f32 (some 0), .flt .f32 (some 0), .flt .f32 (some 0)]
theorem zeroP_ok : KdsL KP zeroP := .cons ⟨_, rfl, by intro b hb; cases hb; exact ⟨by decide, by decide +kernel⟩⟩ (.cons ⟨_, rfl, by intro b hb; cases hb; exact ⟨by decide, by decide +kernel⟩⟩ (.cons ⟨_, rfl, by intro b hb; cases hb; exact ⟨by decide, by decide +kernel⟩⟩ .nil))
open Classical in
noncomputable def compF (m m' : List AV) : List AV := if h : KdsL KP m ∧ KdsL KP m' then Classical.choose (e_comp m m' h) else zeroP
theorem compF_ok (m m' : List AV) : KdsL KP (compF m m') := by
  unfold compF
  split
  · rename_i h; exact (Classical.choose_spec (e_comp m m' h)).1
  · exact zeroP_ok
theorem k_ComposePoses (m m' : List AV) (h : KdsL KP m) (h' : KdsL KP m') (H : AHeap) : APure Try.prog 60 [.agg m, .agg m'] H (.agg (compF m m')) := by
  unfold compF; rw [dif_pos ⟨h, h'⟩]; exact ((Classical.choose_spec (e_comp m m' ⟨h, h'⟩)).2 H).1
theorem k_l06Compose (m m' : List AV) (h : KdsL KP m) (h' : KdsL KP m') (H : AHeap) : APure Try.prog 88 [.agg m, .agg m'] H (.agg (compF m m')) := by
  unfold compF; rw [dif_pos ⟨h, h'⟩]; exact ((Classical.choose_spec (e_comp m m' ⟨h, h'⟩)).2 H).2
end Go.Proofs.Ytcmoeocemmeofaa
