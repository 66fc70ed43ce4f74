/- Contracts: numbers and poses that are the same, finite, weights. -/
import Derived.Test.YtcmoeocemmeofaaTBase
import Derived.Test.YtcmoeocemmeofaaSxD
set_option linter.unusedVariables false
set_option linter.unusedSimpArgs false
namespace Go.Proofs.Ytcmoeocemmeofaa
open Go.Ab
set_option maxRecDepth 100000
attribute [local irreducible] Res
def KP : List Kd := [.flt .f32, .flt .f32, .flt .f32]
def KL : List Kd := [.int .i64, .int .i64, .flt .f32, .flt .f32, .flt .f32, .flt .f32]
theorem e_finPose (m : List AV) (h : KdsL KP m) : ∃ b : Bool, ∀ H, APure Try.prog 57 [.agg m] H (.bool b) ∧ APure Try.prog 87 [.agg m] H (.bool b) := by
 obtain ⟨b, h2⟩ := pair_flatB (φ := φ0) (pm := pm) 20 (f := 57) (g := 87) rfl rfl tb_ok ap_ok (gk := [(true, KP)]) (gv := [(true, m)]) (.cons h .nil) (by decide) (by kernel_rfl)
 exact ⟨b, h2⟩
theorem e_side (x : Option Nat) (h : fOk .f32 x) : ∃ b : Bool, ∀ H, APure Try.prog 73 [.flt .f32 x] H (.bool b) ∧ APure Try.prog 72 [.flt .f32 x] H (.bool b) := by
 obtain ⟨b, h2⟩ := pair_flatB (φ := φ0) (pm := pm) 20 (f := 73) (g := 72) rfl rfl tb_ok ap_ok (gk := [(false, [.flt .f32])]) (gv := [(false, [.flt .f32 x])]) (.cons (.cons ⟨_, rfl, h⟩ .nil) .nil) (by decide) (by kernel_rfl)
 exact ⟨b, h2⟩
open Classical in
noncomputable def finP (m : List AV) : Bool := if h : KdsL KP m then Classical.choose (e_finPose m h) else false
theorem k_IsFinitePose (m : List AV) (h : KdsL KP m) (H : AHeap) : APure Try.prog 57 [.agg m] H (.bool (finP m)) := by
 unfold finP; rw [dif_pos h]; exact (Classical.choose_spec (e_finPose m h) H).1
theorem k_l06Finite (m : List AV) (h : KdsL KP m) (H : AHeap) : APure Try.prog 87 [.agg m] H (.bool (finP m)) := by
 unfold finP; rw [dif_pos h]; exact (Classical.choose_spec (e_finPose m h) H).2
open Classical in
noncomputable def sideB (x : Option Nat) : Bool := if h : fOk .f32 x then Classical.choose (e_side x h) else false
theorem k_isSide (x : Option Nat) (h : fOk .f32 x) (H : AHeap) : APure Try.prog 73 [.flt .f32 x] H (.bool (sideB x)) := by
 unfold sideB; rw [dif_pos h]; exact (Classical.choose_spec (e_side x h) H).1
theorem k_l06Weight (x : Option Nat) (h : fOk .f32 x) (H : AHeap) : APure Try.prog 72 [.flt .f32 x] H (.bool (sideB x)) := by
 unfold sideB; rw [dif_pos h]; exact (Classical.choose_spec (e_side x h) H).2
end Go.Proofs.Ytcmoeocemmeofaa
