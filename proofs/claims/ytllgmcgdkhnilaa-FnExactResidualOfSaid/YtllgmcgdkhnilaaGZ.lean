/- Contracts: numbers and poses that are the same, finite, weights. -/
import Derived.Test.YtllgmcgdkhnilaaBase
import Derived.Test.YtllgmcgdkhnilaaSxD
set_option linter.unusedVariables false
set_option linter.unusedSimpArgs false
namespace Go.Proofs.Ytllgmcgdkhnilaa
open Go.Ab
set_option maxRecDepth 100000
attribute [local irreducible] Res
def KP : List Kd := [.flt .f32, .flt .f32, .flt .f32]
def KL : List Kd := [.int .i64, .int .i64, .flt .f32, .flt .f32, .flt .f32, .flt .f32]
theorem e_sameNum (x y : Option Nat) (h : fOk .f32 x ∧ fOk .f32 y) : ∃ b : Bool, ∀ H, APure Try.prog 65 [.flt .f32 x, .flt .f32 y] H (.bool b) ∧ APure Try.prog 95 [.flt .f32 x, .flt .f32 y] H (.bool b) := by
  obtain ⟨b, h2⟩ := pair_flatB (φ := φ0) (pm := pm) 20 (f := 95) (g := 65) rfl rfl tb_ok ap_ok (gk := [(false, [.flt .f32, .flt .f32])]) (gv := [(false, [.flt .f32 x, .flt .f32 y])]) (.cons (.cons ⟨_, rfl, h.1⟩ (.cons ⟨_, rfl, h.2⟩ .nil)) .nil) (by decide) (by kernel_rfl)
  exact ⟨b, fun H => ⟨(h2 H).2, (h2 H).1⟩⟩
theorem e_samePose (m m' : List AV) (h : KdsL KP m ∧ KdsL KP m') : ∃ b : Bool, ∀ H, APure Try.prog 19 [.agg m, .agg m'] H (.bool b) ∧ APure Try.prog 57 [.agg m, .agg m'] H (.bool b) := by
  obtain ⟨b, h2⟩ := pair_flatB (φ := φ0) (pm := pm) 20 (f := 57) (g := 19) rfl rfl tb_ok ap_ok (gk := [(true, KP), (true, KP)]) (gv := [(true, m), (true, m')]) (.cons h.1 (.cons h.2 .nil)) (by decide) (by kernel_rfl)
  exact ⟨b, fun H => ⟨(h2 H).2, (h2 H).1⟩⟩
theorem e_finPose (m : List AV) (h : KdsL KP m) : ∃ b : Bool, ∀ H, APure Try.prog 17 [.agg m] H (.bool b) ∧ APure Try.prog 55 [.agg m] H (.bool b) := by
  obtain ⟨b, h2⟩ := pair_flatB (φ := φ0) (pm := pm) 20 (f := 17) (g := 55) rfl rfl tb_ok ap_ok (gk := [(true, KP)]) (gv := [(true, m)]) (.cons h .nil) (by decide) (by kernel_rfl)
  exact ⟨b, h2⟩
theorem e_side (x : Option Nat) (h : fOk .f32 x) : ∃ b : Bool, ∀ H, APure Try.prog 101 [.flt .f32 x] H (.bool b) ∧ APure Try.prog 109 [.flt .f32 x] H (.bool b) := by
  obtain ⟨b, h2⟩ := pair_flatB (φ := φ0) (pm := pm) 20 (f := 101) (g := 109) rfl rfl tb_ok ap_ok (gk := [(false, [.flt .f32])]) (gv := [(false, [.flt .f32 x])]) (.cons (.cons ⟨_, rfl, h⟩ .nil) .nil) (by decide) (by kernel_rfl)
  exact ⟨b, h2⟩
open Classical in
noncomputable def sameN (x y : Option Nat) : Bool := if h : fOk .f32 x ∧ fOk .f32 y then Classical.choose (e_sameNum x y h) else false
theorem k_SameNumber (x y : Option Nat) (hx : fOk .f32 x) (hy : fOk .f32 y) (H : AHeap) : APure Try.prog 65 [.flt .f32 x, .flt .f32 y] H (.bool (sameN x y)) := by
  unfold sameN; rw [dif_pos ⟨hx, hy⟩]; exact (Classical.choose_spec (e_sameNum x y ⟨hx, hy⟩) H).1
theorem k_l01Same (x y : Option Nat) (hx : fOk .f32 x) (hy : fOk .f32 y) (H : AHeap) : APure Try.prog 95 [.flt .f32 x, .flt .f32 y] H (.bool (sameN x y)) := by
  unfold sameN; rw [dif_pos ⟨hx, hy⟩]; exact (Classical.choose_spec (e_sameNum x y ⟨hx, hy⟩) H).2
open Classical in
noncomputable def sameP (m m' : List AV) : Bool := if h : KdsL KP m ∧ KdsL KP m' then Classical.choose (e_samePose m m' h) else false
theorem k_SamePose (m m' : List AV) (h : KdsL KP m) (h' : KdsL KP m') (H : AHeap) : APure Try.prog 19 [.agg m, .agg m'] H (.bool (sameP m m')) := by
  unfold sameP; rw [dif_pos ⟨h, h'⟩]; exact (Classical.choose_spec (e_samePose m m' ⟨h, h'⟩) H).1
theorem k_l06SamePose (m m' : List AV) (h : KdsL KP m) (h' : KdsL KP m') (H : AHeap) : APure Try.prog 57 [.agg m, .agg m'] H (.bool (sameP m m')) := by
  unfold sameP; rw [dif_pos ⟨h, h'⟩]; exact (Classical.choose_spec (e_samePose m m' ⟨h, h'⟩) H).2
open Classical in
noncomputable def finP (m : List AV) : Bool := if h : KdsL KP m then Classical.choose (e_finPose m h) else false
theorem k_IsFinitePose (m : List AV) (h : KdsL KP m) (H : AHeap) : APure Try.prog 17 [.agg m] H (.bool (finP m)) := by
  unfold finP; rw [dif_pos h]; exact (Classical.choose_spec (e_finPose m h) H).1
theorem k_l06Finite (m : List AV) (h : KdsL KP m) (H : AHeap) : APure Try.prog 55 [.agg m] H (.bool (finP m)) := by
  unfold finP; rw [dif_pos h]; exact (Classical.choose_spec (e_finPose m h) H).2
open Classical in
noncomputable def sideB (x : Option Nat) : Bool := if h : fOk .f32 x then Classical.choose (e_side x h) else false
theorem k_isSide (x : Option Nat) (h : fOk .f32 x) (H : AHeap) : APure Try.prog 101 [.flt .f32 x] H (.bool (sideB x)) := by
  unfold sideB; rw [dif_pos h]; exact (Classical.choose_spec (e_side x h) H).1
theorem k_l06Weight (x : Option Nat) (h : fOk .f32 x) (H : AHeap) : APure Try.prog 109 [.flt .f32 x] H (.bool (sideB x)) := by
  unfold sideB; rw [dif_pos h]; exact (Classical.choose_spec (e_side x h) H).2
end Go.Proofs.Ytllgmcgdkhnilaa
