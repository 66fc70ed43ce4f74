/- Contracts: marks, sides. -/
import Derived.Test.YtacligocjfhckaaTCmp
set_option linter.unusedVariables false
set_option linter.unusedSimpArgs false
namespace Go.Proofs.Ytacligocjfhckaa
open Go.Ab
set_option maxRecDepth 100000
attribute [local irreducible] Res
def KM : List Kd := [.int .i32, .int .i32, .int .i32, .flt .f32, .flt .f32, .flt .f32, .flt .f32, .int .i64, .int .i64]
theorem e_isSide (x : Option Nat) (h : fOk .f32 x) : ∃ b : Bool, ∀ H, APure Try.prog 55 [.flt .f32 x] H (.bool b) ∧ APure Try.prog 47 [.flt .f32 x] H (.bool b) := by
 obtain ⟨r, h1, _, h2⟩ := pair_flat (φ := φ0) (pm := pm) 20 (sh := .k .bool) (f := 55) (g := 47) rfl rfl tb_ok ap_ok (gk := [(false, [.flt .f32])]) (gv := [(false, [.flt .f32 x])]) (.cons (.cons ⟨_, rfl, h⟩ .nil) .nil) (by decide) (by kernel_rfl)
 obtain ⟨b, rfl⟩ := sh_bool h1
 exact ⟨b, h2⟩
theorem e_validMark (m : List AV) (hm : KdsL KM m) : ∃ b : Bool, (∀ H, APure Try.prog 35 [.agg m] H (.bool b)) ∧ ∀ (H : AHeap) (l off : Nat) (pre post : List AV) (wr : Bool), H.get l = some (.row (pre ++ (m ++ post)) wr) → pre.length = off → APure Try.prog 29 [.ptr l off] H (.bool b) := by
 obtain ⟨r, h1, _, h2, h3⟩ := pair_ptr1 (φ := φ0) 20 (sh := .k .bool) (f := 35) (g := 29) tb_ok ap_ok hm (by decide) (by kernel_rfl)
 obtain ⟨b, rfl⟩ := sh_bool h1
 exact ⟨b, h2, h3⟩
open Classical in
noncomputable def sideB (x : Option Nat) : Bool := if h : fOk .f32 x then Classical.choose (e_isSide x h) else false
theorem k_isSide (x : Option Nat) (h : fOk .f32 x) (H : AHeap) : APure Try.prog 55 [.flt .f32 x] H (.bool (sideB x)) := by
 unfold sideB; rw [dif_pos h]; exact (Classical.choose_spec (e_isSide x h) H).1
theorem k_l05Side (x : Option Nat) (h : fOk .f32 x) (H : AHeap) : APure Try.prog 47 [.flt .f32 x] H (.bool (sideB x)) := by
 unfold sideB; rw [dif_pos h]; exact (Classical.choose_spec (e_isSide x h) H).2
open Classical in
noncomputable def markB (m : List AV) : Bool := if h : KdsL KM m then Classical.choose (e_validMark m h) else false
theorem k_validMark (m : List AV) (h : KdsL KM m) (H : AHeap) : APure Try.prog 35 [.agg m] H (.bool (markB m)) := by
 unfold markB; rw [dif_pos h]; exact (Classical.choose_spec (e_validMark m h)).1 H
theorem k_l05Mark (m : List AV) (h : KdsL KM m) {H : AHeap} {l off : Nat} {pre post : List AV} {wr : Bool} (hg : H.get l = some (.row (pre ++ (m ++ post)) wr)) (hp : pre.length = off) : APure Try.prog 29 [.ptr l off] H (.bool (markB m)) := by
 unfold markB; rw [dif_pos h]; exact (Classical.choose_spec (e_validMark m h)).2 H l off pre post wr hg hp
end Go.Proofs.Ytacligocjfhckaa
