/- Contracts: sides, finite points, cells of points, by both. -/
import Derived.Test.YtacligocjfhckaaTBase
import Derived.Test.YtacligocjfhckaaSxE
set_option linter.unusedVariables false
set_option linter.unusedSimpArgs false
namespace Go.Proofs.Ytacligocjfhckaa
open Go.Ab
set_option maxRecDepth 100000
set_option maxHeartbeats 1000000
attribute [local irreducible] Res
def sideX (x : Option Nat) : Bool := fin32 x && (ford .f32 (some 0) x == some .lt)
def finX (a b c : Option Nat) : Bool := fin32 a && (fin32 b && fin32 c)
theorem sideX_pos {x : Option Nat} (h : sideX x = true) : fin32 x = true ∧ (ford .f32 (some 0) x == some .lt) = true := by
 unfold sideX at h; rw [Bool.and_eq_true] at h; exact h
theorem finX_all {a b c : Option Nat} (h : finX a b c = true) : fin32 a = true ∧ fin32 b = true ∧ fin32 c = true := by
 unfold finX at h; rw [Bool.and_eq_true, Bool.and_eq_true] at h; exact h
theorem fin_e (x : Option Nat) : (ford .f32 (fop .sub .f32 x x) (some 0) == some .eq) = fin32 x := rfl
theorem k_isSideX (x : Option Nat) (hx : fOk .f32 x) (H : AHeap) : APure Try.prog 55 [.flt .f32 x] H (.bool (sideX x)) := by
 refine res_start h_impl_isSide (by simp) ?_
 have q1 : KdsL [KF] [.flt .f32 x] := .cons ⟨_, rfl, hx⟩ .nil
 refine run_mc (φ := φ0) (pm := pmR 0 [] 0) 20 (ws := []) (env := [(0, nF 0)]) q1 .nil (sepOk_ro rfl) .nil (eC q1 (.cons (t := 0) rfl .nil)) tb_ok ap_ok ?_
 refine all2 (by kernel_rfl) ?_ ?_
 ·
  intro vs ls H2 E2 st hE
  have f3 : (ford .f32 (fop .sub .f32 x x) (some 0) == some .eq) = false := bf st 0
  refine res_ex (by kernel_rfl) (end_flat st.inn hE (.inr rfl) (a := .bool false) (by kernel_rfl) (Grew.trans (Grew.refl _) (gk st)) rfl ⟨?_, rfl⟩)
  simp only [fin_e] at f3
  simp [sideX, fin_e, f3]
 ·
  intro vs ls H4 E4 st hE
  have f5 : (ford .f32 (fop .sub .f32 x x) (some 0) == some .eq) = true := bf st 0
  refine res_ex (by kernel_rfl) (end_flat st.inn hE (.inr rfl) (a := .bool (ford .f32 (some 0) x == some .lt)) (by kernel_rfl) (Grew.trans (Grew.refl _) (gk st)) rfl ⟨?_, rfl⟩)
  simp only [fin_e] at f5
  simp [sideX, fin_e, f5]
theorem k_finX (a b c : Option Nat) (ha : fOk .f32 a) (hb : fOk .f32 b) (hc : fOk .f32 c) (H : AHeap) : APure Try.prog 57 [.agg [.flt .f32 a, .flt .f32 b, .flt .f32 c]] H (.bool (finX a b c)) := by
 refine res_start h_impl_IsFiniteVec (by simp) ?_
 have q1 : KdsL [KF, KF, KF] [.flt .f32 a, .flt .f32 b, .flt .f32 c] := .cons ⟨_, rfl, ha⟩ (.cons ⟨_, rfl, hb⟩ (.cons ⟨_, rfl, hc⟩ .nil))
 refine run_mc (φ := φ0) (pm := pmR 0 [] 0) 20 (ws := []) (env := [(0, .agg [nF 0, nF 1, nF 2])]) q1 .nil (sepOk_ro rfl) .nil (eC q1 (.cons (t := 0) rfl .nil)) tb_ok ap_ok ?_
 refine all4 (by kernel_rfl) ?_ ?_ ?_ ?_
 ·
  intro vs ls H2 E2 st hE
  have f3 : (ford .f32 (fop .sub .f32 a a) (some 0) == some .eq) = false := bf st 0
  refine res_ex (by kernel_rfl) (end_flat st.inn hE (.inr rfl) (a := .bool false) (by kernel_rfl) (Grew.trans (Grew.refl _) (gk st)) rfl ⟨?_, rfl⟩)
  simp only [fin_e] at f3
  simp [finX, fin_e, f3]
 ·
  intro vs ls H4 E4 st hE
  have f5 : (ford .f32 (fop .sub .f32 b b) (some 0) == some .eq) = false := bf st 0
  have f6 : (ford .f32 (fop .sub .f32 a a) (some 0) == some .eq) = true := bf st 1
  refine res_ex (by kernel_rfl) (end_flat st.inn hE (.inr rfl) (a := .bool false) (by kernel_rfl) (Grew.trans (Grew.refl _) (gk st)) rfl ⟨?_, rfl⟩)
  simp only [fin_e] at f5
  simp only [fin_e] at f6
  simp [finX, fin_e, f5, f6]
 ·
  intro vs ls H7 E7 st hE
  have f8 : (ford .f32 (fop .sub .f32 c c) (some 0) == some .eq) = false := bf st 0
  have f9 : (ford .f32 (fop .sub .f32 b b) (some 0) == some .eq) = true := bf st 1
  have f10 : (ford .f32 (fop .sub .f32 a a) (some 0) == some .eq) = true := bf st 2
  refine res_ex (by kernel_rfl) (end_flat st.inn hE (.inr rfl) (a := .bool false) (by kernel_rfl) (Grew.trans (Grew.refl _) (gk st)) rfl ⟨?_, rfl⟩)
  simp only [fin_e] at f8
  simp only [fin_e] at f9
  simp only [fin_e] at f10
  simp [finX, fin_e, f8, f9, f10]
 ·
  intro vs ls H11 E11 st hE
  have f12 : (ford .f32 (fop .sub .f32 c c) (some 0) == some .eq) = true := bf st 0
  have f13 : (ford .f32 (fop .sub .f32 b b) (some 0) == some .eq) = true := bf st 1
  have f14 : (ford .f32 (fop .sub .f32 a a) (some 0) == some .eq) = true := bf st 2
  refine res_ex (by kernel_rfl) (end_flat st.inn hE (.inr rfl) (a := .bool true) (by kernel_rfl) (Grew.trans (Grew.refl _) (gk st)) rfl ⟨?_, rfl⟩)
  simp only [fin_e] at f12
  simp only [fin_e] at f13
  simp only [fin_e] at f14
  simp [finX, fin_e, f12, f13, f14]
theorem fltn_of {x : Option Nat} (h : HasKd .f64n (.flt .f64 x)) : fOk .f64 x := by
 obtain ⟨y, e, hy, _⟩ := h; cases e; exact hy
theorem k_bits64 (H : AHeap) (b : Nat) : APure Try.prog 90 [.flt .f64 (some b)] H (.int .u64 b) := x_bits64 Try.func90 (by kernel_rfl) (by kernel_rfl) (by kernel_rfl) (by kernel_rfl) b
-- Abs
end Go.Proofs.Ytacligocjfhckaa
