/- Contracts: marks that are better, by both. -/
import Derived.Test.YtgjhjemmddojfaaTCell
import Derived.Test.YtgjhjemmddojfaaTValidC
import Derived.Test.YtgjhjemmddojfaaSxC
import Derived.Test.YtgjhjemmddojfaaSxE
import Derived.Test.YtgjhjemmddojfaaSxD
set_option linter.unusedVariables false
set_option linter.unusedSimpArgs false
namespace Go.Proofs.Ytgjhjemmddojfaa
open Go.Ab
set_option maxRecDepth 100000
set_option maxHeartbeats 1000000
attribute [local irreducible] Res
/-- A mark's words. -/
def markX : List AV → Bool
 | [_, _, _, .flt _ x, .flt _ y, .flt _ z, .flt _ w, .int _ s, .int _ l] => finX x y z && (sideX w && (decide (1 ≤ s ∧ s ≤ 1000000) && decide (0 ≤ l ∧ l ≤ 1000000000)))
 | _ => false
theorem k_validMarkX (v0 v1 v2 : Int) (v3 v4 v5 v6 : Option Nat) (v7 v8 : Int) (o3 : fOk .f32 v3) (o4 : fOk .f32 v4) (o5 : fOk .f32 v5) (o6 : fOk .f32 v6) (H : AHeap) : APure Try.prog 57 [.agg [.int .i32 v0, .int .i32 v1, .int .i32 v2, .flt .f32 v3, .flt .f32 v4, .flt .f32 v5, .flt .f32 v6, .int .i64 v7, .int .i64 v8]] H (.bool (markX [.int .i32 v0, .int .i32 v1, .int .i32 v2, .flt .f32 v3, .flt .f32 v4, .flt .f32 v5, .flt .f32 v6, .int .i64 v7, .int .i64 v8])) := by
 refine res_start h_impl_validMark (by simp) ?_
 have q1 : KdsL [K2, K2, K2, KF, KF, KF, KF, KI, KI, .bool, .bool] [.int .i32 v0, .int .i32 v1, .int .i32 v2, .flt .f32 v3, .flt .f32 v4, .flt .f32 v5, .flt .f32 v6, .int .i64 v7, .int .i64 v8, .bool (finX v3 v4 v5), .bool (sideX v6)] := .cons ⟨_, rfl⟩ (.cons ⟨_, rfl⟩ (.cons ⟨_, rfl⟩ (.cons ⟨_, rfl, o3⟩ (.cons ⟨_, rfl, o4⟩ (.cons ⟨_, rfl, o5⟩ (.cons ⟨_, rfl, o6⟩ (.cons ⟨_, rfl⟩ (.cons ⟨_, rfl⟩ (.cons ⟨_, rfl⟩ (.cons ⟨_, rfl⟩ .nil))))))))))
 refine run_mc (φ := φ0) (pm := pmR 0 [(.call 62 [.agg [nF 3, nF 4, nF 5]], nB 9), (.call 61 [nF 6], nB 10)] 0) 20 (ws := []) (env := [(0, .agg [n2 0, n2 1, n2 2, nF 3, nF 4, nF 5, nF 6, nI 7, nI 8])]) q1 .nil (sepOk_ro rfl) (.cons (rule_call (args := [.agg [.flt .f32 v3, .flt .f32 v4, .flt .f32 v5]]) (dL q1) (dE q1) (fun H9 hk => k_finX v3 v4 v5 o3 o4 o5 H9)) (.cons (rule_call (args := [.flt .f32 v6]) (dL q1) (dE q1) (fun H9 hk => k_isSideX v6 o6 H9)) .nil)) (eC q1 (.cons (t := 0) rfl .nil)) tb_ok ap_ok ?_
 refine all6 (by kernel_rfl) ?_ ?_ ?_ ?_ ?_ ?_
 ·
  intro vs ls H2 E2 st hE
  have f3 : ¬ (v8 < 0) := df st 0
  have f4 : ¬ (1000000 < v7) := df st 1
  have f5 : ¬ (v7 < 1) := df st 2
  have f6 : (sideX v6) = true := bf st 3
  have f7 : (finX v3 v4 v5) = true := bf st 4
  refine res_ex (by kernel_rfl) (end_flat st.inn hE (.inr rfl) (a := .bool (!(decide (1000000000 < v8)))) (by kernel_rfl) (Grew.trans (Grew.refl _) (gk st)) rfl ⟨?_, rfl⟩)
  show _ = AV.bool (finX v3 v4 v5 && (sideX v6 && (decide (1 ≤ v7 ∧ v7 ≤ 1000000) && decide (0 ≤ v8 ∧ v8 ≤ 1000000000))))
  rw [f6, f7, decide_eq_true (show 1 ≤ v7 ∧ v7 ≤ 1000000 by omega)]; simp only [Bool.true_and, ← decide_not]; congr 1; exact decide_eq_decide.2 (by omega)
 ·
  intro vs ls H8 E8 st hE
  have f9 : v8 < 0 := dt st 0
  have f10 : ¬ (1000000 < v7) := df st 1
  have f11 : ¬ (v7 < 1) := df st 2
  have f12 : (sideX v6) = true := bf st 3
  have f13 : (finX v3 v4 v5) = true := bf st 4
  refine res_ex (by kernel_rfl) (end_flat st.inn hE (.inr rfl) (a := .bool false) (by kernel_rfl) (Grew.trans (Grew.refl _) (gk st)) rfl ⟨?_, rfl⟩)
  show _ = AV.bool (finX v3 v4 v5 && (sideX v6 && (decide (1 ≤ v7 ∧ v7 ≤ 1000000) && decide (0 ≤ v8 ∧ v8 ≤ 1000000000))))
  first | (rw [f12, f13]; rfl) | (rw [f12, f13, decide_eq_false (by omega)]; rfl) | (rw [f12, f13, decide_eq_true (by omega), decide_eq_false (by omega)]; rfl) | simp [f12, f13]
 ·
  intro vs ls H14 E14 st hE
  have f15 : 1000000 < v7 := dt st 0
  have f16 : ¬ (v7 < 1) := df st 1
  have f17 : (sideX v6) = true := bf st 2
  have f18 : (finX v3 v4 v5) = true := bf st 3
  refine res_ex (by kernel_rfl) (end_flat st.inn hE (.inr rfl) (a := .bool false) (by kernel_rfl) (Grew.trans (Grew.refl _) (gk st)) rfl ⟨?_, rfl⟩)
  show _ = AV.bool (finX v3 v4 v5 && (sideX v6 && (decide (1 ≤ v7 ∧ v7 ≤ 1000000) && decide (0 ≤ v8 ∧ v8 ≤ 1000000000))))
  first | (rw [f17, f18]; rfl) | (rw [f17, f18, decide_eq_false (by omega)]; rfl) | (rw [f17, f18, decide_eq_true (by omega), decide_eq_false (by omega)]; rfl) | simp [f17, f18]
 ·
  intro vs ls H19 E19 st hE
  have f20 : v7 < 1 := dt st 0
  have f21 : (sideX v6) = true := bf st 1
  have f22 : (finX v3 v4 v5) = true := bf st 2
  refine res_ex (by kernel_rfl) (end_flat st.inn hE (.inr rfl) (a := .bool false) (by kernel_rfl) (Grew.trans (Grew.refl _) (gk st)) rfl ⟨?_, rfl⟩)
  show _ = AV.bool (finX v3 v4 v5 && (sideX v6 && (decide (1 ≤ v7 ∧ v7 ≤ 1000000) && decide (0 ≤ v8 ∧ v8 ≤ 1000000000))))
  first | (rw [f21, f22]; rfl) | (rw [f21, f22, decide_eq_false (by omega)]; rfl) | (rw [f21, f22, decide_eq_true (by omega), decide_eq_false (by omega)]; rfl) | simp [f21, f22]
 ·
  intro vs ls H23 E23 st hE
  have f24 : (sideX v6) = false := bf st 0
  have f25 : (finX v3 v4 v5) = true := bf st 1
  refine res_ex (by kernel_rfl) (end_flat st.inn hE (.inr rfl) (a := .bool false) (by kernel_rfl) (Grew.trans (Grew.refl _) (gk st)) rfl ⟨?_, rfl⟩)
  show _ = AV.bool (finX v3 v4 v5 && (sideX v6 && (decide (1 ≤ v7 ∧ v7 ≤ 1000000) && decide (0 ≤ v8 ∧ v8 ≤ 1000000000))))
  first | (rw [f24, f25]; rfl) | (rw [f24, f25, decide_eq_false (by omega)]; rfl) | (rw [f24, f25, decide_eq_true (by omega), decide_eq_false (by omega)]; rfl) | simp [f24, f25]
 ·
  intro vs ls H26 E26 st hE
  have f27 : (finX v3 v4 v5) = false := bf st 0
  refine res_ex (by kernel_rfl) (end_flat st.inn hE (.inr rfl) (a := .bool false) (by kernel_rfl) (Grew.trans (Grew.refl _) (gk st)) rfl ⟨?_, rfl⟩)
  show _ = AV.bool (finX v3 v4 v5 && (sideX v6 && (decide (1 ≤ v7 ∧ v7 ≤ 1000000) && decide (0 ≤ v8 ∧ v8 ≤ 1000000000))))
  first | (rw [f27]; rfl) | (rw [f27, decide_eq_false (by omega)]; rfl) | (rw [f27, decide_eq_true (by omega), decide_eq_false (by omega)]; rfl) | simp [f27]
end Go.Proofs.Ytgjhjemmddojfaa
