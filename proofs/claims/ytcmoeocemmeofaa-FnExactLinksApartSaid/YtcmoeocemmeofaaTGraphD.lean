/- Contracts: graphs that are valid. -/
import Derived.Test.YtcmoeocemmeofaaTGraphB
set_option linter.unusedVariables false
set_option linter.unusedSimpArgs false
namespace Go.Proofs.Ytcmoeocemmeofaa
open Go.Ab
set_option maxRecDepth 100000
set_option maxHeartbeats 1000000
attribute [local irreducible] Res
noncomputable def okK (n : Nat) : List AV → Bool
 | [.int _ a, .int _ b, x, y, z, .flt _ w] => decide (0 ≤ a ∧ a < n ∧ 0 ≤ b ∧ b < n ∧ a ≠ b) && (finP [x, y, z] && sideB w)
 | _ => false
noncomputable def okG (ms ks : List (List AV)) : Bool := decide (1 ≤ ms.length ∧ ms.length ≤ 60 ∧ ks.length ≤ 120) && (allB (fun i => finP (ms.getD i [])) ms.length && allB (fun i => okK ms.length (ks.getD i [])) ks.length)
theorem k_validLink (n : Nat) (hn : n < 2 ^ 40) (v0 v1 : Int) (v2 v3 v4 v5 : Option Nat) (o2 : fOk .f32 v2) (o3 : fOk .f32 v3) (o4 : fOk .f32 v4) (o5 : fOk .f32 v5) (H : AHeap) : APure Try.prog 99 [.agg [.int .i64 v0, .int .i64 v1, .flt .f32 v2, .flt .f32 v3, .flt .f32 v4, .flt .f32 v5], .int .i64 (n : Int)] H (.bool (okK n [.int .i64 v0, .int .i64 v1, .flt .f32 v2, .flt .f32 v3, .flt .f32 v4, .flt .f32 v5])) := by
 refine res_start h_impl_validLink (by simp) ?_
 have q1 : KdsL [KI, KI, KF, KF, KF, KF, KI, .bool, .bool] [.int .i64 v0, .int .i64 v1, .flt .f32 v2, .flt .f32 v3, .flt .f32 v4, .flt .f32 v5, .int .i64 (n : Int), .bool (finP [.flt .f32 v2, .flt .f32 v3, .flt .f32 v4]), .bool (sideB v5)] := .cons ⟨_, rfl⟩ (.cons ⟨_, rfl⟩ (.cons ⟨_, rfl, o2⟩ (.cons ⟨_, rfl, o3⟩ (.cons ⟨_, rfl, o4⟩ (.cons ⟨_, rfl, o5⟩ (.cons ⟨_, rfl⟩ (.cons ⟨_, rfl⟩ (.cons ⟨_, rfl⟩ .nil))))))))
 refine run_mc (φ := φ0) (pm := pmR 0 [(.call 57 [.agg [nF 2, nF 3, nF 4]], nB 7), (.call 73 [nF 5], nB 8)] 0) 20 (ws := []) (env := [(0, .agg [nI 0, nI 1, nF 2, nF 3, nF 4, nF 5]), (1, nI 6)]) q1 .nil (sepOk_ro rfl) (.cons (rule_call (args := [.agg [.flt .f32 v2, .flt .f32 v3, .flt .f32 v4]]) (dL q1) (dE q1) (fun H9 hk => k_IsFinitePose [.flt .f32 v2, .flt .f32 v3, .flt .f32 v4] (.cons ⟨_, rfl, o2⟩ (.cons ⟨_, rfl, o3⟩ (.cons ⟨_, rfl, o4⟩ .nil))) H9)) (.cons (rule_call (args := [.flt .f32 v5]) (dL q1) (dE q1) (fun H9 hk => k_isSide v5 o5 H9)) .nil)) (eC q1 (.cons (t := 0) rfl (.cons (t := 1) rfl .nil))) tb_ok ap_ok ?_
 refine all7 (by kernel_rfl) ?_ ?_ ?_ ?_ ?_ ?_ ?_
 ·
  intro vs ls H2 E2 st hE
  have f3 : (finP [.flt .f32 v2, .flt .f32 v3, .flt .f32 v4]) = true := bf st 0
  have f4 : ¬ (v0 = v1) := df st 1
  have f5 : ¬ ((IntKind.wrap .i64 ((n : Int) - 1)) < v1) := df st 2
  have f6 : ¬ (v1 < 0) := df st 3
  have f7 : ¬ ((IntKind.wrap .i64 ((n : Int) - 1)) < v0) := df st 4
  have f8 : ¬ (v0 < 0) := df st 5
  refine res_ex (by kernel_rfl) (end_flat st.inn hE (.inr rfl) (a := .bool (sideB v5)) (by kernel_rfl) (Grew.trans (Grew.refl _) (gk st)) rfl ⟨?_, rfl⟩)
  have z0 : IntKind.i64.wrap ((n : Int) - 1) = (n : Int) - 1 := wrap_i64 (by omega) (by omega)
  rw [z0] at f5
  rw [z0] at f7
  rw [okK, decide_eq_true (by omega), f3]; simp
 ·
  intro vs ls H9 E9 st hE
  have f10 : (finP [.flt .f32 v2, .flt .f32 v3, .flt .f32 v4]) = false := bf st 0
  have f11 : ¬ (v0 = v1) := df st 1
  have f12 : ¬ ((IntKind.wrap .i64 ((n : Int) - 1)) < v1) := df st 2
  have f13 : ¬ (v1 < 0) := df st 3
  have f14 : ¬ ((IntKind.wrap .i64 ((n : Int) - 1)) < v0) := df st 4
  have f15 : ¬ (v0 < 0) := df st 5
  refine res_ex (by kernel_rfl) (end_flat st.inn hE (.inr rfl) (a := .bool false) (by kernel_rfl) (Grew.trans (Grew.refl _) (gk st)) rfl ⟨?_, rfl⟩)
  have z0 : IntKind.i64.wrap ((n : Int) - 1) = (n : Int) - 1 := wrap_i64 (by omega) (by omega)
  rw [z0] at f12
  rw [z0] at f14
  first | (rw [okK, decide_eq_false (by omega)]; rfl) | simp [okK, f10]
 ·
  intro vs ls H16 E16 st hE
  have f17 : v0 = v1 := dt st 0
  have f18 : ¬ ((IntKind.wrap .i64 ((n : Int) - 1)) < v1) := df st 1
  have f19 : ¬ (v1 < 0) := df st 2
  have f20 : ¬ ((IntKind.wrap .i64 ((n : Int) - 1)) < v0) := df st 3
  have f21 : ¬ (v0 < 0) := df st 4
  refine res_ex (by kernel_rfl) (end_flat st.inn hE (.inr rfl) (a := .bool false) (by kernel_rfl) (Grew.trans (Grew.refl _) (gk st)) rfl ⟨?_, rfl⟩)
  have z0 : IntKind.i64.wrap ((n : Int) - 1) = (n : Int) - 1 := wrap_i64 (by omega) (by omega)
  rw [z0] at f18
  rw [z0] at f20
  first | (rw [okK, decide_eq_false (by omega)]; rfl) | simp [okK]
 ·
  intro vs ls H22 E22 st hE
  have f23 : (IntKind.wrap .i64 ((n : Int) - 1)) < v1 := dt st 0
  have f24 : ¬ (v1 < 0) := df st 1
  have f25 : ¬ ((IntKind.wrap .i64 ((n : Int) - 1)) < v0) := df st 2
  have f26 : ¬ (v0 < 0) := df st 3
  refine res_ex (by kernel_rfl) (end_flat st.inn hE (.inr rfl) (a := .bool false) (by kernel_rfl) (Grew.trans (Grew.refl _) (gk st)) rfl ⟨?_, rfl⟩)
  have z0 : IntKind.i64.wrap ((n : Int) - 1) = (n : Int) - 1 := wrap_i64 (by omega) (by omega)
  rw [z0] at f23
  rw [z0] at f25
  first | (rw [okK, decide_eq_false (by omega)]; rfl) | simp [okK]
 ·
  intro vs ls H27 E27 st hE
  have f28 : v1 < 0 := dt st 0
  have f29 : ¬ ((IntKind.wrap .i64 ((n : Int) - 1)) < v0) := df st 1
  have f30 : ¬ (v0 < 0) := df st 2
  refine res_ex (by kernel_rfl) (end_flat st.inn hE (.inr rfl) (a := .bool false) (by kernel_rfl) (Grew.trans (Grew.refl _) (gk st)) rfl ⟨?_, rfl⟩)
  have z0 : IntKind.i64.wrap ((n : Int) - 1) = (n : Int) - 1 := wrap_i64 (by omega) (by omega)
  rw [z0] at f29
  first | (rw [okK, decide_eq_false (by omega)]; rfl) | simp [okK]
 ·
  intro vs ls H31 E31 st hE
  have f32 : (IntKind.wrap .i64 ((n : Int) - 1)) < v0 := dt st 0
  have f33 : ¬ (v0 < 0) := df st 1
  refine res_ex (by kernel_rfl) (end_flat st.inn hE (.inr rfl) (a := .bool false) (by kernel_rfl) (Grew.trans (Grew.refl _) (gk st)) rfl ⟨?_, rfl⟩)
  have z0 : IntKind.i64.wrap ((n : Int) - 1) = (n : Int) - 1 := wrap_i64 (by omega) (by omega)
  rw [z0] at f32
  first | (rw [okK, decide_eq_false (by omega)]; rfl) | simp [okK]
 ·
  intro vs ls H34 E34 st hE
  have f35 : v0 < 0 := dt st 0
  refine res_ex (by kernel_rfl) (end_flat st.inn hE (.inr rfl) (a := .bool false) (by kernel_rfl) (Grew.trans (Grew.refl _) (gk st)) rfl ⟨?_, rfl⟩)
  have z0 : IntKind.i64.wrap ((n : Int) - 1) = (n : Int) - 1 := wrap_i64 (by omega) (by omega)
  first | (rw [okK, decide_eq_false (by omega)]; rfl) | simp [okK]
theorem k_l06Link (n : Nat) (hn : n < 2 ^ 40) (v0 v1 : Int) (v2 v3 v4 v5 : Option Nat) (o2 : fOk .f32 v2) (o3 : fOk .f32 v3) (o4 : fOk .f32 v4) (o5 : fOk .f32 v5) (H : AHeap) (l off : Nat) (pre post : List AV) (wr : Bool) (hg : H.get l = some (.row (pre ++ ([.int .i64 v0, .int .i64 v1, .flt .f32 v2, .flt .f32 v3, .flt .f32 v4, .flt .f32 v5] ++ post)) wr)) (hp : pre.length = off) : APure Try.prog 94 [.ptr l off, .int .i64 (n : Int)] H (.bool (okK n [.int .i64 v0, .int .i64 v1, .flt .f32 v2, .flt .f32 v3, .flt .f32 v4, .flt .f32 v5])) := by
 refine res_start h_spec_l06Link (by simp) ?_
 have q1 : KdsL [KI, KI, KF, KF, KF, KF, KI, .bool, .bool] [.int .i64 v0, .int .i64 v1, .flt .f32 v2, .flt .f32 v3, .flt .f32 v4, .flt .f32 v5, .int .i64 (n : Int), .bool (finP [.flt .f32 v2, .flt .f32 v3, .flt .f32 v4]), .bool (sideB v5)] := .cons ⟨_, rfl⟩ (.cons ⟨_, rfl⟩ (.cons ⟨_, rfl, o2⟩ (.cons ⟨_, rfl, o3⟩ (.cons ⟨_, rfl, o4⟩ (.cons ⟨_, rfl, o5⟩ (.cons ⟨_, rfl⟩ (.cons ⟨_, rfl⟩ (.cons ⟨_, rfl⟩ .nil))))))))
 refine run_mc (φ := φ0) (pm := pmR 1 [(.call 87 [.agg [nF 2, nF 3, nF 4]], nB 7), (.call 72 [nF 5], nB 8)] 0) 20 (ws := [⟨l, off, [nI 0, nI 1, nF 2, nF 3, nF 4, nF 5], false⟩]) (env := [(0, .ptr 0 0), (1, nI 6)]) q1 (.cons (win_mid hg hp (dL q1)) .nil) (sepOk_ro rfl) (.cons (rule_call (args := [.agg [.flt .f32 v2, .flt .f32 v3, .flt .f32 v4]]) (dL q1) (dE q1) (fun H9 hk => k_l06Finite [.flt .f32 v2, .flt .f32 v3, .flt .f32 v4] (.cons ⟨_, rfl, o2⟩ (.cons ⟨_, rfl, o3⟩ (.cons ⟨_, rfl, o4⟩ .nil))) H9)) (.cons (rule_call (args := [.flt .f32 v5]) (dL q1) (dE q1) (fun H9 hk => k_l06Weight v5 o5 H9)) .nil)) (eC q1 (.cons (t := 0) rfl (.cons (t := 1) rfl .nil))) tb_ok ap_ok ?_
 refine all7 (by kernel_rfl) ?_ ?_ ?_ ?_ ?_ ?_ ?_
 ·
  intro vs ls H2 E2 st hE
  have f3 : (finP [.flt .f32 v2, .flt .f32 v3, .flt .f32 v4]) = true := bf st 0
  have f4 : ¬ (v0 = v1) := df st 1
  have f5 : ¬ ((IntKind.wrap .i64 ((n : Int) - 1)) < v1) := df st 2
  have f6 : ¬ (v1 < 0) := df st 3
  have f7 : ¬ ((IntKind.wrap .i64 ((n : Int) - 1)) < v0) := df st 4
  have f8 : ¬ (v0 < 0) := df st 5
  refine res_ex (by kernel_rfl) (end_flat st.inn hE (.inr rfl) (a := .bool (sideB v5)) (by kernel_rfl) (Grew.trans (Grew.refl _) (gk st)) rfl ⟨?_, rfl⟩)
  have z0 : IntKind.i64.wrap ((n : Int) - 1) = (n : Int) - 1 := wrap_i64 (by omega) (by omega)
  rw [z0] at f5
  rw [z0] at f7
  rw [okK, decide_eq_true (by omega), f3]; simp
 ·
  intro vs ls H9 E9 st hE
  have f10 : (finP [.flt .f32 v2, .flt .f32 v3, .flt .f32 v4]) = false := bf st 0
  have f11 : ¬ (v0 = v1) := df st 1
  have f12 : ¬ ((IntKind.wrap .i64 ((n : Int) - 1)) < v1) := df st 2
  have f13 : ¬ (v1 < 0) := df st 3
  have f14 : ¬ ((IntKind.wrap .i64 ((n : Int) - 1)) < v0) := df st 4
  have f15 : ¬ (v0 < 0) := df st 5
  refine res_ex (by kernel_rfl) (end_flat st.inn hE (.inr rfl) (a := .bool false) (by kernel_rfl) (Grew.trans (Grew.refl _) (gk st)) rfl ⟨?_, rfl⟩)
  have z0 : IntKind.i64.wrap ((n : Int) - 1) = (n : Int) - 1 := wrap_i64 (by omega) (by omega)
  rw [z0] at f12
  rw [z0] at f14
  first | (rw [okK, decide_eq_false (by omega)]; rfl) | simp [okK, f10]
 ·
  intro vs ls H16 E16 st hE
  have f17 : v0 = v1 := dt st 0
  have f18 : ¬ ((IntKind.wrap .i64 ((n : Int) - 1)) < v1) := df st 1
  have f19 : ¬ (v1 < 0) := df st 2
  have f20 : ¬ ((IntKind.wrap .i64 ((n : Int) - 1)) < v0) := df st 3
  have f21 : ¬ (v0 < 0) := df st 4
  refine res_ex (by kernel_rfl) (end_flat st.inn hE (.inr rfl) (a := .bool false) (by kernel_rfl) (Grew.trans (Grew.refl _) (gk st)) rfl ⟨?_, rfl⟩)
  have z0 : IntKind.i64.wrap ((n : Int) - 1) = (n : Int) - 1 := wrap_i64 (by omega) (by omega)
  rw [z0] at f18
  rw [z0] at f20
  first | (rw [okK, decide_eq_false (by omega)]; rfl) | simp [okK]
 ·
  intro vs ls H22 E22 st hE
  have f23 : (IntKind.wrap .i64 ((n : Int) - 1)) < v1 := dt st 0
  have f24 : ¬ (v1 < 0) := df st 1
  have f25 : ¬ ((IntKind.wrap .i64 ((n : Int) - 1)) < v0) := df st 2
  have f26 : ¬ (v0 < 0) := df st 3
  refine res_ex (by kernel_rfl) (end_flat st.inn hE (.inr rfl) (a := .bool false) (by kernel_rfl) (Grew.trans (Grew.refl _) (gk st)) rfl ⟨?_, rfl⟩)
  have z0 : IntKind.i64.wrap ((n : Int) - 1) = (n : Int) - 1 := wrap_i64 (by omega) (by omega)
  rw [z0] at f23
  rw [z0] at f25
  first | (rw [okK, decide_eq_false (by omega)]; rfl) | simp [okK]
 ·
  intro vs ls H27 E27 st hE
  have f28 : v1 < 0 := dt st 0
  have f29 : ¬ ((IntKind.wrap .i64 ((n : Int) - 1)) < v0) := df st 1
  have f30 : ¬ (v0 < 0) := df st 2
  refine res_ex (by kernel_rfl) (end_flat st.inn hE (.inr rfl) (a := .bool false) (by kernel_rfl) (Grew.trans (Grew.refl _) (gk st)) rfl ⟨?_, rfl⟩)
  have z0 : IntKind.i64.wrap ((n : Int) - 1) = (n : Int) - 1 := wrap_i64 (by omega) (by omega)
  rw [z0] at f29
  first | (rw [okK, decide_eq_false (by omega)]; rfl) | simp [okK]
 ·
  intro vs ls H31 E31 st hE
  have f32 : (IntKind.wrap .i64 ((n : Int) - 1)) < v0 := dt st 0
  have f33 : ¬ (v0 < 0) := df st 1
  refine res_ex (by kernel_rfl) (end_flat st.inn hE (.inr rfl) (a := .bool false) (by kernel_rfl) (Grew.trans (Grew.refl _) (gk st)) rfl ⟨?_, rfl⟩)
  have z0 : IntKind.i64.wrap ((n : Int) - 1) = (n : Int) - 1 := wrap_i64 (by omega) (by omega)
  rw [z0] at f32
  first | (rw [okK, decide_eq_false (by omega)]; rfl) | simp [okK]
 ·
  intro vs ls H34 E34 st hE
  have f35 : v0 < 0 := dt st 0
  refine res_ex (by kernel_rfl) (end_flat st.inn hE (.inr rfl) (a := .bool false) (by kernel_rfl) (Grew.trans (Grew.refl _) (gk st)) rfl ⟨?_, rfl⟩)
  have z0 : IntKind.i64.wrap ((n : Int) - 1) = (n : Int) - 1 := wrap_i64 (by omega) (by omega)
  first | (rw [okK, decide_eq_false (by omega)]; rfl) | simp [okK]
end Go.Proofs.Ytcmoeocemmeofaa
