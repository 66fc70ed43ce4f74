/- Contracts: graphs that are valid. -/
import Derived.Test.YtcmoeocemmeofaaTGraphB
set_option linter.unusedVariables false
set_option linter.unusedSimpArgs false
namespace Go.Proofs.Ytcmoeocemmeofaa
open Go.Ab
set_option maxRecDepth 100000
set_option maxHeartbeats 1000000
attribute [local irreducible] Res
noncomputable def okK (n : Nat) : List AV → Bool
  | [.int _ a, .int _ b, x, y, z, .flt _ w] => decide (0 ≤ a ∧ a < n ∧ 0 ≤ b ∧ b < n ∧ a ≠ b) && (finP [x, y, z] && sideB w)
  | _ => false
noncomputable def okG (ms ks : List (List AV)) : Bool := decide (1 ≤ ms.length ∧ ms.length ≤ 60 ∧ ks.length ≤ 120) && (allB (fun i => finP (ms.getD i [])) ms.length && allB (fun i => okK ms.length (ks.getD i [])) ks.length)
theorem k_validLink (n : Nat) (hn : n < 2 ^ 40) (v0 v1 : Int) (v2 v3 v4 v5 : Option Nat) (o2 : fOk .f32 v2) (o3 : fOk .f32 v3) (o4 : fOk .f32 v4) (o5 : fOk .f32 v5) (H : AHeap) : APure Try.prog 99 [.agg [.int .i64 v0, .int .i64 v1, .flt .f32 v2, .flt .f32 v3, .flt .f32 v4, .flt .f32 v5], .int .i64 (n : Int)] H (.bool (okK n [.int .i64 v0, .int .i64 v1, .flt .f32 v2, .flt .f32 v3, .flt .f32 v4, .flt .f32 v5])) := by
  refine res_start h_impl_validLink (by simp) ?_
  refine run_mn (φ := φ0) (pm := pmR 0 [(.call 57 [.agg [.nd 2 (.flt .f32), .nd 3 (.flt .f32), .nd 4 (.flt .f32)]], .nd 7 .bool), (.call 73 [.nd 5 (.flt .f32)], .nd 8 .bool)] 0) 20 (nk := [(.atom 0, .int .i64), (.atom 1, .int .i64), (.atom 2, .flt .f32), (.atom 3, .flt .f32), (.atom 4, .flt .f32), (.atom 5, .flt .f32), (.atom 6, .int .i64), (.atom 7, .bool), (.atom 8, .bool)]) (fs := []) (xs := [.int .i64 v0, .int .i64 v1, .flt .f32 v2, .flt .f32 v3, .flt .f32 v4, .flt .f32 v5, .int .i64 (n : Int), .bool (finP [.flt .f32 v2, .flt .f32 v3, .flt .f32 v4]), .bool (sideB v5)]) (ws := []) (env := [(0, .agg [.nd 0 (.int .i64), .nd 1 (.int .i64), .nd 2 (.flt .f32), .nd 3 (.flt .f32), .nd 4 (.flt .f32), .nd 5 (.flt .f32)]), (1, .nd 6 (.int .i64))]) ?_ ?_ tb_ok ap_ok ?_
  · refine midN_in ?_ .nil _ ?_ ?_ ?_
    · exact (.cons rfl ⟨_, rfl⟩ (.cons rfl ⟨_, rfl⟩ (.cons rfl ⟨_, rfl, o2⟩ (.cons rfl ⟨_, rfl, o3⟩ (.cons rfl ⟨_, rfl, o4⟩ (.cons rfl ⟨_, rfl, o5⟩ (.cons rfl ⟨_, rfl⟩ (.cons rfl ⟨_, rfl⟩ (.cons rfl ⟨_, rfl⟩ .nil)))))))))
    · exact .nil
    · exact sepOk_ro rfl
    · exact (.cons (rule_call (args := [.agg [.flt .f32 v2, .flt .f32 v3, .flt .f32 v4]]) (dlCons (dAgg (dlCons (dNd rfl ⟨_, rfl, o2⟩) (dlCons (dNd rfl ⟨_, rfl, o3⟩) (dlCons (dNd rfl ⟨_, rfl, o4⟩) dlNil)))) dlNil) (dNd rfl ⟨_, rfl⟩) (fun H9 hk => k_IsFinitePose [.flt .f32 v2, .flt .f32 v3, .flt .f32 v4] (.cons ⟨_, rfl, o2⟩ (.cons ⟨_, rfl, o3⟩ (.cons ⟨_, rfl, o4⟩ .nil))) H9)) (.cons (rule_call (args := [.flt .f32 v5]) (dlCons (dNd rfl ⟨_, rfl, o5⟩) dlNil) (dNd rfl ⟨_, rfl⟩) (fun H9 hk => k_isSide v5 o5 H9)) .nil))
  · exact (envEq rfl (dAgg (dlCons (dNd rfl ⟨_, rfl⟩) (dlCons (dNd rfl ⟨_, rfl⟩) (dlCons (dNd rfl ⟨_, rfl, o2⟩) (dlCons (dNd rfl ⟨_, rfl, o3⟩) (dlCons (dNd rfl ⟨_, rfl, o4⟩) (dlCons (dNd rfl ⟨_, rfl, o5⟩) dlNil))))))) (envEq rfl (dNd rfl ⟨_, rfl⟩) envNil))
  refine all7 (by kernel_rfl) ?_ ?_ ?_ ?_ ?_ ?_ ?_
  ·
    intro vs ls H1 E1 st hE
    have f2 : (finP [.flt .f32 v2, .flt .f32 v3, .flt .f32 v4]) = true := bfact st.inn 0 (by kernel_rfl)
    have f3 : ¬ (v0 = v1) := of_decide_eq_false (bfact (x := decide (v0 = v1)) st.inn 1 (by kernel_rfl))
    have f4 : ¬ ((IntKind.wrap .i64 ((n : Int) - 1)) < v1) := of_decide_eq_false (bfact (x := decide ((IntKind.wrap .i64 ((n : Int) - 1)) < v1)) st.inn 2 (by kernel_rfl))
    have f5 : ¬ (v1 < 0) := of_decide_eq_false (bfact (x := decide (v1 < 0)) st.inn 3 (by kernel_rfl))
    have f6 : ¬ ((IntKind.wrap .i64 ((n : Int) - 1)) < v0) := of_decide_eq_false (bfact (x := decide ((IntKind.wrap .i64 ((n : Int) - 1)) < v0)) st.inn 4 (by kernel_rfl))
    have f7 : ¬ (v0 < 0) := of_decide_eq_false (bfact (x := decide (v0 < 0)) st.inn 5 (by kernel_rfl))
    refine res_ex (by kernel_rfl) (end_flat st.inn hE (.inr rfl) (a := .bool (sideB v5)) (by kernel_rfl) (Grew.trans (Grew.refl _) (st.kept.grew (Nat.le_of_ble_eq_true (by kernel_rfl)))) rfl ⟨?_, rfl⟩)
    have z0 : IntKind.i64.wrap ((n : Int) - 1) = (n : Int) - 1 := wrap_i64 (by omega) (by omega)
    rw [z0] at f4
    rw [z0] at f6
    rw [okK, decide_eq_true (by omega), f2]; simp
  ·
    intro vs ls H8 E8 st hE
    have f9 : (finP [.flt .f32 v2, .flt .f32 v3, .flt .f32 v4]) = false := bfact st.inn 0 (by kernel_rfl)
    have f10 : ¬ (v0 = v1) := of_decide_eq_false (bfact (x := decide (v0 = v1)) st.inn 1 (by kernel_rfl))
    have f11 : ¬ ((IntKind.wrap .i64 ((n : Int) - 1)) < v1) := of_decide_eq_false (bfact (x := decide ((IntKind.wrap .i64 ((n : Int) - 1)) < v1)) st.inn 2 (by kernel_rfl))
    have f12 : ¬ (v1 < 0) := of_decide_eq_false (bfact (x := decide (v1 < 0)) st.inn 3 (by kernel_rfl))
    have f13 : ¬ ((IntKind.wrap .i64 ((n : Int) - 1)) < v0) := of_decide_eq_false (bfact (x := decide ((IntKind.wrap .i64 ((n : Int) - 1)) < v0)) st.inn 4 (by kernel_rfl))
    have f14 : ¬ (v0 < 0) := of_decide_eq_false (bfact (x := decide (v0 < 0)) st.inn 5 (by kernel_rfl))
    refine res_ex (by kernel_rfl) (end_flat st.inn hE (.inr rfl) (a := .bool false) (by kernel_rfl) (Grew.trans (Grew.refl _) (st.kept.grew (Nat.le_of_ble_eq_true (by kernel_rfl)))) rfl ⟨?_, rfl⟩)
    have z0 : IntKind.i64.wrap ((n : Int) - 1) = (n : Int) - 1 := wrap_i64 (by omega) (by omega)
    rw [z0] at f11
    rw [z0] at f13
    first | (rw [okK, decide_eq_false (by omega)]; rfl) | simp [okK, f9]
  ·
    intro vs ls H15 E15 st hE
    have f16 : v0 = v1 := of_decide_eq_true (bfact (x := decide (v0 = v1)) st.inn 0 (by kernel_rfl))
    have f17 : ¬ ((IntKind.wrap .i64 ((n : Int) - 1)) < v1) := of_decide_eq_false (bfact (x := decide ((IntKind.wrap .i64 ((n : Int) - 1)) < v1)) st.inn 1 (by kernel_rfl))
    have f18 : ¬ (v1 < 0) := of_decide_eq_false (bfact (x := decide (v1 < 0)) st.inn 2 (by kernel_rfl))
    have f19 : ¬ ((IntKind.wrap .i64 ((n : Int) - 1)) < v0) := of_decide_eq_false (bfact (x := decide ((IntKind.wrap .i64 ((n : Int) - 1)) < v0)) st.inn 3 (by kernel_rfl))
    have f20 : ¬ (v0 < 0) := of_decide_eq_false (bfact (x := decide (v0 < 0)) st.inn 4 (by kernel_rfl))
    refine res_ex (by kernel_rfl) (end_flat st.inn hE (.inr rfl) (a := .bool false) (by kernel_rfl) (Grew.trans (Grew.refl _) (st.kept.grew (Nat.le_of_ble_eq_true (by kernel_rfl)))) rfl ⟨?_, rfl⟩)
    have z0 : IntKind.i64.wrap ((n : Int) - 1) = (n : Int) - 1 := wrap_i64 (by omega) (by omega)
    rw [z0] at f17
    rw [z0] at f19
    first | (rw [okK, decide_eq_false (by omega)]; rfl) | simp [okK]
  ·
    intro vs ls H21 E21 st hE
    have f22 : (IntKind.wrap .i64 ((n : Int) - 1)) < v1 := of_decide_eq_true (bfact (x := decide ((IntKind.wrap .i64 ((n : Int) - 1)) < v1)) st.inn 0 (by kernel_rfl))
    have f23 : ¬ (v1 < 0) := of_decide_eq_false (bfact (x := decide (v1 < 0)) st.inn 1 (by kernel_rfl))
    have f24 : ¬ ((IntKind.wrap .i64 ((n : Int) - 1)) < v0) := of_decide_eq_false (bfact (x := decide ((IntKind.wrap .i64 ((n : Int) - 1)) < v0)) st.inn 2 (by kernel_rfl))
    have f25 : ¬ (v0 < 0) := of_decide_eq_false (bfact (x := decide (v0 < 0)) st.inn 3 (by kernel_rfl))
    refine res_ex (by kernel_rfl) (end_flat st.inn hE (.inr rfl) (a := .bool false) (by kernel_rfl) (Grew.trans (Grew.refl _) (st.kept.grew (Nat.le_of_ble_eq_true (by kernel_rfl)))) rfl ⟨?_, rfl⟩)
    have z0 : IntKind.i64.wrap ((n : Int) - 1) = (n : Int) - 1 := wrap_i64 (by omega) (by omega)
    rw [z0] at f22
    rw [z0] at f24
    first | (rw [okK, decide_eq_false (by omega)]; rfl) | simp [okK]
  ·
    intro vs ls H26 E26 st hE
    have f27 : v1 < 0 := of_decide_eq_true (bfact (x := decide (v1 < 0)) st.inn 0 (by kernel_rfl))
    have f28 : ¬ ((IntKind.wrap .i64 ((n : Int) - 1)) < v0) := of_decide_eq_false (bfact (x := decide ((IntKind.wrap .i64 ((n : Int) - 1)) < v0)) st.inn 1 (by kernel_rfl))
    have f29 : ¬ (v0 < 0) := of_decide_eq_false (bfact (x := decide (v0 < 0)) st.inn 2 (by kernel_rfl))
    refine res_ex (by kernel_rfl) (end_flat st.inn hE (.inr rfl) (a := .bool false) (by kernel_rfl) (Grew.trans (Grew.refl _) (st.kept.grew (Nat.le_of_ble_eq_true (by kernel_rfl)))) rfl ⟨?_, rfl⟩)
    have z0 : IntKind.i64.wrap ((n : Int) - 1) = (n : Int) - 1 := wrap_i64 (by omega) (by omega)
    rw [z0] at f28
    first | (rw [okK, decide_eq_false (by omega)]; rfl) | simp [okK]
  ·
    intro vs ls H30 E30 st hE
    have f31 : (IntKind.wrap .i64 ((n : Int) - 1)) < v0 := of_decide_eq_true (bfact (x := decide ((IntKind.wrap .i64 ((n : Int) - 1)) < v0)) st.inn 0 (by kernel_rfl))
    have f32 : ¬ (v0 < 0) := of_decide_eq_false (bfact (x := decide (v0 < 0)) st.inn 1 (by kernel_rfl))
    refine res_ex (by kernel_rfl) (end_flat st.inn hE (.inr rfl) (a := .bool false) (by kernel_rfl) (Grew.trans (Grew.refl _) (st.kept.grew (Nat.le_of_ble_eq_true (by kernel_rfl)))) rfl ⟨?_, rfl⟩)
    have z0 : IntKind.i64.wrap ((n : Int) - 1) = (n : Int) - 1 := wrap_i64 (by omega) (by omega)
    rw [z0] at f31
    first | (rw [okK, decide_eq_false (by omega)]; rfl) | simp [okK]
  ·
    intro vs ls H33 E33 st hE
    have f34 : v0 < 0 := of_decide_eq_true (bfact (x := decide (v0 < 0)) st.inn 0 (by kernel_rfl))
    refine res_ex (by kernel_rfl) (end_flat st.inn hE (.inr rfl) (a := .bool false) (by kernel_rfl) (Grew.trans (Grew.refl _) (st.kept.grew (Nat.le_of_ble_eq_true (by kernel_rfl)))) rfl ⟨?_, rfl⟩)
    have z0 : IntKind.i64.wrap ((n : Int) - 1) = (n : Int) - 1 := wrap_i64 (by omega) (by omega)
    first | (rw [okK, decide_eq_false (by omega)]; rfl) | simp [okK]
theorem k_l06Link (n : Nat) (hn : n < 2 ^ 40) (v0 v1 : Int) (v2 v3 v4 v5 : Option Nat) (o2 : fOk .f32 v2) (o3 : fOk .f32 v3) (o4 : fOk .f32 v4) (o5 : fOk .f32 v5) (H : AHeap) (l off : Nat) (pre post : List AV) (wr : Bool) (hg : H.get l = some (.row (pre ++ ([.int .i64 v0, .int .i64 v1, .flt .f32 v2, .flt .f32 v3, .flt .f32 v4, .flt .f32 v5] ++ post)) wr)) (hp : pre.length = off) : APure Try.prog 94 [.ptr l off, .int .i64 (n : Int)] H (.bool (okK n [.int .i64 v0, .int .i64 v1, .flt .f32 v2, .flt .f32 v3, .flt .f32 v4, .flt .f32 v5])) := by
  refine res_start h_spec_l06Link (by simp) ?_
  refine run_mn (φ := φ0) (pm := pmR 1 [(.call 87 [.agg [.nd 2 (.flt .f32), .nd 3 (.flt .f32), .nd 4 (.flt .f32)]], .nd 7 .bool), (.call 72 [.nd 5 (.flt .f32)], .nd 8 .bool)] 0) 20 (nk := [(.atom 0, .int .i64), (.atom 1, .int .i64), (.atom 2, .flt .f32), (.atom 3, .flt .f32), (.atom 4, .flt .f32), (.atom 5, .flt .f32), (.atom 6, .int .i64), (.atom 7, .bool), (.atom 8, .bool)]) (fs := []) (xs := [.int .i64 v0, .int .i64 v1, .flt .f32 v2, .flt .f32 v3, .flt .f32 v4, .flt .f32 v5, .int .i64 (n : Int), .bool (finP [.flt .f32 v2, .flt .f32 v3, .flt .f32 v4]), .bool (sideB v5)]) (ws := [⟨l, off, [.nd 0 (.int .i64), .nd 1 (.int .i64), .nd 2 (.flt .f32), .nd 3 (.flt .f32), .nd 4 (.flt .f32), .nd 5 (.flt .f32)], false⟩]) (env := [(0, .ptr 0 0), (1, .nd 6 (.int .i64))]) ?_ ?_ tb_ok ap_ok ?_
  · refine midN_in ?_ .nil _ ?_ ?_ ?_
    · exact (.cons rfl ⟨_, rfl⟩ (.cons rfl ⟨_, rfl⟩ (.cons rfl ⟨_, rfl, o2⟩ (.cons rfl ⟨_, rfl, o3⟩ (.cons rfl ⟨_, rfl, o4⟩ (.cons rfl ⟨_, rfl, o5⟩ (.cons rfl ⟨_, rfl⟩ (.cons rfl ⟨_, rfl⟩ (.cons rfl ⟨_, rfl⟩ .nil)))))))))
    · exact (.cons (win_mid hg hp (dlCons (dNd rfl ⟨_, rfl⟩) (dlCons (dNd rfl ⟨_, rfl⟩) (dlCons (dNd rfl ⟨_, rfl, o2⟩) (dlCons (dNd rfl ⟨_, rfl, o3⟩) (dlCons (dNd rfl ⟨_, rfl, o4⟩) (dlCons (dNd rfl ⟨_, rfl, o5⟩) dlNil))))))) .nil)
    · exact sepOk_ro rfl
    · exact (.cons (rule_call (args := [.agg [.flt .f32 v2, .flt .f32 v3, .flt .f32 v4]]) (dlCons (dAgg (dlCons (dNd rfl ⟨_, rfl, o2⟩) (dlCons (dNd rfl ⟨_, rfl, o3⟩) (dlCons (dNd rfl ⟨_, rfl, o4⟩) dlNil)))) dlNil) (dNd rfl ⟨_, rfl⟩) (fun H9 hk => k_l06Finite [.flt .f32 v2, .flt .f32 v3, .flt .f32 v4] (.cons ⟨_, rfl, o2⟩ (.cons ⟨_, rfl, o3⟩ (.cons ⟨_, rfl, o4⟩ .nil))) H9)) (.cons (rule_call (args := [.flt .f32 v5]) (dlCons (dNd rfl ⟨_, rfl, o5⟩) dlNil) (dNd rfl ⟨_, rfl⟩) (fun H9 hk => k_l06Weight v5 o5 H9)) .nil))
  · exact (envEq rfl (dPtr (l := l) (o := off) rfl) (envEq rfl (dNd rfl ⟨_, rfl⟩) envNil))
  refine all7 (by kernel_rfl) ?_ ?_ ?_ ?_ ?_ ?_ ?_
  ·
    intro vs ls H1 E1 st hE
    have f2 : (finP [.flt .f32 v2, .flt .f32 v3, .flt .f32 v4]) = true := bfact st.inn 0 (by kernel_rfl)
    have f3 : ¬ (v0 = v1) := of_decide_eq_false (bfact (x := decide (v0 = v1)) st.inn 1 (by kernel_rfl))
    have f4 : ¬ ((IntKind.wrap .i64 ((n : Int) - 1)) < v1) := of_decide_eq_false (bfact (x := decide ((IntKind.wrap .i64 ((n : Int) - 1)) < v1)) st.inn 2 (by kernel_rfl))
    have f5 : ¬ (v1 < 0) := of_decide_eq_false (bfact (x := decide (v1 < 0)) st.inn 3 (by kernel_rfl))
    have f6 : ¬ ((IntKind.wrap .i64 ((n : Int) - 1)) < v0) := of_decide_eq_false (bfact (x := decide ((IntKind.wrap .i64 ((n : Int) - 1)) < v0)) st.inn 4 (by kernel_rfl))
    have f7 : ¬ (v0 < 0) := of_decide_eq_false (bfact (x := decide (v0 < 0)) st.inn 5 (by kernel_rfl))
    refine res_ex (by kernel_rfl) (end_flat st.inn hE (.inr rfl) (a := .bool (sideB v5)) (by kernel_rfl) (Grew.trans (Grew.refl _) (st.kept.grew (Nat.le_of_ble_eq_true (by kernel_rfl)))) rfl ⟨?_, rfl⟩)
    have z0 : IntKind.i64.wrap ((n : Int) - 1) = (n : Int) - 1 := wrap_i64 (by omega) (by omega)
    rw [z0] at f4
    rw [z0] at f6
    rw [okK, decide_eq_true (by omega), f2]; simp
  ·
    intro vs ls H8 E8 st hE
    have f9 : (finP [.flt .f32 v2, .flt .f32 v3, .flt .f32 v4]) = false := bfact st.inn 0 (by kernel_rfl)
    have f10 : ¬ (v0 = v1) := of_decide_eq_false (bfact (x := decide (v0 = v1)) st.inn 1 (by kernel_rfl))
    have f11 : ¬ ((IntKind.wrap .i64 ((n : Int) - 1)) < v1) := of_decide_eq_false (bfact (x := decide ((IntKind.wrap .i64 ((n : Int) - 1)) < v1)) st.inn 2 (by kernel_rfl))
    have f12 : ¬ (v1 < 0) := of_decide_eq_false (bfact (x := decide (v1 < 0)) st.inn 3 (by kernel_rfl))
    have f13 : ¬ ((IntKind.wrap .i64 ((n : Int) - 1)) < v0) := of_decide_eq_false (bfact (x := decide ((IntKind.wrap .i64 ((n : Int) - 1)) < v0)) st.inn 4 (by kernel_rfl))
    have f14 : ¬ (v0 < 0) := of_decide_eq_false (bfact (x := decide (v0 < 0)) st.inn 5 (by kernel_rfl))
    refine res_ex (by kernel_rfl) (end_flat st.inn hE (.inr rfl) (a := .bool false) (by kernel_rfl) (Grew.trans (Grew.refl _) (st.kept.grew (Nat.le_of_ble_eq_true (by kernel_rfl)))) rfl ⟨?_, rfl⟩)
    have z0 : IntKind.i64.wrap ((n : Int) - 1) = (n : Int) - 1 := wrap_i64 (by omega) (by omega)
    rw [z0] at f11
    rw [z0] at f13
    first | (rw [okK, decide_eq_false (by omega)]; rfl) | simp [okK, f9]
  ·
    intro vs ls H15 E15 st hE
    have f16 : v0 = v1 := of_decide_eq_true (bfact (x := decide (v0 = v1)) st.inn 0 (by kernel_rfl))
    have f17 : ¬ ((IntKind.wrap .i64 ((n : Int) - 1)) < v1) := of_decide_eq_false (bfact (x := decide ((IntKind.wrap .i64 ((n : Int) - 1)) < v1)) st.inn 1 (by kernel_rfl))
    have f18 : ¬ (v1 < 0) := of_decide_eq_false (bfact (x := decide (v1 < 0)) st.inn 2 (by kernel_rfl))
    have f19 : ¬ ((IntKind.wrap .i64 ((n : Int) - 1)) < v0) := of_decide_eq_false (bfact (x := decide ((IntKind.wrap .i64 ((n : Int) - 1)) < v0)) st.inn 3 (by kernel_rfl))
    have f20 : ¬ (v0 < 0) := of_decide_eq_false (bfact (x := decide (v0 < 0)) st.inn 4 (by kernel_rfl))
    refine res_ex (by kernel_rfl) (end_flat st.inn hE (.inr rfl) (a := .bool false) (by kernel_rfl) (Grew.trans (Grew.refl _) (st.kept.grew (Nat.le_of_ble_eq_true (by kernel_rfl)))) rfl ⟨?_, rfl⟩)
    have z0 : IntKind.i64.wrap ((n : Int) - 1) = (n : Int) - 1 := wrap_i64 (by omega) (by omega)
    rw [z0] at f17
    rw [z0] at f19
    first | (rw [okK, decide_eq_false (by omega)]; rfl) | simp [okK]
  ·
    intro vs ls H21 E21 st hE
    have f22 : (IntKind.wrap .i64 ((n : Int) - 1)) < v1 := of_decide_eq_true (bfact (x := decide ((IntKind.wrap .i64 ((n : Int) - 1)) < v1)) st.inn 0 (by kernel_rfl))
    have f23 : ¬ (v1 < 0) := of_decide_eq_false (bfact (x := decide (v1 < 0)) st.inn 1 (by kernel_rfl))
    have f24 : ¬ ((IntKind.wrap .i64 ((n : Int) - 1)) < v0) := of_decide_eq_false (bfact (x := decide ((IntKind.wrap .i64 ((n : Int) - 1)) < v0)) st.inn 2 (by kernel_rfl))
    have f25 : ¬ (v0 < 0) := of_decide_eq_false (bfact (x := decide (v0 < 0)) st.inn 3 (by kernel_rfl))
    refine res_ex (by kernel_rfl) (end_flat st.inn hE (.inr rfl) (a := .bool false) (by kernel_rfl) (Grew.trans (Grew.refl _) (st.kept.grew (Nat.le_of_ble_eq_true (by kernel_rfl)))) rfl ⟨?_, rfl⟩)
    have z0 : IntKind.i64.wrap ((n : Int) - 1) = (n : Int) - 1 := wrap_i64 (by omega) (by omega)
    rw [z0] at f22
    rw [z0] at f24
    first | (rw [okK, decide_eq_false (by omega)]; rfl) | simp [okK]
  ·
    intro vs ls H26 E26 st hE
    have f27 : v1 < 0 := of_decide_eq_true (bfact (x := decide (v1 < 0)) st.inn 0 (by kernel_rfl))
    have f28 : ¬ ((IntKind.wrap .i64 ((n : Int) - 1)) < v0) := of_decide_eq_false (bfact (x := decide ((IntKind.wrap .i64 ((n : Int) - 1)) < v0)) st.inn 1 (by kernel_rfl))
    have f29 : ¬ (v0 < 0) := of_decide_eq_false (bfact (x := decide (v0 < 0)) st.inn 2 (by kernel_rfl))
    refine res_ex (by kernel_rfl) (end_flat st.inn hE (.inr rfl) (a := .bool false) (by kernel_rfl) (Grew.trans (Grew.refl _) (st.kept.grew (Nat.le_of_ble_eq_true (by kernel_rfl)))) rfl ⟨?_, rfl⟩)
    have z0 : IntKind.i64.wrap ((n : Int) - 1) = (n : Int) - 1 := wrap_i64 (by omega) (by omega)
    rw [z0] at f28
    first | (rw [okK, decide_eq_false (by omega)]; rfl) | simp [okK]
  ·
    intro vs ls H30 E30 st hE
    have f31 : (IntKind.wrap .i64 ((n : Int) - 1)) < v0 := of_decide_eq_true (bfact (x := decide ((IntKind.wrap .i64 ((n : Int) - 1)) < v0)) st.inn 0 (by kernel_rfl))
    have f32 : ¬ (v0 < 0) := of_decide_eq_false (bfact (x := decide (v0 < 0)) st.inn 1 (by kernel_rfl))
    refine res_ex (by kernel_rfl) (end_flat st.inn hE (.inr rfl) (a := .bool false) (by kernel_rfl) (Grew.trans (Grew.refl _) (st.kept.grew (Nat.le_of_ble_eq_true (by kernel_rfl)))) rfl ⟨?_, rfl⟩)
    have z0 : IntKind.i64.wrap ((n : Int) - 1) = (n : Int) - 1 := wrap_i64 (by omega) (by omega)
    rw [z0] at f31
    first | (rw [okK, decide_eq_false (by omega)]; rfl) | simp [okK]
  ·
    intro vs ls H33 E33 st hE
    have f34 : v0 < 0 := of_decide_eq_true (bfact (x := decide (v0 < 0)) st.inn 0 (by kernel_rfl))
    refine res_ex (by kernel_rfl) (end_flat st.inn hE (.inr rfl) (a := .bool false) (by kernel_rfl) (Grew.trans (Grew.refl _) (st.kept.grew (Nat.le_of_ble_eq_true (by kernel_rfl)))) rfl ⟨?_, rfl⟩)
    have z0 : IntKind.i64.wrap ((n : Int) - 1) = (n : Int) - 1 := wrap_i64 (by omega) (by omega)
    first | (rw [okK, decide_eq_false (by omega)]; rfl) | simp [okK]
end Go.Proofs.Ytcmoeocemmeofaa
