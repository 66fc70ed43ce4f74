/- Contracts: links and lists that are the same. -/
import Derived.Test.YtllgmcgdkhnilaaToLink
set_option linter.unusedVariables false
set_option linter.unusedSimpArgs false
namespace Go.Proofs.Ytllgmcgdkhnilaa
open Go.Ab
set_option maxRecDepth 100000
set_option maxHeartbeats 1000000
attribute [local irreducible] Res
noncomputable def sameK : List AV → List AV → Bool
  | [.int _ a, .int _ b, x, y, z, .flt _ w], [.int _ a', .int _ b', x', y', z', .flt _ w'] => decide (a = a') && (decide (b = b') && (sameP [x, y, z] [x', y', z'] && sameN w w'))
  | _, _ => false
def sameL (p : List AV → List AV → Bool) (ms ms' : List (List AV)) : Bool := decide (ms.length = ms'.length) && allB (fun i => p (ms.getD i []) (ms'.getD i [])) ms.length
theorem k_sameLinkFn (v0 v1 : Int) (v2 v3 v4 v5 : Option Nat) (u0 u1 : Int) (u2 u3 u4 u5 : Option Nat) (o2 : fOk .f32 v2) (o3 : fOk .f32 v3) (o4 : fOk .f32 v4) (o5 : fOk .f32 v5) (p2 : fOk .f32 u2) (p3 : fOk .f32 u3) (p4 : fOk .f32 u4) (p5 : fOk .f32 u5) (H : AHeap) : APure Try.prog 64 [.agg [.int .i64 v0, .int .i64 v1, .flt .f32 v2, .flt .f32 v3, .flt .f32 v4, .flt .f32 v5], .agg [.int .i64 u0, .int .i64 u1, .flt .f32 u2, .flt .f32 u3, .flt .f32 u4, .flt .f32 u5]] H (.bool (sameK [.int .i64 v0, .int .i64 v1, .flt .f32 v2, .flt .f32 v3, .flt .f32 v4, .flt .f32 v5] [.int .i64 u0, .int .i64 u1, .flt .f32 u2, .flt .f32 u3, .flt .f32 u4, .flt .f32 u5])) := by
  refine res_start h_impl_SameGraph_1 (by simp) ?_
  refine run_mn (φ := φ0) (pm := pmR 0 [(.call 19 [.agg [.nd 2 (.flt .f32), .nd 3 (.flt .f32), .nd 4 (.flt .f32)], .agg [.nd 8 (.flt .f32), .nd 9 (.flt .f32), .nd 10 (.flt .f32)]], .nd 12 .bool), (.call 65 [.nd 5 (.flt .f32), .nd 11 (.flt .f32)], .nd 13 .bool)] 0) 20 (nk := [(.atom 0, .int .i64), (.atom 1, .int .i64), (.atom 2, .flt .f32), (.atom 3, .flt .f32), (.atom 4, .flt .f32), (.atom 5, .flt .f32), (.atom 6, .int .i64), (.atom 7, .int .i64), (.atom 8, .flt .f32), (.atom 9, .flt .f32), (.atom 10, .flt .f32), (.atom 11, .flt .f32), (.atom 12, .bool), (.atom 13, .bool)]) (fs := []) (xs := [.int .i64 v0, .int .i64 v1, .flt .f32 v2, .flt .f32 v3, .flt .f32 v4, .flt .f32 v5, .int .i64 u0, .int .i64 u1, .flt .f32 u2, .flt .f32 u3, .flt .f32 u4, .flt .f32 u5, .bool (sameP [.flt .f32 v2, .flt .f32 v3, .flt .f32 v4] [.flt .f32 u2, .flt .f32 u3, .flt .f32 u4]), .bool (sameN v5 u5)]) (ws := []) (env := [(0, .agg [.nd 0 (.int .i64), .nd 1 (.int .i64), .nd 2 (.flt .f32), .nd 3 (.flt .f32), .nd 4 (.flt .f32), .nd 5 (.flt .f32)]), (1, .agg [.nd 6 (.int .i64), .nd 7 (.int .i64), .nd 8 (.flt .f32), .nd 9 (.flt .f32), .nd 10 (.flt .f32), .nd 11 (.flt .f32)])]) ?_ ?_ tb_ok ap_ok ?_
  · refine midN_in ?_ .nil _ ?_ ?_ ?_
    · exact (.cons rfl ⟨_, rfl⟩ (.cons rfl ⟨_, rfl⟩ (.cons rfl ⟨_, rfl, o2⟩ (.cons rfl ⟨_, rfl, o3⟩ (.cons rfl ⟨_, rfl, o4⟩ (.cons rfl ⟨_, rfl, o5⟩ (.cons rfl ⟨_, rfl⟩ (.cons rfl ⟨_, rfl⟩ (.cons rfl ⟨_, rfl, p2⟩ (.cons rfl ⟨_, rfl, p3⟩ (.cons rfl ⟨_, rfl, p4⟩ (.cons rfl ⟨_, rfl, p5⟩ (.cons rfl ⟨_, rfl⟩ (.cons rfl ⟨_, rfl⟩ .nil))))))))))))))
    · exact .nil
    · exact sepOk_ro rfl
    · exact (.cons (rule_call (args := [.agg [.flt .f32 v2, .flt .f32 v3, .flt .f32 v4], .agg [.flt .f32 u2, .flt .f32 u3, .flt .f32 u4]]) (dlCons (dAgg (dlCons (dNd rfl ⟨_, rfl, o2⟩) (dlCons (dNd rfl ⟨_, rfl, o3⟩) (dlCons (dNd rfl ⟨_, rfl, o4⟩) dlNil)))) (dlCons (dAgg (dlCons (dNd rfl ⟨_, rfl, p2⟩) (dlCons (dNd rfl ⟨_, rfl, p3⟩) (dlCons (dNd rfl ⟨_, rfl, p4⟩) dlNil)))) dlNil)) (dNd rfl ⟨_, rfl⟩) (fun H9 hk => k_SamePose [.flt .f32 v2, .flt .f32 v3, .flt .f32 v4] [.flt .f32 u2, .flt .f32 u3, .flt .f32 u4] (.cons ⟨_, rfl, o2⟩ (.cons ⟨_, rfl, o3⟩ (.cons ⟨_, rfl, o4⟩ .nil))) (.cons ⟨_, rfl, p2⟩ (.cons ⟨_, rfl, p3⟩ (.cons ⟨_, rfl, p4⟩ .nil))) H9)) (.cons (rule_call (args := [.flt .f32 v5, .flt .f32 u5]) (dlCons (dNd rfl ⟨_, rfl, o5⟩) (dlCons (dNd rfl ⟨_, rfl, p5⟩) dlNil)) (dNd rfl ⟨_, rfl⟩) (fun H9 hk => k_SameNumber v5 u5 o5 p5 H9)) .nil))
  · exact (envEq rfl (dAgg (dlCons (dNd rfl ⟨_, rfl⟩) (dlCons (dNd rfl ⟨_, rfl⟩) (dlCons (dNd rfl ⟨_, rfl, o2⟩) (dlCons (dNd rfl ⟨_, rfl, o3⟩) (dlCons (dNd rfl ⟨_, rfl, o4⟩) (dlCons (dNd rfl ⟨_, rfl, o5⟩) dlNil))))))) (envEq rfl (dAgg (dlCons (dNd rfl ⟨_, rfl⟩) (dlCons (dNd rfl ⟨_, rfl⟩) (dlCons (dNd rfl ⟨_, rfl, p2⟩) (dlCons (dNd rfl ⟨_, rfl, p3⟩) (dlCons (dNd rfl ⟨_, rfl, p4⟩) (dlCons (dNd rfl ⟨_, rfl, p5⟩) dlNil))))))) envNil))
  refine all4 (by kernel_rfl) ?_ ?_ ?_ ?_
  ·
    intro vs ls H1 E1 st hE
    have f2 : (sameP [.flt .f32 v2, .flt .f32 v3, .flt .f32 v4] [.flt .f32 u2, .flt .f32 u3, .flt .f32 u4]) = true := bfact st.inn 0 (by kernel_rfl)
    have f3 : v1 = u1 := of_decide_eq_true (bfact (x := decide (v1 = u1)) st.inn 1 (by kernel_rfl))
    have f4 : v0 = u0 := of_decide_eq_true (bfact (x := decide (v0 = u0)) st.inn 2 (by kernel_rfl))
    refine res_ex (by kernel_rfl) (end_flat st.inn hE (.inr rfl) (a := .bool (sameN v5 u5)) (by kernel_rfl) (Grew.trans (Grew.refl _) (st.kept.grew (Nat.le_of_ble_eq_true (by kernel_rfl)))) rfl ⟨?_, rfl⟩)
    simp [sameK, f2, f3, f4]
  ·
    intro vs ls H5 E5 st hE
    have f6 : (sameP [.flt .f32 v2, .flt .f32 v3, .flt .f32 v4] [.flt .f32 u2, .flt .f32 u3, .flt .f32 u4]) = false := bfact st.inn 0 (by kernel_rfl)
    have f7 : v1 = u1 := of_decide_eq_true (bfact (x := decide (v1 = u1)) st.inn 1 (by kernel_rfl))
    have f8 : v0 = u0 := of_decide_eq_true (bfact (x := decide (v0 = u0)) st.inn 2 (by kernel_rfl))
    refine res_ex (by kernel_rfl) (end_flat st.inn hE (.inr rfl) (a := .bool false) (by kernel_rfl) (Grew.trans (Grew.refl _) (st.kept.grew (Nat.le_of_ble_eq_true (by kernel_rfl)))) rfl ⟨?_, rfl⟩)
    simp [sameK, f6, f7, f8]
  ·
    intro vs ls H9 E9 st hE
    have f10 : ¬ (v1 = u1) := of_decide_eq_false (bfact (x := decide (v1 = u1)) st.inn 0 (by kernel_rfl))
    have f11 : v0 = u0 := of_decide_eq_true (bfact (x := decide (v0 = u0)) st.inn 1 (by kernel_rfl))
    refine res_ex (by kernel_rfl) (end_flat st.inn hE (.inr rfl) (a := .bool false) (by kernel_rfl) (Grew.trans (Grew.refl _) (st.kept.grew (Nat.le_of_ble_eq_true (by kernel_rfl)))) rfl ⟨?_, rfl⟩)
    simp [sameK, f10, f11]
  ·
    intro vs ls H12 E12 st hE
    have f13 : ¬ (v0 = u0) := of_decide_eq_false (bfact (x := decide (v0 = u0)) st.inn 0 (by kernel_rfl))
    refine res_ex (by kernel_rfl) (end_flat st.inn hE (.inr rfl) (a := .bool false) (by kernel_rfl) (Grew.trans (Grew.refl _) (st.kept.grew (Nat.le_of_ble_eq_true (by kernel_rfl)))) rfl ⟨?_, rfl⟩)
    simp [sameK, f13]
theorem k_EqualFuncP (H : AHeap) (ms ms' : List (List AV)) (hr : Recs KP ms) (hr' : Recs KP ms') (S S' : AV) (hS : SlL H 3 ms S) (hS' : SlL H 3 ms' S') (hmx : ms.length < 2 ^ 40) : APure Try.prog 62 [S, S', .func 19 [] []] H (.bool (sameL sameP ms ms')) := by
  refine res_start h_slices_EqualFunc_impl_Pose_impl_Pose_impl_Pose_impl_Pose (by simp) ?_
  refine run_mn (φ := φ0) (pm := pmR 0 [(.len (.nd 0 .one), .nd 2 (.int .i64)), (.len (.nd 1 .one), .nd 3 (.int .i64))] 0) 20 (nk := [(.atom 0, .one), (.atom 1, .one), (.atom 2, .int .i64), (.atom 3, .int .i64)]) (fs := []) (xs := [S, S', .int .i64 (ms.length : Int), .int .i64 (ms'.length : Int)]) (ws := []) (env := [(0, .nd 0 .one), (1, .nd 1 .one), (2, .fn 19 [] [])]) ?_ ?_ tb_ok ap_ok ?_
  · refine midN_in ?_ .nil _ ?_ ?_ ?_
    · exact (.cons rfl (slOne hS) (.cons rfl (slOne hS') (.cons rfl ⟨_, rfl⟩ (.cons rfl ⟨_, rfl⟩ .nil))))
    · exact .nil
    · exact sepOk_ro rfl
    · exact (.cons (⟨_, _, (dNd rfl (slOne hS)), (dNd rfl ⟨_, rfl⟩), slLen hS⟩) (.cons (⟨_, _, (dNd rfl (slOne hS')), (dNd rfl ⟨_, rfl⟩), slLen hS'⟩) .nil))
  · exact (envEq rfl (dNd rfl (slOne hS)) (envEq rfl (dNd rfl (slOne hS')) (envEq rfl (dFn' dlNil dlNil) envNil)))
  refine all2 (by kernel_rfl) ?_ ?_
  ·
    intro vs ls H1 E1 st hE
    have f2 : ¬ ((ms.length : Int) = (ms'.length : Int)) := of_decide_eq_false (bfact (x := decide ((ms.length : Int) = (ms'.length : Int))) st.inn 0 (by kernel_rfl))
    refine res_ex (by kernel_rfl) (end_flat st.inn hE (.inr rfl) (a := .bool false) (by kernel_rfl) (Grew.trans (Grew.refl _) (st.kept.grew (Nat.le_of_ble_eq_true (by kernel_rfl)))) rfl ⟨?_, rfl⟩)
    rw [sameL, decide_eq_false (by omega)]; rfl
  ·
    intro vs ls H3 E3 st hE
    have f4 : (ms.length : Int) = (ms'.length : Int) := of_decide_eq_true (bfact (x := decide ((ms.length : Int) = (ms'.length : Int))) st.inn 0 (by kernel_rfl))
    have b5 : E3 17 = .int .i64 0 := env_of st.inn hE 17 (by kernel_rfl)
    have b6 : E3 16 = .int .i64 (ms.length : Int) := env_of st.inn hE 16 (by kernel_rfl)
    have b7 : E3 15 = S := env_of st.inn hE 15 (by kernel_rfl)
    have b8 : E3 1 = S' := env_of st.inn hE 1 (by kernel_rfl)
    have b9 : E3 2 = .func 19 [] [] := env_of st.inn hE 2 (by kernel_rfl)
    have g10 : Grew H H3 := (st.kept.grew (Nat.le_of_ble_eq_true (by kernel_rfl)))
    have g11 : Grew H H3 := Grew.trans (Grew.refl _) g10
    clear st hE vs ls
    refine res_scan (by kernel_rfl) [(16, .int .i64 (ms.length : Int)), (15, S), (1, S'), (2, .func 19 [] [])] 17 ms.length (fun i => ∀ j, j < i → sameP (ms.getD j []) (ms'.getD j []) = true) (.cons b6 (.cons b7 (.cons b8 (.cons b9 .nil)))) b5 (Grew.refl _) upTo0 ?_
    intro i12 hli12 hIi12 Ei12 Hi12 hsi12 hci12 hgi12
    have g13 : Grew H Hi12 := Grew.trans g11 hgi12
    refine run_mn (φ := φ0) (pm := pmR 0 [] 0) 20 (nk := [(.atom 0, .one), (.atom 1, .one), (.atom 2, .int .i64), (.atom 3, .int .i64), (.atom 4, .int .i64)]) (fs := []) (xs := [S, S', .int .i64 (ms.length : Int), .int .i64 (ms'.length : Int), .int .i64 (i12 : Int)]) (ws := []) (env := [(16, .nd 2 (.int .i64)), (15, .nd 0 .one), (1, .nd 1 .one), (2, .fn 19 [] []), (17, .nd 4 (.int .i64))]) ?_ ?_ tb_ok ap_ok ?_
    · refine midN_in ?_ .nil _ ?_ ?_ ?_
      · exact (.cons rfl (slOne hS) (.cons rfl (slOne hS') (.cons rfl ⟨_, rfl⟩ (.cons rfl ⟨_, rfl⟩ (.cons rfl ⟨_, rfl⟩ .nil)))))
      · exact .nil
      · exact sepOk_ro rfl
      · exact .nil
    · exact (envEq (hsi12.at 0 rfl) (dNd rfl ⟨_, rfl⟩) (envEq (hsi12.at 1 rfl) (dNd rfl (slOne hS)) (envEq (hsi12.at 2 rfl) (dNd rfl (slOne hS')) (envEq (hsi12.at 3 rfl) (dFn' dlNil dlNil) (envEq hci12 (dNd rfl ⟨_, rfl⟩) envNil)))))
    refine all2 (by kernel_rfl) ?_ ?_
    ·
      intro vs ls H14 E14 st hE
      have f15 : (i12 : Int) < (ms.length : Int) := of_decide_eq_true (bfact (x := decide ((i12 : Int) < (ms.length : Int))) st.inn 0 (by kernel_rfl))
      have b16 : E14 15 = S := env_of st.inn hE 15 (by kernel_rfl)
      have b17 : E14 17 = .int .i64 (i12 : Int) := env_of st.inn hE 17 (by kernel_rfl)
      have b18 : E14 19 = .int .i64 (i12 : Int) := env_of st.inn hE 19 (by kernel_rfl)
      have b19 : E14 1 = S' := env_of st.inn hE 1 (by kernel_rfl)
      have b20 : E14 2 = .func 19 [] [] := env_of st.inn hE 2 (by kernel_rfl)
      have b21 : E14 16 = .int .i64 (ms.length : Int) := env_of st.inn hE 16 (by kernel_rfl)
      have g22 : Grew Hi12 H14 := (st.kept.grew (Nat.le_of_ble_eq_true (by kernel_rfl)))
      have g23 : Grew H H14 := Grew.trans g13 g22
      have g24 : Grew H3 H14 := Grew.trans hgi12 g22
      clear st hE vs ls
      have hlt25 : i12 < ms.length := by omega
      obtain ⟨lS25, cap25, rest25, wr25, eS25, gB25⟩ := hS.isSl hlt25
      have gS25 := g23.at gB25
      obtain ⟨v25_0, v25_1, v25_2, hm25, ho25_0, ho25_1, ho25_2⟩ := partsPose (hr.get hlt25)
      have he25 : ms.getD i12 [] = [.flt .f32 v25_0, .flt .f32 v25_1, .flt .f32 v25_2] := by rw [← hm25]; simp [List.getD_eq_getElem?_getD, hlt25]
      refine run_mn (φ := φ0) (pm := pmR 1 [(.ia 3 (.nd 0 .one) (.nd 4 (.int .i64)), .ptr 0 0)] 0) 20 (nk := [(.atom 0, .one), (.atom 1, .one), (.atom 2, .int .i64), (.atom 3, .int .i64), (.atom 4, .int .i64), (.atom 5, .flt .f32), (.atom 6, .flt .f32), (.atom 7, .flt .f32)]) (fs := []) (xs := [S, S', .int .i64 (ms.length : Int), .int .i64 (ms'.length : Int), .int .i64 (i12 : Int), .flt .f32 v25_0, .flt .f32 v25_1, .flt .f32 v25_2]) (ws := [⟨lS25, (i12 * 3), [.nd 5 (.flt .f32), .nd 6 (.flt .f32), .nd 7 (.flt .f32)], false⟩]) (env := [(15, .nd 0 .one), (17, .nd 4 (.int .i64)), (19, .nd 4 (.int .i64)), (1, .nd 1 .one), (2, .fn 19 [] []), (16, .nd 2 (.int .i64))]) ?_ ?_ tb_ok ap_ok ?_
      · refine midN_in ?_ .nil _ ?_ ?_ ?_
        · exact (.cons rfl (slOne hS) (.cons rfl (slOne hS') (.cons rfl ⟨_, rfl⟩ (.cons rfl ⟨_, rfl⟩ (.cons rfl ⟨_, rfl⟩ (.cons rfl ⟨_, rfl, ho25_0⟩ (.cons rfl ⟨_, rfl, ho25_1⟩ (.cons rfl ⟨_, rfl, ho25_2⟩ .nil))))))))
        · exact (.cons (win_elem hr gS25 hlt25 rfl (by rw [hm25]; exact (dlCons (dNd rfl ⟨_, rfl, ho25_0⟩) (dlCons (dNd rfl ⟨_, rfl, ho25_1⟩) (dlCons (dNd rfl ⟨_, rfl, ho25_2⟩) dlNil))))) .nil)
        · exact sepOk_ro rfl
        · exact (.cons (rule_iaS (k := i12) (dNd rfl (slOne hS)) eS25 (dNd rfl ⟨_, rfl⟩) hlt25 rfl) .nil)
      · exact (envEq b16 (dNd rfl (slOne hS)) (envEq b17 (dNd rfl ⟨_, rfl⟩) (envEq b18 (dNd rfl ⟨_, rfl⟩) (envEq b19 (dNd rfl (slOne hS')) (envEq b20 (dFn' dlNil dlNil) (envEq b21 (dNd rfl ⟨_, rfl⟩) envNil))))))
      refine all1 (by kernel_rfl) ?_
      intro vs ls H26 E26 st hE
      obtain ⟨p27, e28, r29, n30⟩ := ptr_of st.inn hE 8 1 (by kernel_rfl) (ds := [.flt .f32 v25_0, .flt .f32 v25_1, .flt .f32 v25_2]) (by kernel_rfl)
      have op27 : H.next ≤ p27 := Nat.le_trans g23.next (n30 (Nat.le_of_ble_eq_true rfl))
      have b31 : E26 22 = S' := env_of st.inn hE 22 (by kernel_rfl)
      have b32 : E26 23 = .int .i64 (i12 : Int) := env_of st.inn hE 23 (by kernel_rfl)
      have b33 : E26 2 = .func 19 [] [] := env_of st.inn hE 2 (by kernel_rfl)
      have b34 : E26 17 = .int .i64 (i12 : Int) := env_of st.inn hE 17 (by kernel_rfl)
      have b35 : E26 16 = .int .i64 (ms.length : Int) := env_of st.inn hE 16 (by kernel_rfl)
      have b36 : E26 15 = S := env_of st.inn hE 15 (by kernel_rfl)
      have b37 : E26 1 = S' := env_of st.inn hE 1 (by kernel_rfl)
      have g38 : Grew H14 H26 := (st.kept.grew (Nat.le_of_ble_eq_true (by kernel_rfl)))
      have g39 : Grew H H26 := Grew.trans g23 g38
      have g40 : Grew H3 H26 := Grew.trans g24 g38
      clear st hE vs ls
      have hlt42 : i12 < ms'.length := by omega
      obtain ⟨lS42, cap42, rest42, wr42, eS42, gB42⟩ := hS'.isSl hlt42
      have gS42 := g39.at gB42
      have ne43 : Apart p27 lS42 := ⟨Nat.ne_of_gt (Nat.lt_of_lt_of_le (H.lt_of_get gB42) op27)⟩
      obtain ⟨v42_0, v42_1, v42_2, hm42, ho42_0, ho42_1, ho42_2⟩ := partsPose (hr'.get hlt42)
      have he42 : ms'.getD i12 [] = [.flt .f32 v42_0, .flt .f32 v42_1, .flt .f32 v42_2] := by rw [← hm42]; simp [List.getD_eq_getElem?_getD, hlt42]
      refine run_mn (φ := φ0) (pm := pmR 2 [(.ia 3 (.nd 1 .one) (.nd 4 (.int .i64)), .ptr 1 0), (.call 19 [.agg [.nd 5 (.flt .f32), .nd 6 (.flt .f32), .nd 7 (.flt .f32)], .agg [.nd 8 (.flt .f32), .nd 9 (.flt .f32), .nd 10 (.flt .f32)]], .nd 11 .bool)] 0) 20 (nk := [(.atom 0, .one), (.atom 1, .one), (.atom 2, .int .i64), (.atom 3, .int .i64), (.atom 4, .int .i64), (.atom 5, .flt .f32), (.atom 6, .flt .f32), (.atom 7, .flt .f32), (.atom 8, .flt .f32), (.atom 9, .flt .f32), (.atom 10, .flt .f32), (.atom 11, .bool)]) (fs := []) (xs := [S, S', .int .i64 (ms.length : Int), .int .i64 (ms'.length : Int), .int .i64 (i12 : Int), .flt .f32 v25_0, .flt .f32 v25_1, .flt .f32 v25_2, .flt .f32 v42_0, .flt .f32 v42_1, .flt .f32 v42_2, .bool (sameP [.flt .f32 v25_0, .flt .f32 v25_1, .flt .f32 v25_2] [.flt .f32 v42_0, .flt .f32 v42_1, .flt .f32 v42_2])]) (ws := [⟨p27, 0, [.nd 5 (.flt .f32), .nd 6 (.flt .f32), .nd 7 (.flt .f32)], false⟩, ⟨lS42, (i12 * 3), [.nd 8 (.flt .f32), .nd 9 (.flt .f32), .nd 10 (.flt .f32)], false⟩]) (env := [(22, .nd 1 .one), (23, .nd 4 (.int .i64)), (2, .fn 19 [] []), (8, .ptr 0 0), (17, .nd 4 (.int .i64)), (16, .nd 2 (.int .i64)), (15, .nd 0 .one), (1, .nd 1 .one)]) ?_ ?_ tb_ok ap_ok ?_
      · refine midN_in ?_ .nil _ ?_ ?_ ?_
        · exact (.cons rfl (slOne hS) (.cons rfl (slOne hS') (.cons rfl ⟨_, rfl⟩ (.cons rfl ⟨_, rfl⟩ (.cons rfl ⟨_, rfl⟩ (.cons rfl ⟨_, rfl, ho25_0⟩ (.cons rfl ⟨_, rfl, ho25_1⟩ (.cons rfl ⟨_, rfl, ho25_2⟩ (.cons rfl ⟨_, rfl, ho42_0⟩ (.cons rfl ⟨_, rfl, ho42_1⟩ (.cons rfl ⟨_, rfl, ho42_2⟩ (.cons rfl ⟨_, rfl⟩ .nil))))))))))))
        · exact (.cons (win_row r29 (dlCons (dNd rfl ⟨_, rfl, ho25_0⟩) (dlCons (dNd rfl ⟨_, rfl, ho25_1⟩) (dlCons (dNd rfl ⟨_, rfl, ho25_2⟩) dlNil)))) (.cons (win_elem hr' gS42 hlt42 rfl (by rw [hm42]; exact (dlCons (dNd rfl ⟨_, rfl, ho42_0⟩) (dlCons (dNd rfl ⟨_, rfl, ho42_1⟩) (dlCons (dNd rfl ⟨_, rfl, ho42_2⟩) dlNil))))) .nil))
        · exact sepOk_ro rfl
        · exact (.cons (rule_iaS (k := i12) (dNd rfl (slOne hS')) eS42 (dNd rfl ⟨_, rfl⟩) hlt42 rfl) (.cons (rule_call (args := [.agg [.flt .f32 v25_0, .flt .f32 v25_1, .flt .f32 v25_2], .agg [.flt .f32 v42_0, .flt .f32 v42_1, .flt .f32 v42_2]]) (dlCons (dAgg (dlCons (dNd rfl ⟨_, rfl, ho25_0⟩) (dlCons (dNd rfl ⟨_, rfl, ho25_1⟩) (dlCons (dNd rfl ⟨_, rfl, ho25_2⟩) dlNil)))) (dlCons (dAgg (dlCons (dNd rfl ⟨_, rfl, ho42_0⟩) (dlCons (dNd rfl ⟨_, rfl, ho42_1⟩) (dlCons (dNd rfl ⟨_, rfl, ho42_2⟩) dlNil)))) dlNil)) (dNd rfl ⟨_, rfl⟩) (fun H9 hk => k_SamePose [.flt .f32 v25_0, .flt .f32 v25_1, .flt .f32 v25_2] [.flt .f32 v42_0, .flt .f32 v42_1, .flt .f32 v42_2] (.cons ⟨_, rfl, ho25_0⟩ (.cons ⟨_, rfl, ho25_1⟩ (.cons ⟨_, rfl, ho25_2⟩ .nil))) (.cons ⟨_, rfl, ho42_0⟩ (.cons ⟨_, rfl, ho42_1⟩ (.cons ⟨_, rfl, ho42_2⟩ .nil))) H9)) .nil))
      · exact (envEq b31 (dNd rfl (slOne hS')) (envEq b32 (dNd rfl ⟨_, rfl⟩) (envEq b33 (dFn' dlNil dlNil) (envEq e28 (dPtr (l := p27) (o := 0) rfl) (envEq b34 (dNd rfl ⟨_, rfl⟩) (envEq b35 (dNd rfl ⟨_, rfl⟩) (envEq b36 (dNd rfl (slOne hS)) (envEq b37 (dNd rfl (slOne hS')) envNil))))))))
      refine all2 (by kernel_rfl) ?_ ?_
      ·
        intro vs ls H44 E44 st hE
        have f45 : (sameP [.flt .f32 v25_0, .flt .f32 v25_1, .flt .f32 v25_2] [.flt .f32 v42_0, .flt .f32 v42_1, .flt .f32 v42_2]) = false := bfact st.inn 0 (by kernel_rfl)
        refine res_ret (by kernel_rfl) (end_flat st.inn hE (.inr rfl) (a := .bool false) (by kernel_rfl) (Grew.trans g39 (st.kept.grew (Nat.le_of_ble_eq_true (by kernel_rfl)))) rfl ⟨?_, rfl⟩)
        rw [sameL, allB_at hlt25 (by show sameP _ _ = false; rw [he25, he42]; exact f45), Bool.and_false]
      ·
        intro vs ls H46 E46 st hE
        have f47 : (sameP [.flt .f32 v25_0, .flt .f32 v25_1, .flt .f32 v25_2] [.flt .f32 v42_0, .flt .f32 v42_1, .flt .f32 v42_2]) = true := bfact st.inn 0 (by kernel_rfl)
        have hlti12 : i12 < ms.length := by omega
        refine res_next (sl := [(16, .int .i64 (ms.length : Int)), (15, S), (1, S'), (2, .func 19 [] [])]) (ti := 17) (i := i12) (Inv := fun i => ∀ j, j < i → sameP (ms.getD j []) (ms'.getD j []) = true) (by kernel_rfl) st.inn hE hlti12 (by kernel_rfl) (w := (IntKind.wrap .i64 ((i12 : Int) + 1))) (by kernel_rfl) (wrap64 (by omega)) (Grew.trans g40 (st.kept.grew (Nat.le_of_ble_eq_true (by kernel_rfl)))) ?_
        exact upTo hIi12 (by rw [he25, he42]; exact f47)
    ·
      intro vs ls H48 E48 st hE
      have f49 : ¬ ((i12 : Int) < (ms.length : Int)) := of_decide_eq_false (bfact (x := decide ((i12 : Int) < (ms.length : Int))) st.inn 0 (by kernel_rfl))
      have b50 : E48 17 = .int .i64 (i12 : Int) := env_of st.inn hE 17 (by kernel_rfl)
      have b51 : E48 16 = .int .i64 (ms.length : Int) := env_of st.inn hE 16 (by kernel_rfl)
      obtain ⟨w52, hw52⟩ : ∃ z, z = (decide ((i12 : Int) < (ms.length : Int))) := ⟨_, rfl⟩
      have b53 : E48 18 = .bool w52 := by rw [hw52]; exact env_of st.inn hE 18 (by kernel_rfl)
      have b54 : E48 15 = S := env_of st.inn hE 15 (by kernel_rfl)
      have b55 : E48 1 = S' := env_of st.inn hE 1 (by kernel_rfl)
      have b56 : E48 2 = .func 19 [] [] := env_of st.inn hE 2 (by kernel_rfl)
      have g57 : Grew Hi12 H48 := (st.kept.grew (Nat.le_of_ble_eq_true (by kernel_rfl)))
      have g58 : Grew H H48 := Grew.trans g13 g57
      have g59 : Grew H3 H48 := Grew.trans hgi12 g57
      clear st hE vs ls
      refine res_exit (id := 0) (by kernel_rfl) ?_
      refine run_mn (φ := φ0) (pm := pmR 0 [] 0) 20 (nk := [(.atom 0, .one), (.atom 1, .one), (.atom 2, .int .i64), (.atom 3, .int .i64), (.atom 4, .int .i64), (.atom 5, .bool)]) (fs := []) (xs := [S, S', .int .i64 (ms.length : Int), .int .i64 (ms'.length : Int), .int .i64 (i12 : Int), .bool w52]) (ws := []) (env := [(17, .nd 4 (.int .i64)), (16, .nd 2 (.int .i64)), (18, .nd 5 .bool), (15, .nd 0 .one), (1, .nd 1 .one), (2, .fn 19 [] [])]) ?_ ?_ tb_ok ap_ok ?_
      · refine midN_in ?_ .nil _ ?_ ?_ ?_
        · exact (.cons rfl (slOne hS) (.cons rfl (slOne hS') (.cons rfl ⟨_, rfl⟩ (.cons rfl ⟨_, rfl⟩ (.cons rfl ⟨_, rfl⟩ (.cons rfl ⟨_, rfl⟩ .nil))))))
        · exact .nil
        · exact sepOk_ro rfl
        · exact .nil
      · exact (envEq b50 (dNd rfl ⟨_, rfl⟩) (envEq b51 (dNd rfl ⟨_, rfl⟩) (envEq b53 (dNd rfl ⟨_, rfl⟩) (envEq b54 (dNd rfl (slOne hS)) (envEq b55 (dNd rfl (slOne hS')) (envEq b56 (dFn' dlNil dlNil) envNil))))))
      refine all1 (by kernel_rfl) ?_
      intro vs ls H60 E60 st hE
      refine res_ex (by kernel_rfl) (end_flat st.inn hE (.inr rfl) (a := .bool true) (by kernel_rfl) (Grew.trans g58 (st.kept.grew (Nat.le_of_ble_eq_true (by kernel_rfl)))) rfl ⟨?_, rfl⟩)
      rw [sameL, decide_eq_true (by omega), allB_true (fun j hj => hIi12 j (by omega))]; rfl
theorem k_EqualFuncL (H : AHeap) (ms ms' : List (List AV)) (hr : Recs KL ms) (hr' : Recs KL ms') (S S' : AV) (hS : SlL H 6 ms S) (hS' : SlL H 6 ms' S') (hmx : ms.length < 2 ^ 40) : APure Try.prog 63 [S, S', .func 64 [] []] H (.bool (sameL sameK ms ms')) := by
  refine res_start h_slices_EqualFunc_impl_Link_impl_Link_impl_Link_impl_Link (by simp) ?_
  refine run_mn (φ := φ0) (pm := pmR 0 [(.len (.nd 0 .one), .nd 2 (.int .i64)), (.len (.nd 1 .one), .nd 3 (.int .i64))] 0) 20 (nk := [(.atom 0, .one), (.atom 1, .one), (.atom 2, .int .i64), (.atom 3, .int .i64)]) (fs := []) (xs := [S, S', .int .i64 (ms.length : Int), .int .i64 (ms'.length : Int)]) (ws := []) (env := [(0, .nd 0 .one), (1, .nd 1 .one), (2, .fn 64 [] [])]) ?_ ?_ tb_ok ap_ok ?_
  · refine midN_in ?_ .nil _ ?_ ?_ ?_
    · exact (.cons rfl (slOne hS) (.cons rfl (slOne hS') (.cons rfl ⟨_, rfl⟩ (.cons rfl ⟨_, rfl⟩ .nil))))
    · exact .nil
    · exact sepOk_ro rfl
    · exact (.cons (⟨_, _, (dNd rfl (slOne hS)), (dNd rfl ⟨_, rfl⟩), slLen hS⟩) (.cons (⟨_, _, (dNd rfl (slOne hS')), (dNd rfl ⟨_, rfl⟩), slLen hS'⟩) .nil))
  · exact (envEq rfl (dNd rfl (slOne hS)) (envEq rfl (dNd rfl (slOne hS')) (envEq rfl (dFn' dlNil dlNil) envNil)))
  refine all2 (by kernel_rfl) ?_ ?_
  ·
    intro vs ls H1 E1 st hE
    have f2 : ¬ ((ms.length : Int) = (ms'.length : Int)) := of_decide_eq_false (bfact (x := decide ((ms.length : Int) = (ms'.length : Int))) st.inn 0 (by kernel_rfl))
    refine res_ex (by kernel_rfl) (end_flat st.inn hE (.inr rfl) (a := .bool false) (by kernel_rfl) (Grew.trans (Grew.refl _) (st.kept.grew (Nat.le_of_ble_eq_true (by kernel_rfl)))) rfl ⟨?_, rfl⟩)
    rw [sameL, decide_eq_false (by omega)]; rfl
  ·
    intro vs ls H3 E3 st hE
    have f4 : (ms.length : Int) = (ms'.length : Int) := of_decide_eq_true (bfact (x := decide ((ms.length : Int) = (ms'.length : Int))) st.inn 0 (by kernel_rfl))
    have b5 : E3 17 = .int .i64 0 := env_of st.inn hE 17 (by kernel_rfl)
    have b6 : E3 16 = .int .i64 (ms.length : Int) := env_of st.inn hE 16 (by kernel_rfl)
    have b7 : E3 15 = S := env_of st.inn hE 15 (by kernel_rfl)
    have b8 : E3 1 = S' := env_of st.inn hE 1 (by kernel_rfl)
    have b9 : E3 2 = .func 64 [] [] := env_of st.inn hE 2 (by kernel_rfl)
    have g10 : Grew H H3 := (st.kept.grew (Nat.le_of_ble_eq_true (by kernel_rfl)))
    have g11 : Grew H H3 := Grew.trans (Grew.refl _) g10
    clear st hE vs ls
    refine res_scan (by kernel_rfl) [(16, .int .i64 (ms.length : Int)), (15, S), (1, S'), (2, .func 64 [] [])] 17 ms.length (fun i => ∀ j, j < i → sameK (ms.getD j []) (ms'.getD j []) = true) (.cons b6 (.cons b7 (.cons b8 (.cons b9 .nil)))) b5 (Grew.refl _) upTo0 ?_
    intro i12 hli12 hIi12 Ei12 Hi12 hsi12 hci12 hgi12
    have g13 : Grew H Hi12 := Grew.trans g11 hgi12
    refine run_mn (φ := φ0) (pm := pmR 0 [] 0) 20 (nk := [(.atom 0, .one), (.atom 1, .one), (.atom 2, .int .i64), (.atom 3, .int .i64), (.atom 4, .int .i64)]) (fs := []) (xs := [S, S', .int .i64 (ms.length : Int), .int .i64 (ms'.length : Int), .int .i64 (i12 : Int)]) (ws := []) (env := [(16, .nd 2 (.int .i64)), (15, .nd 0 .one), (1, .nd 1 .one), (2, .fn 64 [] []), (17, .nd 4 (.int .i64))]) ?_ ?_ tb_ok ap_ok ?_
    · refine midN_in ?_ .nil _ ?_ ?_ ?_
      · exact (.cons rfl (slOne hS) (.cons rfl (slOne hS') (.cons rfl ⟨_, rfl⟩ (.cons rfl ⟨_, rfl⟩ (.cons rfl ⟨_, rfl⟩ .nil)))))
      · exact .nil
      · exact sepOk_ro rfl
      · exact .nil
    · exact (envEq (hsi12.at 0 rfl) (dNd rfl ⟨_, rfl⟩) (envEq (hsi12.at 1 rfl) (dNd rfl (slOne hS)) (envEq (hsi12.at 2 rfl) (dNd rfl (slOne hS')) (envEq (hsi12.at 3 rfl) (dFn' dlNil dlNil) (envEq hci12 (dNd rfl ⟨_, rfl⟩) envNil)))))
    refine all2 (by kernel_rfl) ?_ ?_
    ·
      intro vs ls H14 E14 st hE
      have f15 : (i12 : Int) < (ms.length : Int) := of_decide_eq_true (bfact (x := decide ((i12 : Int) < (ms.length : Int))) st.inn 0 (by kernel_rfl))
      have b16 : E14 15 = S := env_of st.inn hE 15 (by kernel_rfl)
      have b17 : E14 17 = .int .i64 (i12 : Int) := env_of st.inn hE 17 (by kernel_rfl)
      have b18 : E14 19 = .int .i64 (i12 : Int) := env_of st.inn hE 19 (by kernel_rfl)
      have b19 : E14 1 = S' := env_of st.inn hE 1 (by kernel_rfl)
      have b20 : E14 2 = .func 64 [] [] := env_of st.inn hE 2 (by kernel_rfl)
      have b21 : E14 16 = .int .i64 (ms.length : Int) := env_of st.inn hE 16 (by kernel_rfl)
      have g22 : Grew Hi12 H14 := (st.kept.grew (Nat.le_of_ble_eq_true (by kernel_rfl)))
      have g23 : Grew H H14 := Grew.trans g13 g22
      have g24 : Grew H3 H14 := Grew.trans hgi12 g22
      clear st hE vs ls
      have hlt25 : i12 < ms.length := by omega
      obtain ⟨lS25, cap25, rest25, wr25, eS25, gB25⟩ := hS.isSl hlt25
      have gS25 := g23.at gB25
      obtain ⟨v25_0, v25_1, v25_2, v25_3, v25_4, v25_5, hm25, ho25_2, ho25_3, ho25_4, ho25_5⟩ := partsLink (hr.get hlt25)
      have he25 : ms.getD i12 [] = [.int .i64 v25_0, .int .i64 v25_1, .flt .f32 v25_2, .flt .f32 v25_3, .flt .f32 v25_4, .flt .f32 v25_5] := by rw [← hm25]; simp [List.getD_eq_getElem?_getD, hlt25]
      refine run_mn (φ := φ0) (pm := pmR 1 [(.ia 6 (.nd 0 .one) (.nd 4 (.int .i64)), .ptr 0 0)] 0) 20 (nk := [(.atom 0, .one), (.atom 1, .one), (.atom 2, .int .i64), (.atom 3, .int .i64), (.atom 4, .int .i64), (.atom 5, .int .i64), (.atom 6, .int .i64), (.atom 7, .flt .f32), (.atom 8, .flt .f32), (.atom 9, .flt .f32), (.atom 10, .flt .f32)]) (fs := []) (xs := [S, S', .int .i64 (ms.length : Int), .int .i64 (ms'.length : Int), .int .i64 (i12 : Int), .int .i64 v25_0, .int .i64 v25_1, .flt .f32 v25_2, .flt .f32 v25_3, .flt .f32 v25_4, .flt .f32 v25_5]) (ws := [⟨lS25, (i12 * 6), [.nd 5 (.int .i64), .nd 6 (.int .i64), .nd 7 (.flt .f32), .nd 8 (.flt .f32), .nd 9 (.flt .f32), .nd 10 (.flt .f32)], false⟩]) (env := [(15, .nd 0 .one), (17, .nd 4 (.int .i64)), (19, .nd 4 (.int .i64)), (1, .nd 1 .one), (2, .fn 64 [] []), (16, .nd 2 (.int .i64))]) ?_ ?_ tb_ok ap_ok ?_
      · refine midN_in ?_ .nil _ ?_ ?_ ?_
        · exact (.cons rfl (slOne hS) (.cons rfl (slOne hS') (.cons rfl ⟨_, rfl⟩ (.cons rfl ⟨_, rfl⟩ (.cons rfl ⟨_, rfl⟩ (.cons rfl ⟨_, rfl⟩ (.cons rfl ⟨_, rfl⟩ (.cons rfl ⟨_, rfl, ho25_2⟩ (.cons rfl ⟨_, rfl, ho25_3⟩ (.cons rfl ⟨_, rfl, ho25_4⟩ (.cons rfl ⟨_, rfl, ho25_5⟩ .nil)))))))))))
        · exact (.cons (win_elem hr gS25 hlt25 rfl (by rw [hm25]; exact (dlCons (dNd rfl ⟨_, rfl⟩) (dlCons (dNd rfl ⟨_, rfl⟩) (dlCons (dNd rfl ⟨_, rfl, ho25_2⟩) (dlCons (dNd rfl ⟨_, rfl, ho25_3⟩) (dlCons (dNd rfl ⟨_, rfl, ho25_4⟩) (dlCons (dNd rfl ⟨_, rfl, ho25_5⟩) dlNil)))))))) .nil)
        · exact sepOk_ro rfl
        · exact (.cons (rule_iaS (k := i12) (dNd rfl (slOne hS)) eS25 (dNd rfl ⟨_, rfl⟩) hlt25 rfl) .nil)
      · exact (envEq b16 (dNd rfl (slOne hS)) (envEq b17 (dNd rfl ⟨_, rfl⟩) (envEq b18 (dNd rfl ⟨_, rfl⟩) (envEq b19 (dNd rfl (slOne hS')) (envEq b20 (dFn' dlNil dlNil) (envEq b21 (dNd rfl ⟨_, rfl⟩) envNil))))))
      refine all1 (by kernel_rfl) ?_
      intro vs ls H26 E26 st hE
      obtain ⟨p27, e28, r29, n30⟩ := ptr_of st.inn hE 8 1 (by kernel_rfl) (ds := [.int .i64 v25_0, .int .i64 v25_1, .flt .f32 v25_2, .flt .f32 v25_3, .flt .f32 v25_4, .flt .f32 v25_5]) (by kernel_rfl)
      have op27 : H.next ≤ p27 := Nat.le_trans g23.next (n30 (Nat.le_of_ble_eq_true rfl))
      have b31 : E26 22 = S' := env_of st.inn hE 22 (by kernel_rfl)
      have b32 : E26 23 = .int .i64 (i12 : Int) := env_of st.inn hE 23 (by kernel_rfl)
      have b33 : E26 2 = .func 64 [] [] := env_of st.inn hE 2 (by kernel_rfl)
      have b34 : E26 17 = .int .i64 (i12 : Int) := env_of st.inn hE 17 (by kernel_rfl)
      have b35 : E26 16 = .int .i64 (ms.length : Int) := env_of st.inn hE 16 (by kernel_rfl)
      have b36 : E26 15 = S := env_of st.inn hE 15 (by kernel_rfl)
      have b37 : E26 1 = S' := env_of st.inn hE 1 (by kernel_rfl)
      have g38 : Grew H14 H26 := (st.kept.grew (Nat.le_of_ble_eq_true (by kernel_rfl)))
      have g39 : Grew H H26 := Grew.trans g23 g38
      have g40 : Grew H3 H26 := Grew.trans g24 g38
      clear st hE vs ls
      have hlt42 : i12 < ms'.length := by omega
      obtain ⟨lS42, cap42, rest42, wr42, eS42, gB42⟩ := hS'.isSl hlt42
      have gS42 := g39.at gB42
      have ne43 : Apart p27 lS42 := ⟨Nat.ne_of_gt (Nat.lt_of_lt_of_le (H.lt_of_get gB42) op27)⟩
      obtain ⟨v42_0, v42_1, v42_2, v42_3, v42_4, v42_5, hm42, ho42_2, ho42_3, ho42_4, ho42_5⟩ := partsLink (hr'.get hlt42)
      have he42 : ms'.getD i12 [] = [.int .i64 v42_0, .int .i64 v42_1, .flt .f32 v42_2, .flt .f32 v42_3, .flt .f32 v42_4, .flt .f32 v42_5] := by rw [← hm42]; simp [List.getD_eq_getElem?_getD, hlt42]
      refine run_mn (φ := φ0) (pm := pmR 2 [(.ia 6 (.nd 1 .one) (.nd 4 (.int .i64)), .ptr 1 0), (.call 64 [.agg [.nd 5 (.int .i64), .nd 6 (.int .i64), .nd 7 (.flt .f32), .nd 8 (.flt .f32), .nd 9 (.flt .f32), .nd 10 (.flt .f32)], .agg [.nd 11 (.int .i64), .nd 12 (.int .i64), .nd 13 (.flt .f32), .nd 14 (.flt .f32), .nd 15 (.flt .f32), .nd 16 (.flt .f32)]], .nd 17 .bool)] 0) 20 (nk := [(.atom 0, .one), (.atom 1, .one), (.atom 2, .int .i64), (.atom 3, .int .i64), (.atom 4, .int .i64), (.atom 5, .int .i64), (.atom 6, .int .i64), (.atom 7, .flt .f32), (.atom 8, .flt .f32), (.atom 9, .flt .f32), (.atom 10, .flt .f32), (.atom 11, .int .i64), (.atom 12, .int .i64), (.atom 13, .flt .f32), (.atom 14, .flt .f32), (.atom 15, .flt .f32), (.atom 16, .flt .f32), (.atom 17, .bool)]) (fs := []) (xs := [S, S', .int .i64 (ms.length : Int), .int .i64 (ms'.length : Int), .int .i64 (i12 : Int), .int .i64 v25_0, .int .i64 v25_1, .flt .f32 v25_2, .flt .f32 v25_3, .flt .f32 v25_4, .flt .f32 v25_5, .int .i64 v42_0, .int .i64 v42_1, .flt .f32 v42_2, .flt .f32 v42_3, .flt .f32 v42_4, .flt .f32 v42_5, .bool (sameK [.int .i64 v25_0, .int .i64 v25_1, .flt .f32 v25_2, .flt .f32 v25_3, .flt .f32 v25_4, .flt .f32 v25_5] [.int .i64 v42_0, .int .i64 v42_1, .flt .f32 v42_2, .flt .f32 v42_3, .flt .f32 v42_4, .flt .f32 v42_5])]) (ws := [⟨p27, 0, [.nd 5 (.int .i64), .nd 6 (.int .i64), .nd 7 (.flt .f32), .nd 8 (.flt .f32), .nd 9 (.flt .f32), .nd 10 (.flt .f32)], false⟩, ⟨lS42, (i12 * 6), [.nd 11 (.int .i64), .nd 12 (.int .i64), .nd 13 (.flt .f32), .nd 14 (.flt .f32), .nd 15 (.flt .f32), .nd 16 (.flt .f32)], false⟩]) (env := [(22, .nd 1 .one), (23, .nd 4 (.int .i64)), (2, .fn 64 [] []), (8, .ptr 0 0), (17, .nd 4 (.int .i64)), (16, .nd 2 (.int .i64)), (15, .nd 0 .one), (1, .nd 1 .one)]) ?_ ?_ tb_ok ap_ok ?_
      · refine midN_in ?_ .nil _ ?_ ?_ ?_
        · exact (.cons rfl (slOne hS) (.cons rfl (slOne hS') (.cons rfl ⟨_, rfl⟩ (.cons rfl ⟨_, rfl⟩ (.cons rfl ⟨_, rfl⟩ (.cons rfl ⟨_, rfl⟩ (.cons rfl ⟨_, rfl⟩ (.cons rfl ⟨_, rfl, ho25_2⟩ (.cons rfl ⟨_, rfl, ho25_3⟩ (.cons rfl ⟨_, rfl, ho25_4⟩ (.cons rfl ⟨_, rfl, ho25_5⟩ (.cons rfl ⟨_, rfl⟩ (.cons rfl ⟨_, rfl⟩ (.cons rfl ⟨_, rfl, ho42_2⟩ (.cons rfl ⟨_, rfl, ho42_3⟩ (.cons rfl ⟨_, rfl, ho42_4⟩ (.cons rfl ⟨_, rfl, ho42_5⟩ (.cons rfl ⟨_, rfl⟩ .nil))))))))))))))))))
        · exact (.cons (win_row r29 (dlCons (dNd rfl ⟨_, rfl⟩) (dlCons (dNd rfl ⟨_, rfl⟩) (dlCons (dNd rfl ⟨_, rfl, ho25_2⟩) (dlCons (dNd rfl ⟨_, rfl, ho25_3⟩) (dlCons (dNd rfl ⟨_, rfl, ho25_4⟩) (dlCons (dNd rfl ⟨_, rfl, ho25_5⟩) dlNil))))))) (.cons (win_elem hr' gS42 hlt42 rfl (by rw [hm42]; exact (dlCons (dNd rfl ⟨_, rfl⟩) (dlCons (dNd rfl ⟨_, rfl⟩) (dlCons (dNd rfl ⟨_, rfl, ho42_2⟩) (dlCons (dNd rfl ⟨_, rfl, ho42_3⟩) (dlCons (dNd rfl ⟨_, rfl, ho42_4⟩) (dlCons (dNd rfl ⟨_, rfl, ho42_5⟩) dlNil)))))))) .nil))
        · exact sepOk_ro rfl
        · exact (.cons (rule_iaS (k := i12) (dNd rfl (slOne hS')) eS42 (dNd rfl ⟨_, rfl⟩) hlt42 rfl) (.cons (rule_call (args := [.agg [.int .i64 v25_0, .int .i64 v25_1, .flt .f32 v25_2, .flt .f32 v25_3, .flt .f32 v25_4, .flt .f32 v25_5], .agg [.int .i64 v42_0, .int .i64 v42_1, .flt .f32 v42_2, .flt .f32 v42_3, .flt .f32 v42_4, .flt .f32 v42_5]]) (dlCons (dAgg (dlCons (dNd rfl ⟨_, rfl⟩) (dlCons (dNd rfl ⟨_, rfl⟩) (dlCons (dNd rfl ⟨_, rfl, ho25_2⟩) (dlCons (dNd rfl ⟨_, rfl, ho25_3⟩) (dlCons (dNd rfl ⟨_, rfl, ho25_4⟩) (dlCons (dNd rfl ⟨_, rfl, ho25_5⟩) dlNil))))))) (dlCons (dAgg (dlCons (dNd rfl ⟨_, rfl⟩) (dlCons (dNd rfl ⟨_, rfl⟩) (dlCons (dNd rfl ⟨_, rfl, ho42_2⟩) (dlCons (dNd rfl ⟨_, rfl, ho42_3⟩) (dlCons (dNd rfl ⟨_, rfl, ho42_4⟩) (dlCons (dNd rfl ⟨_, rfl, ho42_5⟩) dlNil))))))) dlNil)) (dNd rfl ⟨_, rfl⟩) (fun H9 hk => k_sameLinkFn v25_0 v25_1 v25_2 v25_3 v25_4 v25_5 v42_0 v42_1 v42_2 v42_3 v42_4 v42_5 ho25_2 ho25_3 ho25_4 ho25_5 ho42_2 ho42_3 ho42_4 ho42_5 H9)) .nil))
      · exact (envEq b31 (dNd rfl (slOne hS')) (envEq b32 (dNd rfl ⟨_, rfl⟩) (envEq b33 (dFn' dlNil dlNil) (envEq e28 (dPtr (l := p27) (o := 0) rfl) (envEq b34 (dNd rfl ⟨_, rfl⟩) (envEq b35 (dNd rfl ⟨_, rfl⟩) (envEq b36 (dNd rfl (slOne hS)) (envEq b37 (dNd rfl (slOne hS')) envNil))))))))
      refine all2 (by kernel_rfl) ?_ ?_
      ·
        intro vs ls H44 E44 st hE
        have f45 : (sameK [.int .i64 v25_0, .int .i64 v25_1, .flt .f32 v25_2, .flt .f32 v25_3, .flt .f32 v25_4, .flt .f32 v25_5] [.int .i64 v42_0, .int .i64 v42_1, .flt .f32 v42_2, .flt .f32 v42_3, .flt .f32 v42_4, .flt .f32 v42_5]) = false := bfact st.inn 0 (by kernel_rfl)
        refine res_ret (by kernel_rfl) (end_flat st.inn hE (.inr rfl) (a := .bool false) (by kernel_rfl) (Grew.trans g39 (st.kept.grew (Nat.le_of_ble_eq_true (by kernel_rfl)))) rfl ⟨?_, rfl⟩)
        rw [sameL, allB_at hlt25 (by show sameK _ _ = false; rw [he25, he42]; exact f45), Bool.and_false]
      ·
        intro vs ls H46 E46 st hE
        have f47 : (sameK [.int .i64 v25_0, .int .i64 v25_1, .flt .f32 v25_2, .flt .f32 v25_3, .flt .f32 v25_4, .flt .f32 v25_5] [.int .i64 v42_0, .int .i64 v42_1, .flt .f32 v42_2, .flt .f32 v42_3, .flt .f32 v42_4, .flt .f32 v42_5]) = true := bfact st.inn 0 (by kernel_rfl)
        have hlti12 : i12 < ms.length := by omega
        refine res_next (sl := [(16, .int .i64 (ms.length : Int)), (15, S), (1, S'), (2, .func 64 [] [])]) (ti := 17) (i := i12) (Inv := fun i => ∀ j, j < i → sameK (ms.getD j []) (ms'.getD j []) = true) (by kernel_rfl) st.inn hE hlti12 (by kernel_rfl) (w := (IntKind.wrap .i64 ((i12 : Int) + 1))) (by kernel_rfl) (wrap64 (by omega)) (Grew.trans g40 (st.kept.grew (Nat.le_of_ble_eq_true (by kernel_rfl)))) ?_
        exact upTo hIi12 (by rw [he25, he42]; exact f47)
    ·
      intro vs ls H48 E48 st hE
      have f49 : ¬ ((i12 : Int) < (ms.length : Int)) := of_decide_eq_false (bfact (x := decide ((i12 : Int) < (ms.length : Int))) st.inn 0 (by kernel_rfl))
      have b50 : E48 17 = .int .i64 (i12 : Int) := env_of st.inn hE 17 (by kernel_rfl)
      have b51 : E48 16 = .int .i64 (ms.length : Int) := env_of st.inn hE 16 (by kernel_rfl)
      obtain ⟨w52, hw52⟩ : ∃ z, z = (decide ((i12 : Int) < (ms.length : Int))) := ⟨_, rfl⟩
      have b53 : E48 18 = .bool w52 := by rw [hw52]; exact env_of st.inn hE 18 (by kernel_rfl)
      have b54 : E48 15 = S := env_of st.inn hE 15 (by kernel_rfl)
      have b55 : E48 1 = S' := env_of st.inn hE 1 (by kernel_rfl)
      have b56 : E48 2 = .func 64 [] [] := env_of st.inn hE 2 (by kernel_rfl)
      have g57 : Grew Hi12 H48 := (st.kept.grew (Nat.le_of_ble_eq_true (by kernel_rfl)))
      have g58 : Grew H H48 := Grew.trans g13 g57
      have g59 : Grew H3 H48 := Grew.trans hgi12 g57
      clear st hE vs ls
      refine res_exit (id := 0) (by kernel_rfl) ?_
      refine run_mn (φ := φ0) (pm := pmR 0 [] 0) 20 (nk := [(.atom 0, .one), (.atom 1, .one), (.atom 2, .int .i64), (.atom 3, .int .i64), (.atom 4, .int .i64), (.atom 5, .bool)]) (fs := []) (xs := [S, S', .int .i64 (ms.length : Int), .int .i64 (ms'.length : Int), .int .i64 (i12 : Int), .bool w52]) (ws := []) (env := [(17, .nd 4 (.int .i64)), (16, .nd 2 (.int .i64)), (18, .nd 5 .bool), (15, .nd 0 .one), (1, .nd 1 .one), (2, .fn 64 [] [])]) ?_ ?_ tb_ok ap_ok ?_
      · refine midN_in ?_ .nil _ ?_ ?_ ?_
        · exact (.cons rfl (slOne hS) (.cons rfl (slOne hS') (.cons rfl ⟨_, rfl⟩ (.cons rfl ⟨_, rfl⟩ (.cons rfl ⟨_, rfl⟩ (.cons rfl ⟨_, rfl⟩ .nil))))))
        · exact .nil
        · exact sepOk_ro rfl
        · exact .nil
      · exact (envEq b50 (dNd rfl ⟨_, rfl⟩) (envEq b51 (dNd rfl ⟨_, rfl⟩) (envEq b53 (dNd rfl ⟨_, rfl⟩) (envEq b54 (dNd rfl (slOne hS)) (envEq b55 (dNd rfl (slOne hS')) (envEq b56 (dFn' dlNil dlNil) envNil))))))
      refine all1 (by kernel_rfl) ?_
      intro vs ls H60 E60 st hE
      refine res_ex (by kernel_rfl) (end_flat st.inn hE (.inr rfl) (a := .bool true) (by kernel_rfl) (Grew.trans g58 (st.kept.grew (Nat.le_of_ble_eq_true (by kernel_rfl)))) rfl ⟨?_, rfl⟩)
      rw [sameL, decide_eq_true (by omega), allB_true (fun j hj => hIi12 j (by omega))]; rfl
end Go.Proofs.Ytllgmcgdkhnilaa
