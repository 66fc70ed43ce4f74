/- Contracts: poses that are reached by steps, by both. -/
import Derived.Test.YtcmoeocemmeofaaTResD
import Derived.Test.YtcmoeocemmeofaaTGraphW
set_option linter.unusedVariables false
set_option linter.unusedSimpArgs false
namespace Go.Proofs.Ytcmoeocemmeofaa
open Go.Ab
set_option maxRecDepth 100000
set_option maxHeartbeats 1000000
attribute [local irreducible] Res
theorem allB_succ (p : Nat → Bool) (n : Nat) : allB p (n + 1) = (allB p n && p n) := by
  unfold allB; rw [List.range_succ, List.all_append]; simp
noncomputable def reckAt (st : List AV) (ms : List (List AV)) : Nat → List AV
  | 0 => st
  | i + 1 => compF (reckAt st ms i) (ms.getD i [])
noncomputable def reckTo (st : List AV) (ms : List (List AV)) (k : Nat) : List (List AV) := (List.range k).map (reckAt st ms)
theorem reckTo_succ (st : List AV) (ms : List (List AV)) (k : Nat) : reckTo st ms (k + 1) = reckTo st ms k ++ [reckAt st ms k] := by
  unfold reckTo; rw [List.range_succ, List.map_append]; rfl
theorem reckTo_len (st : List AV) (ms : List (List AV)) (k : Nat) : (reckTo st ms k).length = k := by simp [reckTo]
theorem reckTo_at (st : List AV) (ms : List (List AV)) {i k : Nat} (h : i < k) : (reckTo st ms k).getD i [] = reckAt st ms i := by
  simp [reckTo, List.getD_eq_getElem?_getD, h]
theorem reckAt_ok {st : List AV} (h : KdsL KP st) (ms : List (List AV)) : ∀ i, KdsL KP (reckAt st ms i)
  | 0 => h
  | i + 1 => compF_ok _ _
theorem reckTo_recs {st : List AV} (h : KdsL KP st) (ms : List (List AV)) (k : Nat) : Recs KP (reckTo st ms k) := by
  intro m hm
  obtain ⟨i, _, rfl⟩ := List.mem_map.1 hm
  exact reckAt_ok h ms i
noncomputable def reckF (st : List AV) (ms : List (List AV)) : List (List AV) × Int :=
  if (finP st && allB (fun i => finP (ms.getD i [])) ms.length) = true then (if ms.length < 60 then (if allB (fun i => finP (reckAt st ms (i + 1))) ms.length = true then (reckTo st ms (ms.length + 1), 0) else ([], 4)) else ([], 3)) else ([], 2)
theorem reckF_recs {st : List AV} (h : KdsL KP st) (ms : List (List AV)) : Recs KP (reckF st ms).1 ∧ (reckF st ms).1.length ≤ 60 := by
  unfold reckF
  split
  · split
    · rename_i h9
      split
      · exact ⟨reckTo_recs h ms _, by show (reckTo st ms _).length ≤ 60; rw [reckTo_len]; omega⟩
      · exact ⟨.nil, by decide⟩
    · exact ⟨.nil, by decide⟩
  · exact ⟨.nil, by decide⟩
theorem k_rfn (v0 v1 v2 : Option Nat) (o0 : fOk .f32 v0) (o1 : fOk .f32 v1) (o2 : fOk .f32 v2) (H : AHeap) : APure Try.prog 59 [.agg [.flt .f32 v0, .flt .f32 v1, .flt .f32 v2]] H (.bool (!finP [.flt .f32 v0, .flt .f32 v1, .flt .f32 v2])) := by
  refine res_start h_impl_ReckonPoses_1 (by simp) ?_
  refine run_mn (φ := φ0) (pm := pmR 0 [(.call 57 [.agg [.nd 0 (.flt .f32), .nd 1 (.flt .f32), .nd 2 (.flt .f32)]], .nd 3 .bool)] 0) 20 (nk := [(.atom 0, .flt .f32), (.atom 1, .flt .f32), (.atom 2, .flt .f32), (.atom 3, .bool)]) (fs := []) (xs := [.flt .f32 v0, .flt .f32 v1, .flt .f32 v2, .bool (finP [.flt .f32 v0, .flt .f32 v1, .flt .f32 v2])]) (ws := []) (env := [(0, .agg [.nd 0 (.flt .f32), .nd 1 (.flt .f32), .nd 2 (.flt .f32)])]) ?_ ?_ tb_ok ap_ok ?_
  · refine midN_in ?_ .nil _ ?_ ?_ ?_
    · exact (.cons rfl ⟨_, rfl, o0⟩ (.cons rfl ⟨_, rfl, o1⟩ (.cons rfl ⟨_, rfl, o2⟩ (.cons rfl ⟨_, rfl⟩ .nil))))
    · exact .nil
    · exact sepOk_ro rfl
    · exact (.cons (rule_call (args := [.agg [.flt .f32 v0, .flt .f32 v1, .flt .f32 v2]]) (dlCons (dAgg (dlCons (dNd rfl ⟨_, rfl, o0⟩) (dlCons (dNd rfl ⟨_, rfl, o1⟩) (dlCons (dNd rfl ⟨_, rfl, o2⟩) dlNil)))) dlNil) (dNd rfl ⟨_, rfl⟩) (fun H9 hk => k_IsFinitePose [.flt .f32 v0, .flt .f32 v1, .flt .f32 v2] (.cons ⟨_, rfl, o0⟩ (.cons ⟨_, rfl, o1⟩ (.cons ⟨_, rfl, o2⟩ .nil))) H9)) .nil)
  · exact (envEq rfl (dAgg (dlCons (dNd rfl ⟨_, rfl, o0⟩) (dlCons (dNd rfl ⟨_, rfl, o1⟩) (dlCons (dNd rfl ⟨_, rfl, o2⟩) dlNil)))) envNil)
  refine all1 (by kernel_rfl) ?_
  intro vs ls H1 E1 st hE
  refine res_ex (by kernel_rfl) (end_flat st.inn hE (.inr rfl) (a := .bool (!(finP [.flt .f32 v0, .flt .f32 v1, .flt .f32 v2]))) (by kernel_rfl) (Grew.trans (Grew.refl _) (st.kept.grew (Nat.le_of_ble_eq_true (by kernel_rfl)))) rfl ⟨?_, rfl⟩)
  rfl
theorem k_IndexR (H : AHeap) (ms : List (List AV)) (hr : Recs KP ms) (S : AV) (hS : SlL H 3 ms S) (hmx : ms.length < 2 ^ 40) : APure Try.prog 90 [S, .func 59 [] []] H (.int .i64 (idxF (fun i => !finP (ms.getD i [])) ms.length)) := by
  refine res_start h_slices_IndexFunc_impl_Pose_impl_Pose (by simp) ?_
  refine run_mn (φ := φ0) (pm := pmR 0 [(.len (.nd 0 .one), .nd 1 (.int .i64))] 0) 20 (nk := [(.atom 0, .one), (.atom 1, .int .i64)]) (fs := []) (xs := [S, .int .i64 (ms.length : Int)]) (ws := []) (env := [(0, .nd 0 .one), (1, .fn 59 [] [])]) ?_ ?_ tb_ok ap_ok ?_
  · refine midN_in ?_ .nil _ ?_ ?_ ?_
    · exact (.cons rfl (slOne hS) (.cons rfl ⟨_, rfl⟩ .nil))
    · exact .nil
    · exact sepOk_ro rfl
    · exact (.cons (⟨_, _, (dNd rfl (slOne hS)), (dNd rfl ⟨_, rfl⟩), slLen hS⟩) .nil)
  · exact (envEq rfl (dNd rfl (slOne hS)) (envEq rfl (dFn' dlNil dlNil) envNil))
  refine all1 (by kernel_rfl) ?_
  intro vs ls H1 E1 st hE
  have b2 : E1 8 = .int .i64 0 := env_of st.inn hE 8 (by kernel_rfl)
  have b3 : E1 7 = .int .i64 (ms.length : Int) := env_of st.inn hE 7 (by kernel_rfl)
  have b4 : E1 1 = .func 59 [] [] := env_of st.inn hE 1 (by kernel_rfl)
  have b5 : E1 0 = S := env_of st.inn hE 0 (by kernel_rfl)
  have g6 : Grew H H1 := (st.kept.grew (Nat.le_of_ble_eq_true (by kernel_rfl)))
  have g7 : Grew H H1 := Grew.trans (Grew.refl _) g6
  clear st hE vs ls
  refine res_scan (by kernel_rfl) [(7, .int .i64 (ms.length : Int)), (1, .func 59 [] []), (0, S)] 8 ms.length (fun i => ∀ j, j < i → (!finP (ms.getD j [])) = false) (.cons b3 (.cons b4 (.cons b5 .nil))) b2 (Grew.refl _) upTo0 ?_
  intro i8 hli8 hIi8 Ei8 Hi8 hsi8 hci8 hgi8
  have g9 : Grew H Hi8 := Grew.trans g7 hgi8
  refine run_mn (φ := φ0) (pm := pmR 0 [] 0) 20 (nk := [(.atom 0, .one), (.atom 1, .int .i64), (.atom 2, .int .i64)]) (fs := []) (xs := [S, .int .i64 (ms.length : Int), .int .i64 (i8 : Int)]) (ws := []) (env := [(7, .nd 1 (.int .i64)), (1, .fn 59 [] []), (0, .nd 0 .one), (8, .nd 2 (.int .i64))]) ?_ ?_ tb_ok ap_ok ?_
  · refine midN_in ?_ .nil _ ?_ ?_ ?_
    · exact (.cons rfl (slOne hS) (.cons rfl ⟨_, rfl⟩ (.cons rfl ⟨_, rfl⟩ .nil)))
    · exact .nil
    · exact sepOk_ro rfl
    · exact .nil
  · exact (envEq (hsi8.at 0 rfl) (dNd rfl ⟨_, rfl⟩) (envEq (hsi8.at 1 rfl) (dFn' dlNil dlNil) (envEq (hsi8.at 2 rfl) (dNd rfl (slOne hS)) (envEq hci8 (dNd rfl ⟨_, rfl⟩) envNil))))
  refine all2 (by kernel_rfl) ?_ ?_
  ·
    intro vs ls H10 E10 st hE
    have f11 : (i8 : Int) < (ms.length : Int) := of_decide_eq_true (bfact (x := decide ((i8 : Int) < (ms.length : Int))) st.inn 0 (by kernel_rfl))
    have b12 : E10 12 = S := env_of st.inn hE 12 (by kernel_rfl)
    have b13 : E10 13 = .int .i64 (i8 : Int) := env_of st.inn hE 13 (by kernel_rfl)
    have b14 : E10 11 = .func 59 [] [] := env_of st.inn hE 11 (by kernel_rfl)
    have b15 : E10 5 = .int .i64 (i8 : Int) := env_of st.inn hE 5 (by kernel_rfl)
    have b16 : E10 8 = .int .i64 (i8 : Int) := env_of st.inn hE 8 (by kernel_rfl)
    have b17 : E10 7 = .int .i64 (ms.length : Int) := env_of st.inn hE 7 (by kernel_rfl)
    have b18 : E10 1 = .func 59 [] [] := env_of st.inn hE 1 (by kernel_rfl)
    have b19 : E10 0 = S := env_of st.inn hE 0 (by kernel_rfl)
    have g20 : Grew Hi8 H10 := (st.kept.grew (Nat.le_of_ble_eq_true (by kernel_rfl)))
    have g21 : Grew H H10 := Grew.trans g9 g20
    have g22 : Grew H1 H10 := Grew.trans hgi8 g20
    clear st hE vs ls
    have hlt23 : i8 < ms.length := by omega
    obtain ⟨lS23, cap23, rest23, wr23, eS23, gB23⟩ := hS.isSl hlt23
    have gS23 := g21.at gB23
    obtain ⟨v23_0, v23_1, v23_2, hm23, ho23_0, ho23_1, ho23_2⟩ := partsPose (hr.get hlt23)
    have he23 : ms.getD i8 [] = [.flt .f32 v23_0, .flt .f32 v23_1, .flt .f32 v23_2] := by rw [← hm23]; simp [List.getD_eq_getElem?_getD, hlt23]
    refine run_mn (φ := φ0) (pm := pmR 1 [(.ia 3 (.nd 0 .one) (.nd 2 (.int .i64)), .ptr 0 0), (.call 59 [.agg [.nd 3 (.flt .f32), .nd 4 (.flt .f32), .nd 5 (.flt .f32)]], .nd 6 .bool)] 0) 20 (nk := [(.atom 0, .one), (.atom 1, .int .i64), (.atom 2, .int .i64), (.atom 3, .flt .f32), (.atom 4, .flt .f32), (.atom 5, .flt .f32), (.atom 6, .bool)]) (fs := []) (xs := [S, .int .i64 (ms.length : Int), .int .i64 (i8 : Int), .flt .f32 v23_0, .flt .f32 v23_1, .flt .f32 v23_2, .bool (!finP [.flt .f32 v23_0, .flt .f32 v23_1, .flt .f32 v23_2])]) (ws := [⟨lS23, (i8 * 3), [.nd 3 (.flt .f32), .nd 4 (.flt .f32), .nd 5 (.flt .f32)], false⟩]) (env := [(12, .nd 0 .one), (13, .nd 2 (.int .i64)), (11, .fn 59 [] []), (5, .nd 2 (.int .i64)), (8, .nd 2 (.int .i64)), (7, .nd 1 (.int .i64)), (1, .fn 59 [] []), (0, .nd 0 .one)]) ?_ ?_ tb_ok ap_ok ?_
    · refine midN_in ?_ .nil _ ?_ ?_ ?_
      · exact (.cons rfl (slOne hS) (.cons rfl ⟨_, rfl⟩ (.cons rfl ⟨_, rfl⟩ (.cons rfl ⟨_, rfl, ho23_0⟩ (.cons rfl ⟨_, rfl, ho23_1⟩ (.cons rfl ⟨_, rfl, ho23_2⟩ (.cons rfl ⟨_, rfl⟩ .nil)))))))
      · exact (.cons (win_elem hr gS23 hlt23 rfl (by rw [hm23]; exact (dlCons (dNd rfl ⟨_, rfl, ho23_0⟩) (dlCons (dNd rfl ⟨_, rfl, ho23_1⟩) (dlCons (dNd rfl ⟨_, rfl, ho23_2⟩) dlNil))))) .nil)
      · exact sepOk_ro rfl
      · exact (.cons (rule_iaS (k := i8) (dNd rfl (slOne hS)) eS23 (dNd rfl ⟨_, rfl⟩) hlt23 rfl) (.cons (rule_call (args := [.agg [.flt .f32 v23_0, .flt .f32 v23_1, .flt .f32 v23_2]]) (dlCons (dAgg (dlCons (dNd rfl ⟨_, rfl, ho23_0⟩) (dlCons (dNd rfl ⟨_, rfl, ho23_1⟩) (dlCons (dNd rfl ⟨_, rfl, ho23_2⟩) dlNil)))) dlNil) (dNd rfl ⟨_, rfl⟩) (fun H9 hk => k_rfn v23_0 v23_1 v23_2 ho23_0 ho23_1 ho23_2 H9)) .nil))
    · exact (envEq b12 (dNd rfl (slOne hS)) (envEq b13 (dNd rfl ⟨_, rfl⟩) (envEq b14 (dFn' dlNil dlNil) (envEq b15 (dNd rfl ⟨_, rfl⟩) (envEq b16 (dNd rfl ⟨_, rfl⟩) (envEq b17 (dNd rfl ⟨_, rfl⟩) (envEq b18 (dFn' dlNil dlNil) (envEq b19 (dNd rfl (slOne hS)) envNil))))))))
    refine all2 (by kernel_rfl) ?_ ?_
    ·
      intro vs ls H24 E24 st hE
      have f25 : (!finP [.flt .f32 v23_0, .flt .f32 v23_1, .flt .f32 v23_2]) = true := bfact st.inn 0 (by kernel_rfl)
      refine res_ret (by kernel_rfl) (end_flat st.inn hE (.inr rfl) (a := .int .i64 (i8 : Int)) (by kernel_rfl) (Grew.trans g21 (st.kept.grew (Nat.le_of_ble_eq_true (by kernel_rfl)))) rfl ⟨?_, rfl⟩)
      rw [idxF_at hlt23 hIi8 (by show (!finP _) = true; rw [he23]; simpa using f25)]
    ·
      intro vs ls H26 E26 st hE
      have f27 : (!finP [.flt .f32 v23_0, .flt .f32 v23_1, .flt .f32 v23_2]) = false := bfact st.inn 0 (by kernel_rfl)
      have hlti8 : i8 < ms.length := by omega
      refine res_next (sl := [(7, .int .i64 (ms.length : Int)), (1, .func 59 [] []), (0, S)]) (ti := 8) (i := i8) (Inv := fun i => ∀ j, j < i → (!finP (ms.getD j [])) = false) (by kernel_rfl) st.inn hE hlti8 (by kernel_rfl) (w := (IntKind.wrap .i64 ((i8 : Int) + 1))) (by kernel_rfl) (wrap64 (by omega)) (Grew.trans g22 (st.kept.grew (Nat.le_of_ble_eq_true (by kernel_rfl)))) ?_
      exact upTo hIi8 (by rw [he23]; simpa using f27)
  ·
    intro vs ls H28 E28 st hE
    have f29 : ¬ ((i8 : Int) < (ms.length : Int)) := of_decide_eq_false (bfact (x := decide ((i8 : Int) < (ms.length : Int))) st.inn 0 (by kernel_rfl))
    have b30 : E28 8 = .int .i64 (i8 : Int) := env_of st.inn hE 8 (by kernel_rfl)
    have b31 : E28 7 = .int .i64 (ms.length : Int) := env_of st.inn hE 7 (by kernel_rfl)
    obtain ⟨w32, hw32⟩ : ∃ z, z = (decide ((i8 : Int) < (ms.length : Int))) := ⟨_, rfl⟩
    have b33 : E28 9 = .bool w32 := by rw [hw32]; exact env_of st.inn hE 9 (by kernel_rfl)
    have b34 : E28 1 = .func 59 [] [] := env_of st.inn hE 1 (by kernel_rfl)
    have b35 : E28 0 = S := env_of st.inn hE 0 (by kernel_rfl)
    have g36 : Grew Hi8 H28 := (st.kept.grew (Nat.le_of_ble_eq_true (by kernel_rfl)))
    have g37 : Grew H H28 := Grew.trans g9 g36
    have g38 : Grew H1 H28 := Grew.trans hgi8 g36
    clear st hE vs ls
    refine res_exit (id := 0) (by kernel_rfl) ?_
    refine run_mn (φ := φ0) (pm := pmR 0 [] 0) 20 (nk := [(.atom 0, .one), (.atom 1, .int .i64), (.atom 2, .int .i64), (.atom 3, .bool)]) (fs := []) (xs := [S, .int .i64 (ms.length : Int), .int .i64 (i8 : Int), .bool w32]) (ws := []) (env := [(8, .nd 2 (.int .i64)), (7, .nd 1 (.int .i64)), (9, .nd 3 .bool), (1, .fn 59 [] []), (0, .nd 0 .one)]) ?_ ?_ tb_ok ap_ok ?_
    · refine midN_in ?_ .nil _ ?_ ?_ ?_
      · exact (.cons rfl (slOne hS) (.cons rfl ⟨_, rfl⟩ (.cons rfl ⟨_, rfl⟩ (.cons rfl ⟨_, rfl⟩ .nil))))
      · exact .nil
      · exact sepOk_ro rfl
      · exact .nil
    · exact (envEq b30 (dNd rfl ⟨_, rfl⟩) (envEq b31 (dNd rfl ⟨_, rfl⟩) (envEq b33 (dNd rfl ⟨_, rfl⟩) (envEq b34 (dFn' dlNil dlNil) (envEq b35 (dNd rfl (slOne hS)) envNil)))))
    refine all1 (by kernel_rfl) ?_
    intro vs ls H39 E39 st hE
    refine res_ex (by kernel_rfl) (end_flat st.inn hE (.inr rfl) (a := .int .i64 (-1)) (by kernel_rfl) (Grew.trans g37 (st.kept.grew (Nat.le_of_ble_eq_true (by kernel_rfl)))) rfl ⟨?_, rfl⟩)
    rw [idxF_none (fun j hj => hIi8 j (by omega))]
theorem k_ContainsR (H : AHeap) (ms : List (List AV)) (hr : Recs KP ms) (S : AV) (hS : SlL H 3 ms S) (hmx : ms.length < 2 ^ 40) : APure Try.prog 58 [S, .func 59 [] []] H (.bool (!allB (fun i => finP (ms.getD i [])) ms.length)) := by
  refine res_start h_slices_ContainsFunc_impl_Pose_impl_Pose (by simp) ?_
  refine run_mn (φ := φ0) (pm := pmR 0 [(.call 90 [.nd 0 .one, .fn 59 [] []], .nd 1 (.int .i64))] 0) 20 (nk := [(.atom 0, .one), (.atom 1, .int .i64)]) (fs := []) (xs := [S, .int .i64 (idxF (fun i => !finP (ms.getD i [])) ms.length)]) (ws := []) (env := [(0, .nd 0 .one), (1, .fn 59 [] [])]) ?_ ?_ tb_ok ap_ok ?_
  · refine midN_in ?_ .nil _ ?_ ?_ ?_
    · exact (.cons rfl (slOne hS) (.cons rfl ⟨_, rfl⟩ .nil))
    · exact .nil
    · exact sepOk_ro rfl
    · exact (.cons (rule_call (args := [S, .func 59 [] []]) (dlCons (dNd rfl (slOne hS)) (dlCons (dFn' dlNil dlNil) dlNil)) (dNd rfl ⟨_, rfl⟩) (fun H9 hk => k_IndexR H9 ms hr S (hS.grew (Grew.trans (Grew.refl _) (hk.grew (Nat.le_refl _)))) hmx)) .nil)
  · exact (envEq rfl (dNd rfl (slOne hS)) (envEq rfl (dFn' dlNil dlNil) envNil))
  refine all1 (by kernel_rfl) ?_
  intro vs ls H1 E1 st hE
  refine res_ex (by kernel_rfl) (end_flat st.inn hE (.inr rfl) (a := .bool (!(decide ((idxF (fun i => !finP (ms.getD i [])) ms.length) < 0)))) (by kernel_rfl) (Grew.trans (Grew.refl _) (st.kept.grew (Nat.le_of_ble_eq_true (by kernel_rfl)))) rfl ⟨?_, rfl⟩)
  rw [idxF_pos]
theorem k_impl_ReckonPoses (H : AHeap) (s0 s1 s2 : Option Nat) (o0 : fOk .f32 s0) (o1 : fOk .f32 s1) (o2 : fOk .f32 s2) (ms : List (List AV)) (hr : Recs KP ms) (S : AV) (hS : SlL H 3 ms S) (hmx : ms.length < 2 ^ 40) : ACalls Try.prog 22 [.agg [.flt .f32 s0, .flt .f32 s1, .flt .f32 s2], S] H fun r H' => Grew H H' ∧ ∃ S', r = .tuple [S', .int .i64 (reckF [.flt .f32 s0, .flt .f32 s1, .flt .f32 s2] ms).2] ∧ SlW H' 3 (reckF [.flt .f32 s0, .flt .f32 s1, .flt .f32 s2] ms).1 S' ∧ FreshS H.next S' := by
  refine res_start h_impl_ReckonPoses (by simp) ?_
  refine run_mn (φ := φ0) (pm := pmR 0 [(.call 57 [.agg [.nd 1 (.flt .f32), .nd 2 (.flt .f32), .nd 3 (.flt .f32)]], .nd 4 .bool), (.call 58 [.nd 0 .one, .fn 59 [] []], .nd 5 .bool), (.len (.nd 0 .one), .nd 6 (.int .i64))] 0) 20 (nk := [(.atom 0, .one), (.atom 1, .flt .f32), (.atom 2, .flt .f32), (.atom 3, .flt .f32), (.atom 4, .bool), (.atom 5, .bool), (.atom 6, .int .i64)]) (fs := []) (xs := [S, .flt .f32 s0, .flt .f32 s1, .flt .f32 s2, .bool (finP [.flt .f32 s0, .flt .f32 s1, .flt .f32 s2]), .bool (!allB (fun i => finP (ms.getD i [])) ms.length), .int .i64 (ms.length : Int)]) (ws := []) (env := [(0, .agg [.nd 1 (.flt .f32), .nd 2 (.flt .f32), .nd 3 (.flt .f32)]), (1, .nd 0 .one)]) ?_ ?_ tb_ok ap_ok ?_
  · refine midN_in ?_ .nil _ ?_ ?_ ?_
    · exact (.cons rfl (slOne hS) (.cons rfl ⟨_, rfl, o0⟩ (.cons rfl ⟨_, rfl, o1⟩ (.cons rfl ⟨_, rfl, o2⟩ (.cons rfl ⟨_, rfl⟩ (.cons rfl ⟨_, rfl⟩ (.cons rfl ⟨_, rfl⟩ .nil)))))))
    · exact .nil
    · exact sepOk_ro rfl
    · exact (.cons (rule_call (args := [.agg [.flt .f32 s0, .flt .f32 s1, .flt .f32 s2]]) (dlCons (dAgg (dlCons (dNd rfl ⟨_, rfl, o0⟩) (dlCons (dNd rfl ⟨_, rfl, o1⟩) (dlCons (dNd rfl ⟨_, rfl, o2⟩) dlNil)))) dlNil) (dNd rfl ⟨_, rfl⟩) (fun H9 hk => k_IsFinitePose [.flt .f32 s0, .flt .f32 s1, .flt .f32 s2] (.cons ⟨_, rfl, o0⟩ (.cons ⟨_, rfl, o1⟩ (.cons ⟨_, rfl, o2⟩ .nil))) H9)) (.cons (rule_call (args := [S, .func 59 [] []]) (dlCons (dNd rfl (slOne hS)) (dlCons (dFn' dlNil dlNil) dlNil)) (dNd rfl ⟨_, rfl⟩) (fun H9 hk => k_ContainsR H9 ms hr S (hS.grew (Grew.trans (Grew.refl _) (hk.grew (Nat.le_refl _)))) hmx)) (.cons (⟨_, _, (dNd rfl (slOne hS)), (dNd rfl ⟨_, rfl⟩), slLen hS⟩) .nil)))
  · exact (envEq rfl (dAgg (dlCons (dNd rfl ⟨_, rfl, o0⟩) (dlCons (dNd rfl ⟨_, rfl, o1⟩) (dlCons (dNd rfl ⟨_, rfl, o2⟩) dlNil)))) (envEq rfl (dNd rfl (slOne hS)) envNil))
  refine all4 (by kernel_rfl) ?_ ?_ ?_ ?_
  ·
    intro vs ls H1 E1 st hE
    have f2 : (finP [.flt .f32 s0, .flt .f32 s1, .flt .f32 s2]) = false := bfact st.inn 0 (by kernel_rfl)
    have gz : Grew H H1 := (Grew.trans (Grew.refl _) (st.kept.grew (Nat.le_of_ble_eq_true (by kernel_rfl))))
    have hc : reckF [.flt .f32 s0, .flt .f32 s1, .flt .f32 s2] ms = ([], 2) := by
      unfold reckF
      skip
      rw [if_neg (by simp [f2])]
    exact res_ex (by kernel_rfl) (end_same st.inn hE (.inr rfl) (a := .tuple [.nilslice, .int .i64 2]) (by kernel_rfl) gz.next (by rw [hc]; exact ⟨gz, _, rfl, (.nil rfl), FreshS.nil⟩))
  ·
    intro vs ls H3 E3 st hE
    have f4 : (!allB (fun i => finP (ms.getD i [])) ms.length) = true := bfact st.inn 0 (by kernel_rfl)
    have f5 : (finP [.flt .f32 s0, .flt .f32 s1, .flt .f32 s2]) = true := bfact st.inn 1 (by kernel_rfl)
    have gz : Grew H H3 := (Grew.trans (Grew.refl _) (st.kept.grew (Nat.le_of_ble_eq_true (by kernel_rfl))))
    have hc : reckF [.flt .f32 s0, .flt .f32 s1, .flt .f32 s2] ms = ([], 2) := by
      unfold reckF
      skip
      rw [if_neg (by rw [show allB (fun i => finP (ms.getD i [])) ms.length = false from by simpa using f4, Bool.and_false]; simp)]
    exact res_ex (by kernel_rfl) (end_same st.inn hE (.inr rfl) (a := .tuple [.nilslice, .int .i64 2]) (by kernel_rfl) gz.next (by rw [hc]; exact ⟨gz, _, rfl, (.nil rfl), FreshS.nil⟩))
  ·
    intro vs ls H6 E6 st hE
    have f7 : ¬ ((ms.length : Int) < 60) := of_decide_eq_false (bfact (x := decide ((ms.length : Int) < 60)) st.inn 0 (by kernel_rfl))
    have f8 : (!allB (fun i => finP (ms.getD i [])) ms.length) = false := bfact st.inn 1 (by kernel_rfl)
    have f9 : (finP [.flt .f32 s0, .flt .f32 s1, .flt .f32 s2]) = true := bfact st.inn 2 (by kernel_rfl)
    have gz : Grew H H6 := (Grew.trans (Grew.refl _) (st.kept.grew (Nat.le_of_ble_eq_true (by kernel_rfl))))
    have hc : reckF [.flt .f32 s0, .flt .f32 s1, .flt .f32 s2] ms = ([], 3) := by
      unfold reckF
      skip
      rw [if_pos (by rw [f9, show allB (fun i => finP (ms.getD i [])) ms.length = true from by simpa using f8]; rfl), if_neg (by omega)]
    exact res_ex (by kernel_rfl) (end_same st.inn hE (.inr rfl) (a := .tuple [.nilslice, .int .i64 3]) (by kernel_rfl) gz.next (by rw [hc]; exact ⟨gz, _, rfl, (.nil rfl), FreshS.nil⟩))
  ·
    intro vs ls H10 E10 st hE
    have f11 : (ms.length : Int) < 60 := of_decide_eq_true (bfact (x := decide ((ms.length : Int) < 60)) st.inn 0 (by kernel_rfl))
    have f12 : (!allB (fun i => finP (ms.getD i [])) ms.length) = false := bfact st.inn 1 (by kernel_rfl)
    have f13 : (finP [.flt .f32 s0, .flt .f32 s1, .flt .f32 s2]) = true := bfact st.inn 2 (by kernel_rfl)
    obtain ⟨p14, e15, r16, n17⟩ := sl_of st.inn hE 6 1 1 1 3 (by kernel_rfl) (ds := [.flt .f32 s0, .flt .f32 s1, .flt .f32 s2]) (by kernel_rfl)
    have op14 : H.next ≤ p14 := Nat.le_trans (Nat.le_refl _) (n17 (Nat.le_of_ble_eq_true rfl))
    have b18 : E10 26 = .int .i64 0 := env_of st.inn hE 26 (by kernel_rfl)
    have b19 : E10 25 = .int .i64 (ms.length : Int) := env_of st.inn hE 25 (by kernel_rfl)
    have b20 : E10 24 = S := env_of st.inn hE 24 (by kernel_rfl)
    have g21 : Grew H H10 := (st.kept.grew (Nat.le_of_ble_eq_true (by kernel_rfl)))
    have g22 : Grew H H10 := Grew.trans (Grew.refl _) g21
    clear st hE vs ls
    refine res_loop (by kernel_rfl) (fun z E H' => ∃ (i : Nat) (acc23_0 : AV), z + i = ms.length ∧ E 25 = .int .i64 (ms.length : Int) ∧ E 24 = S ∧ E 26 = .int .i64 (i : Int) ∧ E 6 = acc23_0 ∧ Grew H H' ∧ SlF H' 3 (reckTo [.flt .f32 s0, .flt .f32 s1, .flt .f32 s2] ms (i + 1)) acc23_0 ∧ FreshS H.next acc23_0 ∧ allB (fun j => finP (reckAt [.flt .f32 s0, .flt .f32 s1, .flt .f32 s2] ms (j + 1))) i = true) (ms.length) ⟨0, .slice p14 0 1 1 3, by omega, b19, b20, b18, e15, g22, (.sl (by simpa [reckTo, reckAt] using r16) rfl (Nat.le_refl _)), (FreshS.of_le op14), rfl⟩ ?_
    rintro z23 Ei23 Hi23 ⟨i23, acc23_0, hz23, c23_25, c23_24, ci23, ca23_0, gt23, s23_0, f23_0, iv23⟩
    have hln23_0 : ((reckTo [.flt .f32 s0, .flt .f32 s1, .flt .f32 s2] ms (i23 + 1))).length = i23 + 1 := reckTo_len _ _ _
    refine run_mn (φ := φ0) (pm := pmR 0 [] 0) 20 (nk := [(.atom 0, .one), (.atom 1, .flt .f32), (.atom 2, .flt .f32), (.atom 3, .flt .f32), (.atom 4, .bool), (.atom 5, .bool), (.atom 6, .int .i64), (.atom 7, .int .i64), (.atom 8, .one)]) (fs := []) (xs := [S, .flt .f32 s0, .flt .f32 s1, .flt .f32 s2, .bool (finP [.flt .f32 s0, .flt .f32 s1, .flt .f32 s2]), .bool (!allB (fun i => finP (ms.getD i [])) ms.length), .int .i64 (ms.length : Int), .int .i64 (i23 : Int), acc23_0]) (ws := []) (env := [(25, .nd 6 (.int .i64)), (24, .nd 0 .one), (26, .nd 7 (.int .i64)), (6, .nd 8 .one)]) ?_ ?_ tb_ok ap_ok ?_
    · refine midN_in ?_ .nil _ ?_ ?_ ?_
      · exact (.cons rfl (slOne hS) (.cons rfl ⟨_, rfl, o0⟩ (.cons rfl ⟨_, rfl, o1⟩ (.cons rfl ⟨_, rfl, o2⟩ (.cons rfl ⟨_, rfl⟩ (.cons rfl ⟨_, rfl⟩ (.cons rfl ⟨_, rfl⟩ (.cons rfl ⟨_, rfl⟩ (.cons rfl s23_0.one .nil)))))))))
      · exact .nil
      · exact sepOk_ro rfl
      · exact .nil
    · exact (envEq c23_25 (dNd rfl ⟨_, rfl⟩) (envEq c23_24 (dNd rfl (slOne hS)) (envEq ci23 (dNd rfl ⟨_, rfl⟩) (envEq ca23_0 (dNd rfl s23_0.one) envNil))))
    refine all2 (by kernel_rfl) ?_ ?_
    ·
      intro vs ls H24 E24 st hE
      have f25 : (i23 : Int) < (ms.length : Int) := of_decide_eq_true (bfact (x := decide ((i23 : Int) < (ms.length : Int))) st.inn 0 (by kernel_rfl))
      have b26 : E24 24 = S := env_of st.inn hE 24 (by kernel_rfl)
      have b27 : E24 26 = .int .i64 (i23 : Int) := env_of st.inn hE 26 (by kernel_rfl)
      have b28 : E24 28 = .int .i64 (i23 : Int) := env_of st.inn hE 28 (by kernel_rfl)
      have b29 : E24 6 = acc23_0 := env_of st.inn hE 6 (by kernel_rfl)
      have b30 : E24 25 = .int .i64 (ms.length : Int) := env_of st.inn hE 25 (by kernel_rfl)
      have g31 : Grew Hi23 H24 := (st.kept.grew (Nat.le_of_ble_eq_true (by kernel_rfl)))
      have g32 : Grew H H24 := Grew.trans gt23 g31
      have s33 := s23_0.grew g31
      clear st hE vs ls
      have hlt34 : i23 < ms.length := by omega
      obtain ⟨lS34, cap34, rest34, wr34, eS34, gB34⟩ := hS.isSl hlt34
      have gS34 := g32.at gB34
      obtain ⟨v34_0, v34_1, v34_2, hm34, ho34_0, ho34_1, ho34_2⟩ := partsPose (hr.get hlt34)
      have he34 : ms.getD i23 [] = [.flt .f32 v34_0, .flt .f32 v34_1, .flt .f32 v34_2] := by rw [← hm34]; simp [List.getD_eq_getElem?_getD, hlt34]
      refine run_mn (φ := φ0) (pm := pmR 1 [(.ia 3 (.nd 0 .one) (.nd 7 (.int .i64)), .ptr 0 0)] 0) 20 (nk := [(.atom 0, .one), (.atom 1, .flt .f32), (.atom 2, .flt .f32), (.atom 3, .flt .f32), (.atom 4, .bool), (.atom 5, .bool), (.atom 6, .int .i64), (.atom 7, .int .i64), (.atom 8, .one), (.atom 9, .flt .f32), (.atom 10, .flt .f32), (.atom 11, .flt .f32)]) (fs := []) (xs := [S, .flt .f32 s0, .flt .f32 s1, .flt .f32 s2, .bool (finP [.flt .f32 s0, .flt .f32 s1, .flt .f32 s2]), .bool (!allB (fun i => finP (ms.getD i [])) ms.length), .int .i64 (ms.length : Int), .int .i64 (i23 : Int), acc23_0, .flt .f32 v34_0, .flt .f32 v34_1, .flt .f32 v34_2]) (ws := [⟨lS34, (i23 * 3), [.nd 9 (.flt .f32), .nd 10 (.flt .f32), .nd 11 (.flt .f32)], false⟩]) (env := [(24, .nd 0 .one), (26, .nd 7 (.int .i64)), (28, .nd 7 (.int .i64)), (6, .nd 8 .one), (25, .nd 6 (.int .i64))]) ?_ ?_ tb_ok ap_ok ?_
      · refine midN_in ?_ .nil _ ?_ ?_ ?_
        · exact (.cons rfl (slOne hS) (.cons rfl ⟨_, rfl, o0⟩ (.cons rfl ⟨_, rfl, o1⟩ (.cons rfl ⟨_, rfl, o2⟩ (.cons rfl ⟨_, rfl⟩ (.cons rfl ⟨_, rfl⟩ (.cons rfl ⟨_, rfl⟩ (.cons rfl ⟨_, rfl⟩ (.cons rfl s23_0.one (.cons rfl ⟨_, rfl, ho34_0⟩ (.cons rfl ⟨_, rfl, ho34_1⟩ (.cons rfl ⟨_, rfl, ho34_2⟩ .nil))))))))))))
        · exact (.cons (win_elem hr gS34 hlt34 rfl (by rw [hm34]; exact (dlCons (dNd rfl ⟨_, rfl, ho34_0⟩) (dlCons (dNd rfl ⟨_, rfl, ho34_1⟩) (dlCons (dNd rfl ⟨_, rfl, ho34_2⟩) dlNil))))) .nil)
        · exact sepOk_ro rfl
        · exact (.cons (rule_iaS (k := i23) (dNd rfl (slOne hS)) eS34 (dNd rfl ⟨_, rfl⟩) hlt34 rfl) .nil)
      · exact (envEq b26 (dNd rfl (slOne hS)) (envEq b27 (dNd rfl ⟨_, rfl⟩) (envEq b28 (dNd rfl ⟨_, rfl⟩) (envEq b29 (dNd rfl s23_0.one) (envEq b30 (dNd rfl ⟨_, rfl⟩) envNil)))))
      refine all1 (by kernel_rfl) ?_
      intro vs ls H35 E35 st hE
      obtain ⟨p36, e37, r38, n39⟩ := ptr_of st.inn hE 8 1 (by kernel_rfl) (ds := [.flt .f32 v34_0, .flt .f32 v34_1, .flt .f32 v34_2]) (by kernel_rfl)
      have op36 : H.next ≤ p36 := Nat.le_trans g32.next (n39 (Nat.le_of_ble_eq_true rfl))
      have ne40 : ApartL (acc23_0) p36 := s33.apart_new (n39 (Nat.le_of_ble_eq_true rfl))
      have b41 : E35 31 = acc23_0 := env_of st.inn hE 31 (by kernel_rfl)
      have b42 : E35 32 = .int .i64 (i23 : Int) := env_of st.inn hE 32 (by kernel_rfl)
      have b43 : E35 6 = acc23_0 := env_of st.inn hE 6 (by kernel_rfl)
      have b44 : E35 26 = .int .i64 (i23 : Int) := env_of st.inn hE 26 (by kernel_rfl)
      have b45 : E35 25 = .int .i64 (ms.length : Int) := env_of st.inn hE 25 (by kernel_rfl)
      have b46 : E35 24 = S := env_of st.inn hE 24 (by kernel_rfl)
      have g47 : Grew H24 H35 := (st.kept.grew (Nat.le_of_ble_eq_true (by kernel_rfl)))
      have g48 : Grew H H35 := Grew.trans g32 g47
      have s50 := s33.grew g47
      clear st hE vs ls
      have hlt51 : i23 < (reckTo [.flt .f32 s0, .flt .f32 s1, .flt .f32 s2] ms (i23 + 1)).length := by omega
      obtain ⟨lS51, cap51, rest51, wr51, eS51, gS51⟩ := (s50.toL).isSl hlt51
      obtain ⟨v51_0, v51_1, v51_2, hm51, ho51_0, ho51_1, ho51_2⟩ := partsPose ((reckTo_recs (.cons ⟨_, rfl, o0⟩ (.cons ⟨_, rfl, o1⟩ (.cons ⟨_, rfl, o2⟩ .nil))) ms (i23 + 1)).get hlt51)
      have he51 : (reckTo [.flt .f32 s0, .flt .f32 s1, .flt .f32 s2] ms (i23 + 1)).getD i23 [] = [.flt .f32 v51_0, .flt .f32 v51_1, .flt .f32 v51_2] := by rw [← hm51]; simp [List.getD_eq_getElem?_getD, hlt51]
      obtain ⟨r52_0, r52_1, r52_2, hmr52, or52_0, or52_1, or52_2⟩ := partsPose (compF_ok [.flt .f32 v51_0, .flt .f32 v51_1, .flt .f32 v51_2] [.flt .f32 v34_0, .flt .f32 v34_1, .flt .f32 v34_2])
      refine run_mn (φ := φ0) (pm := pmR 2 [(.ia 3 (.nd 8 .one) (.nd 7 (.int .i64)), .ptr 1 0), (.call 60 [.agg [.nd 12 (.flt .f32), .nd 13 (.flt .f32), .nd 14 (.flt .f32)], .agg [.nd 9 (.flt .f32), .nd 10 (.flt .f32), .nd 11 (.flt .f32)]], .agg [.nd 15 (.flt .f32), .nd 16 (.flt .f32), .nd 17 (.flt .f32)]), (.call 57 [.agg [.nd 15 (.flt .f32), .nd 16 (.flt .f32), .nd 17 (.flt .f32)]], .nd 18 .bool)] 0) 20 (nk := [(.atom 0, .one), (.atom 1, .flt .f32), (.atom 2, .flt .f32), (.atom 3, .flt .f32), (.atom 4, .bool), (.atom 5, .bool), (.atom 6, .int .i64), (.atom 7, .int .i64), (.atom 8, .one), (.atom 9, .flt .f32), (.atom 10, .flt .f32), (.atom 11, .flt .f32), (.atom 12, .flt .f32), (.atom 13, .flt .f32), (.atom 14, .flt .f32), (.atom 15, .flt .f32), (.atom 16, .flt .f32), (.atom 17, .flt .f32), (.atom 18, .bool)]) (fs := []) (xs := [S, .flt .f32 s0, .flt .f32 s1, .flt .f32 s2, .bool (finP [.flt .f32 s0, .flt .f32 s1, .flt .f32 s2]), .bool (!allB (fun i => finP (ms.getD i [])) ms.length), .int .i64 (ms.length : Int), .int .i64 (i23 : Int), acc23_0, .flt .f32 v34_0, .flt .f32 v34_1, .flt .f32 v34_2, .flt .f32 v51_0, .flt .f32 v51_1, .flt .f32 v51_2, .flt .f32 r52_0, .flt .f32 r52_1, .flt .f32 r52_2, .bool (finP [.flt .f32 r52_0, .flt .f32 r52_1, .flt .f32 r52_2])]) (ws := [⟨p36, 0, [.nd 9 (.flt .f32), .nd 10 (.flt .f32), .nd 11 (.flt .f32)], false⟩, ⟨lS51, (i23 * 3), [.nd 12 (.flt .f32), .nd 13 (.flt .f32), .nd 14 (.flt .f32)], false⟩]) (env := [(31, .nd 8 .one), (32, .nd 7 (.int .i64)), (8, .ptr 0 0), (6, .nd 8 .one), (26, .nd 7 (.int .i64)), (25, .nd 6 (.int .i64)), (24, .nd 0 .one)]) ?_ ?_ tb_ok ap_ok ?_
      · refine midN_in ?_ .nil _ ?_ ?_ ?_
        · exact (.cons rfl (slOne hS) (.cons rfl ⟨_, rfl, o0⟩ (.cons rfl ⟨_, rfl, o1⟩ (.cons rfl ⟨_, rfl, o2⟩ (.cons rfl ⟨_, rfl⟩ (.cons rfl ⟨_, rfl⟩ (.cons rfl ⟨_, rfl⟩ (.cons rfl ⟨_, rfl⟩ (.cons rfl s23_0.one (.cons rfl ⟨_, rfl, ho34_0⟩ (.cons rfl ⟨_, rfl, ho34_1⟩ (.cons rfl ⟨_, rfl, ho34_2⟩ (.cons rfl ⟨_, rfl, ho51_0⟩ (.cons rfl ⟨_, rfl, ho51_1⟩ (.cons rfl ⟨_, rfl, ho51_2⟩ (.cons rfl ⟨_, rfl, or52_0⟩ (.cons rfl ⟨_, rfl, or52_1⟩ (.cons rfl ⟨_, rfl, or52_2⟩ (.cons rfl ⟨_, rfl⟩ .nil)))))))))))))))))))
        · exact (.cons (win_row r38 (dlCons (dNd rfl ⟨_, rfl, ho34_0⟩) (dlCons (dNd rfl ⟨_, rfl, ho34_1⟩) (dlCons (dNd rfl ⟨_, rfl, ho34_2⟩) dlNil)))) (.cons (win_elem (reckTo_recs (.cons ⟨_, rfl, o0⟩ (.cons ⟨_, rfl, o1⟩ (.cons ⟨_, rfl, o2⟩ .nil))) ms (i23 + 1)) gS51 hlt51 rfl (by rw [hm51]; exact (dlCons (dNd rfl ⟨_, rfl, ho51_0⟩) (dlCons (dNd rfl ⟨_, rfl, ho51_1⟩) (dlCons (dNd rfl ⟨_, rfl, ho51_2⟩) dlNil))))) .nil))
        · exact sepOk_ro rfl
        · exact (.cons (rule_iaS (k := i23) (dNd rfl s23_0.one) eS51 (dNd rfl ⟨_, rfl⟩) hlt51 rfl) (.cons (rule_call (args := [.agg [.flt .f32 v51_0, .flt .f32 v51_1, .flt .f32 v51_2], .agg [.flt .f32 v34_0, .flt .f32 v34_1, .flt .f32 v34_2]]) (dlCons (dAgg (dlCons (dNd rfl ⟨_, rfl, ho51_0⟩) (dlCons (dNd rfl ⟨_, rfl, ho51_1⟩) (dlCons (dNd rfl ⟨_, rfl, ho51_2⟩) dlNil)))) (dlCons (dAgg (dlCons (dNd rfl ⟨_, rfl, ho34_0⟩) (dlCons (dNd rfl ⟨_, rfl, ho34_1⟩) (dlCons (dNd rfl ⟨_, rfl, ho34_2⟩) dlNil)))) dlNil)) (dAgg (dlCons (dNd rfl ⟨_, rfl, or52_0⟩) (dlCons (dNd rfl ⟨_, rfl, or52_1⟩) (dlCons (dNd rfl ⟨_, rfl, or52_2⟩) dlNil)))) (fun H9 hk => (by rw [← hmr52]; exact k_ComposePoses [.flt .f32 v51_0, .flt .f32 v51_1, .flt .f32 v51_2] [.flt .f32 v34_0, .flt .f32 v34_1, .flt .f32 v34_2] (.cons ⟨_, rfl, ho51_0⟩ (.cons ⟨_, rfl, ho51_1⟩ (.cons ⟨_, rfl, ho51_2⟩ .nil))) (.cons ⟨_, rfl, ho34_0⟩ (.cons ⟨_, rfl, ho34_1⟩ (.cons ⟨_, rfl, ho34_2⟩ .nil))) H9))) (.cons (rule_call (args := [.agg [.flt .f32 r52_0, .flt .f32 r52_1, .flt .f32 r52_2]]) (dlCons (dAgg (dlCons (dNd rfl ⟨_, rfl, or52_0⟩) (dlCons (dNd rfl ⟨_, rfl, or52_1⟩) (dlCons (dNd rfl ⟨_, rfl, or52_2⟩) dlNil)))) dlNil) (dNd rfl ⟨_, rfl⟩) (fun H9 hk => k_IsFinitePose [.flt .f32 r52_0, .flt .f32 r52_1, .flt .f32 r52_2] (.cons ⟨_, rfl, or52_0⟩ (.cons ⟨_, rfl, or52_1⟩ (.cons ⟨_, rfl, or52_2⟩ .nil))) H9)) .nil)))
      · exact (envEq b41 (dNd rfl s23_0.one) (envEq b42 (dNd rfl ⟨_, rfl⟩) (envEq e37 (dPtr (l := p36) (o := 0) rfl) (envEq b43 (dNd rfl s23_0.one) (envEq b44 (dNd rfl ⟨_, rfl⟩) (envEq b45 (dNd rfl ⟨_, rfl⟩) (envEq b46 (dNd rfl (slOne hS)) envNil)))))))
      refine all2 (by kernel_rfl) ?_ ?_
      ·
        intro vs ls H53 E53 st hE
        have f54 : (finP [.flt .f32 r52_0, .flt .f32 r52_1, .flt .f32 r52_2]) = false := bfact st.inn 0 (by kernel_rfl)
        have gz : Grew H H53 := (Grew.trans g48 (st.kept.grew (Nat.le_of_ble_eq_true (by kernel_rfl))))
        have hc : reckF [.flt .f32 s0, .flt .f32 s1, .flt .f32 s2] ms = ([], 4) := by
          unfold reckF
          skip
          rw [if_pos (by rw [f13, show allB (fun i => finP (ms.getD i [])) ms.length = true from by simpa using f12]; rfl), if_pos (by omega), if_neg]
          rw [allB_at hlt34 (by show finP (reckAt _ _ (_ + 1)) = false; rw [show reckAt [.flt .f32 s0, .flt .f32 s1, .flt .f32 s2] ms (i23 + 1) = compF (reckAt [.flt .f32 s0, .flt .f32 s1, .flt .f32 s2] ms i23) (ms.getD i23 []) from rfl, ← reckTo_at [.flt .f32 s0, .flt .f32 s1, .flt .f32 s2] ms (show i23 < i23 + 1 by omega), he51, he34, hmr52]; exact f54)]; decide
        exact res_ret (by kernel_rfl) (end_same st.inn hE (.inr rfl) (a := .tuple [.nilslice, .int .i64 4]) (by kernel_rfl) gz.next (by rw [hc]; exact ⟨gz, _, rfl, (.nil rfl), FreshS.nil⟩))
      ·
        intro vs ls H55 E55 st hE
        have f56 : (finP [.flt .f32 r52_0, .flt .f32 r52_1, .flt .f32 r52_2]) = true := bfact st.inn 0 (by kernel_rfl)
        obtain ⟨p57, e58, r59, n60⟩ := sl_of st.inn hE 42 3 1 1 3 (by kernel_rfl) (ds := [.flt .f32 r52_0, .flt .f32 r52_1, .flt .f32 r52_2]) (by kernel_rfl)
        have op57 : H.next ≤ p57 := Nat.le_trans g48.next (n60 (Nat.le_of_ble_eq_true rfl))
        have ne61 : Apart p57 p36 := ⟨Nat.ne_of_gt (Nat.lt_of_lt_of_le (H35.lt_of_get r38) (n60 (Nat.le_of_ble_eq_true rfl)))⟩
        have ne62 : ApartL (acc23_0) p57 := s50.apart_new (n60 (Nat.le_of_ble_eq_true rfl))
        have b63 : E55 40 = acc23_0 := env_of st.inn hE 40 (by kernel_rfl)
        have b64 : E55 26 = .int .i64 (i23 : Int) := env_of st.inn hE 26 (by kernel_rfl)
        have b65 : E55 25 = .int .i64 (ms.length : Int) := env_of st.inn hE 25 (by kernel_rfl)
        have b66 : E55 24 = S := env_of st.inn hE 24 (by kernel_rfl)
        have b67 : E55 6 = acc23_0 := env_of st.inn hE 6 (by kernel_rfl)
        have g68 : Grew H35 H55 := (st.kept.grew (Nat.le_of_ble_eq_true (by kernel_rfl)))
        have g69 : Grew H H55 := Grew.trans g48 g68
        have r70 := g68.at r38
        have s72 := s50.grew g68
        clear st hE vs ls
        refine res_append (d := (some 43)) (sz := 3) (bytes := 12) (x := .tmp 40) (y := .tmp 42) (by kernel_rfl) (S := acc23_0) (ms := (reckTo [.flt .f32 s0, .flt .f32 s1, .flt .f32 s2] ms (i23 + 1))) (ys := [[.flt .f32 r52_0, .flt .f32 r52_1, .flt .f32 r52_2]]) (by show E55 40 = _; exact b63) s72 (reckTo_recs (.cons ⟨_, rfl, o0⟩ (.cons ⟨_, rfl, o1⟩ (.cons ⟨_, rfl, o2⟩ .nil))) ms (i23 + 1)).len (by show srcCells _ _ (E55 42) = _; rw [e58]; exact src_one r59 rfl) (recs_one (ks := KP) (Recs.one (ks := KP) (.cons ⟨_, rfl, or52_0⟩ (.cons ⟨_, rfl, or52_1⟩ (.cons ⟨_, rfl, or52_2⟩ .nil)))) rfl) (by show (2 * ((reckTo [.flt .f32 s0, .flt .f32 s1, .flt .f32 s2] ms (i23 + 1)).length + 1) + 192) * 12 ≤ 281474976710656; omega) ?_
        intro S73 H74 sS73 fS73 oS73
        have ne75 : ApartL (S73) p57 := fS73.apartL (H55.lt_of_get r59) (by assumption)
        have fr76 : FreshS H.next (S73) := fS73.fresh f23_0 g69.next
        have g77 : Grew H H74 := OnlyS.own g69 f23_0 oS73
        have r78 := oS73.at r59 (by assumption)
        refine run_mn (φ := φ0) (pm := pmR 1 [] 0) 20 (nk := [(.atom 0, .one), (.atom 1, .flt .f32), (.atom 2, .flt .f32), (.atom 3, .flt .f32), (.atom 4, .bool), (.atom 5, .bool), (.atom 6, .int .i64), (.atom 7, .int .i64), (.atom 8, .one), (.atom 9, .flt .f32), (.atom 10, .flt .f32), (.atom 11, .flt .f32), (.atom 12, .flt .f32), (.atom 13, .flt .f32), (.atom 14, .flt .f32), (.atom 15, .flt .f32), (.atom 16, .flt .f32), (.atom 17, .flt .f32), (.atom 18, .bool), (.atom 19, .one)]) (fs := []) (xs := [S, .flt .f32 s0, .flt .f32 s1, .flt .f32 s2, .bool (finP [.flt .f32 s0, .flt .f32 s1, .flt .f32 s2]), .bool (!allB (fun i => finP (ms.getD i [])) ms.length), .int .i64 (ms.length : Int), .int .i64 (i23 : Int), acc23_0, .flt .f32 v34_0, .flt .f32 v34_1, .flt .f32 v34_2, .flt .f32 v51_0, .flt .f32 v51_1, .flt .f32 v51_2, .flt .f32 r52_0, .flt .f32 r52_1, .flt .f32 r52_2, .bool (finP [.flt .f32 r52_0, .flt .f32 r52_1, .flt .f32 r52_2]), S73]) (ws := [⟨p57, 0, [.nd 15 (.flt .f32), .nd 16 (.flt .f32), .nd 17 (.flt .f32)], false⟩]) (env := [(40, .nd 8 .one), (42, .sl 0 0 1 1 3), (26, .nd 7 (.int .i64)), (25, .nd 6 (.int .i64)), (24, .nd 0 .one), (6, .nd 8 .one), (43, .nd 19 .one)]) ?_ ?_ tb_ok ap_ok ?_
        · refine midN_in ?_ .nil _ ?_ ?_ ?_
          · exact (.cons rfl (slOne hS) (.cons rfl ⟨_, rfl, o0⟩ (.cons rfl ⟨_, rfl, o1⟩ (.cons rfl ⟨_, rfl, o2⟩ (.cons rfl ⟨_, rfl⟩ (.cons rfl ⟨_, rfl⟩ (.cons rfl ⟨_, rfl⟩ (.cons rfl ⟨_, rfl⟩ (.cons rfl s23_0.one (.cons rfl ⟨_, rfl, ho34_0⟩ (.cons rfl ⟨_, rfl, ho34_1⟩ (.cons rfl ⟨_, rfl, ho34_2⟩ (.cons rfl ⟨_, rfl, ho51_0⟩ (.cons rfl ⟨_, rfl, ho51_1⟩ (.cons rfl ⟨_, rfl, ho51_2⟩ (.cons rfl ⟨_, rfl, or52_0⟩ (.cons rfl ⟨_, rfl, or52_1⟩ (.cons rfl ⟨_, rfl, or52_2⟩ (.cons rfl ⟨_, rfl⟩ (.cons rfl sS73.one .nil))))))))))))))))))))
          · exact (.cons (win_row r78 (dlCons (dNd rfl ⟨_, rfl, or52_0⟩) (dlCons (dNd rfl ⟨_, rfl, or52_1⟩) (dlCons (dNd rfl ⟨_, rfl, or52_2⟩) dlNil)))) .nil)
          · exact sepOk_ro rfl
          · exact .nil
        · exact (envEq (put_ne rfl b63) (dNd rfl s23_0.one) (envEq (put_ne rfl e58) (dSl' (l := p57) (o := 0) rfl) (envEq (put_ne rfl b64) (dNd rfl ⟨_, rfl⟩) (envEq (put_ne rfl b65) (dNd rfl ⟨_, rfl⟩) (envEq (put_ne rfl b66) (dNd rfl (slOne hS)) (envEq (put_ne rfl b67) (dNd rfl s23_0.one) (envEq put_same (dNd rfl sS73.one) envNil)))))))
        refine all1 (by kernel_rfl) ?_
        intro vs ls H79 E79 st hE
        obtain ⟨w80, hw80⟩ : ∃ z, z = (IntKind.wrap .i64 ((i23 : Int) + 1)) := ⟨_, rfl⟩
        have b81 : E79 26 = .int .i64 w80 := by rw [hw80]; exact env_of st.inn hE 26 (by kernel_rfl)
        have b82 : E79 25 = .int .i64 (ms.length : Int) := env_of st.inn hE 25 (by kernel_rfl)
        have b83 : E79 24 = S := env_of st.inn hE 24 (by kernel_rfl)
        have b84 : E79 6 = S73 := env_of st.inn hE 6 (by kernel_rfl)
        have g85 : Grew H74 H79 := (st.kept.grew (Nat.le_of_ble_eq_true (by kernel_rfl)))
        have g86 : Grew H H79 := Grew.trans g77 g85
        have r87 := g85.at r78
        have s88 := sS73.grew g85
        clear st hE vs ls
        have hz9 : z23 - 1 < z23 := by omega
        have hy9 : z23 - 1 + (i23 + 1) = ms.length := by omega
        have hi9 : E79 26 = .int .i64 ((i23 + 1 : Nat) : Int) := by rw [b81, hw80, wrap64 (by omega)]
        have hs9 : reckTo [.flt .f32 s0, .flt .f32 s1, .flt .f32 s2] ms (i23 + 1 + 1) = ((reckTo [.flt .f32 s0, .flt .f32 s1, .flt .f32 s2] ms (i23 + 1)) ++ [[.flt .f32 r52_0, .flt .f32 r52_1, .flt .f32 r52_2]]) := by
          rw [reckTo_succ, show reckAt [.flt .f32 s0, .flt .f32 s1, .flt .f32 s2] ms (i23 + 1) = compF (reckAt [.flt .f32 s0, .flt .f32 s1, .flt .f32 s2] ms i23) (ms.getD i23 []) from rfl, ← reckTo_at [.flt .f32 s0, .flt .f32 s1, .flt .f32 s2] ms (show i23 < i23 + 1 by omega), he51, he34, hmr52]
        have hiv9 : allB (fun j => finP (reckAt [.flt .f32 s0, .flt .f32 s1, .flt .f32 s2] ms (j + 1))) (i23 + 1) = true := by
          rw [allB_succ, iv23, Bool.true_and, show reckAt [.flt .f32 s0, .flt .f32 s1, .flt .f32 s2] ms (i23 + 1) = compF (reckAt [.flt .f32 s0, .flt .f32 s1, .flt .f32 s2] ms i23) (ms.getD i23 []) from rfl, ← reckTo_at [.flt .f32 s0, .flt .f32 s1, .flt .f32 s2] ms (show i23 < i23 + 1 by omega), he51, he34, hmr52]; exact f56
        exact res_norm (by kernel_rfl) ⟨z23 - 1, hz9, i23 + 1, S73, hy9, b82, b83, hi9, b84, g86, (by rw [hs9]; exact s88), fr76, hiv9⟩
    ·
      intro vs ls H89 E89 st hE
      have f90 : ¬ ((i23 : Int) < (ms.length : Int)) := of_decide_eq_false (bfact (x := decide ((i23 : Int) < (ms.length : Int))) st.inn 0 (by kernel_rfl))
      have b91 : E89 26 = .int .i64 (i23 : Int) := env_of st.inn hE 26 (by kernel_rfl)
      have b92 : E89 25 = .int .i64 (ms.length : Int) := env_of st.inn hE 25 (by kernel_rfl)
      obtain ⟨w93, hw93⟩ : ∃ z, z = (decide ((i23 : Int) < (ms.length : Int))) := ⟨_, rfl⟩
      have b94 : E89 27 = .bool w93 := by rw [hw93]; exact env_of st.inn hE 27 (by kernel_rfl)
      have b95 : E89 24 = S := env_of st.inn hE 24 (by kernel_rfl)
      have b96 : E89 6 = acc23_0 := env_of st.inn hE 6 (by kernel_rfl)
      have g97 : Grew Hi23 H89 := (st.kept.grew (Nat.le_of_ble_eq_true (by kernel_rfl)))
      have g98 : Grew H H89 := Grew.trans gt23 g97
      have s99 := s23_0.grew g97
      clear st hE vs ls
      refine res_exit (id := 1) (by kernel_rfl) ?_
      refine run_mn (φ := φ0) (pm := pmR 0 [] 0) 20 (nk := [(.atom 0, .one), (.atom 1, .flt .f32), (.atom 2, .flt .f32), (.atom 3, .flt .f32), (.atom 4, .bool), (.atom 5, .bool), (.atom 6, .int .i64), (.atom 7, .int .i64), (.atom 8, .one), (.atom 9, .bool)]) (fs := []) (xs := [S, .flt .f32 s0, .flt .f32 s1, .flt .f32 s2, .bool (finP [.flt .f32 s0, .flt .f32 s1, .flt .f32 s2]), .bool (!allB (fun i => finP (ms.getD i [])) ms.length), .int .i64 (ms.length : Int), .int .i64 (i23 : Int), acc23_0, .bool w93]) (ws := []) (env := [(26, .nd 7 (.int .i64)), (25, .nd 6 (.int .i64)), (27, .nd 9 .bool), (24, .nd 0 .one), (6, .nd 8 .one)]) ?_ ?_ tb_ok ap_ok ?_
      · refine midN_in ?_ .nil _ ?_ ?_ ?_
        · exact (.cons rfl (slOne hS) (.cons rfl ⟨_, rfl, o0⟩ (.cons rfl ⟨_, rfl, o1⟩ (.cons rfl ⟨_, rfl, o2⟩ (.cons rfl ⟨_, rfl⟩ (.cons rfl ⟨_, rfl⟩ (.cons rfl ⟨_, rfl⟩ (.cons rfl ⟨_, rfl⟩ (.cons rfl s23_0.one (.cons rfl ⟨_, rfl⟩ .nil))))))))))
        · exact .nil
        · exact sepOk_ro rfl
        · exact .nil
      · exact (envEq b91 (dNd rfl ⟨_, rfl⟩) (envEq b92 (dNd rfl ⟨_, rfl⟩) (envEq b94 (dNd rfl ⟨_, rfl⟩) (envEq b95 (dNd rfl (slOne hS)) (envEq b96 (dNd rfl s23_0.one) envNil)))))
      refine all1 (by kernel_rfl) ?_
      intro vs ls H100 E100 st hE
      have gz : Grew H H100 := (Grew.trans g98 (st.kept.grew (Nat.le_of_ble_eq_true (by kernel_rfl))))
      have hc : reckF [.flt .f32 s0, .flt .f32 s1, .flt .f32 s2] ms = (reckTo [.flt .f32 s0, .flt .f32 s1, .flt .f32 s2] ms (ms.length + 1), 0) := by
        unfold reckF
        skip
        rw [if_pos (by rw [f13, show allB (fun i => finP (ms.getD i [])) ms.length = true from by simpa using f12]; rfl), if_pos (by omega), if_pos (by rw [show ms.length = i23 by omega]; exact iv23)]
      exact res_ex (by kernel_rfl) (end_same st.inn hE (.inr rfl) (a := .tuple [acc23_0, .int .i64 0]) (by kernel_rfl) gz.next (by rw [hc]; exact ⟨gz, _, rfl, (by rw [show ms.length = i23 by omega]; exact ((s99.grew (st.inn.kept.grew (Nat.le_refl _)))).toW), f23_0⟩))
theorem k_l06Reckon (H : AHeap) (s0 s1 s2 : Option Nat) (o0 : fOk .f32 s0) (o1 : fOk .f32 s1) (o2 : fOk .f32 s2) (ms : List (List AV)) (hr : Recs KP ms) (S : AV) (hS : SlL H 3 ms S) (hmx : ms.length < 2 ^ 40) : ACalls Try.prog 56 [.agg [.flt .f32 s0, .flt .f32 s1, .flt .f32 s2], S] H fun r H' => Grew H H' ∧ ∃ S', r = .tuple [S', .int .i64 (reckF [.flt .f32 s0, .flt .f32 s1, .flt .f32 s2] ms).2] ∧ SlW H' 3 (reckF [.flt .f32 s0, .flt .f32 s1, .flt .f32 s2] ms).1 S' ∧ FreshS H.next S' := by
  refine res_start h_spec_l06Reckon (by simp) ?_
  refine run_mn (φ := φ0) (pm := pmR 0 [(.call 87 [.agg [.nd 1 (.flt .f32), .nd 2 (.flt .f32), .nd 3 (.flt .f32)]], .nd 4 .bool)] 0) 20 (nk := [(.atom 0, .one), (.atom 1, .flt .f32), (.atom 2, .flt .f32), (.atom 3, .flt .f32), (.atom 4, .bool)]) (fs := []) (xs := [S, .flt .f32 s0, .flt .f32 s1, .flt .f32 s2, .bool (finP [.flt .f32 s0, .flt .f32 s1, .flt .f32 s2])]) (ws := []) (env := [(0, .agg [.nd 1 (.flt .f32), .nd 2 (.flt .f32), .nd 3 (.flt .f32)]), (1, .nd 0 .one)]) ?_ ?_ tb_ok ap_ok ?_
  · refine midN_in ?_ .nil _ ?_ ?_ ?_
    · exact (.cons rfl (slOne hS) (.cons rfl ⟨_, rfl, o0⟩ (.cons rfl ⟨_, rfl, o1⟩ (.cons rfl ⟨_, rfl, o2⟩ (.cons rfl ⟨_, rfl⟩ .nil)))))
    · exact .nil
    · exact sepOk_ro rfl
    · exact (.cons (rule_call (args := [.agg [.flt .f32 s0, .flt .f32 s1, .flt .f32 s2]]) (dlCons (dAgg (dlCons (dNd rfl ⟨_, rfl, o0⟩) (dlCons (dNd rfl ⟨_, rfl, o1⟩) (dlCons (dNd rfl ⟨_, rfl, o2⟩) dlNil)))) dlNil) (dNd rfl ⟨_, rfl⟩) (fun H9 hk => k_l06Finite [.flt .f32 s0, .flt .f32 s1, .flt .f32 s2] (.cons ⟨_, rfl, o0⟩ (.cons ⟨_, rfl, o1⟩ (.cons ⟨_, rfl, o2⟩ .nil))) H9)) .nil)
  · exact (envEq rfl (dAgg (dlCons (dNd rfl ⟨_, rfl, o0⟩) (dlCons (dNd rfl ⟨_, rfl, o1⟩) (dlCons (dNd rfl ⟨_, rfl, o2⟩) dlNil)))) (envEq rfl (dNd rfl (slOne hS)) envNil))
  refine all1 (by kernel_rfl) ?_
  intro vs ls H1 E1 st hE
  obtain ⟨p2, e3, r4, n5⟩ := ptr_of st.inn hE 2 0 (by kernel_rfl) (ds := [.flt .f32 s0, .flt .f32 s1, .flt .f32 s2]) (by kernel_rfl)
  have op2 : H.next ≤ p2 := Nat.le_trans (Nat.le_refl _) (n5 (Nat.le_of_ble_eq_true rfl))
  have b6 : E1 7 = .int .i64 0 := env_of st.inn hE 7 (by kernel_rfl)
  have b7 : E1 1 = S := env_of st.inn hE 1 (by kernel_rfl)
  have b8 : E1 6 = .bool (finP [.flt .f32 s0, .flt .f32 s1, .flt .f32 s2]) := env_of st.inn hE 6 (by kernel_rfl)
  have g9 : Grew H H1 := (st.kept.grew (Nat.le_of_ble_eq_true (by kernel_rfl)))
  have g10 : Grew H H1 := Grew.trans (Grew.refl _) g9
  clear st hE vs ls
  refine res_scanv (by kernel_rfl) (fun i => [(1, S), (6, .bool (finP [.flt .f32 s0, .flt .f32 s1, .flt .f32 s2] && allB (fun j => finP (ms.getD j [])) i)), (2, .ptr p2 0)]) 7 0 ms.length (fun i => True) (Nat.zero_le _) (.cons b7 (.cons (b8.trans (by simp [allB])) (.cons e3 .nil))) b6 (Grew.refl _) trivial ?_
  intro i11 hoi11 hli11 hIi11 Ei11 Hi11 hsi11 hci11 hgi11
  have g12 : Grew H Hi11 := Grew.trans g10 hgi11
  have r13 := hgi11.at r4
  refine run_mn (φ := φ0) (pm := pmR 1 [(.len (.nd 0 .one), .nd 7 (.int .i64))] 0) 20 (nk := [(.atom 0, .one), (.atom 1, .flt .f32), (.atom 2, .flt .f32), (.atom 3, .flt .f32), (.atom 4, .bool), (.atom 5, .bool), (.atom 6, .int .i64), (.atom 7, .int .i64)]) (fs := []) (xs := [S, .flt .f32 s0, .flt .f32 s1, .flt .f32 s2, .bool (finP [.flt .f32 s0, .flt .f32 s1, .flt .f32 s2]), .bool (finP [.flt .f32 s0, .flt .f32 s1, .flt .f32 s2] && allB (fun j => finP (ms.getD j [])) i11), .int .i64 (i11 : Int), .int .i64 (ms.length : Int)]) (ws := [⟨p2, 0, [.nd 1 (.flt .f32), .nd 2 (.flt .f32), .nd 3 (.flt .f32)], false⟩]) (env := [(1, .nd 0 .one), (6, .nd 5 .bool), (2, .ptr 0 0), (7, .nd 6 (.int .i64))]) ?_ ?_ tb_ok ap_ok ?_
  · refine midN_in ?_ .nil _ ?_ ?_ ?_
    · exact (.cons rfl (slOne hS) (.cons rfl ⟨_, rfl, o0⟩ (.cons rfl ⟨_, rfl, o1⟩ (.cons rfl ⟨_, rfl, o2⟩ (.cons rfl ⟨_, rfl⟩ (.cons rfl ⟨_, rfl⟩ (.cons rfl ⟨_, rfl⟩ (.cons rfl ⟨_, rfl⟩ .nil))))))))
    · exact (.cons (win_row r13 (dlCons (dNd rfl ⟨_, rfl, o0⟩) (dlCons (dNd rfl ⟨_, rfl, o1⟩) (dlCons (dNd rfl ⟨_, rfl, o2⟩) dlNil)))) .nil)
    · exact sepOk_ro rfl
    · exact (.cons (⟨_, _, (dNd rfl (slOne hS)), (dNd rfl ⟨_, rfl⟩), slLen hS⟩) .nil)
  · exact (envEq (hsi11.at 0 rfl) (dNd rfl (slOne hS)) (envEq (hsi11.at 1 rfl) (dNd rfl ⟨_, rfl⟩) (envEq (hsi11.at 2 rfl) (dPtr (l := p2) (o := 0) rfl) (envEq hci11 (dNd rfl ⟨_, rfl⟩) envNil))))
  refine all3 (by kernel_rfl) ?_ ?_ ?_
  ·
    intro vs ls H14 E14 st hE
    have f15 : (finP [.flt .f32 s0, .flt .f32 s1, .flt .f32 s2] && allB (fun j => finP (ms.getD j [])) i11) = true := bfact st.inn 0 (by kernel_rfl)
    have f16 : (i11 : Int) < (ms.length : Int) := of_decide_eq_true (bfact (x := decide ((i11 : Int) < (ms.length : Int))) st.inn 1 (by kernel_rfl))
    have b17 : E14 22 = S := env_of st.inn hE 22 (by kernel_rfl)
    have b18 : E14 23 = .int .i64 (i11 : Int) := env_of st.inn hE 23 (by kernel_rfl)
    have b19 : E14 7 = .int .i64 (i11 : Int) := env_of st.inn hE 7 (by kernel_rfl)
    have b20 : E14 1 = S := env_of st.inn hE 1 (by kernel_rfl)
    have b21 : E14 6 = .bool (finP [.flt .f32 s0, .flt .f32 s1, .flt .f32 s2] && allB (fun j => finP (ms.getD j [])) i11) := env_of st.inn hE 6 (by kernel_rfl)
    have b22 : E14 2 = .ptr p2 0 := env_of st.inn hE 2 (by kernel_rfl)
    have g23 : Grew Hi11 H14 := (st.kept.grew (Nat.le_of_ble_eq_true (by kernel_rfl)))
    have g24 : Grew H H14 := Grew.trans g12 g23
    have g25 : Grew H1 H14 := Grew.trans hgi11 g23
    have r26 := g23.at r13
    clear st hE vs ls
    have hlt27 : i11 < ms.length := by omega
    obtain ⟨lS27, cap27, rest27, wr27, eS27, gB27⟩ := hS.isSl hlt27
    have gS27 := g24.at gB27
    have ne28 : Apart p2 lS27 := ⟨Nat.ne_of_gt (Nat.lt_of_lt_of_le (H.lt_of_get gB27) op2)⟩
    obtain ⟨v27_0, v27_1, v27_2, hm27, ho27_0, ho27_1, ho27_2⟩ := partsPose (hr.get hlt27)
    have he27 : ms.getD i11 [] = [.flt .f32 v27_0, .flt .f32 v27_1, .flt .f32 v27_2] := by rw [← hm27]; simp [List.getD_eq_getElem?_getD, hlt27]
    refine run_mn (φ := φ0) (pm := pmR 2 [(.ia 3 (.nd 0 .one) (.nd 6 (.int .i64)), .ptr 1 0), (.call 87 [.agg [.nd 8 (.flt .f32), .nd 9 (.flt .f32), .nd 10 (.flt .f32)]], .nd 11 .bool)] 0) 20 (nk := [(.atom 0, .one), (.atom 1, .flt .f32), (.atom 2, .flt .f32), (.atom 3, .flt .f32), (.atom 4, .bool), (.atom 5, .bool), (.atom 6, .int .i64), (.atom 7, .int .i64), (.atom 8, .flt .f32), (.atom 9, .flt .f32), (.atom 10, .flt .f32), (.atom 11, .bool)]) (fs := []) (xs := [S, .flt .f32 s0, .flt .f32 s1, .flt .f32 s2, .bool (finP [.flt .f32 s0, .flt .f32 s1, .flt .f32 s2]), .bool (finP [.flt .f32 s0, .flt .f32 s1, .flt .f32 s2] && allB (fun j => finP (ms.getD j [])) i11), .int .i64 (i11 : Int), .int .i64 (ms.length : Int), .flt .f32 v27_0, .flt .f32 v27_1, .flt .f32 v27_2, .bool (finP [.flt .f32 v27_0, .flt .f32 v27_1, .flt .f32 v27_2])]) (ws := [⟨p2, 0, [.nd 1 (.flt .f32), .nd 2 (.flt .f32), .nd 3 (.flt .f32)], false⟩, ⟨lS27, (i11 * 3), [.nd 8 (.flt .f32), .nd 9 (.flt .f32), .nd 10 (.flt .f32)], false⟩]) (env := [(22, .nd 0 .one), (23, .nd 6 (.int .i64)), (7, .nd 6 (.int .i64)), (1, .nd 0 .one), (6, .nd 5 .bool), (2, .ptr 0 0)]) ?_ ?_ tb_ok ap_ok ?_
    · refine midN_in ?_ .nil _ ?_ ?_ ?_
      · exact (.cons rfl (slOne hS) (.cons rfl ⟨_, rfl, o0⟩ (.cons rfl ⟨_, rfl, o1⟩ (.cons rfl ⟨_, rfl, o2⟩ (.cons rfl ⟨_, rfl⟩ (.cons rfl ⟨_, rfl⟩ (.cons rfl ⟨_, rfl⟩ (.cons rfl ⟨_, rfl⟩ (.cons rfl ⟨_, rfl, ho27_0⟩ (.cons rfl ⟨_, rfl, ho27_1⟩ (.cons rfl ⟨_, rfl, ho27_2⟩ (.cons rfl ⟨_, rfl⟩ .nil))))))))))))
      · exact (.cons (win_row r26 (dlCons (dNd rfl ⟨_, rfl, o0⟩) (dlCons (dNd rfl ⟨_, rfl, o1⟩) (dlCons (dNd rfl ⟨_, rfl, o2⟩) dlNil)))) (.cons (win_elem hr gS27 hlt27 rfl (by rw [hm27]; exact (dlCons (dNd rfl ⟨_, rfl, ho27_0⟩) (dlCons (dNd rfl ⟨_, rfl, ho27_1⟩) (dlCons (dNd rfl ⟨_, rfl, ho27_2⟩) dlNil))))) .nil))
      · exact sepOk_ro rfl
      · exact (.cons (rule_iaS (k := i11) (dNd rfl (slOne hS)) eS27 (dNd rfl ⟨_, rfl⟩) hlt27 rfl) (.cons (rule_call (args := [.agg [.flt .f32 v27_0, .flt .f32 v27_1, .flt .f32 v27_2]]) (dlCons (dAgg (dlCons (dNd rfl ⟨_, rfl, ho27_0⟩) (dlCons (dNd rfl ⟨_, rfl, ho27_1⟩) (dlCons (dNd rfl ⟨_, rfl, ho27_2⟩) dlNil)))) dlNil) (dNd rfl ⟨_, rfl⟩) (fun H9 hk => k_l06Finite [.flt .f32 v27_0, .flt .f32 v27_1, .flt .f32 v27_2] (.cons ⟨_, rfl, ho27_0⟩ (.cons ⟨_, rfl, ho27_1⟩ (.cons ⟨_, rfl, ho27_2⟩ .nil))) H9)) .nil))
    · exact (envEq b17 (dNd rfl (slOne hS)) (envEq b18 (dNd rfl ⟨_, rfl⟩) (envEq b19 (dNd rfl ⟨_, rfl⟩) (envEq b20 (dNd rfl (slOne hS)) (envEq b21 (dNd rfl ⟨_, rfl⟩) (envEq b22 (dPtr (l := p2) (o := 0) rfl) envNil))))))
    refine all1 (by kernel_rfl) ?_
    intro vs ls H29 E29 st hE
    have hlti11 : i11 < ms.length := by omega
    refine res_nextv (sl := fun i => [(1, S), (6, .bool (finP [.flt .f32 s0, .flt .f32 s1, .flt .f32 s2] && allB (fun j => finP (ms.getD j [])) i)), (2, .ptr p2 0)]) (sl' := [(1, S), (6, .bool (finP [.flt .f32 v27_0, .flt .f32 v27_1, .flt .f32 v27_2])), (2, .ptr p2 0)]) (ti := 7) (i := i11) (Inv := fun i => True) (by kernel_rfl) st.inn hE hlti11 (by kernel_rfl) ?_ (w := (IntKind.wrap .i64 ((i11 : Int) + 1))) (by kernel_rfl) (wrap64 (by omega)) (Grew.trans g25 (st.kept.grew (Nat.le_of_ble_eq_true (by kernel_rfl)))) ?_
    · show _ = [_, _, _]; simp only [allB_succ]; rw [← Bool.and_assoc, f15, Bool.true_and, he27]
    trivial
  ·
    intro vs ls H30 E30 st hE
    have f31 : (finP [.flt .f32 s0, .flt .f32 s1, .flt .f32 s2] && allB (fun j => finP (ms.getD j [])) i11) = false := bfact st.inn 0 (by kernel_rfl)
    have f32 : (i11 : Int) < (ms.length : Int) := of_decide_eq_true (bfact (x := decide ((i11 : Int) < (ms.length : Int))) st.inn 1 (by kernel_rfl))
    have b33 : E30 7 = .int .i64 (i11 : Int) := env_of st.inn hE 7 (by kernel_rfl)
    have b34 : E30 1 = S := env_of st.inn hE 1 (by kernel_rfl)
    have b35 : E30 14 = S := env_of st.inn hE 14 (by kernel_rfl)
    have b36 : E30 13 = .int .i64 (i11 : Int) := env_of st.inn hE 13 (by kernel_rfl)
    have b37 : E30 15 = .int .i64 (ms.length : Int) := env_of st.inn hE 15 (by kernel_rfl)
    obtain ⟨w38, hw38⟩ : ∃ z, z = (decide ((i11 : Int) < (ms.length : Int))) := ⟨_, rfl⟩
    have b39 : E30 16 = .bool w38 := by rw [hw38]; exact env_of st.inn hE 16 (by kernel_rfl)
    have b40 : E30 6 = .bool (finP [.flt .f32 s0, .flt .f32 s1, .flt .f32 s2] && allB (fun j => finP (ms.getD j [])) i11) := env_of st.inn hE 6 (by kernel_rfl)
    have b41 : E30 17 = .bool w38 := by rw [hw38]; exact env_of st.inn hE 17 (by kernel_rfl)
    have b42 : E30 18 = .bool (finP [.flt .f32 s0, .flt .f32 s1, .flt .f32 s2] && allB (fun j => finP (ms.getD j [])) i11) := env_of st.inn hE 18 (by kernel_rfl)
    have b43 : E30 19 = .bool (finP [.flt .f32 s0, .flt .f32 s1, .flt .f32 s2] && allB (fun j => finP (ms.getD j [])) i11) := env_of st.inn hE 19 (by kernel_rfl)
    have b44 : E30 2 = .ptr p2 0 := env_of st.inn hE 2 (by kernel_rfl)
    have g45 : Grew Hi11 H30 := (st.kept.grew (Nat.le_of_ble_eq_true (by kernel_rfl)))
    have g46 : Grew H H30 := Grew.trans g12 g45
    have g47 : Grew H1 H30 := Grew.trans hgi11 g45
    have r48 := g45.at r13
    clear st hE vs ls
    refine res_exit (id := 0) (by kernel_rfl) ?_
    refine run_mn (φ := φ0) (pm := pmR 1 [(.len (.nd 0 .one), .nd 9 (.int .i64))] 0) 20 (nk := [(.atom 0, .one), (.atom 1, .flt .f32), (.atom 2, .flt .f32), (.atom 3, .flt .f32), (.atom 4, .bool), (.atom 5, .bool), (.atom 6, .int .i64), (.atom 7, .int .i64), (.atom 8, .bool), (.atom 9, .int .i64)]) (fs := []) (xs := [S, .flt .f32 s0, .flt .f32 s1, .flt .f32 s2, .bool (finP [.flt .f32 s0, .flt .f32 s1, .flt .f32 s2]), .bool (finP [.flt .f32 s0, .flt .f32 s1, .flt .f32 s2] && allB (fun j => finP (ms.getD j [])) i11), .int .i64 (i11 : Int), .int .i64 (ms.length : Int), .bool w38, .int .i64 (ms.length : Int)]) (ws := [⟨p2, 0, [.nd 1 (.flt .f32), .nd 2 (.flt .f32), .nd 3 (.flt .f32)], false⟩]) (env := [(7, .nd 6 (.int .i64)), (1, .nd 0 .one), (14, .nd 0 .one), (13, .nd 6 (.int .i64)), (15, .nd 7 (.int .i64)), (16, .nd 8 .bool), (6, .nd 5 .bool), (17, .nd 8 .bool), (18, .nd 5 .bool), (19, .nd 5 .bool), (2, .ptr 0 0)]) ?_ ?_ tb_ok ap_ok ?_
    · refine midN_in ?_ .nil _ ?_ ?_ ?_
      · exact (.cons rfl (slOne hS) (.cons rfl ⟨_, rfl, o0⟩ (.cons rfl ⟨_, rfl, o1⟩ (.cons rfl ⟨_, rfl, o2⟩ (.cons rfl ⟨_, rfl⟩ (.cons rfl ⟨_, rfl⟩ (.cons rfl ⟨_, rfl⟩ (.cons rfl ⟨_, rfl⟩ (.cons rfl ⟨_, rfl⟩ (.cons rfl ⟨_, rfl⟩ .nil))))))))))
      · exact (.cons (win_row r48 (dlCons (dNd rfl ⟨_, rfl, o0⟩) (dlCons (dNd rfl ⟨_, rfl, o1⟩) (dlCons (dNd rfl ⟨_, rfl, o2⟩) dlNil)))) .nil)
      · exact sepOk_ro rfl
      · exact (.cons (⟨_, _, (dNd rfl (slOne hS)), (dNd rfl ⟨_, rfl⟩), slLen hS⟩) .nil)
    · exact (envEq b33 (dNd rfl ⟨_, rfl⟩) (envEq b34 (dNd rfl (slOne hS)) (envEq b35 (dNd rfl (slOne hS)) (envEq b36 (dNd rfl ⟨_, rfl⟩) (envEq b37 (dNd rfl ⟨_, rfl⟩) (envEq b39 (dNd rfl ⟨_, rfl⟩) (envEq b40 (dNd rfl ⟨_, rfl⟩) (envEq b41 (dNd rfl ⟨_, rfl⟩) (envEq b42 (dNd rfl ⟨_, rfl⟩) (envEq b43 (dNd rfl ⟨_, rfl⟩) (envEq b44 (dPtr (l := p2) (o := 0) rfl) envNil)))))))))))
    refine all3 (by kernel_rfl) ?_ ?_ ?_
    ·
      intro vs ls H49 E49 st hE
      have f50 : (finP [.flt .f32 s0, .flt .f32 s1, .flt .f32 s2] && allB (fun j => finP (ms.getD j [])) i11) = false := bfact st.inn 0 (by kernel_rfl)
      have gz : Grew H H49 := (Grew.trans g46 (st.kept.grew (Nat.le_of_ble_eq_true (by kernel_rfl))))
      have hc : reckF [.flt .f32 s0, .flt .f32 s1, .flt .f32 s2] ms = ([], 2) := by
        unfold reckF
        skip
        rw [if_neg (by intro h9; rw [Bool.and_eq_true] at h9; have h8 := f50; rw [h9.1, Bool.true_and] at h8; rw [allB_true (fun j hj => allB_get h9.2 j (by omega))] at h8; cases h8)]
      obtain ⟨pz, ez, rz, nz⟩ := sl_of st.inn hE 4 1 0 0 3 (by kernel_rfl) (ds := []) (by kernel_rfl)
      have oz : H.next ≤ pz := Nat.le_trans g46.next (nz (Nat.le_of_ble_eq_true rfl))
      have e7 : E49 5 = .int .i64 2 := env_of st.inn hE 5 (by kernel_rfl)
      exact res_ex (by kernel_rfl) (end_tmps (.inr rfl) ez e7 gz.next (by rw [hc]; exact ⟨gz, _, rfl, .sl (by simpa using rz) rfl (Nat.le_refl _), .of_le oz⟩))
    ·
      intro vs ls H51 E51 st hE
      have f52 : 60 < (IntKind.wrap .i64 ((ms.length : Int) + 1)) := of_decide_eq_true (bfact (x := decide (60 < (IntKind.wrap .i64 ((ms.length : Int) + 1)))) st.inn 0 (by kernel_rfl))
      rw [show (IntKind.wrap .i64 ((ms.length : Int) + 1)) = ((ms.length : Int) + 1) from wrap_i64 (by omega) (by omega)] at f52
      have f53 : (finP [.flt .f32 s0, .flt .f32 s1, .flt .f32 s2] && allB (fun j => finP (ms.getD j [])) i11) = true := bfact st.inn 1 (by kernel_rfl)
      have g54 : Grew H30 H51 := (st.kept.grew (Nat.le_of_ble_eq_true (by kernel_rfl)))
      have g55 : Grew H H51 := Grew.trans g46 g54
      have r56 := g54.at r48
      clear st hE vs ls
      exact absurd (f31.symm.trans f53) (by decide)
    ·
      intro vs ls H57 E57 st hE
      have f58 : ¬ (60 < (IntKind.wrap .i64 ((ms.length : Int) + 1))) := of_decide_eq_false (bfact (x := decide (60 < (IntKind.wrap .i64 ((ms.length : Int) + 1)))) st.inn 0 (by kernel_rfl))
      rw [show (IntKind.wrap .i64 ((ms.length : Int) + 1)) = ((ms.length : Int) + 1) from wrap_i64 (by omega) (by omega)] at f58
      have f59 : (finP [.flt .f32 s0, .flt .f32 s1, .flt .f32 s2] && allB (fun j => finP (ms.getD j [])) i11) = true := bfact st.inn 1 (by kernel_rfl)
      have g60 : Grew H30 H57 := (st.kept.grew (Nat.le_of_ble_eq_true (by kernel_rfl)))
      have g61 : Grew H H57 := Grew.trans g46 g60
      have r62 := g60.at r48
      clear st hE vs ls
      exact absurd (f31.symm.trans f59) (by decide)
  ·
    intro vs ls H63 E63 st hE
    have f64 : ¬ ((i11 : Int) < (ms.length : Int)) := of_decide_eq_false (bfact (x := decide ((i11 : Int) < (ms.length : Int))) st.inn 0 (by kernel_rfl))
    have b65 : E63 7 = .int .i64 (i11 : Int) := env_of st.inn hE 7 (by kernel_rfl)
    have b66 : E63 1 = S := env_of st.inn hE 1 (by kernel_rfl)
    have b67 : E63 14 = S := env_of st.inn hE 14 (by kernel_rfl)
    have b68 : E63 13 = .int .i64 (i11 : Int) := env_of st.inn hE 13 (by kernel_rfl)
    have b69 : E63 15 = .int .i64 (ms.length : Int) := env_of st.inn hE 15 (by kernel_rfl)
    obtain ⟨w70, hw70⟩ : ∃ z, z = (decide ((i11 : Int) < (ms.length : Int))) := ⟨_, rfl⟩
    have b71 : E63 16 = .bool w70 := by rw [hw70]; exact env_of st.inn hE 16 (by kernel_rfl)
    have b72 : E63 6 = .bool (finP [.flt .f32 s0, .flt .f32 s1, .flt .f32 s2] && allB (fun j => finP (ms.getD j [])) i11) := env_of st.inn hE 6 (by kernel_rfl)
    have b73 : E63 17 = .bool w70 := by rw [hw70]; exact env_of st.inn hE 17 (by kernel_rfl)
    have b74 : E63 18 = .undef := env_of st.inn hE 18 (by kernel_rfl)
    have b75 : E63 19 = .bool false := env_of st.inn hE 19 (by kernel_rfl)
    have b76 : E63 2 = .ptr p2 0 := env_of st.inn hE 2 (by kernel_rfl)
    have g77 : Grew Hi11 H63 := (st.kept.grew (Nat.le_of_ble_eq_true (by kernel_rfl)))
    have g78 : Grew H H63 := Grew.trans g12 g77
    have g79 : Grew H1 H63 := Grew.trans hgi11 g77
    have r80 := g77.at r13
    clear st hE vs ls
    refine res_exit (id := 0) (by kernel_rfl) ?_
    refine run_mn (φ := φ0) (pm := pmR 1 [(.len (.nd 0 .one), .nd 9 (.int .i64))] 0) 20 (nk := [(.atom 0, .one), (.atom 1, .flt .f32), (.atom 2, .flt .f32), (.atom 3, .flt .f32), (.atom 4, .bool), (.atom 5, .bool), (.atom 6, .int .i64), (.atom 7, .int .i64), (.atom 8, .bool), (.atom 9, .int .i64)]) (fs := []) (xs := [S, .flt .f32 s0, .flt .f32 s1, .flt .f32 s2, .bool (finP [.flt .f32 s0, .flt .f32 s1, .flt .f32 s2]), .bool (finP [.flt .f32 s0, .flt .f32 s1, .flt .f32 s2] && allB (fun j => finP (ms.getD j [])) i11), .int .i64 (i11 : Int), .int .i64 (ms.length : Int), .bool w70, .int .i64 (ms.length : Int)]) (ws := [⟨p2, 0, [.nd 1 (.flt .f32), .nd 2 (.flt .f32), .nd 3 (.flt .f32)], false⟩]) (env := [(7, .nd 6 (.int .i64)), (1, .nd 0 .one), (14, .nd 0 .one), (13, .nd 6 (.int .i64)), (15, .nd 7 (.int .i64)), (16, .nd 8 .bool), (6, .nd 5 .bool), (17, .nd 8 .bool), (18, .lit .undef), (19, .lit (.bool false)), (2, .ptr 0 0)]) ?_ ?_ tb_ok ap_ok ?_
    · refine midN_in ?_ .nil _ ?_ ?_ ?_
      · exact (.cons rfl (slOne hS) (.cons rfl ⟨_, rfl, o0⟩ (.cons rfl ⟨_, rfl, o1⟩ (.cons rfl ⟨_, rfl, o2⟩ (.cons rfl ⟨_, rfl⟩ (.cons rfl ⟨_, rfl⟩ (.cons rfl ⟨_, rfl⟩ (.cons rfl ⟨_, rfl⟩ (.cons rfl ⟨_, rfl⟩ (.cons rfl ⟨_, rfl⟩ .nil))))))))))
      · exact (.cons (win_row r80 (dlCons (dNd rfl ⟨_, rfl, o0⟩) (dlCons (dNd rfl ⟨_, rfl, o1⟩) (dlCons (dNd rfl ⟨_, rfl, o2⟩) dlNil)))) .nil)
      · exact sepOk_ro rfl
      · exact (.cons (⟨_, _, (dNd rfl (slOne hS)), (dNd rfl ⟨_, rfl⟩), slLen hS⟩) .nil)
    · exact (envEq b65 (dNd rfl ⟨_, rfl⟩) (envEq b66 (dNd rfl (slOne hS)) (envEq b67 (dNd rfl (slOne hS)) (envEq b68 (dNd rfl ⟨_, rfl⟩) (envEq b69 (dNd rfl ⟨_, rfl⟩) (envEq b71 (dNd rfl ⟨_, rfl⟩) (envEq b72 (dNd rfl ⟨_, rfl⟩) (envEq b73 (dNd rfl ⟨_, rfl⟩) (envEq b74 (dLit rfl) (envEq b75 (dLit rfl) (envEq b76 (dPtr (l := p2) (o := 0) rfl) envNil)))))))))))
    refine all3 (by kernel_rfl) ?_ ?_ ?_
    ·
      intro vs ls H81 E81 st hE
      have f82 : (finP [.flt .f32 s0, .flt .f32 s1, .flt .f32 s2] && allB (fun j => finP (ms.getD j [])) i11) = false := bfact st.inn 0 (by kernel_rfl)
      have gz : Grew H H81 := (Grew.trans g78 (st.kept.grew (Nat.le_of_ble_eq_true (by kernel_rfl))))
      have hc : reckF [.flt .f32 s0, .flt .f32 s1, .flt .f32 s2] ms = ([], 2) := by
        unfold reckF
        skip
        rw [if_neg (by intro h9; rw [Bool.and_eq_true] at h9; have h8 := f82; rw [h9.1, Bool.true_and] at h8; rw [allB_true (fun j hj => allB_get h9.2 j (by omega))] at h8; cases h8)]
      obtain ⟨pz, ez, rz, nz⟩ := sl_of st.inn hE 4 1 0 0 3 (by kernel_rfl) (ds := []) (by kernel_rfl)
      have oz : H.next ≤ pz := Nat.le_trans g78.next (nz (Nat.le_of_ble_eq_true rfl))
      have e7 : E81 5 = .int .i64 2 := env_of st.inn hE 5 (by kernel_rfl)
      exact res_ex (by kernel_rfl) (end_tmps (.inr rfl) ez e7 gz.next (by rw [hc]; exact ⟨gz, _, rfl, .sl (by simpa using rz) rfl (Nat.le_refl _), .of_le oz⟩))
    ·
      intro vs ls H83 E83 st hE
      have f84 : 60 < (IntKind.wrap .i64 ((ms.length : Int) + 1)) := of_decide_eq_true (bfact (x := decide (60 < (IntKind.wrap .i64 ((ms.length : Int) + 1)))) st.inn 0 (by kernel_rfl))
      rw [show (IntKind.wrap .i64 ((ms.length : Int) + 1)) = ((ms.length : Int) + 1) from wrap_i64 (by omega) (by omega)] at f84
      have f85 : (finP [.flt .f32 s0, .flt .f32 s1, .flt .f32 s2] && allB (fun j => finP (ms.getD j [])) i11) = true := bfact st.inn 1 (by kernel_rfl)
      have gz : Grew H H83 := (Grew.trans g78 (st.kept.grew (Nat.le_of_ble_eq_true (by kernel_rfl))))
      have hc : reckF [.flt .f32 s0, .flt .f32 s1, .flt .f32 s2] ms = ([], 3) := by
        unfold reckF
        skip
        rw [if_pos (by rw [show ms.length = i11 by omega]; exact f85), if_neg (by omega)]
      obtain ⟨pz, ez, rz, nz⟩ := sl_of st.inn hE 4 1 0 0 3 (by kernel_rfl) (ds := []) (by kernel_rfl)
      have oz : H.next ≤ pz := Nat.le_trans g78.next (nz (Nat.le_of_ble_eq_true rfl))
      have e7 : E83 5 = .int .i64 3 := env_of st.inn hE 5 (by kernel_rfl)
      exact res_ex (by kernel_rfl) (end_tmps (.inr rfl) ez e7 gz.next (by rw [hc]; exact ⟨gz, _, rfl, .sl (by simpa using rz) rfl (Nat.le_refl _), .of_le oz⟩))
    ·
      intro vs ls H86 E86 st hE
      have f87 : ¬ (60 < (IntKind.wrap .i64 ((ms.length : Int) + 1))) := of_decide_eq_false (bfact (x := decide (60 < (IntKind.wrap .i64 ((ms.length : Int) + 1)))) st.inn 0 (by kernel_rfl))
      rw [show (IntKind.wrap .i64 ((ms.length : Int) + 1)) = ((ms.length : Int) + 1) from wrap_i64 (by omega) (by omega)] at f87
      have f88 : (finP [.flt .f32 s0, .flt .f32 s1, .flt .f32 s2] && allB (fun j => finP (ms.getD j [])) i11) = true := bfact st.inn 1 (by kernel_rfl)
      obtain ⟨p89, e90, r91, n92⟩ := sl_of st.inn hE 8 1 1 1 3 (by kernel_rfl) (ds := [.flt .f32 s0, .flt .f32 s1, .flt .f32 s2]) (by kernel_rfl)
      have op89 : H.next ≤ p89 := Nat.le_trans g78.next (n92 (Nat.le_of_ble_eq_true rfl))
      have ne93 : Apart p89 p2 := ⟨Nat.ne_of_gt (Nat.lt_of_lt_of_le (H63.lt_of_get r80) (n92 (Nat.le_of_ble_eq_true rfl)))⟩
      have b94 : E86 9 = .int .i64 0 := env_of st.inn hE 9 (by kernel_rfl)
      have b95 : E86 1 = S := env_of st.inn hE 1 (by kernel_rfl)
      have g96 : Grew H63 H86 := (st.kept.grew (Nat.le_of_ble_eq_true (by kernel_rfl)))
      have g97 : Grew H H86 := Grew.trans g78 g96
      have r98 := g96.at r80
      clear st hE vs ls
      refine res_loop (by kernel_rfl) (fun z E H' => ∃ (i : Nat) (acc99_0 : AV), z + i = ms.length ∧ E 1 = S ∧ E 9 = .int .i64 (i : Int) ∧ E 8 = acc99_0 ∧ Grew H H' ∧ SlF H' 3 (reckTo [.flt .f32 s0, .flt .f32 s1, .flt .f32 s2] ms (i + 1)) acc99_0 ∧ FreshS H.next acc99_0 ∧ allB (fun j => finP (reckAt [.flt .f32 s0, .flt .f32 s1, .flt .f32 s2] ms (j + 1))) i = true) (ms.length) ⟨0, .slice p89 0 1 1 3, by omega, b95, b94, e90, g97, (.sl (by simpa [reckTo, reckAt] using r91) rfl (Nat.le_refl _)), (FreshS.of_le op89), rfl⟩ ?_
      rintro z99 Ei99 Hi99 ⟨i99, acc99_0, hz99, c99_1, ci99, ca99_0, gt99, s99_0, f99_0, iv99⟩
      have hln99_0 : ((reckTo [.flt .f32 s0, .flt .f32 s1, .flt .f32 s2] ms (i99 + 1))).length = i99 + 1 := reckTo_len _ _ _
      refine run_mn (φ := φ0) (pm := pmR 0 [(.len (.nd 0 .one), .nd 12 (.int .i64))] 0) 20 (nk := [(.atom 0, .one), (.atom 1, .flt .f32), (.atom 2, .flt .f32), (.atom 3, .flt .f32), (.atom 4, .bool), (.atom 5, .bool), (.atom 6, .int .i64), (.atom 7, .int .i64), (.atom 8, .bool), (.atom 9, .int .i64), (.atom 10, .int .i64), (.atom 11, .one), (.atom 12, .int .i64)]) (fs := []) (xs := [S, .flt .f32 s0, .flt .f32 s1, .flt .f32 s2, .bool (finP [.flt .f32 s0, .flt .f32 s1, .flt .f32 s2]), .bool (finP [.flt .f32 s0, .flt .f32 s1, .flt .f32 s2] && allB (fun j => finP (ms.getD j [])) i11), .int .i64 (i11 : Int), .int .i64 (ms.length : Int), .bool w70, .int .i64 (ms.length : Int), .int .i64 (i99 : Int), acc99_0, .int .i64 (ms.length : Int)]) (ws := []) (env := [(1, .nd 0 .one), (9, .nd 10 (.int .i64)), (8, .nd 11 .one)]) ?_ ?_ tb_ok ap_ok ?_
      · refine midN_in ?_ .nil _ ?_ ?_ ?_
        · exact (.cons rfl (slOne hS) (.cons rfl ⟨_, rfl, o0⟩ (.cons rfl ⟨_, rfl, o1⟩ (.cons rfl ⟨_, rfl, o2⟩ (.cons rfl ⟨_, rfl⟩ (.cons rfl ⟨_, rfl⟩ (.cons rfl ⟨_, rfl⟩ (.cons rfl ⟨_, rfl⟩ (.cons rfl ⟨_, rfl⟩ (.cons rfl ⟨_, rfl⟩ (.cons rfl ⟨_, rfl⟩ (.cons rfl s99_0.one (.cons rfl ⟨_, rfl⟩ .nil)))))))))))))
        · exact .nil
        · exact sepOk_ro rfl
        · exact (.cons (⟨_, _, (dNd rfl (slOne hS)), (dNd rfl ⟨_, rfl⟩), slLen hS⟩) .nil)
      · exact (envEq c99_1 (dNd rfl (slOne hS)) (envEq ci99 (dNd rfl ⟨_, rfl⟩) (envEq ca99_0 (dNd rfl s99_0.one) envNil)))
      refine all2 (by kernel_rfl) ?_ ?_
      ·
        intro vs ls H100 E100 st hE
        have f101 : (i99 : Int) < (ms.length : Int) := of_decide_eq_true (bfact (x := decide ((i99 : Int) < (ms.length : Int))) st.inn 0 (by kernel_rfl))
        have b102 : E100 43 = acc99_0 := env_of st.inn hE 43 (by kernel_rfl)
        have b103 : E100 44 = .int .i64 (i99 : Int) := env_of st.inn hE 44 (by kernel_rfl)
        have b104 : E100 1 = S := env_of st.inn hE 1 (by kernel_rfl)
        have b105 : E100 9 = .int .i64 (i99 : Int) := env_of st.inn hE 9 (by kernel_rfl)
        have b106 : E100 8 = acc99_0 := env_of st.inn hE 8 (by kernel_rfl)
        have g107 : Grew Hi99 H100 := (st.kept.grew (Nat.le_of_ble_eq_true (by kernel_rfl)))
        have g108 : Grew H H100 := Grew.trans gt99 g107
        have s109 := s99_0.grew g107
        clear st hE vs ls
        have hlt110 : i99 < (reckTo [.flt .f32 s0, .flt .f32 s1, .flt .f32 s2] ms (i99 + 1)).length := by omega
        obtain ⟨lS110, cap110, rest110, wr110, eS110, gS110⟩ := (s109.toL).isSl hlt110
        obtain ⟨v110_0, v110_1, v110_2, hm110, ho110_0, ho110_1, ho110_2⟩ := partsPose ((reckTo_recs (.cons ⟨_, rfl, o0⟩ (.cons ⟨_, rfl, o1⟩ (.cons ⟨_, rfl, o2⟩ .nil))) ms (i99 + 1)).get hlt110)
        have he110 : (reckTo [.flt .f32 s0, .flt .f32 s1, .flt .f32 s2] ms (i99 + 1)).getD i99 [] = [.flt .f32 v110_0, .flt .f32 v110_1, .flt .f32 v110_2] := by rw [← hm110]; simp [List.getD_eq_getElem?_getD, hlt110]
        refine run_mn (φ := φ0) (pm := pmR 1 [(.ia 3 (.nd 11 .one) (.nd 10 (.int .i64)), .ptr 0 0)] 0) 20 (nk := [(.atom 0, .one), (.atom 1, .flt .f32), (.atom 2, .flt .f32), (.atom 3, .flt .f32), (.atom 4, .bool), (.atom 5, .bool), (.atom 6, .int .i64), (.atom 7, .int .i64), (.atom 8, .bool), (.atom 9, .int .i64), (.atom 10, .int .i64), (.atom 11, .one), (.atom 12, .int .i64), (.atom 13, .flt .f32), (.atom 14, .flt .f32), (.atom 15, .flt .f32)]) (fs := []) (xs := [S, .flt .f32 s0, .flt .f32 s1, .flt .f32 s2, .bool (finP [.flt .f32 s0, .flt .f32 s1, .flt .f32 s2]), .bool (finP [.flt .f32 s0, .flt .f32 s1, .flt .f32 s2] && allB (fun j => finP (ms.getD j [])) i11), .int .i64 (i11 : Int), .int .i64 (ms.length : Int), .bool w70, .int .i64 (ms.length : Int), .int .i64 (i99 : Int), acc99_0, .int .i64 (ms.length : Int), .flt .f32 v110_0, .flt .f32 v110_1, .flt .f32 v110_2]) (ws := [⟨lS110, (i99 * 3), [.nd 13 (.flt .f32), .nd 14 (.flt .f32), .nd 15 (.flt .f32)], false⟩]) (env := [(43, .nd 11 .one), (44, .nd 10 (.int .i64)), (1, .nd 0 .one), (9, .nd 10 (.int .i64)), (8, .nd 11 .one)]) ?_ ?_ tb_ok ap_ok ?_
        · refine midN_in ?_ .nil _ ?_ ?_ ?_
          · exact (.cons rfl (slOne hS) (.cons rfl ⟨_, rfl, o0⟩ (.cons rfl ⟨_, rfl, o1⟩ (.cons rfl ⟨_, rfl, o2⟩ (.cons rfl ⟨_, rfl⟩ (.cons rfl ⟨_, rfl⟩ (.cons rfl ⟨_, rfl⟩ (.cons rfl ⟨_, rfl⟩ (.cons rfl ⟨_, rfl⟩ (.cons rfl ⟨_, rfl⟩ (.cons rfl ⟨_, rfl⟩ (.cons rfl s99_0.one (.cons rfl ⟨_, rfl⟩ (.cons rfl ⟨_, rfl, ho110_0⟩ (.cons rfl ⟨_, rfl, ho110_1⟩ (.cons rfl ⟨_, rfl, ho110_2⟩ .nil))))))))))))))))
          · exact (.cons (win_elem (reckTo_recs (.cons ⟨_, rfl, o0⟩ (.cons ⟨_, rfl, o1⟩ (.cons ⟨_, rfl, o2⟩ .nil))) ms (i99 + 1)) gS110 hlt110 rfl (by rw [hm110]; exact (dlCons (dNd rfl ⟨_, rfl, ho110_0⟩) (dlCons (dNd rfl ⟨_, rfl, ho110_1⟩) (dlCons (dNd rfl ⟨_, rfl, ho110_2⟩) dlNil))))) .nil)
          · exact sepOk_ro rfl
          · exact (.cons (rule_iaS (k := i99) (dNd rfl s99_0.one) eS110 (dNd rfl ⟨_, rfl⟩) hlt110 rfl) .nil)
        · exact (envEq b102 (dNd rfl s99_0.one) (envEq b103 (dNd rfl ⟨_, rfl⟩) (envEq b104 (dNd rfl (slOne hS)) (envEq b105 (dNd rfl ⟨_, rfl⟩) (envEq b106 (dNd rfl s99_0.one) envNil)))))
        refine all1 (by kernel_rfl) ?_
        intro vs ls H111 E111 st hE
        have b112 : E111 47 = S := env_of st.inn hE 47 (by kernel_rfl)
        have b113 : E111 48 = .int .i64 (i99 : Int) := env_of st.inn hE 48 (by kernel_rfl)
        have b114 : E111 46 = .agg [.flt .f32 v110_0, .flt .f32 v110_1, .flt .f32 v110_2] := env_of st.inn hE 46 (by kernel_rfl)
        have b115 : E111 8 = acc99_0 := env_of st.inn hE 8 (by kernel_rfl)
        have b116 : E111 9 = .int .i64 (i99 : Int) := env_of st.inn hE 9 (by kernel_rfl)
        have b117 : E111 1 = S := env_of st.inn hE 1 (by kernel_rfl)
        have g118 : Grew H100 H111 := (st.kept.grew (Nat.le_of_ble_eq_true (by kernel_rfl)))
        have g119 : Grew H H111 := Grew.trans g108 g118
        have s121 := s109.grew g118
        clear st hE vs ls
        have hlt122 : i99 < ms.length := by omega
        obtain ⟨lS122, cap122, rest122, wr122, eS122, gB122⟩ := hS.isSl hlt122
        have gS122 := g119.at gB122
        obtain ⟨v122_0, v122_1, v122_2, hm122, ho122_0, ho122_1, ho122_2⟩ := partsPose (hr.get hlt122)
        have he122 : ms.getD i99 [] = [.flt .f32 v122_0, .flt .f32 v122_1, .flt .f32 v122_2] := by rw [← hm122]; simp [List.getD_eq_getElem?_getD, hlt122]
        obtain ⟨r123_0, r123_1, r123_2, hmr123, or123_0, or123_1, or123_2⟩ := partsPose (compF_ok [.flt .f32 v110_0, .flt .f32 v110_1, .flt .f32 v110_2] [.flt .f32 v122_0, .flt .f32 v122_1, .flt .f32 v122_2])
        refine run_mn (φ := φ0) (pm := pmR 1 [(.ia 3 (.nd 0 .one) (.nd 10 (.int .i64)), .ptr 0 0), (.call 88 [.agg [.nd 13 (.flt .f32), .nd 14 (.flt .f32), .nd 15 (.flt .f32)], .agg [.nd 16 (.flt .f32), .nd 17 (.flt .f32), .nd 18 (.flt .f32)]], .agg [.nd 19 (.flt .f32), .nd 20 (.flt .f32), .nd 21 (.flt .f32)]), (.call 87 [.agg [.nd 19 (.flt .f32), .nd 20 (.flt .f32), .nd 21 (.flt .f32)]], .nd 22 .bool)] 0) 20 (nk := [(.atom 0, .one), (.atom 1, .flt .f32), (.atom 2, .flt .f32), (.atom 3, .flt .f32), (.atom 4, .bool), (.atom 5, .bool), (.atom 6, .int .i64), (.atom 7, .int .i64), (.atom 8, .bool), (.atom 9, .int .i64), (.atom 10, .int .i64), (.atom 11, .one), (.atom 12, .int .i64), (.atom 13, .flt .f32), (.atom 14, .flt .f32), (.atom 15, .flt .f32), (.atom 16, .flt .f32), (.atom 17, .flt .f32), (.atom 18, .flt .f32), (.atom 19, .flt .f32), (.atom 20, .flt .f32), (.atom 21, .flt .f32), (.atom 22, .bool)]) (fs := []) (xs := [S, .flt .f32 s0, .flt .f32 s1, .flt .f32 s2, .bool (finP [.flt .f32 s0, .flt .f32 s1, .flt .f32 s2]), .bool (finP [.flt .f32 s0, .flt .f32 s1, .flt .f32 s2] && allB (fun j => finP (ms.getD j [])) i11), .int .i64 (i11 : Int), .int .i64 (ms.length : Int), .bool w70, .int .i64 (ms.length : Int), .int .i64 (i99 : Int), acc99_0, .int .i64 (ms.length : Int), .flt .f32 v110_0, .flt .f32 v110_1, .flt .f32 v110_2, .flt .f32 v122_0, .flt .f32 v122_1, .flt .f32 v122_2, .flt .f32 r123_0, .flt .f32 r123_1, .flt .f32 r123_2, .bool (finP [.flt .f32 r123_0, .flt .f32 r123_1, .flt .f32 r123_2])]) (ws := [⟨lS122, (i99 * 3), [.nd 16 (.flt .f32), .nd 17 (.flt .f32), .nd 18 (.flt .f32)], false⟩]) (env := [(47, .nd 0 .one), (48, .nd 10 (.int .i64)), (46, .agg [.nd 13 (.flt .f32), .nd 14 (.flt .f32), .nd 15 (.flt .f32)]), (8, .nd 11 .one), (9, .nd 10 (.int .i64)), (1, .nd 0 .one)]) ?_ ?_ tb_ok ap_ok ?_
        · refine midN_in ?_ .nil _ ?_ ?_ ?_
          · exact (.cons rfl (slOne hS) (.cons rfl ⟨_, rfl, o0⟩ (.cons rfl ⟨_, rfl, o1⟩ (.cons rfl ⟨_, rfl, o2⟩ (.cons rfl ⟨_, rfl⟩ (.cons rfl ⟨_, rfl⟩ (.cons rfl ⟨_, rfl⟩ (.cons rfl ⟨_, rfl⟩ (.cons rfl ⟨_, rfl⟩ (.cons rfl ⟨_, rfl⟩ (.cons rfl ⟨_, rfl⟩ (.cons rfl s99_0.one (.cons rfl ⟨_, rfl⟩ (.cons rfl ⟨_, rfl, ho110_0⟩ (.cons rfl ⟨_, rfl, ho110_1⟩ (.cons rfl ⟨_, rfl, ho110_2⟩ (.cons rfl ⟨_, rfl, ho122_0⟩ (.cons rfl ⟨_, rfl, ho122_1⟩ (.cons rfl ⟨_, rfl, ho122_2⟩ (.cons rfl ⟨_, rfl, or123_0⟩ (.cons rfl ⟨_, rfl, or123_1⟩ (.cons rfl ⟨_, rfl, or123_2⟩ (.cons rfl ⟨_, rfl⟩ .nil)))))))))))))))))))))))
          · exact (.cons (win_elem hr gS122 hlt122 rfl (by rw [hm122]; exact (dlCons (dNd rfl ⟨_, rfl, ho122_0⟩) (dlCons (dNd rfl ⟨_, rfl, ho122_1⟩) (dlCons (dNd rfl ⟨_, rfl, ho122_2⟩) dlNil))))) .nil)
          · exact sepOk_ro rfl
          · exact (.cons (rule_iaS (k := i99) (dNd rfl (slOne hS)) eS122 (dNd rfl ⟨_, rfl⟩) hlt122 rfl) (.cons (rule_call (args := [.agg [.flt .f32 v110_0, .flt .f32 v110_1, .flt .f32 v110_2], .agg [.flt .f32 v122_0, .flt .f32 v122_1, .flt .f32 v122_2]]) (dlCons (dAgg (dlCons (dNd rfl ⟨_, rfl, ho110_0⟩) (dlCons (dNd rfl ⟨_, rfl, ho110_1⟩) (dlCons (dNd rfl ⟨_, rfl, ho110_2⟩) dlNil)))) (dlCons (dAgg (dlCons (dNd rfl ⟨_, rfl, ho122_0⟩) (dlCons (dNd rfl ⟨_, rfl, ho122_1⟩) (dlCons (dNd rfl ⟨_, rfl, ho122_2⟩) dlNil)))) dlNil)) (dAgg (dlCons (dNd rfl ⟨_, rfl, or123_0⟩) (dlCons (dNd rfl ⟨_, rfl, or123_1⟩) (dlCons (dNd rfl ⟨_, rfl, or123_2⟩) dlNil)))) (fun H9 hk => (by rw [← hmr123]; exact k_l06Compose [.flt .f32 v110_0, .flt .f32 v110_1, .flt .f32 v110_2] [.flt .f32 v122_0, .flt .f32 v122_1, .flt .f32 v122_2] (.cons ⟨_, rfl, ho110_0⟩ (.cons ⟨_, rfl, ho110_1⟩ (.cons ⟨_, rfl, ho110_2⟩ .nil))) (.cons ⟨_, rfl, ho122_0⟩ (.cons ⟨_, rfl, ho122_1⟩ (.cons ⟨_, rfl, ho122_2⟩ .nil))) H9))) (.cons (rule_call (args := [.agg [.flt .f32 r123_0, .flt .f32 r123_1, .flt .f32 r123_2]]) (dlCons (dAgg (dlCons (dNd rfl ⟨_, rfl, or123_0⟩) (dlCons (dNd rfl ⟨_, rfl, or123_1⟩) (dlCons (dNd rfl ⟨_, rfl, or123_2⟩) dlNil)))) dlNil) (dNd rfl ⟨_, rfl⟩) (fun H9 hk => k_l06Finite [.flt .f32 r123_0, .flt .f32 r123_1, .flt .f32 r123_2] (.cons ⟨_, rfl, or123_0⟩ (.cons ⟨_, rfl, or123_1⟩ (.cons ⟨_, rfl, or123_2⟩ .nil))) H9)) .nil)))
        · exact (envEq b112 (dNd rfl (slOne hS)) (envEq b113 (dNd rfl ⟨_, rfl⟩) (envEq b114 (dAgg (dlCons (dNd rfl ⟨_, rfl, ho110_0⟩) (dlCons (dNd rfl ⟨_, rfl, ho110_1⟩) (dlCons (dNd rfl ⟨_, rfl, ho110_2⟩) dlNil)))) (envEq b115 (dNd rfl s99_0.one) (envEq b116 (dNd rfl ⟨_, rfl⟩) (envEq b117 (dNd rfl (slOne hS)) envNil))))))
        refine all2 (by kernel_rfl) ?_ ?_
        ·
          intro vs ls H124 E124 st hE
          have f125 : (finP [.flt .f32 r123_0, .flt .f32 r123_1, .flt .f32 r123_2]) = false := bfact st.inn 0 (by kernel_rfl)
          have gz : Grew H H124 := (Grew.trans g119 (st.kept.grew (Nat.le_of_ble_eq_true (by kernel_rfl))))
          have hc : reckF [.flt .f32 s0, .flt .f32 s1, .flt .f32 s2] ms = ([], 4) := by
            unfold reckF
            skip
            rw [if_pos (by rw [show ms.length = i11 by omega]; exact f88), if_pos (by omega), if_neg]
            rw [allB_at hlt122 (by show finP (reckAt _ _ (_ + 1)) = false; rw [show reckAt [.flt .f32 s0, .flt .f32 s1, .flt .f32 s2] ms (i99 + 1) = compF (reckAt [.flt .f32 s0, .flt .f32 s1, .flt .f32 s2] ms i99) (ms.getD i99 []) from rfl, ← reckTo_at [.flt .f32 s0, .flt .f32 s1, .flt .f32 s2] ms (show i99 < i99 + 1 by omega), he110, he122, hmr123]; exact f125)]; decide
          obtain ⟨pz, ez, rz, nz⟩ := sl_of st.inn hE 4 2 0 0 3 (by kernel_rfl) (ds := []) (by kernel_rfl)
          have oz : H.next ≤ pz := Nat.le_trans g119.next (nz (Nat.le_of_ble_eq_true rfl))
          have e7 : E124 5 = .int .i64 4 := env_of st.inn hE 5 (by kernel_rfl)
          exact res_ret (by kernel_rfl) (end_tmps (.inr rfl) ez e7 gz.next (by rw [hc]; exact ⟨gz, _, rfl, .sl (by simpa using rz) rfl (Nat.le_refl _), .of_le oz⟩))
        ·
          intro vs ls H126 E126 st hE
          have f127 : (finP [.flt .f32 r123_0, .flt .f32 r123_1, .flt .f32 r123_2]) = true := bfact st.inn 0 (by kernel_rfl)
          obtain ⟨p128, e129, r130, n131⟩ := sl_of st.inn hE 58 2 1 1 3 (by kernel_rfl) (ds := [.flt .f32 r123_0, .flt .f32 r123_1, .flt .f32 r123_2]) (by kernel_rfl)
          have op128 : H.next ≤ p128 := Nat.le_trans g119.next (n131 (Nat.le_of_ble_eq_true rfl))
          have ne132 : ApartL (acc99_0) p128 := s121.apart_new (n131 (Nat.le_of_ble_eq_true rfl))
          have b133 : E126 56 = acc99_0 := env_of st.inn hE 56 (by kernel_rfl)
          have b134 : E126 9 = .int .i64 (i99 : Int) := env_of st.inn hE 9 (by kernel_rfl)
          have b135 : E126 1 = S := env_of st.inn hE 1 (by kernel_rfl)
          have b136 : E126 8 = acc99_0 := env_of st.inn hE 8 (by kernel_rfl)
          have g137 : Grew H111 H126 := (st.kept.grew (Nat.le_of_ble_eq_true (by kernel_rfl)))
          have g138 : Grew H H126 := Grew.trans g119 g137
          have s140 := s121.grew g137
          clear st hE vs ls
          refine res_append (d := (some 59)) (sz := 3) (bytes := 12) (x := .tmp 56) (y := .tmp 58) (by kernel_rfl) (S := acc99_0) (ms := (reckTo [.flt .f32 s0, .flt .f32 s1, .flt .f32 s2] ms (i99 + 1))) (ys := [[.flt .f32 r123_0, .flt .f32 r123_1, .flt .f32 r123_2]]) (by show E126 56 = _; exact b133) s140 (reckTo_recs (.cons ⟨_, rfl, o0⟩ (.cons ⟨_, rfl, o1⟩ (.cons ⟨_, rfl, o2⟩ .nil))) ms (i99 + 1)).len (by show srcCells _ _ (E126 58) = _; rw [e129]; exact src_one r130 rfl) (recs_one (ks := KP) (Recs.one (ks := KP) (.cons ⟨_, rfl, or123_0⟩ (.cons ⟨_, rfl, or123_1⟩ (.cons ⟨_, rfl, or123_2⟩ .nil)))) rfl) (by show (2 * ((reckTo [.flt .f32 s0, .flt .f32 s1, .flt .f32 s2] ms (i99 + 1)).length + 1) + 192) * 12 ≤ 281474976710656; omega) ?_
          intro S141 H142 sS141 fS141 oS141
          have ne143 : ApartL (S141) p128 := fS141.apartL (H126.lt_of_get r130) (by assumption)
          have fr144 : FreshS H.next (S141) := fS141.fresh f99_0 g138.next
          have g145 : Grew H H142 := OnlyS.own g138 f99_0 oS141
          have r146 := oS141.at r130 (by assumption)
          refine run_mn (φ := φ0) (pm := pmR 1 [] 0) 20 (nk := [(.atom 0, .one), (.atom 1, .flt .f32), (.atom 2, .flt .f32), (.atom 3, .flt .f32), (.atom 4, .bool), (.atom 5, .bool), (.atom 6, .int .i64), (.atom 7, .int .i64), (.atom 8, .bool), (.atom 9, .int .i64), (.atom 10, .int .i64), (.atom 11, .one), (.atom 12, .int .i64), (.atom 13, .flt .f32), (.atom 14, .flt .f32), (.atom 15, .flt .f32), (.atom 16, .flt .f32), (.atom 17, .flt .f32), (.atom 18, .flt .f32), (.atom 19, .flt .f32), (.atom 20, .flt .f32), (.atom 21, .flt .f32), (.atom 22, .bool), (.atom 23, .one)]) (fs := []) (xs := [S, .flt .f32 s0, .flt .f32 s1, .flt .f32 s2, .bool (finP [.flt .f32 s0, .flt .f32 s1, .flt .f32 s2]), .bool (finP [.flt .f32 s0, .flt .f32 s1, .flt .f32 s2] && allB (fun j => finP (ms.getD j [])) i11), .int .i64 (i11 : Int), .int .i64 (ms.length : Int), .bool w70, .int .i64 (ms.length : Int), .int .i64 (i99 : Int), acc99_0, .int .i64 (ms.length : Int), .flt .f32 v110_0, .flt .f32 v110_1, .flt .f32 v110_2, .flt .f32 v122_0, .flt .f32 v122_1, .flt .f32 v122_2, .flt .f32 r123_0, .flt .f32 r123_1, .flt .f32 r123_2, .bool (finP [.flt .f32 r123_0, .flt .f32 r123_1, .flt .f32 r123_2]), S141]) (ws := [⟨p128, 0, [.nd 19 (.flt .f32), .nd 20 (.flt .f32), .nd 21 (.flt .f32)], false⟩]) (env := [(56, .nd 11 .one), (58, .sl 0 0 1 1 3), (9, .nd 10 (.int .i64)), (1, .nd 0 .one), (8, .nd 11 .one), (59, .nd 23 .one)]) ?_ ?_ tb_ok ap_ok ?_
          · refine midN_in ?_ .nil _ ?_ ?_ ?_
            · exact (.cons rfl (slOne hS) (.cons rfl ⟨_, rfl, o0⟩ (.cons rfl ⟨_, rfl, o1⟩ (.cons rfl ⟨_, rfl, o2⟩ (.cons rfl ⟨_, rfl⟩ (.cons rfl ⟨_, rfl⟩ (.cons rfl ⟨_, rfl⟩ (.cons rfl ⟨_, rfl⟩ (.cons rfl ⟨_, rfl⟩ (.cons rfl ⟨_, rfl⟩ (.cons rfl ⟨_, rfl⟩ (.cons rfl s99_0.one (.cons rfl ⟨_, rfl⟩ (.cons rfl ⟨_, rfl, ho110_0⟩ (.cons rfl ⟨_, rfl, ho110_1⟩ (.cons rfl ⟨_, rfl, ho110_2⟩ (.cons rfl ⟨_, rfl, ho122_0⟩ (.cons rfl ⟨_, rfl, ho122_1⟩ (.cons rfl ⟨_, rfl, ho122_2⟩ (.cons rfl ⟨_, rfl, or123_0⟩ (.cons rfl ⟨_, rfl, or123_1⟩ (.cons rfl ⟨_, rfl, or123_2⟩ (.cons rfl ⟨_, rfl⟩ (.cons rfl sS141.one .nil))))))))))))))))))))))))
            · exact (.cons (win_row r146 (dlCons (dNd rfl ⟨_, rfl, or123_0⟩) (dlCons (dNd rfl ⟨_, rfl, or123_1⟩) (dlCons (dNd rfl ⟨_, rfl, or123_2⟩) dlNil)))) .nil)
            · exact sepOk_ro rfl
            · exact .nil
          · exact (envEq (put_ne rfl b133) (dNd rfl s99_0.one) (envEq (put_ne rfl e129) (dSl' (l := p128) (o := 0) rfl) (envEq (put_ne rfl b134) (dNd rfl ⟨_, rfl⟩) (envEq (put_ne rfl b135) (dNd rfl (slOne hS)) (envEq (put_ne rfl b136) (dNd rfl s99_0.one) (envEq put_same (dNd rfl sS141.one) envNil))))))
          refine all1 (by kernel_rfl) ?_
          intro vs ls H147 E147 st hE
          obtain ⟨w148, hw148⟩ : ∃ z, z = (IntKind.wrap .i64 ((i99 : Int) + 1)) := ⟨_, rfl⟩
          have b149 : E147 9 = .int .i64 w148 := by rw [hw148]; exact env_of st.inn hE 9 (by kernel_rfl)
          have b150 : E147 1 = S := env_of st.inn hE 1 (by kernel_rfl)
          have b151 : E147 8 = S141 := env_of st.inn hE 8 (by kernel_rfl)
          have g152 : Grew H142 H147 := (st.kept.grew (Nat.le_of_ble_eq_true (by kernel_rfl)))
          have g153 : Grew H H147 := Grew.trans g145 g152
          have r154 := g152.at r146
          have s155 := sS141.grew g152
          clear st hE vs ls
          have hz9 : z99 - 1 < z99 := by omega
          have hy9 : z99 - 1 + (i99 + 1) = ms.length := by omega
          have hi9 : E147 9 = .int .i64 ((i99 + 1 : Nat) : Int) := by rw [b149, hw148, wrap64 (by omega)]
          have hs9 : reckTo [.flt .f32 s0, .flt .f32 s1, .flt .f32 s2] ms (i99 + 1 + 1) = ((reckTo [.flt .f32 s0, .flt .f32 s1, .flt .f32 s2] ms (i99 + 1)) ++ [[.flt .f32 r123_0, .flt .f32 r123_1, .flt .f32 r123_2]]) := by
            rw [reckTo_succ, show reckAt [.flt .f32 s0, .flt .f32 s1, .flt .f32 s2] ms (i99 + 1) = compF (reckAt [.flt .f32 s0, .flt .f32 s1, .flt .f32 s2] ms i99) (ms.getD i99 []) from rfl, ← reckTo_at [.flt .f32 s0, .flt .f32 s1, .flt .f32 s2] ms (show i99 < i99 + 1 by omega), he110, he122, hmr123]
          have hiv9 : allB (fun j => finP (reckAt [.flt .f32 s0, .flt .f32 s1, .flt .f32 s2] ms (j + 1))) (i99 + 1) = true := by
            rw [allB_succ, iv99, Bool.true_and, show reckAt [.flt .f32 s0, .flt .f32 s1, .flt .f32 s2] ms (i99 + 1) = compF (reckAt [.flt .f32 s0, .flt .f32 s1, .flt .f32 s2] ms i99) (ms.getD i99 []) from rfl, ← reckTo_at [.flt .f32 s0, .flt .f32 s1, .flt .f32 s2] ms (show i99 < i99 + 1 by omega), he110, he122, hmr123]; exact f127
          exact res_norm (by kernel_rfl) ⟨z99 - 1, hz9, i99 + 1, S141, hy9, b150, hi9, b151, g153, (by rw [hs9]; exact s155), fr144, hiv9⟩
      ·
        intro vs ls H156 E156 st hE
        have f157 : ¬ ((i99 : Int) < (ms.length : Int)) := of_decide_eq_false (bfact (x := decide ((i99 : Int) < (ms.length : Int))) st.inn 0 (by kernel_rfl))
        have b158 : E156 9 = .int .i64 (i99 : Int) := env_of st.inn hE 9 (by kernel_rfl)
        have b159 : E156 1 = S := env_of st.inn hE 1 (by kernel_rfl)
        have b160 : E156 38 = S := env_of st.inn hE 38 (by kernel_rfl)
        have b161 : E156 37 = .int .i64 (i99 : Int) := env_of st.inn hE 37 (by kernel_rfl)
        have b162 : E156 39 = .int .i64 (ms.length : Int) := env_of st.inn hE 39 (by kernel_rfl)
        obtain ⟨w163, hw163⟩ : ∃ z, z = (decide ((i99 : Int) < (ms.length : Int))) := ⟨_, rfl⟩
        have b164 : E156 40 = .bool w163 := by rw [hw163]; exact env_of st.inn hE 40 (by kernel_rfl)
        have b165 : E156 8 = acc99_0 := env_of st.inn hE 8 (by kernel_rfl)
        have g166 : Grew Hi99 H156 := (st.kept.grew (Nat.le_of_ble_eq_true (by kernel_rfl)))
        have g167 : Grew H H156 := Grew.trans gt99 g166
        have s168 := s99_0.grew g166
        clear st hE vs ls
        refine res_exit (id := 2) (by kernel_rfl) ?_
        refine run_mn (φ := φ0) (pm := pmR 0 [] 0) 20 (nk := [(.atom 0, .one), (.atom 1, .flt .f32), (.atom 2, .flt .f32), (.atom 3, .flt .f32), (.atom 4, .bool), (.atom 5, .bool), (.atom 6, .int .i64), (.atom 7, .int .i64), (.atom 8, .bool), (.atom 9, .int .i64), (.atom 10, .int .i64), (.atom 11, .one), (.atom 12, .int .i64), (.atom 13, .bool)]) (fs := []) (xs := [S, .flt .f32 s0, .flt .f32 s1, .flt .f32 s2, .bool (finP [.flt .f32 s0, .flt .f32 s1, .flt .f32 s2]), .bool (finP [.flt .f32 s0, .flt .f32 s1, .flt .f32 s2] && allB (fun j => finP (ms.getD j [])) i11), .int .i64 (i11 : Int), .int .i64 (ms.length : Int), .bool w70, .int .i64 (ms.length : Int), .int .i64 (i99 : Int), acc99_0, .int .i64 (ms.length : Int), .bool w163]) (ws := []) (env := [(9, .nd 10 (.int .i64)), (1, .nd 0 .one), (38, .nd 0 .one), (37, .nd 10 (.int .i64)), (39, .nd 12 (.int .i64)), (40, .nd 13 .bool), (8, .nd 11 .one)]) ?_ ?_ tb_ok ap_ok ?_
        · refine midN_in ?_ .nil _ ?_ ?_ ?_
          · exact (.cons rfl (slOne hS) (.cons rfl ⟨_, rfl, o0⟩ (.cons rfl ⟨_, rfl, o1⟩ (.cons rfl ⟨_, rfl, o2⟩ (.cons rfl ⟨_, rfl⟩ (.cons rfl ⟨_, rfl⟩ (.cons rfl ⟨_, rfl⟩ (.cons rfl ⟨_, rfl⟩ (.cons rfl ⟨_, rfl⟩ (.cons rfl ⟨_, rfl⟩ (.cons rfl ⟨_, rfl⟩ (.cons rfl s99_0.one (.cons rfl ⟨_, rfl⟩ (.cons rfl ⟨_, rfl⟩ .nil))))))))))))))
          · exact .nil
          · exact sepOk_ro rfl
          · exact .nil
        · exact (envEq b158 (dNd rfl ⟨_, rfl⟩) (envEq b159 (dNd rfl (slOne hS)) (envEq b160 (dNd rfl (slOne hS)) (envEq b161 (dNd rfl ⟨_, rfl⟩) (envEq b162 (dNd rfl ⟨_, rfl⟩) (envEq b164 (dNd rfl ⟨_, rfl⟩) (envEq b165 (dNd rfl s99_0.one) envNil)))))))
        refine all1 (by kernel_rfl) ?_
        intro vs ls H169 E169 st hE
        have gz : Grew H H169 := (Grew.trans g167 (st.kept.grew (Nat.le_of_ble_eq_true (by kernel_rfl))))
        have hc : reckF [.flt .f32 s0, .flt .f32 s1, .flt .f32 s2] ms = (reckTo [.flt .f32 s0, .flt .f32 s1, .flt .f32 s2] ms (ms.length + 1), 0) := by
          unfold reckF
          skip
          rw [if_pos (by rw [show ms.length = i11 by omega]; exact f88), if_pos (by omega), if_pos (by rw [show ms.length = i99 by omega]; exact iv99)]
        exact res_ex (by kernel_rfl) (end_same st.inn hE (.inr rfl) (a := .tuple [acc99_0, .int .i64 0]) (by kernel_rfl) gz.next (by rw [hc]; exact ⟨gz, _, rfl, (by rw [show ms.length = i99 by omega]; exact ((s168.grew (st.inn.kept.grew (Nat.le_refl _)))).toW), f99_0⟩))
end Go.Proofs.Ytcmoeocemmeofaa
