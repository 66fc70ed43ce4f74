/- Contracts: graphs that are valid, by both. -/
import Derived.Test.YtcmoeocemmeofaaTGraphD
set_option linter.unusedVariables false
set_option linter.unusedSimpArgs false
namespace Go.Proofs.Ytcmoeocemmeofaa
open Go.Ab
set_option maxRecDepth 100000
set_option maxHeartbeats 1000000
attribute [local irreducible] Res
theorem k_fn1 (v0 v1 v2 : Option Nat) (o0 : fOk .f32 v0) (o1 : fOk .f32 v1) (o2 : fOk .f32 v2) (H : AHeap) : APure Try.prog 96 [.agg [.flt .f32 v0, .flt .f32 v1, .flt .f32 v2]] H (.bool (!finP [.flt .f32 v0, .flt .f32 v1, .flt .f32 v2])) := by
  refine res_start h_impl_ValidGraph_1 (by simp) ?_
  refine run_mn (φ := φ0) (pm := pmR 0 [(.call 57 [.agg [.nd 0 (.flt .f32), .nd 1 (.flt .f32), .nd 2 (.flt .f32)]], .nd 3 .bool)] 0) 20 (nk := [(.atom 0, .flt .f32), (.atom 1, .flt .f32), (.atom 2, .flt .f32), (.atom 3, .bool)]) (fs := []) (xs := [.flt .f32 v0, .flt .f32 v1, .flt .f32 v2, .bool (finP [.flt .f32 v0, .flt .f32 v1, .flt .f32 v2])]) (ws := []) (env := [(0, .agg [.nd 0 (.flt .f32), .nd 1 (.flt .f32), .nd 2 (.flt .f32)])]) ?_ ?_ tb_ok ap_ok ?_
  · refine midN_in ?_ .nil _ ?_ ?_ ?_
    · exact (.cons rfl ⟨_, rfl, o0⟩ (.cons rfl ⟨_, rfl, o1⟩ (.cons rfl ⟨_, rfl, o2⟩ (.cons rfl ⟨_, rfl⟩ .nil))))
    · exact .nil
    · exact sepOk_ro rfl
    · exact (.cons (rule_call (args := [.agg [.flt .f32 v0, .flt .f32 v1, .flt .f32 v2]]) (dlCons (dAgg (dlCons (dNd rfl ⟨_, rfl, o0⟩) (dlCons (dNd rfl ⟨_, rfl, o1⟩) (dlCons (dNd rfl ⟨_, rfl, o2⟩) dlNil)))) dlNil) (dNd rfl ⟨_, rfl⟩) (fun H9 hk => k_IsFinitePose [.flt .f32 v0, .flt .f32 v1, .flt .f32 v2] (.cons ⟨_, rfl, o0⟩ (.cons ⟨_, rfl, o1⟩ (.cons ⟨_, rfl, o2⟩ .nil))) H9)) .nil)
  · exact (envEq rfl (dAgg (dlCons (dNd rfl ⟨_, rfl, o0⟩) (dlCons (dNd rfl ⟨_, rfl, o1⟩) (dlCons (dNd rfl ⟨_, rfl, o2⟩) dlNil)))) envNil)
  refine all1 (by kernel_rfl) ?_
  intro vs ls H1 E1 st hE
  refine res_ex (by kernel_rfl) (end_flat st.inn hE (.inr rfl) (a := .bool (!(finP [.flt .f32 v0, .flt .f32 v1, .flt .f32 v2]))) (by kernel_rfl) (Grew.trans (Grew.refl _) (st.kept.grew (Nat.le_of_ble_eq_true (by kernel_rfl)))) rfl ⟨?_, rfl⟩)
  rfl
theorem k_fn2 (H : AHeap) (ms : List (List AV)) (S : AV) (hS : SlL H 3 ms S) (hmx : ms.length < 2 ^ 40) (Sk : AV) (hSk : Sk.one = true) (l : Nat) (hg : H.get l = some (.row [S, Sk] true)) (v0 v1 : Int) (v2 v3 v4 v5 : Option Nat) (o2 : fOk .f32 v2) (o3 : fOk .f32 v3) (o4 : fOk .f32 v4) (o5 : fOk .f32 v5) : APure Try.prog 98 [.agg [.int .i64 v0, .int .i64 v1, .flt .f32 v2, .flt .f32 v3, .flt .f32 v4, .flt .f32 v5], .ptr l 0] H (.bool (!okK ms.length [.int .i64 v0, .int .i64 v1, .flt .f32 v2, .flt .f32 v3, .flt .f32 v4, .flt .f32 v5])) := by
  refine res_start h_impl_ValidGraph_2 (by simp) ?_
  refine run_mn (φ := φ0) (pm := pmR 1 [(.len (.nd 0 .one), .nd 8 (.int .i64)), (.call 99 [.agg [.nd 2 (.int .i64), .nd 3 (.int .i64), .nd 4 (.flt .f32), .nd 5 (.flt .f32), .nd 6 (.flt .f32), .nd 7 (.flt .f32)], .nd 8 (.int .i64)], .nd 9 .bool)] 0) 20 (nk := [(.atom 0, .one), (.atom 1, .one), (.atom 2, .int .i64), (.atom 3, .int .i64), (.atom 4, .flt .f32), (.atom 5, .flt .f32), (.atom 6, .flt .f32), (.atom 7, .flt .f32), (.atom 8, .int .i64), (.atom 9, .bool)]) (fs := []) (xs := [S, Sk, .int .i64 v0, .int .i64 v1, .flt .f32 v2, .flt .f32 v3, .flt .f32 v4, .flt .f32 v5, .int .i64 (ms.length : Int), .bool (okK ms.length [.int .i64 v0, .int .i64 v1, .flt .f32 v2, .flt .f32 v3, .flt .f32 v4, .flt .f32 v5])]) (ws := [⟨l, 0, [.nd 0 .one, .nd 1 .one], false⟩]) (env := [(0, .agg [.nd 2 (.int .i64), .nd 3 (.int .i64), .nd 4 (.flt .f32), .nd 5 (.flt .f32), .nd 6 (.flt .f32), .nd 7 (.flt .f32)]), (1, .ptr 0 0)]) ?_ ?_ tb_ok ap_ok ?_
  · refine midN_in ?_ .nil _ ?_ ?_ ?_
    · exact (.cons rfl (slOne hS) (.cons rfl hSk (.cons rfl ⟨_, rfl⟩ (.cons rfl ⟨_, rfl⟩ (.cons rfl ⟨_, rfl, o2⟩ (.cons rfl ⟨_, rfl, o3⟩ (.cons rfl ⟨_, rfl, o4⟩ (.cons rfl ⟨_, rfl, o5⟩ (.cons rfl ⟨_, rfl⟩ (.cons rfl ⟨_, rfl⟩ .nil))))))))))
    · exact (.cons (win_row hg (dlCons (dNd rfl (slOne hS)) (dlCons (dNd rfl hSk) dlNil))) .nil)
    · exact sepOk_ro rfl
    · exact (.cons (⟨_, _, (dNd rfl (slOne hS)), (dNd rfl ⟨_, rfl⟩), slLen hS⟩) (.cons (rule_call (args := [.agg [.int .i64 v0, .int .i64 v1, .flt .f32 v2, .flt .f32 v3, .flt .f32 v4, .flt .f32 v5], .int .i64 (ms.length : Int)]) (dlCons (dAgg (dlCons (dNd rfl ⟨_, rfl⟩) (dlCons (dNd rfl ⟨_, rfl⟩) (dlCons (dNd rfl ⟨_, rfl, o2⟩) (dlCons (dNd rfl ⟨_, rfl, o3⟩) (dlCons (dNd rfl ⟨_, rfl, o4⟩) (dlCons (dNd rfl ⟨_, rfl, o5⟩) dlNil))))))) (dlCons (dNd rfl ⟨_, rfl⟩) dlNil)) (dNd rfl ⟨_, rfl⟩) (fun H9 hk => k_validLink ms.length hmx v0 v1 v2 v3 v4 v5 o2 o3 o4 o5 H9)) .nil))
  · exact (envEq rfl (dAgg (dlCons (dNd rfl ⟨_, rfl⟩) (dlCons (dNd rfl ⟨_, rfl⟩) (dlCons (dNd rfl ⟨_, rfl, o2⟩) (dlCons (dNd rfl ⟨_, rfl, o3⟩) (dlCons (dNd rfl ⟨_, rfl, o4⟩) (dlCons (dNd rfl ⟨_, rfl, o5⟩) dlNil))))))) (envEq rfl (dPtr (l := l) (o := 0) rfl) envNil))
  refine all1 (by kernel_rfl) ?_
  intro vs ls H1 E1 st hE
  refine res_ex (by kernel_rfl) (end_flat st.inn hE (.inr rfl) (a := .bool (!(okK ms.length [.int .i64 v0, .int .i64 v1, .flt .f32 v2, .flt .f32 v3, .flt .f32 v4, .flt .f32 v5]))) (by kernel_rfl) (Grew.trans (Grew.refl _) (st.kept.grew (Nat.le_of_ble_eq_true (by kernel_rfl)))) rfl ⟨?_, rfl⟩)
  rfl
theorem k_IndexP (H : AHeap) (ms : List (List AV)) (hr : Recs KP ms) (S : AV) (hS : SlL H 3 ms S) (hmx : ms.length < 2 ^ 40) : APure Try.prog 90 [S, .func 96 [] []] H (.int .i64 (idxF (fun i => !finP (ms.getD i [])) ms.length)) := by
  refine res_start h_slices_IndexFunc_impl_Pose_impl_Pose (by simp) ?_
  refine run_mn (φ := φ0) (pm := pmR 0 [(.len (.nd 0 .one), .nd 1 (.int .i64))] 0) 20 (nk := [(.atom 0, .one), (.atom 1, .int .i64)]) (fs := []) (xs := [S, .int .i64 (ms.length : Int)]) (ws := []) (env := [(0, .nd 0 .one), (1, .fn 96 [] [])]) ?_ ?_ tb_ok ap_ok ?_
  · refine midN_in ?_ .nil _ ?_ ?_ ?_
    · exact (.cons rfl (slOne hS) (.cons rfl ⟨_, rfl⟩ .nil))
    · exact .nil
    · exact sepOk_ro rfl
    · exact (.cons (⟨_, _, (dNd rfl (slOne hS)), (dNd rfl ⟨_, rfl⟩), slLen hS⟩) .nil)
  · exact (envEq rfl (dNd rfl (slOne hS)) (envEq rfl (dFn' dlNil dlNil) envNil))
  refine all1 (by kernel_rfl) ?_
  intro vs ls H1 E1 st hE
  have b2 : E1 8 = .int .i64 0 := env_of st.inn hE 8 (by kernel_rfl)
  have b3 : E1 7 = .int .i64 (ms.length : Int) := env_of st.inn hE 7 (by kernel_rfl)
  have b4 : E1 1 = .func 96 [] [] := env_of st.inn hE 1 (by kernel_rfl)
  have b5 : E1 0 = S := env_of st.inn hE 0 (by kernel_rfl)
  have g6 : Grew H H1 := (st.kept.grew (Nat.le_of_ble_eq_true (by kernel_rfl)))
  have g7 : Grew H H1 := Grew.trans (Grew.refl _) g6
  clear st hE vs ls
  refine res_scan (by kernel_rfl) [(7, .int .i64 (ms.length : Int)), (1, .func 96 [] []), (0, S)] 8 ms.length (fun i => ∀ j, j < i → (!finP (ms.getD j [])) = false) (.cons b3 (.cons b4 (.cons b5 .nil))) b2 (Grew.refl _) upTo0 ?_
  intro i8 hli8 hIi8 Ei8 Hi8 hsi8 hci8 hgi8
  have g9 : Grew H Hi8 := Grew.trans g7 hgi8
  refine run_mn (φ := φ0) (pm := pmR 0 [] 0) 20 (nk := [(.atom 0, .one), (.atom 1, .int .i64), (.atom 2, .int .i64)]) (fs := []) (xs := [S, .int .i64 (ms.length : Int), .int .i64 (i8 : Int)]) (ws := []) (env := [(7, .nd 1 (.int .i64)), (1, .fn 96 [] []), (0, .nd 0 .one), (8, .nd 2 (.int .i64))]) ?_ ?_ tb_ok ap_ok ?_
  · refine midN_in ?_ .nil _ ?_ ?_ ?_
    · exact (.cons rfl (slOne hS) (.cons rfl ⟨_, rfl⟩ (.cons rfl ⟨_, rfl⟩ .nil)))
    · exact .nil
    · exact sepOk_ro rfl
    · exact .nil
  · exact (envEq (hsi8.at 0 rfl) (dNd rfl ⟨_, rfl⟩) (envEq (hsi8.at 1 rfl) (dFn' dlNil dlNil) (envEq (hsi8.at 2 rfl) (dNd rfl (slOne hS)) (envEq hci8 (dNd rfl ⟨_, rfl⟩) envNil))))
  refine all2 (by kernel_rfl) ?_ ?_
  ·
    intro vs ls H10 E10 st hE
    have f11 : (i8 : Int) < (ms.length : Int) := of_decide_eq_true (bfact (x := decide ((i8 : Int) < (ms.length : Int))) st.inn 0 (by kernel_rfl))
    have b12 : E10 12 = S := env_of st.inn hE 12 (by kernel_rfl)
    have b13 : E10 13 = .int .i64 (i8 : Int) := env_of st.inn hE 13 (by kernel_rfl)
    have b14 : E10 11 = .func 96 [] [] := env_of st.inn hE 11 (by kernel_rfl)
    have b15 : E10 5 = .int .i64 (i8 : Int) := env_of st.inn hE 5 (by kernel_rfl)
    have b16 : E10 8 = .int .i64 (i8 : Int) := env_of st.inn hE 8 (by kernel_rfl)
    have b17 : E10 7 = .int .i64 (ms.length : Int) := env_of st.inn hE 7 (by kernel_rfl)
    have b18 : E10 1 = .func 96 [] [] := env_of st.inn hE 1 (by kernel_rfl)
    have b19 : E10 0 = S := env_of st.inn hE 0 (by kernel_rfl)
    have g20 : Grew Hi8 H10 := (st.kept.grew (Nat.le_of_ble_eq_true (by kernel_rfl)))
    have g21 : Grew H H10 := Grew.trans g9 g20
    have g22 : Grew H1 H10 := Grew.trans hgi8 g20
    clear st hE vs ls
    have hlt23 : i8 < ms.length := by omega
    obtain ⟨lS23, cap23, rest23, wr23, eS23, gB23⟩ := hS.isSl hlt23
    have gS23 := g21.at gB23
    obtain ⟨v23_0, v23_1, v23_2, hm23, ho23_0, ho23_1, ho23_2⟩ := partsPose (hr.get hlt23)
    have he23 : ms.getD i8 [] = [.flt .f32 v23_0, .flt .f32 v23_1, .flt .f32 v23_2] := by rw [← hm23]; simp [List.getD_eq_getElem?_getD, hlt23]
    refine run_mn (φ := φ0) (pm := pmR 1 [(.ia 3 (.nd 0 .one) (.nd 2 (.int .i64)), .ptr 0 0), (.call 96 [.agg [.nd 3 (.flt .f32), .nd 4 (.flt .f32), .nd 5 (.flt .f32)]], .nd 6 .bool)] 0) 20 (nk := [(.atom 0, .one), (.atom 1, .int .i64), (.atom 2, .int .i64), (.atom 3, .flt .f32), (.atom 4, .flt .f32), (.atom 5, .flt .f32), (.atom 6, .bool)]) (fs := []) (xs := [S, .int .i64 (ms.length : Int), .int .i64 (i8 : Int), .flt .f32 v23_0, .flt .f32 v23_1, .flt .f32 v23_2, .bool (!finP [.flt .f32 v23_0, .flt .f32 v23_1, .flt .f32 v23_2])]) (ws := [⟨lS23, (i8 * 3), [.nd 3 (.flt .f32), .nd 4 (.flt .f32), .nd 5 (.flt .f32)], false⟩]) (env := [(12, .nd 0 .one), (13, .nd 2 (.int .i64)), (11, .fn 96 [] []), (5, .nd 2 (.int .i64)), (8, .nd 2 (.int .i64)), (7, .nd 1 (.int .i64)), (1, .fn 96 [] []), (0, .nd 0 .one)]) ?_ ?_ tb_ok ap_ok ?_
    · refine midN_in ?_ .nil _ ?_ ?_ ?_
      · exact (.cons rfl (slOne hS) (.cons rfl ⟨_, rfl⟩ (.cons rfl ⟨_, rfl⟩ (.cons rfl ⟨_, rfl, ho23_0⟩ (.cons rfl ⟨_, rfl, ho23_1⟩ (.cons rfl ⟨_, rfl, ho23_2⟩ (.cons rfl ⟨_, rfl⟩ .nil)))))))
      · exact (.cons (win_elem hr gS23 hlt23 rfl (by rw [hm23]; exact (dlCons (dNd rfl ⟨_, rfl, ho23_0⟩) (dlCons (dNd rfl ⟨_, rfl, ho23_1⟩) (dlCons (dNd rfl ⟨_, rfl, ho23_2⟩) dlNil))))) .nil)
      · exact sepOk_ro rfl
      · exact (.cons (rule_iaS (k := i8) (dNd rfl (slOne hS)) eS23 (dNd rfl ⟨_, rfl⟩) hlt23 rfl) (.cons (rule_call (args := [.agg [.flt .f32 v23_0, .flt .f32 v23_1, .flt .f32 v23_2]]) (dlCons (dAgg (dlCons (dNd rfl ⟨_, rfl, ho23_0⟩) (dlCons (dNd rfl ⟨_, rfl, ho23_1⟩) (dlCons (dNd rfl ⟨_, rfl, ho23_2⟩) dlNil)))) dlNil) (dNd rfl ⟨_, rfl⟩) (fun H9 hk => k_fn1 v23_0 v23_1 v23_2 ho23_0 ho23_1 ho23_2 H9)) .nil))
    · exact (envEq b12 (dNd rfl (slOne hS)) (envEq b13 (dNd rfl ⟨_, rfl⟩) (envEq b14 (dFn' dlNil dlNil) (envEq b15 (dNd rfl ⟨_, rfl⟩) (envEq b16 (dNd rfl ⟨_, rfl⟩) (envEq b17 (dNd rfl ⟨_, rfl⟩) (envEq b18 (dFn' dlNil dlNil) (envEq b19 (dNd rfl (slOne hS)) envNil))))))))
    refine all2 (by kernel_rfl) ?_ ?_
    ·
      intro vs ls H24 E24 st hE
      have f25 : (!finP [.flt .f32 v23_0, .flt .f32 v23_1, .flt .f32 v23_2]) = true := bfact st.inn 0 (by kernel_rfl)
      refine res_ret (by kernel_rfl) (end_flat st.inn hE (.inr rfl) (a := .int .i64 (i8 : Int)) (by kernel_rfl) (Grew.trans g21 (st.kept.grew (Nat.le_of_ble_eq_true (by kernel_rfl)))) rfl ⟨?_, rfl⟩)
      rw [idxF_at hlt23 hIi8 (by show (!finP _) = true; rw [he23]; simpa using f25)]
    ·
      intro vs ls H26 E26 st hE
      have f27 : (!finP [.flt .f32 v23_0, .flt .f32 v23_1, .flt .f32 v23_2]) = false := bfact st.inn 0 (by kernel_rfl)
      have hlti8 : i8 < ms.length := by omega
      refine res_next (sl := [(7, .int .i64 (ms.length : Int)), (1, .func 96 [] []), (0, S)]) (ti := 8) (i := i8) (Inv := fun i => ∀ j, j < i → (!finP (ms.getD j [])) = false) (by kernel_rfl) st.inn hE hlti8 (by kernel_rfl) (w := (IntKind.wrap .i64 ((i8 : Int) + 1))) (by kernel_rfl) (wrap64 (by omega)) (Grew.trans g22 (st.kept.grew (Nat.le_of_ble_eq_true (by kernel_rfl)))) ?_
      exact upTo hIi8 (by rw [he23]; simpa using f27)
  ·
    intro vs ls H28 E28 st hE
    have f29 : ¬ ((i8 : Int) < (ms.length : Int)) := of_decide_eq_false (bfact (x := decide ((i8 : Int) < (ms.length : Int))) st.inn 0 (by kernel_rfl))
    have b30 : E28 8 = .int .i64 (i8 : Int) := env_of st.inn hE 8 (by kernel_rfl)
    have b31 : E28 7 = .int .i64 (ms.length : Int) := env_of st.inn hE 7 (by kernel_rfl)
    obtain ⟨w32, hw32⟩ : ∃ z, z = (decide ((i8 : Int) < (ms.length : Int))) := ⟨_, rfl⟩
    have b33 : E28 9 = .bool w32 := by rw [hw32]; exact env_of st.inn hE 9 (by kernel_rfl)
    have b34 : E28 1 = .func 96 [] [] := env_of st.inn hE 1 (by kernel_rfl)
    have b35 : E28 0 = S := env_of st.inn hE 0 (by kernel_rfl)
    have g36 : Grew Hi8 H28 := (st.kept.grew (Nat.le_of_ble_eq_true (by kernel_rfl)))
    have g37 : Grew H H28 := Grew.trans g9 g36
    have g38 : Grew H1 H28 := Grew.trans hgi8 g36
    clear st hE vs ls
    refine res_exit (id := 0) (by kernel_rfl) ?_
    refine run_mn (φ := φ0) (pm := pmR 0 [] 0) 20 (nk := [(.atom 0, .one), (.atom 1, .int .i64), (.atom 2, .int .i64), (.atom 3, .bool)]) (fs := []) (xs := [S, .int .i64 (ms.length : Int), .int .i64 (i8 : Int), .bool w32]) (ws := []) (env := [(8, .nd 2 (.int .i64)), (7, .nd 1 (.int .i64)), (9, .nd 3 .bool), (1, .fn 96 [] []), (0, .nd 0 .one)]) ?_ ?_ tb_ok ap_ok ?_
    · refine midN_in ?_ .nil _ ?_ ?_ ?_
      · exact (.cons rfl (slOne hS) (.cons rfl ⟨_, rfl⟩ (.cons rfl ⟨_, rfl⟩ (.cons rfl ⟨_, rfl⟩ .nil))))
      · exact .nil
      · exact sepOk_ro rfl
      · exact .nil
    · exact (envEq b30 (dNd rfl ⟨_, rfl⟩) (envEq b31 (dNd rfl ⟨_, rfl⟩) (envEq b33 (dNd rfl ⟨_, rfl⟩) (envEq b34 (dFn' dlNil dlNil) (envEq b35 (dNd rfl (slOne hS)) envNil)))))
    refine all1 (by kernel_rfl) ?_
    intro vs ls H39 E39 st hE
    refine res_ex (by kernel_rfl) (end_flat st.inn hE (.inr rfl) (a := .int .i64 (-1)) (by kernel_rfl) (Grew.trans g37 (st.kept.grew (Nat.le_of_ble_eq_true (by kernel_rfl)))) rfl ⟨?_, rfl⟩)
    rw [idxF_none (fun j hj => hIi8 j (by omega))]
theorem k_IndexL (H : AHeap) (ms : List (List AV)) (S : AV) (hS : SlL H 3 ms S) (hmx : ms.length < 2 ^ 40) (ks : List (List AV)) (hrk : Recs KL ks) (Sk : AV) (hSk : SlL H 6 ks Sk) (hmxk : ks.length < 2 ^ 40) (l : Nat) (hg : H.get l = some (.row [S, Sk] true)) : APure Try.prog 118 [Sk, .func 98 [] [.ptr l 0]] H (.int .i64 (idxF (fun i => !okK ms.length (ks.getD i [])) ks.length)) := by
  refine res_start h_slices_IndexFunc_impl_Link_impl_Link (by simp) ?_
  refine run_mn (φ := φ0) (pm := pmR 1 [(.len (.nd 1 .one), .nd 2 (.int .i64))] 0) 20 (nk := [(.atom 0, .one), (.atom 1, .one), (.atom 2, .int .i64)]) (fs := []) (xs := [S, Sk, .int .i64 (ks.length : Int)]) (ws := [⟨l, 0, [.nd 0 .one, .nd 1 .one], false⟩]) (env := [(0, .nd 1 .one), (1, .fn 98 [] [.ptr 0 0])]) ?_ ?_ tb_ok ap_ok ?_
  · refine midN_in ?_ .nil _ ?_ ?_ ?_
    · exact (.cons rfl (slOne hS) (.cons rfl (slOne hSk) (.cons rfl ⟨_, rfl⟩ .nil)))
    · exact (.cons (win_row hg (dlCons (dNd rfl (slOne hS)) (dlCons (dNd rfl (slOne hSk)) dlNil))) .nil)
    · exact sepOk_ro rfl
    · exact (.cons (⟨_, _, (dNd rfl (slOne hSk)), (dNd rfl ⟨_, rfl⟩), slLen hSk⟩) .nil)
  · exact (envEq rfl (dNd rfl (slOne hSk)) (envEq rfl (dFn' dlNil (dlCons (dPtr (l := l) (o := 0) rfl) dlNil)) envNil))
  refine all1 (by kernel_rfl) ?_
  intro vs ls H1 E1 st hE
  have b2 : E1 8 = .int .i64 0 := env_of st.inn hE 8 (by kernel_rfl)
  have b3 : E1 7 = .int .i64 (ks.length : Int) := env_of st.inn hE 7 (by kernel_rfl)
  have b4 : E1 1 = .func 98 [] [.ptr l 0] := env_of st.inn hE 1 (by kernel_rfl)
  have b5 : E1 0 = Sk := env_of st.inn hE 0 (by kernel_rfl)
  have g6 : Grew H H1 := (st.kept.grew (Nat.le_of_ble_eq_true (by kernel_rfl)))
  have g7 : Grew H H1 := Grew.trans (Grew.refl _) g6
  have r8 := g6.at hg
  clear st hE vs ls
  refine res_scan (by kernel_rfl) [(7, .int .i64 (ks.length : Int)), (1, .func 98 [] [.ptr l 0]), (0, Sk)] 8 ks.length (fun i => ∀ j, j < i → (!okK ms.length (ks.getD j [])) = false) (.cons b3 (.cons b4 (.cons b5 .nil))) b2 (Grew.refl _) upTo0 ?_
  intro i9 hli9 hIi9 Ei9 Hi9 hsi9 hci9 hgi9
  have g10 : Grew H Hi9 := Grew.trans g7 hgi9
  have r11 := hgi9.at r8
  refine run_mn (φ := φ0) (pm := pmR 1 [] 0) 20 (nk := [(.atom 0, .one), (.atom 1, .one), (.atom 2, .int .i64), (.atom 3, .int .i64)]) (fs := []) (xs := [S, Sk, .int .i64 (ks.length : Int), .int .i64 (i9 : Int)]) (ws := [⟨l, 0, [.nd 0 .one, .nd 1 .one], false⟩]) (env := [(7, .nd 2 (.int .i64)), (1, .fn 98 [] [.ptr 0 0]), (0, .nd 1 .one), (8, .nd 3 (.int .i64))]) ?_ ?_ tb_ok ap_ok ?_
  · refine midN_in ?_ .nil _ ?_ ?_ ?_
    · exact (.cons rfl (slOne hS) (.cons rfl (slOne hSk) (.cons rfl ⟨_, rfl⟩ (.cons rfl ⟨_, rfl⟩ .nil))))
    · exact (.cons (win_row r11 (dlCons (dNd rfl (slOne hS)) (dlCons (dNd rfl (slOne hSk)) dlNil))) .nil)
    · exact sepOk_ro rfl
    · exact .nil
  · exact (envEq (hsi9.at 0 rfl) (dNd rfl ⟨_, rfl⟩) (envEq (hsi9.at 1 rfl) (dFn' dlNil (dlCons (dPtr (l := l) (o := 0) rfl) dlNil)) (envEq (hsi9.at 2 rfl) (dNd rfl (slOne hSk)) (envEq hci9 (dNd rfl ⟨_, rfl⟩) envNil))))
  refine all2 (by kernel_rfl) ?_ ?_
  ·
    intro vs ls H12 E12 st hE
    have f13 : (i9 : Int) < (ks.length : Int) := of_decide_eq_true (bfact (x := decide ((i9 : Int) < (ks.length : Int))) st.inn 0 (by kernel_rfl))
    have b14 : E12 12 = Sk := env_of st.inn hE 12 (by kernel_rfl)
    have b15 : E12 13 = .int .i64 (i9 : Int) := env_of st.inn hE 13 (by kernel_rfl)
    have b16 : E12 11 = .func 98 [] [.ptr l 0] := env_of st.inn hE 11 (by kernel_rfl)
    have b17 : E12 5 = .int .i64 (i9 : Int) := env_of st.inn hE 5 (by kernel_rfl)
    have b18 : E12 8 = .int .i64 (i9 : Int) := env_of st.inn hE 8 (by kernel_rfl)
    have b19 : E12 7 = .int .i64 (ks.length : Int) := env_of st.inn hE 7 (by kernel_rfl)
    have b20 : E12 1 = .func 98 [] [.ptr l 0] := env_of st.inn hE 1 (by kernel_rfl)
    have b21 : E12 0 = Sk := env_of st.inn hE 0 (by kernel_rfl)
    have g22 : Grew Hi9 H12 := (st.kept.grew (Nat.le_of_ble_eq_true (by kernel_rfl)))
    have g23 : Grew H H12 := Grew.trans g10 g22
    have g24 : Grew H1 H12 := Grew.trans hgi9 g22
    have r25 := g22.at r11
    clear st hE vs ls
    have hlt26 : i9 < ks.length := by omega
    obtain ⟨lS26, cap26, rest26, wr26, eS26, gB26⟩ := hSk.isSl hlt26
    have gS26 := g23.at gB26
    obtain ⟨v26_0, v26_1, v26_2, v26_3, v26_4, v26_5, hm26, ho26_2, ho26_3, ho26_4, ho26_5⟩ := partsLink (hrk.get hlt26)
    have he26 : ks.getD i9 [] = [.int .i64 v26_0, .int .i64 v26_1, .flt .f32 v26_2, .flt .f32 v26_3, .flt .f32 v26_4, .flt .f32 v26_5] := by rw [← hm26]; simp [List.getD_eq_getElem?_getD, hlt26]
    refine run_mn (φ := φ0) (pm := pmR 2 [(.ia 6 (.nd 1 .one) (.nd 3 (.int .i64)), .ptr 1 0), (.call 98 [.agg [.nd 4 (.int .i64), .nd 5 (.int .i64), .nd 6 (.flt .f32), .nd 7 (.flt .f32), .nd 8 (.flt .f32), .nd 9 (.flt .f32)], .ptr 0 0], .nd 10 .bool)] 0) 20 (nk := [(.atom 0, .one), (.atom 1, .one), (.atom 2, .int .i64), (.atom 3, .int .i64), (.atom 4, .int .i64), (.atom 5, .int .i64), (.atom 6, .flt .f32), (.atom 7, .flt .f32), (.atom 8, .flt .f32), (.atom 9, .flt .f32), (.atom 10, .bool)]) (fs := []) (xs := [S, Sk, .int .i64 (ks.length : Int), .int .i64 (i9 : Int), .int .i64 v26_0, .int .i64 v26_1, .flt .f32 v26_2, .flt .f32 v26_3, .flt .f32 v26_4, .flt .f32 v26_5, .bool (!okK ms.length [.int .i64 v26_0, .int .i64 v26_1, .flt .f32 v26_2, .flt .f32 v26_3, .flt .f32 v26_4, .flt .f32 v26_5])]) (ws := [⟨l, 0, [.nd 0 .one, .nd 1 .one], false⟩, ⟨lS26, (i9 * 6), [.nd 4 (.int .i64), .nd 5 (.int .i64), .nd 6 (.flt .f32), .nd 7 (.flt .f32), .nd 8 (.flt .f32), .nd 9 (.flt .f32)], false⟩]) (env := [(12, .nd 1 .one), (13, .nd 3 (.int .i64)), (11, .fn 98 [] [.ptr 0 0]), (5, .nd 3 (.int .i64)), (8, .nd 3 (.int .i64)), (7, .nd 2 (.int .i64)), (1, .fn 98 [] [.ptr 0 0]), (0, .nd 1 .one)]) ?_ ?_ tb_ok ap_ok ?_
    · refine midN_in ?_ .nil _ ?_ ?_ ?_
      · exact (.cons rfl (slOne hS) (.cons rfl (slOne hSk) (.cons rfl ⟨_, rfl⟩ (.cons rfl ⟨_, rfl⟩ (.cons rfl ⟨_, rfl⟩ (.cons rfl ⟨_, rfl⟩ (.cons rfl ⟨_, rfl, ho26_2⟩ (.cons rfl ⟨_, rfl, ho26_3⟩ (.cons rfl ⟨_, rfl, ho26_4⟩ (.cons rfl ⟨_, rfl, ho26_5⟩ (.cons rfl ⟨_, rfl⟩ .nil)))))))))))
      · exact (.cons (win_row r25 (dlCons (dNd rfl (slOne hS)) (dlCons (dNd rfl (slOne hSk)) dlNil))) (.cons (win_elem hrk gS26 hlt26 rfl (by rw [hm26]; exact (dlCons (dNd rfl ⟨_, rfl⟩) (dlCons (dNd rfl ⟨_, rfl⟩) (dlCons (dNd rfl ⟨_, rfl, ho26_2⟩) (dlCons (dNd rfl ⟨_, rfl, ho26_3⟩) (dlCons (dNd rfl ⟨_, rfl, ho26_4⟩) (dlCons (dNd rfl ⟨_, rfl, ho26_5⟩) dlNil)))))))) .nil))
      · exact sepOk_ro rfl
      · exact (.cons (rule_iaS (k := i9) (dNd rfl (slOne hSk)) eS26 (dNd rfl ⟨_, rfl⟩) hlt26 rfl) (.cons (rule_call (args := [.agg [.int .i64 v26_0, .int .i64 v26_1, .flt .f32 v26_2, .flt .f32 v26_3, .flt .f32 v26_4, .flt .f32 v26_5], .ptr l 0]) (dlCons (dAgg (dlCons (dNd rfl ⟨_, rfl⟩) (dlCons (dNd rfl ⟨_, rfl⟩) (dlCons (dNd rfl ⟨_, rfl, ho26_2⟩) (dlCons (dNd rfl ⟨_, rfl, ho26_3⟩) (dlCons (dNd rfl ⟨_, rfl, ho26_4⟩) (dlCons (dNd rfl ⟨_, rfl, ho26_5⟩) dlNil))))))) (dlCons (dPtr (l := l) (o := 0) rfl) dlNil)) (dNd rfl ⟨_, rfl⟩) (fun H9 hk => k_fn2 H9 ms S (hS.grew (Grew.trans g23 (hk.grew (Nat.le_refl _)))) hmx Sk (slOne hSk) l ((hk.grew (Nat.le_refl _)).at r25) v26_0 v26_1 v26_2 v26_3 v26_4 v26_5 ho26_2 ho26_3 ho26_4 ho26_5)) .nil))
    · exact (envEq b14 (dNd rfl (slOne hSk)) (envEq b15 (dNd rfl ⟨_, rfl⟩) (envEq b16 (dFn' dlNil (dlCons (dPtr (l := l) (o := 0) rfl) dlNil)) (envEq b17 (dNd rfl ⟨_, rfl⟩) (envEq b18 (dNd rfl ⟨_, rfl⟩) (envEq b19 (dNd rfl ⟨_, rfl⟩) (envEq b20 (dFn' dlNil (dlCons (dPtr (l := l) (o := 0) rfl) dlNil)) (envEq b21 (dNd rfl (slOne hSk)) envNil))))))))
    refine all2 (by kernel_rfl) ?_ ?_
    ·
      intro vs ls H27 E27 st hE
      have f28 : (!okK ms.length [.int .i64 v26_0, .int .i64 v26_1, .flt .f32 v26_2, .flt .f32 v26_3, .flt .f32 v26_4, .flt .f32 v26_5]) = true := bfact st.inn 0 (by kernel_rfl)
      refine res_ret (by kernel_rfl) (end_flat st.inn hE (.inr rfl) (a := .int .i64 (i9 : Int)) (by kernel_rfl) (Grew.trans g23 (st.kept.grew (Nat.le_of_ble_eq_true (by kernel_rfl)))) rfl ⟨?_, rfl⟩)
      rw [idxF_at hlt26 hIi9 (by show (!okK ms.length _) = true; rw [he26]; simpa using f28)]
    ·
      intro vs ls H29 E29 st hE
      have f30 : (!okK ms.length [.int .i64 v26_0, .int .i64 v26_1, .flt .f32 v26_2, .flt .f32 v26_3, .flt .f32 v26_4, .flt .f32 v26_5]) = false := bfact st.inn 0 (by kernel_rfl)
      have hlti9 : i9 < ks.length := by omega
      refine res_next (sl := [(7, .int .i64 (ks.length : Int)), (1, .func 98 [] [.ptr l 0]), (0, Sk)]) (ti := 8) (i := i9) (Inv := fun i => ∀ j, j < i → (!okK ms.length (ks.getD j [])) = false) (by kernel_rfl) st.inn hE hlti9 (by kernel_rfl) (w := (IntKind.wrap .i64 ((i9 : Int) + 1))) (by kernel_rfl) (wrap64 (by omega)) (Grew.trans g24 (st.kept.grew (Nat.le_of_ble_eq_true (by kernel_rfl)))) ?_
      exact upTo hIi9 (by rw [he26]; simpa using f30)
  ·
    intro vs ls H31 E31 st hE
    have f32 : ¬ ((i9 : Int) < (ks.length : Int)) := of_decide_eq_false (bfact (x := decide ((i9 : Int) < (ks.length : Int))) st.inn 0 (by kernel_rfl))
    have b33 : E31 8 = .int .i64 (i9 : Int) := env_of st.inn hE 8 (by kernel_rfl)
    have b34 : E31 7 = .int .i64 (ks.length : Int) := env_of st.inn hE 7 (by kernel_rfl)
    obtain ⟨w35, hw35⟩ : ∃ z, z = (decide ((i9 : Int) < (ks.length : Int))) := ⟨_, rfl⟩
    have b36 : E31 9 = .bool w35 := by rw [hw35]; exact env_of st.inn hE 9 (by kernel_rfl)
    have b37 : E31 1 = .func 98 [] [.ptr l 0] := env_of st.inn hE 1 (by kernel_rfl)
    have b38 : E31 0 = Sk := env_of st.inn hE 0 (by kernel_rfl)
    have g39 : Grew Hi9 H31 := (st.kept.grew (Nat.le_of_ble_eq_true (by kernel_rfl)))
    have g40 : Grew H H31 := Grew.trans g10 g39
    have g41 : Grew H1 H31 := Grew.trans hgi9 g39
    have r42 := g39.at r11
    clear st hE vs ls
    refine res_exit (id := 0) (by kernel_rfl) ?_
    refine run_mn (φ := φ0) (pm := pmR 1 [] 0) 20 (nk := [(.atom 0, .one), (.atom 1, .one), (.atom 2, .int .i64), (.atom 3, .int .i64), (.atom 4, .bool)]) (fs := []) (xs := [S, Sk, .int .i64 (ks.length : Int), .int .i64 (i9 : Int), .bool w35]) (ws := [⟨l, 0, [.nd 0 .one, .nd 1 .one], false⟩]) (env := [(8, .nd 3 (.int .i64)), (7, .nd 2 (.int .i64)), (9, .nd 4 .bool), (1, .fn 98 [] [.ptr 0 0]), (0, .nd 1 .one)]) ?_ ?_ tb_ok ap_ok ?_
    · refine midN_in ?_ .nil _ ?_ ?_ ?_
      · exact (.cons rfl (slOne hS) (.cons rfl (slOne hSk) (.cons rfl ⟨_, rfl⟩ (.cons rfl ⟨_, rfl⟩ (.cons rfl ⟨_, rfl⟩ .nil)))))
      · exact (.cons (win_row r42 (dlCons (dNd rfl (slOne hS)) (dlCons (dNd rfl (slOne hSk)) dlNil))) .nil)
      · exact sepOk_ro rfl
      · exact .nil
    · exact (envEq b33 (dNd rfl ⟨_, rfl⟩) (envEq b34 (dNd rfl ⟨_, rfl⟩) (envEq b36 (dNd rfl ⟨_, rfl⟩) (envEq b37 (dFn' dlNil (dlCons (dPtr (l := l) (o := 0) rfl) dlNil)) (envEq b38 (dNd rfl (slOne hSk)) envNil)))))
    refine all1 (by kernel_rfl) ?_
    intro vs ls H43 E43 st hE
    refine res_ex (by kernel_rfl) (end_flat st.inn hE (.inr rfl) (a := .int .i64 (-1)) (by kernel_rfl) (Grew.trans g40 (st.kept.grew (Nat.le_of_ble_eq_true (by kernel_rfl)))) rfl ⟨?_, rfl⟩)
    rw [idxF_none (fun j hj => hIi9 j (by omega))]
theorem k_ContainsP (H : AHeap) (ms : List (List AV)) (hr : Recs KP ms) (S : AV) (hS : SlL H 3 ms S) (hmx : ms.length < 2 ^ 40) : APure Try.prog 58 [S, .func 96 [] []] H (.bool (!allB (fun i => finP (ms.getD i [])) ms.length)) := by
  refine res_start h_slices_ContainsFunc_impl_Pose_impl_Pose (by simp) ?_
  refine run_mn (φ := φ0) (pm := pmR 0 [(.call 90 [.nd 0 .one, .fn 96 [] []], .nd 1 (.int .i64))] 0) 20 (nk := [(.atom 0, .one), (.atom 1, .int .i64)]) (fs := []) (xs := [S, .int .i64 (idxF (fun i => !finP (ms.getD i [])) ms.length)]) (ws := []) (env := [(0, .nd 0 .one), (1, .fn 96 [] [])]) ?_ ?_ tb_ok ap_ok ?_
  · refine midN_in ?_ .nil _ ?_ ?_ ?_
    · exact (.cons rfl (slOne hS) (.cons rfl ⟨_, rfl⟩ .nil))
    · exact .nil
    · exact sepOk_ro rfl
    · exact (.cons (rule_call (args := [S, .func 96 [] []]) (dlCons (dNd rfl (slOne hS)) (dlCons (dFn' dlNil dlNil) dlNil)) (dNd rfl ⟨_, rfl⟩) (fun H9 hk => k_IndexP H9 ms hr S (hS.grew (Grew.trans (Grew.refl _) (hk.grew (Nat.le_refl _)))) hmx)) .nil)
  · exact (envEq rfl (dNd rfl (slOne hS)) (envEq rfl (dFn' dlNil dlNil) envNil))
  refine all1 (by kernel_rfl) ?_
  intro vs ls H1 E1 st hE
  refine res_ex (by kernel_rfl) (end_flat st.inn hE (.inr rfl) (a := .bool (!(decide ((idxF (fun i => !finP (ms.getD i [])) ms.length) < 0)))) (by kernel_rfl) (Grew.trans (Grew.refl _) (st.kept.grew (Nat.le_of_ble_eq_true (by kernel_rfl)))) rfl ⟨?_, rfl⟩)
  rw [idxF_pos]
theorem k_ContainsL (H : AHeap) (ms : List (List AV)) (S : AV) (hS : SlL H 3 ms S) (hmx : ms.length < 2 ^ 40) (ks : List (List AV)) (hrk : Recs KL ks) (Sk : AV) (hSk : SlL H 6 ks Sk) (hmxk : ks.length < 2 ^ 40) (l : Nat) (hg : H.get l = some (.row [S, Sk] true)) : APure Try.prog 97 [Sk, .func 98 [] [.ptr l 0]] H (.bool (!allB (fun i => okK ms.length (ks.getD i [])) ks.length)) := by
  refine res_start h_slices_ContainsFunc_impl_Link_impl_Link (by simp) ?_
  refine run_mn (φ := φ0) (pm := pmR 1 [(.call 118 [.nd 1 .one, .fn 98 [] [.ptr 0 0]], .nd 2 (.int .i64))] 0) 20 (nk := [(.atom 0, .one), (.atom 1, .one), (.atom 2, .int .i64)]) (fs := []) (xs := [S, Sk, .int .i64 (idxF (fun i => !okK ms.length (ks.getD i [])) ks.length)]) (ws := [⟨l, 0, [.nd 0 .one, .nd 1 .one], false⟩]) (env := [(0, .nd 1 .one), (1, .fn 98 [] [.ptr 0 0])]) ?_ ?_ tb_ok ap_ok ?_
  · refine midN_in ?_ .nil _ ?_ ?_ ?_
    · exact (.cons rfl (slOne hS) (.cons rfl (slOne hSk) (.cons rfl ⟨_, rfl⟩ .nil)))
    · exact (.cons (win_row hg (dlCons (dNd rfl (slOne hS)) (dlCons (dNd rfl (slOne hSk)) dlNil))) .nil)
    · exact sepOk_ro rfl
    · exact (.cons (rule_call (args := [Sk, .func 98 [] [.ptr l 0]]) (dlCons (dNd rfl (slOne hSk)) (dlCons (dFn' dlNil (dlCons (dPtr (l := l) (o := 0) rfl) dlNil)) dlNil)) (dNd rfl ⟨_, rfl⟩) (fun H9 hk => k_IndexL H9 ms S (hS.grew (Grew.trans (Grew.refl _) (hk.grew (Nat.le_refl _)))) hmx ks hrk Sk (hSk.grew (Grew.trans (Grew.refl _) (hk.grew (Nat.le_refl _)))) hmxk l ((hk.grew (Nat.le_refl _)).at hg))) .nil)
  · exact (envEq rfl (dNd rfl (slOne hSk)) (envEq rfl (dFn' dlNil (dlCons (dPtr (l := l) (o := 0) rfl) dlNil)) envNil))
  refine all1 (by kernel_rfl) ?_
  intro vs ls H1 E1 st hE
  refine res_ex (by kernel_rfl) (end_flat st.inn hE (.inr rfl) (a := .bool (!(decide ((idxF (fun i => !okK ms.length (ks.getD i [])) ks.length) < 0)))) (by kernel_rfl) (Grew.trans (Grew.refl _) (st.kept.grew (Nat.le_of_ble_eq_true (by kernel_rfl)))) rfl ⟨?_, rfl⟩)
  rw [idxF_pos]
theorem k_impl_ValidGraph (H : AHeap) (ms : List (List AV)) (hr : Recs KP ms) (S : AV) (hS : SlL H 3 ms S) (hmx : ms.length < 2 ^ 40) (ks : List (List AV)) (hrk : Recs KL ks) (Sk : AV) (hSk : SlL H 6 ks Sk) (hmxk : ks.length < 2 ^ 40) : APure Try.prog 64 [.agg [S, Sk]] H (.bool (okG ms ks)) := by
  refine res_start h_impl_ValidGraph (by simp) ?_
  refine run_mn (φ := φ0) (pm := pmR 0 [(.len (.nd 0 .one), .nd 2 (.int .i64)), (.len (.nd 1 .one), .nd 3 (.int .i64)), (.call 58 [.nd 0 .one, .fn 96 [] []], .nd 4 .bool)] 0) 20 (nk := [(.atom 0, .one), (.atom 1, .one), (.atom 2, .int .i64), (.atom 3, .int .i64), (.atom 4, .bool)]) (fs := []) (xs := [S, Sk, .int .i64 (ms.length : Int), .int .i64 (ks.length : Int), .bool (!allB (fun i => finP (ms.getD i [])) ms.length)]) (ws := []) (env := [(0, .agg [.nd 0 .one, .nd 1 .one])]) ?_ ?_ tb_ok ap_ok ?_
  · refine midN_in ?_ .nil _ ?_ ?_ ?_
    · exact (.cons rfl (slOne hS) (.cons rfl (slOne hSk) (.cons rfl ⟨_, rfl⟩ (.cons rfl ⟨_, rfl⟩ (.cons rfl ⟨_, rfl⟩ .nil)))))
    · exact .nil
    · exact sepOk_ro rfl
    · exact (.cons (⟨_, _, (dNd rfl (slOne hS)), (dNd rfl ⟨_, rfl⟩), slLen hS⟩) (.cons (⟨_, _, (dNd rfl (slOne hSk)), (dNd rfl ⟨_, rfl⟩), slLen hSk⟩) (.cons (rule_call (args := [S, .func 96 [] []]) (dlCons (dNd rfl (slOne hS)) (dlCons (dFn' dlNil dlNil) dlNil)) (dNd rfl ⟨_, rfl⟩) (fun H9 hk => k_ContainsP H9 ms hr S (hS.grew (Grew.trans (Grew.refl _) (hk.grew (Nat.le_refl _)))) hmx)) .nil)))
  · exact (envEq rfl (dAgg (dlCons (dNd rfl (slOne hS)) (dlCons (dNd rfl (slOne hSk)) dlNil))) envNil)
  refine all5 (by kernel_rfl) ?_ ?_ ?_ ?_ ?_
  ·
    intro vs ls H1 E1 st hE
    have f2 : 60 < (ms.length : Int) := of_decide_eq_true (bfact (x := decide (60 < (ms.length : Int))) st.inn 0 (by kernel_rfl))
    have f3 : ¬ ((ms.length : Int) < 1) := of_decide_eq_false (bfact (x := decide ((ms.length : Int) < 1)) st.inn 1 (by kernel_rfl))
    refine res_ex (by kernel_rfl) (end_flat st.inn hE (.inr rfl) (a := .bool false) (by kernel_rfl) (Grew.trans (Grew.refl _) (st.kept.grew (Nat.le_of_ble_eq_true (by kernel_rfl)))) rfl ⟨?_, rfl⟩)
    first | (rw [okG, decide_eq_false (by omega)]; rfl) | skip
    all_goals (rw [okG, decide_eq_true (by omega), Bool.true_and])
    all_goals (rcases hA : allB (fun i => finP (ms.getD i [])) ms.length with _ | _ <;> rcases hB : allB (fun i => okK ms.length (ks.getD i [])) ks.length with _ | _ <;> first | rfl)
  ·
    intro vs ls H4 E4 st hE
    have f5 : 120 < (ks.length : Int) := of_decide_eq_true (bfact (x := decide (120 < (ks.length : Int))) st.inn 0 (by kernel_rfl))
    have f6 : ¬ (60 < (ms.length : Int)) := of_decide_eq_false (bfact (x := decide (60 < (ms.length : Int))) st.inn 1 (by kernel_rfl))
    have f7 : ¬ ((ms.length : Int) < 1) := of_decide_eq_false (bfact (x := decide ((ms.length : Int) < 1)) st.inn 2 (by kernel_rfl))
    refine res_ex (by kernel_rfl) (end_flat st.inn hE (.inr rfl) (a := .bool false) (by kernel_rfl) (Grew.trans (Grew.refl _) (st.kept.grew (Nat.le_of_ble_eq_true (by kernel_rfl)))) rfl ⟨?_, rfl⟩)
    first | (rw [okG, decide_eq_false (by omega)]; rfl) | skip
    all_goals (rw [okG, decide_eq_true (by omega), Bool.true_and])
    all_goals (rcases hA : allB (fun i => finP (ms.getD i [])) ms.length with _ | _ <;> rcases hB : allB (fun i => okK ms.length (ks.getD i [])) ks.length with _ | _ <;> first | rfl)
  ·
    intro vs ls H8 E8 st hE
    have f9 : (!allB (fun i => finP (ms.getD i [])) ms.length) = false := bfact st.inn 0 (by kernel_rfl)
    have f10 : ¬ (120 < (ks.length : Int)) := of_decide_eq_false (bfact (x := decide (120 < (ks.length : Int))) st.inn 1 (by kernel_rfl))
    have f11 : ¬ (60 < (ms.length : Int)) := of_decide_eq_false (bfact (x := decide (60 < (ms.length : Int))) st.inn 2 (by kernel_rfl))
    have f12 : ¬ ((ms.length : Int) < 1) := of_decide_eq_false (bfact (x := decide ((ms.length : Int) < 1)) st.inn 3 (by kernel_rfl))
    obtain ⟨p13, e14, r15, n16⟩ := ptr_of st.inn hE 1 0 (by kernel_rfl) (ds := [S, Sk]) (by kernel_rfl)
    have op13 : H.next ≤ p13 := Nat.le_trans (Nat.le_refl _) (n16 (Nat.le_of_ble_eq_true rfl))
    have b17 : E8 20 = Sk := env_of st.inn hE 20 (by kernel_rfl)
    have b18 : E8 21 = .func 98 [] [.ptr p13 0] := fn_of1 (j := 0) st.inn hE 21 (by kernel_rfl) 1 (by kernel_rfl) e14
    obtain ⟨w19, hw19⟩ : ∃ z, z = (!(!allB (fun i => finP (ms.getD i [])) ms.length)) := ⟨_, rfl⟩
    have b20 : E8 18 = .bool w19 := by rw [hw19]; exact env_of st.inn hE 18 (by kernel_rfl)
    have g21 : Grew H H8 := (st.kept.grew (Nat.le_of_ble_eq_true (by kernel_rfl)))
    have g22 : Grew H H8 := Grew.trans (Grew.refl _) g21
    clear st hE vs ls
    have gd23 : E8 18 = .bool true := by rw [b20]; rw [hw19]; simp only [f9, f10, f11, f12, Bool.not_true, Bool.not_false]
    refine res_callg (d := (some 22)) (f := 97) (args := [.tmp 20, .tmp 21]) (g := 18) (b := true) (r := .bool (!allB (fun i => okK ms.length (ks.getD i [])) ks.length)) (by kernel_rfl) gd23 ?_ ?_
    · show ACalls _ _ [E8 20, E8 21] _ _
      rw [b17, b18]
      exact k_ContainsL H8 ms S (hS.grew g22) hmx ks hrk Sk (hSk.grew g22) hmxk p13 r15
    refine run_mn (φ := φ0) (pm := pmR 1 [] 0) 20 (nk := [(.atom 0, .one), (.atom 1, .one), (.atom 2, .int .i64), (.atom 3, .int .i64), (.atom 4, .bool), (.atom 5, .bool), (.atom 6, .bool)]) (fs := []) (xs := [S, Sk, .int .i64 (ms.length : Int), .int .i64 (ks.length : Int), .bool (!allB (fun i => finP (ms.getD i [])) ms.length), .bool w19, .bool (!allB (fun i => okK ms.length (ks.getD i [])) ks.length)]) (ws := [⟨p13, 0, [.nd 0 .one, .nd 1 .one], false⟩]) (env := [(20, .nd 1 .one), (21, .fn 98 [] [.ptr 0 0]), (18, .lit (.bool true)), (1, .ptr 0 0), (22, .nd 6 .bool)]) ?_ ?_ tb_ok ap_ok ?_
    · refine midN_in ?_ .nil _ ?_ ?_ ?_
      · exact (.cons rfl (slOne hS) (.cons rfl (slOne hSk) (.cons rfl ⟨_, rfl⟩ (.cons rfl ⟨_, rfl⟩ (.cons rfl ⟨_, rfl⟩ (.cons rfl ⟨_, rfl⟩ (.cons rfl ⟨_, rfl⟩ .nil)))))))
      · exact (.cons (win_row r15 (dlCons (dNd rfl (slOne hS)) (dlCons (dNd rfl (slOne hSk)) dlNil))) .nil)
      · exact sepOk_ro rfl
      · exact .nil
    · exact (envEq (put_ne rfl b17) (dNd rfl (slOne hSk)) (envEq (put_ne rfl b18) (dFn' dlNil (dlCons (dPtr (l := p13) (o := 0) rfl) dlNil)) (envEq (put_ne rfl gd23) (dLit rfl) (envEq (put_ne rfl e14) (dPtr (l := p13) (o := 0) rfl) (envEq put_same (dNd rfl ⟨_, rfl⟩) envNil)))))
    refine all1 (by kernel_rfl) ?_
    intro vs ls H24 E24 st hE
    refine res_ex (by kernel_rfl) (end_flat st.inn hE (.inr rfl) (a := .bool (!(!allB (fun i => okK ms.length (ks.getD i [])) ks.length))) (by kernel_rfl) (Grew.trans g22 (st.kept.grew (Nat.le_of_ble_eq_true (by kernel_rfl)))) rfl ⟨?_, rfl⟩)
    skip
    all_goals (rw [okG, decide_eq_true (by omega), Bool.true_and])
    all_goals (rcases hA : allB (fun i => finP (ms.getD i [])) ms.length with _ | _ <;> rcases hB : allB (fun i => okK ms.length (ks.getD i [])) ks.length with _ | _ <;> first | rfl | (rw [hA] at f9; cases f9) | (rw [hB] at f9; cases f9))
  ·
    intro vs ls H25 E25 st hE
    have f26 : (!allB (fun i => finP (ms.getD i [])) ms.length) = true := bfact st.inn 0 (by kernel_rfl)
    have f27 : ¬ (120 < (ks.length : Int)) := of_decide_eq_false (bfact (x := decide (120 < (ks.length : Int))) st.inn 1 (by kernel_rfl))
    have f28 : ¬ (60 < (ms.length : Int)) := of_decide_eq_false (bfact (x := decide (60 < (ms.length : Int))) st.inn 2 (by kernel_rfl))
    have f29 : ¬ ((ms.length : Int) < 1) := of_decide_eq_false (bfact (x := decide ((ms.length : Int) < 1)) st.inn 3 (by kernel_rfl))
    refine res_ex (by kernel_rfl) (end_flat st.inn hE (.inr rfl) (a := .bool false) (by kernel_rfl) (Grew.trans (Grew.refl _) (st.kept.grew (Nat.le_of_ble_eq_true (by kernel_rfl)))) rfl ⟨?_, rfl⟩)
    first | (rw [okG, decide_eq_false (by omega)]; rfl) | skip
    all_goals (rw [okG, decide_eq_true (by omega), Bool.true_and])
    all_goals (rcases hA : allB (fun i => finP (ms.getD i [])) ms.length with _ | _ <;> rcases hB : allB (fun i => okK ms.length (ks.getD i [])) ks.length with _ | _ <;> first | rfl | (rw [hA] at f26; cases f26) | (rw [hB] at f26; cases f26))
  ·
    intro vs ls H30 E30 st hE
    have f31 : (ms.length : Int) < 1 := of_decide_eq_true (bfact (x := decide ((ms.length : Int) < 1)) st.inn 0 (by kernel_rfl))
    refine res_ex (by kernel_rfl) (end_flat st.inn hE (.inr rfl) (a := .bool false) (by kernel_rfl) (Grew.trans (Grew.refl _) (st.kept.grew (Nat.le_of_ble_eq_true (by kernel_rfl)))) rfl ⟨?_, rfl⟩)
    first | (rw [okG, decide_eq_false (by omega)]; rfl) | skip
    all_goals (rw [okG, decide_eq_true (by omega), Bool.true_and])
    all_goals (rcases hA : allB (fun i => finP (ms.getD i [])) ms.length with _ | _ <;> rcases hB : allB (fun i => okK ms.length (ks.getD i [])) ks.length with _ | _ <;> first | rfl)
end Go.Proofs.Ytcmoeocemmeofaa
