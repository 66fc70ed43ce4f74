/- Contracts: costs of graphs; what links are off, by both. -/
import Derived.Test.YtllgmcgdkhnilaaResA
set_option linter.unusedVariables false
set_option linter.unusedSimpArgs false
namespace Go.Proofs.Ytllgmcgdkhnilaa
open Go.Ab
set_option maxRecDepth 100000
set_option maxHeartbeats 1000000
attribute [local irreducible] Res
theorem k_cost (H : AHeap) (ms : List (List AV)) (hr : Recs KP ms) (S : AV) (hS : SlL H 3 ms S) (hmx : ms.length < 2 ^ 40) (ks : List (List AV)) (hrk : Recs KL ks) (Sk : AV) (hSk : SlL H 6 ks Sk) (hmxk : ks.length < 2 ^ 40) (hok : okG ms ks = true) : APure Try.prog 91 [.agg [S, Sk]] H (.flt .f32 (costF ms ks ks.length)) := by
  refine res_start h_impl_PoseGraph_cost (by simp) ?_
  refine run_mn (φ := φ0) (pm := pmR 0 [(.len (.nd 1 .one), .nd 2 (.int .i64))] 0) 20 (nk := [(.atom 0, .one), (.atom 1, .one), (.atom 2, .int .i64)]) (fs := []) (xs := [S, Sk, .int .i64 (ks.length : Int)]) (ws := []) (env := [(0, .agg [.nd 0 .one, .nd 1 .one])]) ?_ ?_ tb_ok ap_ok ?_
  · refine midN_in ?_ .nil _ ?_ ?_ ?_
    · exact (.cons rfl (slOne hS) (.cons rfl (slOne hSk) (.cons rfl ⟨_, rfl⟩ .nil)))
    · exact .nil
    · exact sepOk_ro rfl
    · exact (.cons (⟨_, _, (dNd rfl (slOne hSk)), (dNd rfl ⟨_, rfl⟩), slLen hSk⟩) .nil)
  · exact (envEq rfl (dAgg (dlCons (dNd rfl (slOne hS)) (dlCons (dNd rfl (slOne hSk)) dlNil))) envNil)
  refine all1 (by kernel_rfl) ?_
  intro vs ls H1 E1 st hE
  obtain ⟨p2, e3, r4, n5⟩ := ptr_of st.inn hE 1 0 (by kernel_rfl) (ds := [S, Sk]) (by kernel_rfl)
  have op2 : H.next ≤ p2 := Nat.le_trans (Nat.le_refl _) (n5 (Nat.le_of_ble_eq_true rfl))
  have b6 : E1 9 = .int .i64 0 := env_of st.inn hE 9 (by kernel_rfl)
  have b7 : E1 8 = .int .i64 (ks.length : Int) := env_of st.inn hE 8 (by kernel_rfl)
  have b8 : E1 7 = Sk := env_of st.inn hE 7 (by kernel_rfl)
  have b9 : E1 3 = .flt .f32 (some 0) := env_of st.inn hE 3 (by kernel_rfl)
  have g10 : Grew H H1 := (st.kept.grew (Nat.le_of_ble_eq_true (by kernel_rfl)))
  have g11 : Grew H H1 := Grew.trans (Grew.refl _) g10
  clear st hE vs ls
  refine res_scanv (by kernel_rfl) (fun i => [(8, .int .i64 (ks.length : Int)), (7, Sk), (3, .flt .f32 (costF ms ks i)), (1, .ptr p2 0)]) 9 0 ks.length (fun i => True) (Nat.zero_le _) (.cons b7 (.cons b8 (.cons b9 (.cons e3 .nil)))) b6 (Grew.refl _) trivial ?_
  intro i12 hoi12 hli12 hIi12 Ei12 Hi12 hsi12 hci12 hgi12
  have g13 : Grew H Hi12 := Grew.trans g11 hgi12
  have r14 := hgi12.at r4
  refine run_mn (φ := φ0) (pm := pmR 1 [] 0) 20 (nk := [(.atom 0, .one), (.atom 1, .one), (.atom 2, .int .i64), (.atom 3, .flt .f32), (.atom 4, .int .i64)]) (fs := []) (xs := [S, Sk, .int .i64 (ks.length : Int), .flt .f32 (costF ms ks i12), .int .i64 (i12 : Int)]) (ws := [⟨p2, 0, [.nd 0 .one, .nd 1 .one], false⟩]) (env := [(8, .nd 2 (.int .i64)), (7, .nd 1 .one), (3, .nd 3 (.flt .f32)), (1, .ptr 0 0), (9, .nd 4 (.int .i64))]) ?_ ?_ tb_ok ap_ok ?_
  · refine midN_in ?_ .nil _ ?_ ?_ ?_
    · exact (.cons rfl (slOne hS) (.cons rfl (slOne hSk) (.cons rfl ⟨_, rfl⟩ (.cons rfl ⟨_, rfl, costF_ok ms ks i12⟩ (.cons rfl ⟨_, rfl⟩ .nil)))))
    · exact (.cons (win_row r14 (dlCons (dNd rfl (slOne hS)) (dlCons (dNd rfl (slOne hSk)) dlNil))) .nil)
    · exact sepOk_ro rfl
    · exact .nil
  · exact (envEq (hsi12.at 0 rfl) (dNd rfl ⟨_, rfl⟩) (envEq (hsi12.at 1 rfl) (dNd rfl (slOne hSk)) (envEq (hsi12.at 2 rfl) (dNd rfl ⟨_, rfl, costF_ok ms ks i12⟩) (envEq (hsi12.at 3 rfl) (dPtr (l := p2) (o := 0) rfl) (envEq hci12 (dNd rfl ⟨_, rfl⟩) envNil)))))
  refine all2 (by kernel_rfl) ?_ ?_
  ·
    intro vs ls H15 E15 st hE
    have f16 : (i12 : Int) < (ks.length : Int) := of_decide_eq_true (bfact (x := decide ((i12 : Int) < (ks.length : Int))) st.inn 0 (by kernel_rfl))
    have b17 : E15 7 = Sk := env_of st.inn hE 7 (by kernel_rfl)
    have b18 : E15 9 = .int .i64 (i12 : Int) := env_of st.inn hE 9 (by kernel_rfl)
    have b19 : E15 3 = .flt .f32 (costF ms ks i12) := env_of st.inn hE 3 (by kernel_rfl)
    have b20 : E15 1 = .ptr p2 0 := env_of st.inn hE 1 (by kernel_rfl)
    have b21 : E15 8 = .int .i64 (ks.length : Int) := env_of st.inn hE 8 (by kernel_rfl)
    have g22 : Grew Hi12 H15 := (st.kept.grew (Nat.le_of_ble_eq_true (by kernel_rfl)))
    have g23 : Grew H H15 := Grew.trans g13 g22
    have g24 : Grew H1 H15 := Grew.trans hgi12 g22
    have r25 := g22.at r14
    clear st hE vs ls
    have hlt26 : i12 < ks.length := by omega
    obtain ⟨lS26, cap26, rest26, wr26, eS26, gB26⟩ := hSk.isSl hlt26
    have gS26 := g23.at gB26
    have ne27 : Apart p2 lS26 := ⟨Nat.ne_of_gt (Nat.lt_of_lt_of_le (H.lt_of_get gB26) op2)⟩
    obtain ⟨v26_0, v26_1, v26_2, v26_3, v26_4, v26_5, hm26, ho26_2, ho26_3, ho26_4, ho26_5, ha26, hb26, hne26⟩ := okG_link hok hrk i12 hlt26
    have he26 : ks.getD i12 [] = [.int .i64 (v26_0 : Int), .int .i64 (v26_1 : Int), .flt .f32 v26_2, .flt .f32 v26_3, .flt .f32 v26_4, .flt .f32 v26_5] := by rw [← hm26]; simp [List.getD_eq_getElem?_getD, hlt26]
    refine run_mn (φ := φ0) (pm := pmR 2 [(.ia 6 (.nd 1 .one) (.nd 4 (.int .i64)), .ptr 1 0), (.call 113 [.agg [.nd 0 .one, .nd 1 .one], .agg [.nd 5 (.int .i64), .nd 6 (.int .i64), .nd 7 (.flt .f32), .nd 8 (.flt .f32), .nd 9 (.flt .f32), .nd 10 (.flt .f32)]], .nd 11 (.flt .f32))] 0) 20 (nk := [(.atom 0, .one), (.atom 1, .one), (.atom 2, .int .i64), (.atom 3, .flt .f32), (.atom 4, .int .i64), (.atom 5, .int .i64), (.atom 6, .int .i64), (.atom 7, .flt .f32), (.atom 8, .flt .f32), (.atom 9, .flt .f32), (.atom 10, .flt .f32), (.atom 11, .flt .f32)]) (fs := []) (xs := [S, Sk, .int .i64 (ks.length : Int), .flt .f32 (costF ms ks i12), .int .i64 (i12 : Int), .int .i64 (v26_0 : Int), .int .i64 (v26_1 : Int), .flt .f32 v26_2, .flt .f32 v26_3, .flt .f32 v26_4, .flt .f32 v26_5, .flt .f32 (sqF ms [.int .i64 (v26_0 : Int), .int .i64 (v26_1 : Int), .flt .f32 v26_2, .flt .f32 v26_3, .flt .f32 v26_4, .flt .f32 v26_5])]) (ws := [⟨p2, 0, [.nd 0 .one, .nd 1 .one], false⟩, ⟨lS26, (i12 * 6), [.nd 5 (.int .i64), .nd 6 (.int .i64), .nd 7 (.flt .f32), .nd 8 (.flt .f32), .nd 9 (.flt .f32), .nd 10 (.flt .f32)], false⟩]) (env := [(7, .nd 1 .one), (9, .nd 4 (.int .i64)), (3, .nd 3 (.flt .f32)), (1, .ptr 0 0), (8, .nd 2 (.int .i64))]) ?_ ?_ tb_ok ap_ok ?_
    · refine midN_in ?_ .nil _ ?_ ?_ ?_
      · exact (.cons rfl (slOne hS) (.cons rfl (slOne hSk) (.cons rfl ⟨_, rfl⟩ (.cons rfl ⟨_, rfl, costF_ok ms ks i12⟩ (.cons rfl ⟨_, rfl⟩ (.cons rfl ⟨_, rfl⟩ (.cons rfl ⟨_, rfl⟩ (.cons rfl ⟨_, rfl, ho26_2⟩ (.cons rfl ⟨_, rfl, ho26_3⟩ (.cons rfl ⟨_, rfl, ho26_4⟩ (.cons rfl ⟨_, rfl, ho26_5⟩ (.cons rfl ⟨_, rfl, sqF_ok ms [.int .i64 (v26_0 : Int), .int .i64 (v26_1 : Int), .flt .f32 v26_2, .flt .f32 v26_3, .flt .f32 v26_4, .flt .f32 v26_5]⟩ .nil))))))))))))
      · exact (.cons (win_row r25 (dlCons (dNd rfl (slOne hS)) (dlCons (dNd rfl (slOne hSk)) dlNil))) (.cons (win_elem hrk gS26 hlt26 rfl (by rw [hm26]; exact (dlCons (dNd rfl ⟨_, rfl⟩) (dlCons (dNd rfl ⟨_, rfl⟩) (dlCons (dNd rfl ⟨_, rfl, ho26_2⟩) (dlCons (dNd rfl ⟨_, rfl, ho26_3⟩) (dlCons (dNd rfl ⟨_, rfl, ho26_4⟩) (dlCons (dNd rfl ⟨_, rfl, ho26_5⟩) dlNil)))))))) .nil))
      · exact sepOk_ro rfl
      · exact (.cons (rule_iaS (k := i12) (dNd rfl (slOne hSk)) eS26 (dNd rfl ⟨_, rfl⟩) hlt26 rfl) (.cons (rule_call (args := [.agg [S, Sk], .agg [.int .i64 (v26_0 : Int), .int .i64 (v26_1 : Int), .flt .f32 v26_2, .flt .f32 v26_3, .flt .f32 v26_4, .flt .f32 v26_5]]) (dlCons (dAgg (dlCons (dNd rfl (slOne hS)) (dlCons (dNd rfl (slOne hSk)) dlNil))) (dlCons (dAgg (dlCons (dNd rfl ⟨_, rfl⟩) (dlCons (dNd rfl ⟨_, rfl⟩) (dlCons (dNd rfl ⟨_, rfl, ho26_2⟩) (dlCons (dNd rfl ⟨_, rfl, ho26_3⟩) (dlCons (dNd rfl ⟨_, rfl, ho26_4⟩) (dlCons (dNd rfl ⟨_, rfl, ho26_5⟩) dlNil))))))) dlNil)) (dNd rfl ⟨_, rfl, sqF_ok ms [.int .i64 (v26_0 : Int), .int .i64 (v26_1 : Int), .flt .f32 v26_2, .flt .f32 v26_3, .flt .f32 v26_4, .flt .f32 v26_5]⟩) (fun H9 hk => k_costOfLink H9 ms hr S (hS.grew (Grew.trans g23 (hk.grew (Nat.le_refl _)))) hmx Sk (slOne hSk) v26_0 v26_1 ha26 hb26 v26_2 v26_3 v26_4 v26_5 ho26_2 ho26_3 ho26_4 ho26_5)) .nil))
    · exact (envEq b17 (dNd rfl (slOne hSk)) (envEq b18 (dNd rfl ⟨_, rfl⟩) (envEq b19 (dNd rfl ⟨_, rfl, costF_ok ms ks i12⟩) (envEq b20 (dPtr (l := p2) (o := 0) rfl) (envEq b21 (dNd rfl ⟨_, rfl⟩) envNil)))))
    refine all1 (by kernel_rfl) ?_
    intro vs ls H28 E28 st hE
    have hlti12 : i12 < ks.length := by omega
    refine res_nextv (sl := fun i => [(8, .int .i64 (ks.length : Int)), (7, Sk), (3, .flt .f32 (costF ms ks i)), (1, .ptr p2 0)]) (sl' := [(8, .int .i64 (ks.length : Int)), (7, Sk), (3, .flt .f32 (fop .add .f32 (costF ms ks i12) (sqF ms [.int .i64 (v26_0 : Int), .int .i64 (v26_1 : Int), .flt .f32 v26_2, .flt .f32 v26_3, .flt .f32 v26_4, .flt .f32 v26_5]))), (1, .ptr p2 0)]) (ti := 9) (i := i12) (Inv := fun i => True) (by kernel_rfl) st.inn hE hlti12 (by kernel_rfl) ?_ (w := (IntKind.wrap .i64 ((i12 : Int) + 1))) (by kernel_rfl) (wrap64 (by omega)) (Grew.trans g24 (st.kept.grew (Nat.le_of_ble_eq_true (by kernel_rfl)))) ?_
    · show _ = [_, _, _, _]; simp only [costF]; rw [he26]
    trivial
  ·
    intro vs ls H29 E29 st hE
    have f30 : ¬ ((i12 : Int) < (ks.length : Int)) := of_decide_eq_false (bfact (x := decide ((i12 : Int) < (ks.length : Int))) st.inn 0 (by kernel_rfl))
    have b31 : E29 9 = .int .i64 (i12 : Int) := env_of st.inn hE 9 (by kernel_rfl)
    have b32 : E29 8 = .int .i64 (ks.length : Int) := env_of st.inn hE 8 (by kernel_rfl)
    obtain ⟨w33, hw33⟩ : ∃ z, z = (decide ((i12 : Int) < (ks.length : Int))) := ⟨_, rfl⟩
    have b34 : E29 10 = .bool w33 := by rw [hw33]; exact env_of st.inn hE 10 (by kernel_rfl)
    have b35 : E29 7 = Sk := env_of st.inn hE 7 (by kernel_rfl)
    have b36 : E29 3 = .flt .f32 (costF ms ks i12) := env_of st.inn hE 3 (by kernel_rfl)
    have b37 : E29 1 = .ptr p2 0 := env_of st.inn hE 1 (by kernel_rfl)
    have g38 : Grew Hi12 H29 := (st.kept.grew (Nat.le_of_ble_eq_true (by kernel_rfl)))
    have g39 : Grew H H29 := Grew.trans g13 g38
    have g40 : Grew H1 H29 := Grew.trans hgi12 g38
    have r41 := g38.at r14
    clear st hE vs ls
    refine res_exit (id := 0) (by kernel_rfl) ?_
    refine run_mn (φ := φ0) (pm := pmR 1 [] 0) 20 (nk := [(.atom 0, .one), (.atom 1, .one), (.atom 2, .int .i64), (.atom 3, .flt .f32), (.atom 4, .int .i64), (.atom 5, .bool)]) (fs := []) (xs := [S, Sk, .int .i64 (ks.length : Int), .flt .f32 (costF ms ks i12), .int .i64 (i12 : Int), .bool w33]) (ws := [⟨p2, 0, [.nd 0 .one, .nd 1 .one], false⟩]) (env := [(9, .nd 4 (.int .i64)), (8, .nd 2 (.int .i64)), (10, .nd 5 .bool), (7, .nd 1 .one), (3, .nd 3 (.flt .f32)), (1, .ptr 0 0)]) ?_ ?_ tb_ok ap_ok ?_
    · refine midN_in ?_ .nil _ ?_ ?_ ?_
      · exact (.cons rfl (slOne hS) (.cons rfl (slOne hSk) (.cons rfl ⟨_, rfl⟩ (.cons rfl ⟨_, rfl, costF_ok ms ks i12⟩ (.cons rfl ⟨_, rfl⟩ (.cons rfl ⟨_, rfl⟩ .nil))))))
      · exact (.cons (win_row r41 (dlCons (dNd rfl (slOne hS)) (dlCons (dNd rfl (slOne hSk)) dlNil))) .nil)
      · exact sepOk_ro rfl
      · exact .nil
    · exact (envEq b31 (dNd rfl ⟨_, rfl⟩) (envEq b32 (dNd rfl ⟨_, rfl⟩) (envEq b34 (dNd rfl ⟨_, rfl⟩) (envEq b35 (dNd rfl (slOne hSk)) (envEq b36 (dNd rfl ⟨_, rfl, costF_ok ms ks i12⟩) (envEq b37 (dPtr (l := p2) (o := 0) rfl) envNil))))))
    refine all1 (by kernel_rfl) ?_
    intro vs ls H42 E42 st hE
    refine res_ex (by kernel_rfl) (end_flat st.inn hE (.inr rfl) (a := .flt .f32 (costF ms ks i12)) (by kernel_rfl) (Grew.trans g39 (st.kept.grew (Nat.le_of_ble_eq_true (by kernel_rfl)))) rfl ⟨?_, rfl⟩)
    rw [show ks.length = i12 by omega]
theorem k_l06Cost (H : AHeap) (ms : List (List AV)) (hr : Recs KP ms) (S : AV) (hS : SlL H 3 ms S) (hmx : ms.length < 2 ^ 40) (ks : List (List AV)) (hrk : Recs KL ks) (Sk : AV) (hSk : SlL H 6 ks Sk) (hmxk : ks.length < 2 ^ 40) (hok : okG ms ks = true) (lg : Nat) (hg : H.get lg = some (.row [S, Sk] true)) : APure Try.prog 90 [.ptr lg 0] H (.flt .f32 (costF ms ks ks.length)) := by
  refine res_start h_spec_l06Cost (by simp) ?_
  refine run_mn (φ := φ0) (pm := pmR 1 [] 0) 20 (nk := [(.atom 0, .one), (.atom 1, .one)]) (fs := []) (xs := [S, Sk]) (ws := [⟨lg, 0, [.nd 0 .one, .nd 1 .one], false⟩]) (env := [(0, .ptr 0 0)]) ?_ ?_ tb_ok ap_ok ?_
  · refine midN_in ?_ .nil _ ?_ ?_ ?_
    · exact (.cons rfl (slOne hS) (.cons rfl (slOne hSk) .nil))
    · exact (.cons (win_row hg (dlCons (dNd rfl (slOne hS)) (dlCons (dNd rfl (slOne hSk)) dlNil))) .nil)
    · exact sepOk_ro rfl
    · exact .nil
  · exact (envEq rfl (dPtr (l := lg) (o := 0) rfl) envNil)
  refine all1 (by kernel_rfl) ?_
  intro vs ls H1 E1 st hE
  have b2 : E1 4 = .int .i64 0 := env_of st.inn hE 4 (by kernel_rfl)
  have b3 : E1 0 = .ptr lg 0 := env_of st.inn hE 0 (by kernel_rfl)
  have b4 : E1 3 = .flt .f32 (some 0) := env_of st.inn hE 3 (by kernel_rfl)
  have g5 : Grew H H1 := (st.kept.grew (Nat.le_of_ble_eq_true (by kernel_rfl)))
  have g6 : Grew H H1 := Grew.trans (Grew.refl _) g5
  have r7 := g5.at hg
  clear st hE vs ls
  refine res_scanv (by kernel_rfl) (fun i => [(0, .ptr lg 0), (3, .flt .f32 (costF ms ks i))]) 4 0 ks.length (fun i => True) (Nat.zero_le _) (.cons b3 (.cons b4 .nil)) b2 (Grew.refl _) trivial ?_
  intro i8 hoi8 hli8 hIi8 Ei8 Hi8 hsi8 hci8 hgi8
  have g9 : Grew H Hi8 := Grew.trans g6 hgi8
  have r10 := hgi8.at r7
  refine run_mn (φ := φ0) (pm := pmR 1 [(.len (.nd 1 .one), .nd 4 (.int .i64))] 0) 20 (nk := [(.atom 0, .one), (.atom 1, .one), (.atom 2, .flt .f32), (.atom 3, .int .i64), (.atom 4, .int .i64)]) (fs := []) (xs := [S, Sk, .flt .f32 (costF ms ks i8), .int .i64 (i8 : Int), .int .i64 (ks.length : Int)]) (ws := [⟨lg, 0, [.nd 0 .one, .nd 1 .one], false⟩]) (env := [(0, .ptr 0 0), (3, .nd 2 (.flt .f32)), (4, .nd 3 (.int .i64))]) ?_ ?_ tb_ok ap_ok ?_
  · refine midN_in ?_ .nil _ ?_ ?_ ?_
    · exact (.cons rfl (slOne hS) (.cons rfl (slOne hSk) (.cons rfl ⟨_, rfl, costF_ok ms ks i8⟩ (.cons rfl ⟨_, rfl⟩ (.cons rfl ⟨_, rfl⟩ .nil)))))
    · exact (.cons (win_row r10 (dlCons (dNd rfl (slOne hS)) (dlCons (dNd rfl (slOne hSk)) dlNil))) .nil)
    · exact sepOk_ro rfl
    · exact (.cons (⟨_, _, (dNd rfl (slOne hSk)), (dNd rfl ⟨_, rfl⟩), slLen hSk⟩) .nil)
  · exact (envEq (hsi8.at 0 rfl) (dPtr (l := lg) (o := 0) rfl) (envEq (hsi8.at 1 rfl) (dNd rfl ⟨_, rfl, costF_ok ms ks i8⟩) (envEq hci8 (dNd rfl ⟨_, rfl⟩) envNil)))
  refine all2 (by kernel_rfl) ?_ ?_
  ·
    intro vs ls H11 E11 st hE
    have f12 : (i8 : Int) < (ks.length : Int) := of_decide_eq_true (bfact (x := decide ((i8 : Int) < (ks.length : Int))) st.inn 0 (by kernel_rfl))
    have b13 : E11 19 = Sk := env_of st.inn hE 19 (by kernel_rfl)
    have b14 : E11 20 = .int .i64 (i8 : Int) := env_of st.inn hE 20 (by kernel_rfl)
    have b15 : E11 15 = .ptr lg 0 := env_of st.inn hE 15 (by kernel_rfl)
    have b16 : E11 14 = .flt .f32 (costF ms ks i8) := env_of st.inn hE 14 (by kernel_rfl)
    have b17 : E11 4 = .int .i64 (i8 : Int) := env_of st.inn hE 4 (by kernel_rfl)
    have b18 : E11 0 = .ptr lg 0 := env_of st.inn hE 0 (by kernel_rfl)
    have b19 : E11 3 = .flt .f32 (costF ms ks i8) := env_of st.inn hE 3 (by kernel_rfl)
    have g20 : Grew Hi8 H11 := (st.kept.grew (Nat.le_of_ble_eq_true (by kernel_rfl)))
    have g21 : Grew H H11 := Grew.trans g9 g20
    have g22 : Grew H1 H11 := Grew.trans hgi8 g20
    have r23 := g20.at r10
    clear st hE vs ls
    have hlt24 : i8 < ks.length := by omega
    obtain ⟨lS24, cap24, rest24, wr24, eS24, gB24⟩ := hSk.isSl hlt24
    have gS24 := g21.at gB24
    obtain ⟨v24_0, v24_1, v24_2, v24_3, v24_4, v24_5, hm24, ho24_2, ho24_3, ho24_4, ho24_5, ha24, hb24, hne24⟩ := okG_link hok hrk i8 hlt24
    have he24 : ks.getD i8 [] = [.int .i64 (v24_0 : Int), .int .i64 (v24_1 : Int), .flt .f32 v24_2, .flt .f32 v24_3, .flt .f32 v24_4, .flt .f32 v24_5] := by rw [← hm24]; simp [List.getD_eq_getElem?_getD, hlt24]
    refine run_mn (φ := φ0) (pm := pmR 2 [(.ia 6 (.nd 1 .one) (.nd 3 (.int .i64)), .ptr 1 0), (.call 112 [.ptr 0 0, .ptr 1 0], .nd 11 (.flt .f32))] 0) 20 (nk := [(.atom 0, .one), (.atom 1, .one), (.atom 2, .flt .f32), (.atom 3, .int .i64), (.atom 4, .int .i64), (.atom 5, .int .i64), (.atom 6, .int .i64), (.atom 7, .flt .f32), (.atom 8, .flt .f32), (.atom 9, .flt .f32), (.atom 10, .flt .f32), (.atom 11, .flt .f32)]) (fs := []) (xs := [S, Sk, .flt .f32 (costF ms ks i8), .int .i64 (i8 : Int), .int .i64 (ks.length : Int), .int .i64 (v24_0 : Int), .int .i64 (v24_1 : Int), .flt .f32 v24_2, .flt .f32 v24_3, .flt .f32 v24_4, .flt .f32 v24_5, .flt .f32 (sqF ms [.int .i64 (v24_0 : Int), .int .i64 (v24_1 : Int), .flt .f32 v24_2, .flt .f32 v24_3, .flt .f32 v24_4, .flt .f32 v24_5])]) (ws := [⟨lg, 0, [.nd 0 .one, .nd 1 .one], false⟩, ⟨lS24, (i8 * 6), [.nd 5 (.int .i64), .nd 6 (.int .i64), .nd 7 (.flt .f32), .nd 8 (.flt .f32), .nd 9 (.flt .f32), .nd 10 (.flt .f32)], false⟩]) (env := [(19, .nd 1 .one), (20, .nd 3 (.int .i64)), (15, .ptr 0 0), (14, .nd 2 (.flt .f32)), (4, .nd 3 (.int .i64)), (0, .ptr 0 0), (3, .nd 2 (.flt .f32))]) ?_ ?_ tb_ok ap_ok ?_
    · refine midN_in ?_ .nil _ ?_ ?_ ?_
      · exact (.cons rfl (slOne hS) (.cons rfl (slOne hSk) (.cons rfl ⟨_, rfl, costF_ok ms ks i8⟩ (.cons rfl ⟨_, rfl⟩ (.cons rfl ⟨_, rfl⟩ (.cons rfl ⟨_, rfl⟩ (.cons rfl ⟨_, rfl⟩ (.cons rfl ⟨_, rfl, ho24_2⟩ (.cons rfl ⟨_, rfl, ho24_3⟩ (.cons rfl ⟨_, rfl, ho24_4⟩ (.cons rfl ⟨_, rfl, ho24_5⟩ (.cons rfl ⟨_, rfl, sqF_ok ms [.int .i64 (v24_0 : Int), .int .i64 (v24_1 : Int), .flt .f32 v24_2, .flt .f32 v24_3, .flt .f32 v24_4, .flt .f32 v24_5]⟩ .nil))))))))))))
      · exact (.cons (win_row r23 (dlCons (dNd rfl (slOne hS)) (dlCons (dNd rfl (slOne hSk)) dlNil))) (.cons (win_elem hrk gS24 hlt24 rfl (by rw [hm24]; exact (dlCons (dNd rfl ⟨_, rfl⟩) (dlCons (dNd rfl ⟨_, rfl⟩) (dlCons (dNd rfl ⟨_, rfl, ho24_2⟩) (dlCons (dNd rfl ⟨_, rfl, ho24_3⟩) (dlCons (dNd rfl ⟨_, rfl, ho24_4⟩) (dlCons (dNd rfl ⟨_, rfl, ho24_5⟩) dlNil)))))))) .nil))
      · exact sepOk_ro rfl
      · exact (.cons (rule_iaS (k := i8) (dNd rfl (slOne hSk)) eS24 (dNd rfl ⟨_, rfl⟩) hlt24 rfl) (.cons (rule_call (args := [.ptr lg 0, .ptr lS24 ((i8 * 6) + 0)]) (dlCons (dPtr (l := lg) (o := 0) rfl) (dlCons (dPtr (l := lS24) (o := (i8 * 6)) rfl) dlNil)) (dNd rfl ⟨_, rfl, sqF_ok ms [.int .i64 (v24_0 : Int), .int .i64 (v24_1 : Int), .flt .f32 v24_2, .flt .f32 v24_3, .flt .f32 v24_4, .flt .f32 v24_5]⟩) (fun H9 hk => (by obtain ⟨pre, post, g1, g2⟩ := flat_split hrk.len hlt24 rest24; exact k_l06Square H9 ms hr S (hS.grew (Grew.trans g21 (hk.grew (Nat.le_refl _)))) hmx Sk (slOne hSk) v24_0 v24_1 ha24 hb24 v24_2 v24_3 v24_4 v24_5 ho24_2 ho24_3 ho24_4 ho24_5 lg ((hk.grew (Nat.le_refl _)).at r23) _ _ pre post wr24 (by rw [((hk.grew (Nat.le_refl _)).at gS24), g1, hm24]) g2))) .nil))
    · exact (envEq b13 (dNd rfl (slOne hSk)) (envEq b14 (dNd rfl ⟨_, rfl⟩) (envEq b15 (dPtr (l := lg) (o := 0) rfl) (envEq b16 (dNd rfl ⟨_, rfl, costF_ok ms ks i8⟩) (envEq b17 (dNd rfl ⟨_, rfl⟩) (envEq b18 (dPtr (l := lg) (o := 0) rfl) (envEq b19 (dNd rfl ⟨_, rfl, costF_ok ms ks i8⟩) envNil)))))))
    refine all1 (by kernel_rfl) ?_
    intro vs ls H25 E25 st hE
    have hlti8 : i8 < ks.length := by omega
    refine res_nextv (sl := fun i => [(0, .ptr lg 0), (3, .flt .f32 (costF ms ks i))]) (sl' := [(0, .ptr lg 0), (3, .flt .f32 (fop .add .f32 (costF ms ks i8) (sqF ms [.int .i64 (v24_0 : Int), .int .i64 (v24_1 : Int), .flt .f32 v24_2, .flt .f32 v24_3, .flt .f32 v24_4, .flt .f32 v24_5])))]) (ti := 4) (i := i8) (Inv := fun i => True) (by kernel_rfl) st.inn hE hlti8 (by kernel_rfl) ?_ (w := (IntKind.wrap .i64 ((i8 : Int) + 1))) (by kernel_rfl) (wrap64 (by omega)) (Grew.trans g22 (st.kept.grew (Nat.le_of_ble_eq_true (by kernel_rfl)))) ?_
    · show _ = [_, _]; simp only [costF]; rw [he24]
    trivial
  ·
    intro vs ls H26 E26 st hE
    have f27 : ¬ ((i8 : Int) < (ks.length : Int)) := of_decide_eq_false (bfact (x := decide ((i8 : Int) < (ks.length : Int))) st.inn 0 (by kernel_rfl))
    have b28 : E26 4 = .int .i64 (i8 : Int) := env_of st.inn hE 4 (by kernel_rfl)
    have b29 : E26 0 = .ptr lg 0 := env_of st.inn hE 0 (by kernel_rfl)
    have b30 : E26 6 = .ptr lg 0 := env_of st.inn hE 6 (by kernel_rfl)
    have b31 : E26 7 = .ptr lg 0 := env_of st.inn hE 7 (by kernel_rfl)
    have b32 : E26 8 = .ptr lg 1 := env_of st.inn hE 8 (by kernel_rfl)
    have b33 : E26 9 = Sk := env_of st.inn hE 9 (by kernel_rfl)
    have b34 : E26 5 = .int .i64 (i8 : Int) := env_of st.inn hE 5 (by kernel_rfl)
    have b35 : E26 10 = .int .i64 (ks.length : Int) := env_of st.inn hE 10 (by kernel_rfl)
    obtain ⟨w36, hw36⟩ : ∃ z, z = (decide ((i8 : Int) < (ks.length : Int))) := ⟨_, rfl⟩
    have b37 : E26 11 = .bool w36 := by rw [hw36]; exact env_of st.inn hE 11 (by kernel_rfl)
    have b38 : E26 3 = .flt .f32 (costF ms ks i8) := env_of st.inn hE 3 (by kernel_rfl)
    have g39 : Grew Hi8 H26 := (st.kept.grew (Nat.le_of_ble_eq_true (by kernel_rfl)))
    have g40 : Grew H H26 := Grew.trans g9 g39
    have g41 : Grew H1 H26 := Grew.trans hgi8 g39
    have r42 := g39.at r10
    clear st hE vs ls
    refine res_exit (id := 0) (by kernel_rfl) ?_
    refine run_mn (φ := φ0) (pm := pmR 1 [] 0) 20 (nk := [(.atom 0, .one), (.atom 1, .one), (.atom 2, .flt .f32), (.atom 3, .int .i64), (.atom 4, .int .i64), (.atom 5, .bool)]) (fs := []) (xs := [S, Sk, .flt .f32 (costF ms ks i8), .int .i64 (i8 : Int), .int .i64 (ks.length : Int), .bool w36]) (ws := [⟨lg, 0, [.nd 0 .one, .nd 1 .one], false⟩]) (env := [(4, .nd 3 (.int .i64)), (0, .ptr 0 0), (6, .ptr 0 0), (7, .ptr 0 0), (8, .ptr 0 1), (9, .nd 1 .one), (5, .nd 3 (.int .i64)), (10, .nd 4 (.int .i64)), (11, .nd 5 .bool), (3, .nd 2 (.flt .f32))]) ?_ ?_ tb_ok ap_ok ?_
    · refine midN_in ?_ .nil _ ?_ ?_ ?_
      · exact (.cons rfl (slOne hS) (.cons rfl (slOne hSk) (.cons rfl ⟨_, rfl, costF_ok ms ks i8⟩ (.cons rfl ⟨_, rfl⟩ (.cons rfl ⟨_, rfl⟩ (.cons rfl ⟨_, rfl⟩ .nil))))))
      · exact (.cons (win_row r42 (dlCons (dNd rfl (slOne hS)) (dlCons (dNd rfl (slOne hSk)) dlNil))) .nil)
      · exact sepOk_ro rfl
      · exact .nil
    · exact (envEq b28 (dNd rfl ⟨_, rfl⟩) (envEq b29 (dPtr (l := lg) (o := 0) rfl) (envEq b30 (dPtr (l := lg) (o := 0) rfl) (envEq b31 (dPtr (l := lg) (o := 0) rfl) (envEq b32 (dPtr (l := lg) (o := 0) rfl) (envEq b33 (dNd rfl (slOne hSk)) (envEq b34 (dNd rfl ⟨_, rfl⟩) (envEq b35 (dNd rfl ⟨_, rfl⟩) (envEq b37 (dNd rfl ⟨_, rfl⟩) (envEq b38 (dNd rfl ⟨_, rfl, costF_ok ms ks i8⟩) envNil))))))))))
    refine all1 (by kernel_rfl) ?_
    intro vs ls H43 E43 st hE
    refine res_ex (by kernel_rfl) (end_flat st.inn hE (.inr rfl) (a := .flt .f32 (costF ms ks i8)) (by kernel_rfl) (Grew.trans g40 (st.kept.grew (Nat.le_of_ble_eq_true (by kernel_rfl)))) rfl ⟨?_, rfl⟩)
    rw [show ks.length = i8 by omega]
end Go.Proofs.Ytllgmcgdkhnilaa
