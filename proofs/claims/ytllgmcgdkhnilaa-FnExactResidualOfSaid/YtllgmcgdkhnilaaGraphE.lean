/- Contracts: graphs that are valid, by the reference; the law of ValidGraph. -/
import Derived.Test.YtllgmcgdkhnilaaGraphD
import Derived.Test.YtllgmcgdkhnilaaGraphW
set_option linter.unusedVariables false
set_option linter.unusedSimpArgs false
namespace Go.Proofs.Ytllgmcgdkhnilaa
open Go.Ab
set_option maxRecDepth 100000
set_option maxHeartbeats 1000000
attribute [local irreducible] Res
theorem k_l06Ok (H : AHeap) (l : Nat) (ms : List (List AV)) (hr : Recs KP ms) (S : AV) (hS : SlL H 3 ms S) (hmx : ms.length < 2 ^ 40) (ks : List (List AV)) (hrk : Recs KL ks) (Sk : AV) (hSk : SlL H 6 ks Sk) (hmxk : ks.length < 2 ^ 40) (hg : H.get l = some (.row [S, Sk] true)) : APure Try.prog 67 [.ptr l 0] H (.bool (okG ms ks)) := by
  refine res_start h_spec_l06Ok (by simp) ?_
  refine run_mn (φ := φ0) (pm := pmR 1 [(.len (.nd 0 .one), .nd 2 (.int .i64)), (.len (.nd 1 .one), .nd 3 (.int .i64))] 0) 20 (nk := [(.atom 0, .one), (.atom 1, .one), (.atom 2, .int .i64), (.atom 3, .int .i64)]) (fs := []) (xs := [S, Sk, .int .i64 (ms.length : Int), .int .i64 (ks.length : Int)]) (ws := [⟨l, 0, [.nd 0 .one, .nd 1 .one], false⟩]) (env := [(0, .ptr 0 0)]) ?_ ?_ tb_ok ap_ok ?_
  · refine midN_in ?_ .nil _ ?_ ?_ ?_
    · exact (.cons rfl (slOne hS) (.cons rfl (slOne hSk) (.cons rfl ⟨_, rfl⟩ (.cons rfl ⟨_, rfl⟩ .nil))))
    · exact (.cons (win_row hg (dlCons (dNd rfl (slOne hS)) (dlCons (dNd rfl (slOne hSk)) dlNil))) .nil)
    · exact sepOk_ro rfl
    · exact (.cons (⟨_, _, (dNd rfl (slOne hS)), (dNd rfl ⟨_, rfl⟩), slLen hS⟩) (.cons (⟨_, _, (dNd rfl (slOne hSk)), (dNd rfl ⟨_, rfl⟩), slLen hSk⟩) .nil))
  · exact (envEq rfl (dPtr (l := l) (o := 0) rfl) envNil)
  refine all4 (by kernel_rfl) ?_ ?_ ?_ ?_
  ·
    intro vs ls H1 E1 st hE
    have f2 : 60 < (ms.length : Int) := of_decide_eq_true (bfact (x := decide (60 < (ms.length : Int))) st.inn 0 (by kernel_rfl))
    have f3 : ¬ ((ms.length : Int) < 1) := of_decide_eq_false (bfact (x := decide ((ms.length : Int) < 1)) st.inn 1 (by kernel_rfl))
    refine res_ex (by kernel_rfl) (end_flat st.inn hE (.inr rfl) (a := .bool false) (by kernel_rfl) (Grew.trans (Grew.refl _) (st.kept.grew (Nat.le_of_ble_eq_true (by kernel_rfl)))) rfl ⟨?_, rfl⟩)
    rw [okG, decide_eq_false (by omega)]; rfl
  ·
    intro vs ls H4 E4 st hE
    have f5 : 120 < (ks.length : Int) := of_decide_eq_true (bfact (x := decide (120 < (ks.length : Int))) st.inn 0 (by kernel_rfl))
    have f6 : ¬ (60 < (ms.length : Int)) := of_decide_eq_false (bfact (x := decide (60 < (ms.length : Int))) st.inn 1 (by kernel_rfl))
    have f7 : ¬ ((ms.length : Int) < 1) := of_decide_eq_false (bfact (x := decide ((ms.length : Int) < 1)) st.inn 2 (by kernel_rfl))
    refine res_ex (by kernel_rfl) (end_flat st.inn hE (.inr rfl) (a := .bool false) (by kernel_rfl) (Grew.trans (Grew.refl _) (st.kept.grew (Nat.le_of_ble_eq_true (by kernel_rfl)))) rfl ⟨?_, rfl⟩)
    rw [okG, decide_eq_false (by omega)]; rfl
  ·
    intro vs ls H8 E8 st hE
    have f9 : ¬ (120 < (ks.length : Int)) := of_decide_eq_false (bfact (x := decide (120 < (ks.length : Int))) st.inn 0 (by kernel_rfl))
    have f10 : ¬ (60 < (ms.length : Int)) := of_decide_eq_false (bfact (x := decide (60 < (ms.length : Int))) st.inn 1 (by kernel_rfl))
    have f11 : ¬ ((ms.length : Int) < 1) := of_decide_eq_false (bfact (x := decide ((ms.length : Int) < 1)) st.inn 2 (by kernel_rfl))
    have b12 : E8 4 = .int .i64 0 := env_of st.inn hE 4 (by kernel_rfl)
    have b13 : E8 0 = .ptr l 0 := env_of st.inn hE 0 (by kernel_rfl)
    have b14 : E8 3 = .int .i64 (ms.length : Int) := env_of st.inn hE 3 (by kernel_rfl)
    have g15 : Grew H H8 := (st.kept.grew (Nat.le_of_ble_eq_true (by kernel_rfl)))
    have g16 : Grew H H8 := Grew.trans (Grew.refl _) g15
    have r17 := g15.at hg
    clear st hE vs ls
    refine res_scan (by kernel_rfl) [(0, .ptr l 0), (3, .int .i64 (ms.length : Int))] 4 ms.length (fun i => ∀ j, j < i → finP (ms.getD j []) = true) (.cons b13 (.cons b14 .nil)) b12 (Grew.refl _) upTo0 ?_
    intro i18 hli18 hIi18 Ei18 Hi18 hsi18 hci18 hgi18
    have g19 : Grew H Hi18 := Grew.trans g16 hgi18
    have r20 := hgi18.at r17
    refine run_mn (φ := φ0) (pm := pmR 1 [(.len (.nd 0 .one), .nd 5 (.int .i64))] 0) 20 (nk := [(.atom 0, .one), (.atom 1, .one), (.atom 2, .int .i64), (.atom 3, .int .i64), (.atom 4, .int .i64), (.atom 5, .int .i64)]) (fs := []) (xs := [S, Sk, .int .i64 (ms.length : Int), .int .i64 (ks.length : Int), .int .i64 (i18 : Int), .int .i64 (ms.length : Int)]) (ws := [⟨l, 0, [.nd 0 .one, .nd 1 .one], false⟩]) (env := [(0, .ptr 0 0), (3, .nd 2 (.int .i64)), (4, .nd 4 (.int .i64))]) ?_ ?_ tb_ok ap_ok ?_
    · refine midN_in ?_ .nil _ ?_ ?_ ?_
      · exact (.cons rfl (slOne hS) (.cons rfl (slOne hSk) (.cons rfl ⟨_, rfl⟩ (.cons rfl ⟨_, rfl⟩ (.cons rfl ⟨_, rfl⟩ (.cons rfl ⟨_, rfl⟩ .nil))))))
      · exact (.cons (win_row r20 (dlCons (dNd rfl (slOne hS)) (dlCons (dNd rfl (slOne hSk)) dlNil))) .nil)
      · exact sepOk_ro rfl
      · exact (.cons (⟨_, _, (dNd rfl (slOne hS)), (dNd rfl ⟨_, rfl⟩), slLen hS⟩) .nil)
    · exact (envEq (hsi18.at 0 rfl) (dPtr (l := l) (o := 0) rfl) (envEq (hsi18.at 1 rfl) (dNd rfl ⟨_, rfl⟩) (envEq hci18 (dNd rfl ⟨_, rfl⟩) envNil)))
    refine all2 (by kernel_rfl) ?_ ?_
    ·
      intro vs ls H21 E21 st hE
      have f22 : (i18 : Int) < (ms.length : Int) := of_decide_eq_true (bfact (x := decide ((i18 : Int) < (ms.length : Int))) st.inn 0 (by kernel_rfl))
      have b23 : E21 34 = S := env_of st.inn hE 34 (by kernel_rfl)
      have b24 : E21 35 = .int .i64 (i18 : Int) := env_of st.inn hE 35 (by kernel_rfl)
      have b25 : E21 4 = .int .i64 (i18 : Int) := env_of st.inn hE 4 (by kernel_rfl)
      have b26 : E21 0 = .ptr l 0 := env_of st.inn hE 0 (by kernel_rfl)
      have b27 : E21 3 = .int .i64 (ms.length : Int) := env_of st.inn hE 3 (by kernel_rfl)
      have g28 : Grew Hi18 H21 := (st.kept.grew (Nat.le_of_ble_eq_true (by kernel_rfl)))
      have g29 : Grew H H21 := Grew.trans g19 g28
      have g30 : Grew H8 H21 := Grew.trans hgi18 g28
      have r31 := g28.at r20
      clear st hE vs ls
      have hlt32 : i18 < ms.length := by omega
      obtain ⟨lS32, cap32, rest32, wr32, eS32, gB32⟩ := hS.isSl hlt32
      have gS32 := g29.at gB32
      obtain ⟨v32_0, v32_1, v32_2, hm32, ho32_0, ho32_1, ho32_2⟩ := partsPose (hr.get hlt32)
      have he32 : ms.getD i18 [] = [.flt .f32 v32_0, .flt .f32 v32_1, .flt .f32 v32_2] := by rw [← hm32]; simp [List.getD_eq_getElem?_getD, hlt32]
      refine run_mn (φ := φ0) (pm := pmR 2 [(.ia 3 (.nd 0 .one) (.nd 4 (.int .i64)), .ptr 1 0), (.call 55 [.agg [.nd 6 (.flt .f32), .nd 7 (.flt .f32), .nd 8 (.flt .f32)]], .nd 9 .bool)] 0) 20 (nk := [(.atom 0, .one), (.atom 1, .one), (.atom 2, .int .i64), (.atom 3, .int .i64), (.atom 4, .int .i64), (.atom 5, .int .i64), (.atom 6, .flt .f32), (.atom 7, .flt .f32), (.atom 8, .flt .f32), (.atom 9, .bool)]) (fs := []) (xs := [S, Sk, .int .i64 (ms.length : Int), .int .i64 (ks.length : Int), .int .i64 (i18 : Int), .int .i64 (ms.length : Int), .flt .f32 v32_0, .flt .f32 v32_1, .flt .f32 v32_2, .bool (finP [.flt .f32 v32_0, .flt .f32 v32_1, .flt .f32 v32_2])]) (ws := [⟨l, 0, [.nd 0 .one, .nd 1 .one], false⟩, ⟨lS32, (i18 * 3), [.nd 6 (.flt .f32), .nd 7 (.flt .f32), .nd 8 (.flt .f32)], false⟩]) (env := [(34, .nd 0 .one), (35, .nd 4 (.int .i64)), (4, .nd 4 (.int .i64)), (0, .ptr 0 0), (3, .nd 2 (.int .i64))]) ?_ ?_ tb_ok ap_ok ?_
      · refine midN_in ?_ .nil _ ?_ ?_ ?_
        · exact (.cons rfl (slOne hS) (.cons rfl (slOne hSk) (.cons rfl ⟨_, rfl⟩ (.cons rfl ⟨_, rfl⟩ (.cons rfl ⟨_, rfl⟩ (.cons rfl ⟨_, rfl⟩ (.cons rfl ⟨_, rfl, ho32_0⟩ (.cons rfl ⟨_, rfl, ho32_1⟩ (.cons rfl ⟨_, rfl, ho32_2⟩ (.cons rfl ⟨_, rfl⟩ .nil))))))))))
        · exact (.cons (win_row r31 (dlCons (dNd rfl (slOne hS)) (dlCons (dNd rfl (slOne hSk)) dlNil))) (.cons (win_elem hr gS32 hlt32 rfl (by rw [hm32]; exact (dlCons (dNd rfl ⟨_, rfl, ho32_0⟩) (dlCons (dNd rfl ⟨_, rfl, ho32_1⟩) (dlCons (dNd rfl ⟨_, rfl, ho32_2⟩) dlNil))))) .nil))
        · exact sepOk_ro rfl
        · exact (.cons (rule_iaS (k := i18) (dNd rfl (slOne hS)) eS32 (dNd rfl ⟨_, rfl⟩) hlt32 rfl) (.cons (rule_call (args := [.agg [.flt .f32 v32_0, .flt .f32 v32_1, .flt .f32 v32_2]]) (dlCons (dAgg (dlCons (dNd rfl ⟨_, rfl, ho32_0⟩) (dlCons (dNd rfl ⟨_, rfl, ho32_1⟩) (dlCons (dNd rfl ⟨_, rfl, ho32_2⟩) dlNil)))) dlNil) (dNd rfl ⟨_, rfl⟩) (fun H9 hk => k_l06Finite [.flt .f32 v32_0, .flt .f32 v32_1, .flt .f32 v32_2] (.cons ⟨_, rfl, ho32_0⟩ (.cons ⟨_, rfl, ho32_1⟩ (.cons ⟨_, rfl, ho32_2⟩ .nil))) H9)) .nil))
      · exact (envEq b23 (dNd rfl (slOne hS)) (envEq b24 (dNd rfl ⟨_, rfl⟩) (envEq b25 (dNd rfl ⟨_, rfl⟩) (envEq b26 (dPtr (l := l) (o := 0) rfl) (envEq b27 (dNd rfl ⟨_, rfl⟩) envNil)))))
      refine all2 (by kernel_rfl) ?_ ?_
      ·
        intro vs ls H33 E33 st hE
        have f34 : (finP [.flt .f32 v32_0, .flt .f32 v32_1, .flt .f32 v32_2]) = false := bfact st.inn 0 (by kernel_rfl)
        refine res_ret (by kernel_rfl) (end_flat st.inn hE (.inr rfl) (a := .bool false) (by kernel_rfl) (Grew.trans g29 (st.kept.grew (Nat.le_of_ble_eq_true (by kernel_rfl)))) rfl ⟨?_, rfl⟩)
        rw [okG, allB_at hlt32 (by show finP _ = false; rw [he32]; exact f34), Bool.false_and, Bool.and_false]
      ·
        intro vs ls H35 E35 st hE
        have f36 : (finP [.flt .f32 v32_0, .flt .f32 v32_1, .flt .f32 v32_2]) = true := bfact st.inn 0 (by kernel_rfl)
        have hlti18 : i18 < ms.length := by omega
        refine res_next (sl := [(0, .ptr l 0), (3, .int .i64 (ms.length : Int))]) (ti := 4) (i := i18) (Inv := fun i => ∀ j, j < i → finP (ms.getD j []) = true) (by kernel_rfl) st.inn hE hlti18 (by kernel_rfl) (w := (IntKind.wrap .i64 ((i18 : Int) + 1))) (by kernel_rfl) (wrap64 (by omega)) (Grew.trans g30 (st.kept.grew (Nat.le_of_ble_eq_true (by kernel_rfl)))) ?_
        exact upTo hIi18 (by rw [he32]; exact f36)
    ·
      intro vs ls H37 E37 st hE
      have f38 : ¬ ((i18 : Int) < (ms.length : Int)) := of_decide_eq_false (bfact (x := decide ((i18 : Int) < (ms.length : Int))) st.inn 0 (by kernel_rfl))
      have b39 : E37 4 = .int .i64 (i18 : Int) := env_of st.inn hE 4 (by kernel_rfl)
      have b40 : E37 0 = .ptr l 0 := env_of st.inn hE 0 (by kernel_rfl)
      have b41 : E37 23 = .ptr l 0 := env_of st.inn hE 23 (by kernel_rfl)
      have b42 : E37 24 = .ptr l 0 := env_of st.inn hE 24 (by kernel_rfl)
      have b43 : E37 25 = .ptr l 0 := env_of st.inn hE 25 (by kernel_rfl)
      have b44 : E37 26 = S := env_of st.inn hE 26 (by kernel_rfl)
      have b45 : E37 22 = .int .i64 (i18 : Int) := env_of st.inn hE 22 (by kernel_rfl)
      have b46 : E37 27 = .int .i64 (ms.length : Int) := env_of st.inn hE 27 (by kernel_rfl)
      obtain ⟨w47, hw47⟩ : ∃ z, z = (decide ((i18 : Int) < (ms.length : Int))) := ⟨_, rfl⟩
      have b48 : E37 28 = .bool w47 := by rw [hw47]; exact env_of st.inn hE 28 (by kernel_rfl)
      have b49 : E37 3 = .int .i64 (ms.length : Int) := env_of st.inn hE 3 (by kernel_rfl)
      have g50 : Grew Hi18 H37 := (st.kept.grew (Nat.le_of_ble_eq_true (by kernel_rfl)))
      have g51 : Grew H H37 := Grew.trans g19 g50
      have g52 : Grew H8 H37 := Grew.trans hgi18 g50
      have r53 := g50.at r20
      clear st hE vs ls
      refine res_exit (id := 0) (by kernel_rfl) ?_
      refine run_mn (φ := φ0) (pm := pmR 1 [] 0) 20 (nk := [(.atom 0, .one), (.atom 1, .one), (.atom 2, .int .i64), (.atom 3, .int .i64), (.atom 4, .int .i64), (.atom 5, .int .i64), (.atom 6, .bool)]) (fs := []) (xs := [S, Sk, .int .i64 (ms.length : Int), .int .i64 (ks.length : Int), .int .i64 (i18 : Int), .int .i64 (ms.length : Int), .bool w47]) (ws := [⟨l, 0, [.nd 0 .one, .nd 1 .one], false⟩]) (env := [(4, .nd 4 (.int .i64)), (0, .ptr 0 0), (23, .ptr 0 0), (24, .ptr 0 0), (25, .ptr 0 0), (26, .nd 0 .one), (22, .nd 4 (.int .i64)), (27, .nd 5 (.int .i64)), (28, .nd 6 .bool), (3, .nd 2 (.int .i64))]) ?_ ?_ tb_ok ap_ok ?_
      · refine midN_in ?_ .nil _ ?_ ?_ ?_
        · exact (.cons rfl (slOne hS) (.cons rfl (slOne hSk) (.cons rfl ⟨_, rfl⟩ (.cons rfl ⟨_, rfl⟩ (.cons rfl ⟨_, rfl⟩ (.cons rfl ⟨_, rfl⟩ (.cons rfl ⟨_, rfl⟩ .nil)))))))
        · exact (.cons (win_row r53 (dlCons (dNd rfl (slOne hS)) (dlCons (dNd rfl (slOne hSk)) dlNil))) .nil)
        · exact sepOk_ro rfl
        · exact .nil
      · exact (envEq b39 (dNd rfl ⟨_, rfl⟩) (envEq b40 (dPtr (l := l) (o := 0) rfl) (envEq b41 (dPtr (l := l) (o := 0) rfl) (envEq b42 (dPtr (l := l) (o := 0) rfl) (envEq b43 (dPtr (l := l) (o := 0) rfl) (envEq b44 (dNd rfl (slOne hS)) (envEq b45 (dNd rfl ⟨_, rfl⟩) (envEq b46 (dNd rfl ⟨_, rfl⟩) (envEq b48 (dNd rfl ⟨_, rfl⟩) (envEq b49 (dNd rfl ⟨_, rfl⟩) envNil))))))))))
      refine all1 (by kernel_rfl) ?_
      intro vs ls H54 E54 st hE
      have b55 : E54 5 = .int .i64 0 := env_of st.inn hE 5 (by kernel_rfl)
      have b56 : E54 0 = .ptr l 0 := env_of st.inn hE 0 (by kernel_rfl)
      have b57 : E54 3 = .int .i64 (ms.length : Int) := env_of st.inn hE 3 (by kernel_rfl)
      have g58 : Grew H37 H54 := (st.kept.grew (Nat.le_of_ble_eq_true (by kernel_rfl)))
      have g59 : Grew H H54 := Grew.trans g51 g58
      have r60 := g58.at r53
      clear st hE vs ls
      refine res_scan (by kernel_rfl) [(0, .ptr l 0), (3, .int .i64 (ms.length : Int))] 5 ks.length (fun i => ∀ j, j < i → okK ms.length (ks.getD j []) = true) (.cons b56 (.cons b57 .nil)) b55 (Grew.refl _) upTo0 ?_
      intro i61 hli61 hIi61 Ei61 Hi61 hsi61 hci61 hgi61
      have g62 : Grew H Hi61 := Grew.trans g59 hgi61
      have r63 := hgi61.at r60
      refine run_mn (φ := φ0) (pm := pmR 1 [(.len (.nd 1 .one), .nd 8 (.int .i64))] 0) 20 (nk := [(.atom 0, .one), (.atom 1, .one), (.atom 2, .int .i64), (.atom 3, .int .i64), (.atom 4, .int .i64), (.atom 5, .int .i64), (.atom 6, .bool), (.atom 7, .int .i64), (.atom 8, .int .i64)]) (fs := []) (xs := [S, Sk, .int .i64 (ms.length : Int), .int .i64 (ks.length : Int), .int .i64 (i18 : Int), .int .i64 (ms.length : Int), .bool w47, .int .i64 (i61 : Int), .int .i64 (ks.length : Int)]) (ws := [⟨l, 0, [.nd 0 .one, .nd 1 .one], false⟩]) (env := [(0, .ptr 0 0), (3, .nd 2 (.int .i64)), (5, .nd 7 (.int .i64))]) ?_ ?_ tb_ok ap_ok ?_
      · refine midN_in ?_ .nil _ ?_ ?_ ?_
        · exact (.cons rfl (slOne hS) (.cons rfl (slOne hSk) (.cons rfl ⟨_, rfl⟩ (.cons rfl ⟨_, rfl⟩ (.cons rfl ⟨_, rfl⟩ (.cons rfl ⟨_, rfl⟩ (.cons rfl ⟨_, rfl⟩ (.cons rfl ⟨_, rfl⟩ (.cons rfl ⟨_, rfl⟩ .nil)))))))))
        · exact (.cons (win_row r63 (dlCons (dNd rfl (slOne hS)) (dlCons (dNd rfl (slOne hSk)) dlNil))) .nil)
        · exact sepOk_ro rfl
        · exact (.cons (⟨_, _, (dNd rfl (slOne hSk)), (dNd rfl ⟨_, rfl⟩), slLen hSk⟩) .nil)
      · exact (envEq (hsi61.at 0 rfl) (dPtr (l := l) (o := 0) rfl) (envEq (hsi61.at 1 rfl) (dNd rfl ⟨_, rfl⟩) (envEq hci61 (dNd rfl ⟨_, rfl⟩) envNil)))
      refine all2 (by kernel_rfl) ?_ ?_
      ·
        intro vs ls H64 E64 st hE
        have f65 : (i61 : Int) < (ks.length : Int) := of_decide_eq_true (bfact (x := decide ((i61 : Int) < (ks.length : Int))) st.inn 0 (by kernel_rfl))
        have b66 : E64 52 = Sk := env_of st.inn hE 52 (by kernel_rfl)
        have b67 : E64 53 = .int .i64 (i61 : Int) := env_of st.inn hE 53 (by kernel_rfl)
        have b68 : E64 3 = .int .i64 (ms.length : Int) := env_of st.inn hE 3 (by kernel_rfl)
        have b69 : E64 5 = .int .i64 (i61 : Int) := env_of st.inn hE 5 (by kernel_rfl)
        have b70 : E64 0 = .ptr l 0 := env_of st.inn hE 0 (by kernel_rfl)
        have g71 : Grew Hi61 H64 := (st.kept.grew (Nat.le_of_ble_eq_true (by kernel_rfl)))
        have g72 : Grew H H64 := Grew.trans g62 g71
        have g73 : Grew H54 H64 := Grew.trans hgi61 g71
        have r74 := g71.at r63
        clear st hE vs ls
        have hlt75 : i61 < ks.length := by omega
        obtain ⟨lS75, cap75, rest75, wr75, eS75, gB75⟩ := hSk.isSl hlt75
        have gS75 := g72.at gB75
        obtain ⟨v75_0, v75_1, v75_2, v75_3, v75_4, v75_5, hm75, ho75_2, ho75_3, ho75_4, ho75_5⟩ := partsLink (hrk.get hlt75)
        have he75 : ks.getD i61 [] = [.int .i64 v75_0, .int .i64 v75_1, .flt .f32 v75_2, .flt .f32 v75_3, .flt .f32 v75_4, .flt .f32 v75_5] := by rw [← hm75]; simp [List.getD_eq_getElem?_getD, hlt75]
        refine run_mn (φ := φ0) (pm := pmR 2 [(.ia 6 (.nd 1 .one) (.nd 7 (.int .i64)), .ptr 1 0), (.call 80 [.ptr 1 0, .nd 2 (.int .i64)], .nd 15 .bool)] 0) 20 (nk := [(.atom 0, .one), (.atom 1, .one), (.atom 2, .int .i64), (.atom 3, .int .i64), (.atom 4, .int .i64), (.atom 5, .int .i64), (.atom 6, .bool), (.atom 7, .int .i64), (.atom 8, .int .i64), (.atom 9, .int .i64), (.atom 10, .int .i64), (.atom 11, .flt .f32), (.atom 12, .flt .f32), (.atom 13, .flt .f32), (.atom 14, .flt .f32), (.atom 15, .bool)]) (fs := []) (xs := [S, Sk, .int .i64 (ms.length : Int), .int .i64 (ks.length : Int), .int .i64 (i18 : Int), .int .i64 (ms.length : Int), .bool w47, .int .i64 (i61 : Int), .int .i64 (ks.length : Int), .int .i64 v75_0, .int .i64 v75_1, .flt .f32 v75_2, .flt .f32 v75_3, .flt .f32 v75_4, .flt .f32 v75_5, .bool (okK ms.length [.int .i64 v75_0, .int .i64 v75_1, .flt .f32 v75_2, .flt .f32 v75_3, .flt .f32 v75_4, .flt .f32 v75_5])]) (ws := [⟨l, 0, [.nd 0 .one, .nd 1 .one], false⟩, ⟨lS75, (i61 * 6), [.nd 9 (.int .i64), .nd 10 (.int .i64), .nd 11 (.flt .f32), .nd 12 (.flt .f32), .nd 13 (.flt .f32), .nd 14 (.flt .f32)], false⟩]) (env := [(52, .nd 1 .one), (53, .nd 7 (.int .i64)), (3, .nd 2 (.int .i64)), (5, .nd 7 (.int .i64)), (0, .ptr 0 0)]) ?_ ?_ tb_ok ap_ok ?_
        · refine midN_in ?_ .nil _ ?_ ?_ ?_
          · exact (.cons rfl (slOne hS) (.cons rfl (slOne hSk) (.cons rfl ⟨_, rfl⟩ (.cons rfl ⟨_, rfl⟩ (.cons rfl ⟨_, rfl⟩ (.cons rfl ⟨_, rfl⟩ (.cons rfl ⟨_, rfl⟩ (.cons rfl ⟨_, rfl⟩ (.cons rfl ⟨_, rfl⟩ (.cons rfl ⟨_, rfl⟩ (.cons rfl ⟨_, rfl⟩ (.cons rfl ⟨_, rfl, ho75_2⟩ (.cons rfl ⟨_, rfl, ho75_3⟩ (.cons rfl ⟨_, rfl, ho75_4⟩ (.cons rfl ⟨_, rfl, ho75_5⟩ (.cons rfl ⟨_, rfl⟩ .nil))))))))))))))))
          · exact (.cons (win_row r74 (dlCons (dNd rfl (slOne hS)) (dlCons (dNd rfl (slOne hSk)) dlNil))) (.cons (win_elem hrk gS75 hlt75 rfl (by rw [hm75]; exact (dlCons (dNd rfl ⟨_, rfl⟩) (dlCons (dNd rfl ⟨_, rfl⟩) (dlCons (dNd rfl ⟨_, rfl, ho75_2⟩) (dlCons (dNd rfl ⟨_, rfl, ho75_3⟩) (dlCons (dNd rfl ⟨_, rfl, ho75_4⟩) (dlCons (dNd rfl ⟨_, rfl, ho75_5⟩) dlNil)))))))) .nil))
          · exact sepOk_ro rfl
          · exact (.cons (rule_iaS (k := i61) (dNd rfl (slOne hSk)) eS75 (dNd rfl ⟨_, rfl⟩) hlt75 rfl) (.cons (rule_call (args := [.ptr lS75 ((i61 * 6) + 0), .int .i64 (ms.length : Int)]) (dlCons (dPtr (l := lS75) (o := (i61 * 6)) rfl) (dlCons (dNd rfl ⟨_, rfl⟩) dlNil)) (dNd rfl ⟨_, rfl⟩) (fun H9 hk => (by obtain ⟨pre, post, g1, g2⟩ := flat_split hrk.len hlt75 rest75; exact k_l06Link ms.length hmx v75_0 v75_1 v75_2 v75_3 v75_4 v75_5 ho75_2 ho75_3 ho75_4 ho75_5 H9 _ _ pre post wr75 (by rw [((hk.grew (Nat.le_refl _)).at gS75), g1, hm75]) g2))) .nil))
        · exact (envEq b66 (dNd rfl (slOne hSk)) (envEq b67 (dNd rfl ⟨_, rfl⟩) (envEq b68 (dNd rfl ⟨_, rfl⟩) (envEq b69 (dNd rfl ⟨_, rfl⟩) (envEq b70 (dPtr (l := l) (o := 0) rfl) envNil)))))
        refine all2 (by kernel_rfl) ?_ ?_
        ·
          intro vs ls H76 E76 st hE
          have f77 : (okK ms.length [.int .i64 v75_0, .int .i64 v75_1, .flt .f32 v75_2, .flt .f32 v75_3, .flt .f32 v75_4, .flt .f32 v75_5]) = false := bfact st.inn 0 (by kernel_rfl)
          refine res_ret (by kernel_rfl) (end_flat st.inn hE (.inr rfl) (a := .bool false) (by kernel_rfl) (Grew.trans g72 (st.kept.grew (Nat.le_of_ble_eq_true (by kernel_rfl)))) rfl ⟨?_, rfl⟩)
          rw [okG, show allB (fun i => okK ms.length (ks.getD i [])) ks.length = false from allB_at hlt75 (by show okK _ _ = false; rw [he75]; exact f77), Bool.and_false, Bool.and_false]
        ·
          intro vs ls H78 E78 st hE
          have f79 : (okK ms.length [.int .i64 v75_0, .int .i64 v75_1, .flt .f32 v75_2, .flt .f32 v75_3, .flt .f32 v75_4, .flt .f32 v75_5]) = true := bfact st.inn 0 (by kernel_rfl)
          have hlti61 : i61 < ks.length := by omega
          refine res_next (sl := [(0, .ptr l 0), (3, .int .i64 (ms.length : Int))]) (ti := 5) (i := i61) (Inv := fun i => ∀ j, j < i → okK ms.length (ks.getD j []) = true) (by kernel_rfl) st.inn hE hlti61 (by kernel_rfl) (w := (IntKind.wrap .i64 ((i61 : Int) + 1))) (by kernel_rfl) (wrap64 (by omega)) (Grew.trans g73 (st.kept.grew (Nat.le_of_ble_eq_true (by kernel_rfl)))) ?_
          exact upTo hIi61 (by rw [he75]; exact f79)
      ·
        intro vs ls H80 E80 st hE
        have f81 : ¬ ((i61 : Int) < (ks.length : Int)) := of_decide_eq_false (bfact (x := decide ((i61 : Int) < (ks.length : Int))) st.inn 0 (by kernel_rfl))
        have b82 : E80 5 = .int .i64 (i61 : Int) := env_of st.inn hE 5 (by kernel_rfl)
        have b83 : E80 0 = .ptr l 0 := env_of st.inn hE 0 (by kernel_rfl)
        have b84 : E80 41 = .ptr l 0 := env_of st.inn hE 41 (by kernel_rfl)
        have b85 : E80 42 = .ptr l 0 := env_of st.inn hE 42 (by kernel_rfl)
        have b86 : E80 43 = .ptr l 1 := env_of st.inn hE 43 (by kernel_rfl)
        have b87 : E80 44 = Sk := env_of st.inn hE 44 (by kernel_rfl)
        have b88 : E80 40 = .int .i64 (i61 : Int) := env_of st.inn hE 40 (by kernel_rfl)
        have b89 : E80 45 = .int .i64 (ks.length : Int) := env_of st.inn hE 45 (by kernel_rfl)
        obtain ⟨w90, hw90⟩ : ∃ z, z = (decide ((i61 : Int) < (ks.length : Int))) := ⟨_, rfl⟩
        have b91 : E80 46 = .bool w90 := by rw [hw90]; exact env_of st.inn hE 46 (by kernel_rfl)
        have b92 : E80 3 = .int .i64 (ms.length : Int) := env_of st.inn hE 3 (by kernel_rfl)
        have g93 : Grew Hi61 H80 := (st.kept.grew (Nat.le_of_ble_eq_true (by kernel_rfl)))
        have g94 : Grew H H80 := Grew.trans g62 g93
        have g95 : Grew H54 H80 := Grew.trans hgi61 g93
        have r96 := g93.at r63
        clear st hE vs ls
        refine res_exit (id := 2) (by kernel_rfl) ?_
        refine run_mn (φ := φ0) (pm := pmR 1 [] 0) 20 (nk := [(.atom 0, .one), (.atom 1, .one), (.atom 2, .int .i64), (.atom 3, .int .i64), (.atom 4, .int .i64), (.atom 5, .int .i64), (.atom 6, .bool), (.atom 7, .int .i64), (.atom 8, .int .i64), (.atom 9, .bool)]) (fs := []) (xs := [S, Sk, .int .i64 (ms.length : Int), .int .i64 (ks.length : Int), .int .i64 (i18 : Int), .int .i64 (ms.length : Int), .bool w47, .int .i64 (i61 : Int), .int .i64 (ks.length : Int), .bool w90]) (ws := [⟨l, 0, [.nd 0 .one, .nd 1 .one], false⟩]) (env := [(5, .nd 7 (.int .i64)), (0, .ptr 0 0), (41, .ptr 0 0), (42, .ptr 0 0), (43, .ptr 0 1), (44, .nd 1 .one), (40, .nd 7 (.int .i64)), (45, .nd 8 (.int .i64)), (46, .nd 9 .bool), (3, .nd 2 (.int .i64))]) ?_ ?_ tb_ok ap_ok ?_
        · refine midN_in ?_ .nil _ ?_ ?_ ?_
          · exact (.cons rfl (slOne hS) (.cons rfl (slOne hSk) (.cons rfl ⟨_, rfl⟩ (.cons rfl ⟨_, rfl⟩ (.cons rfl ⟨_, rfl⟩ (.cons rfl ⟨_, rfl⟩ (.cons rfl ⟨_, rfl⟩ (.cons rfl ⟨_, rfl⟩ (.cons rfl ⟨_, rfl⟩ (.cons rfl ⟨_, rfl⟩ .nil))))))))))
          · exact (.cons (win_row r96 (dlCons (dNd rfl (slOne hS)) (dlCons (dNd rfl (slOne hSk)) dlNil))) .nil)
          · exact sepOk_ro rfl
          · exact .nil
        · exact (envEq b82 (dNd rfl ⟨_, rfl⟩) (envEq b83 (dPtr (l := l) (o := 0) rfl) (envEq b84 (dPtr (l := l) (o := 0) rfl) (envEq b85 (dPtr (l := l) (o := 0) rfl) (envEq b86 (dPtr (l := l) (o := 0) rfl) (envEq b87 (dNd rfl (slOne hSk)) (envEq b88 (dNd rfl ⟨_, rfl⟩) (envEq b89 (dNd rfl ⟨_, rfl⟩) (envEq b91 (dNd rfl ⟨_, rfl⟩) (envEq b92 (dNd rfl ⟨_, rfl⟩) envNil))))))))))
        refine all1 (by kernel_rfl) ?_
        intro vs ls H97 E97 st hE
        refine res_ex (by kernel_rfl) (end_flat st.inn hE (.inr rfl) (a := .bool true) (by kernel_rfl) (Grew.trans g94 (st.kept.grew (Nat.le_of_ble_eq_true (by kernel_rfl)))) rfl ⟨?_, rfl⟩)
        rw [okG, decide_eq_true (by omega), allB_true (fun j hj => hIi18 j (by omega)), allB_true (fun j hj => hIi61 j (by omega))]; rfl
  ·
    intro vs ls H98 E98 st hE
    have f99 : (ms.length : Int) < 1 := of_decide_eq_true (bfact (x := decide ((ms.length : Int) < 1)) st.inn 0 (by kernel_rfl))
    refine res_ex (by kernel_rfl) (end_flat st.inn hE (.inr rfl) (a := .bool false) (by kernel_rfl) (Grew.trans (Grew.refl _) (st.kept.grew (Nat.le_of_ble_eq_true (by kernel_rfl)))) rfl ⟨?_, rfl⟩)
    rw [okG, decide_eq_false (by omega)]; rfl
theorem k_spec_ValidGraph (H : AHeap) (ms : List (List AV)) (hr : Recs KP ms) (S : AV) (hS : SlL H 3 ms S) (hmx : ms.length < 2 ^ 40) (ks : List (List AV)) (hrk : Recs KL ks) (Sk : AV) (hSk : SlL H 6 ks Sk) (hmxk : ks.length < 2 ^ 40) : APure Try.prog 25 [.agg [S, Sk]] H (.bool (okG ms ks)) := by
  refine res_start h_spec_ValidGraph (by simp) ?_
  refine run_mn (φ := φ0) (pm := pmR 0 [] 0) 20 (nk := [(.atom 0, .one), (.atom 1, .one)]) (fs := []) (xs := [S, Sk]) (ws := []) (env := [(0, .agg [.nd 0 .one, .nd 1 .one])]) ?_ ?_ tb_ok ap_ok ?_
  · refine midN_in ?_ .nil _ ?_ ?_ ?_
    · exact (.cons rfl (slOne hS) (.cons rfl (slOne hSk) .nil))
    · exact .nil
    · exact sepOk_ro rfl
    · exact .nil
  · exact (envEq rfl (dAgg (dlCons (dNd rfl (slOne hS)) (dlCons (dNd rfl (slOne hSk)) dlNil))) envNil)
  refine all1 (by kernel_rfl) ?_
  intro vs ls H1 E1 st hE
  obtain ⟨p2, e3, r4, n5⟩ := ptr_of st.inn hE 1 0 (by kernel_rfl) (ds := [S, Sk]) (by kernel_rfl)
  have op2 : H.next ≤ p2 := Nat.le_trans (Nat.le_refl _) (n5 (Nat.le_of_ble_eq_true rfl))
  have g6 : Grew H H1 := (st.kept.grew (Nat.le_of_ble_eq_true (by kernel_rfl)))
  have g7 : Grew H H1 := Grew.trans (Grew.refl _) g6
  clear st hE vs ls
  refine res_call (d := (some 3)) (f := 67) (args := [.tmp 1]) (by kernel_rfl) (R := fun z H' => z = .bool (okG ms ks) ∧ H' = H1) ?_ ?_
  · show ACalls _ _ [E1 1] _ _
    rw [e3]
    exact k_l06Ok H1 p2 ms hr S (hS.grew g7) hmx ks hrk Sk (hSk.grew g7) hmxk r4
  rintro z H1 ⟨rfl, rfl⟩
  refine run_mn (φ := φ0) (pm := pmR 1 [] 0) 20 (nk := [(.atom 0, .one), (.atom 1, .one), (.atom 2, .bool)]) (fs := []) (xs := [S, Sk, .bool (okG ms ks)]) (ws := [⟨p2, 0, [.nd 0 .one, .nd 1 .one], false⟩]) (env := [(1, .ptr 0 0), (3, .nd 2 .bool)]) ?_ ?_ tb_ok ap_ok ?_
  · refine midN_in ?_ .nil _ ?_ ?_ ?_
    · exact (.cons rfl (slOne hS) (.cons rfl (slOne hSk) (.cons rfl ⟨_, rfl⟩ .nil)))
    · exact (.cons (win_row r4 (dlCons (dNd rfl (slOne hS)) (dlCons (dNd rfl (slOne hSk)) dlNil))) .nil)
    · exact sepOk_ro rfl
    · exact .nil
  · exact (envEq (put_ne rfl e3) (dPtr (l := p2) (o := 0) rfl) (envEq put_same (dNd rfl ⟨_, rfl⟩) envNil))
  refine all1 (by kernel_rfl) ?_
  intro vs ls H8 E8 st hE
  refine res_ex (by kernel_rfl) (end_flat st.inn hE (.inr rfl) (a := .bool (okG ms ks)) (by kernel_rfl) (Grew.trans g7 (st.kept.grew (Nat.le_of_ble_eq_true (by kernel_rfl)))) rfl ⟨?_, rfl⟩)
  rfl
theorem lawExactValidGraph (H : AHeap) (vs : List AV) (h : FitArgs H [(true, [.sl [.flt .f32, .flt .f32, .flt .f32], .sl [.int .i64, .int .i64, .flt .f32, .flt .f32, .flt .f32, .flt .f32]])] vs) : ACalls Try.prog 6 vs H fun r _ => r = .bool true := by
  match vs, h with
  | [a], h =>
  obtain ⟨ms, S, ks, Sk, rfl, hr, hS, hmx, hrk, hSk, hmxk⟩ := graphArg h.1
  clear h
  refine res_start h_laws_FnExactValidGraph (by simp) ?_
  obtain ⟨q1, kq1, hq1⟩ : ∃ r : Int, (∀ H9, Grew H H9 → APure Try.prog 20 [.agg [S, Sk], .int .i64 1048576] H9 (.int .i64 r)) ∧ (r = -1 ∨ (0 ≤ r ∧ r = 1048576 - (ms.length : Int) - (ks.length : Int))) := ⟨_, fun H9 hk => k_szPoseGraph H9 ms S (hS.grew (Grew.trans (Grew.refl _) hk)) hmx ks Sk (hSk.grew (Grew.trans (Grew.refl _) hk)) hmxk 1048576 (by omega) (by omega), by split <;> (try split) <;> omega⟩
  refine run_mn (φ := φ0) (pm := pmR 0 [(.call 20 [.agg [.nd 0 .one, .nd 1 .one], .lit (.int .i64 1048576)], .nd 2 (.int .i64))] 0) 20 (nk := [(.atom 0, .one), (.atom 1, .one), (.atom 2, .int .i64)]) (fs := []) (xs := [S, Sk, .int .i64 q1]) (ws := []) (env := [(0, .agg [.nd 0 .one, .nd 1 .one])]) ?_ ?_ tb_ok ap_ok ?_
  · refine midN_in ?_ .nil _ ?_ ?_ ?_
    · exact (.cons rfl (slOne hS) (.cons rfl (slOne hSk) (.cons rfl ⟨_, rfl⟩ .nil)))
    · exact .nil
    · exact sepOk_ro rfl
    · exact (.cons (rule_call (args := [.agg [S, Sk], .int .i64 1048576]) (dlCons (dAgg (dlCons (dNd rfl (slOne hS)) (dlCons (dNd rfl (slOne hSk)) dlNil))) (dlCons (dLit rfl) dlNil)) (dNd rfl ⟨_, rfl⟩) (fun H9 hk => kq1 H9 (hk.grew (Nat.le_refl _)))) .nil)
  · exact (envEq rfl (dAgg (dlCons (dNd rfl (slOne hS)) (dlCons (dNd rfl (slOne hSk)) dlNil))) envNil)
  refine all2 (by kernel_rfl) ?_ ?_
  ·
    intro vs ls H2 E2 st hE
    have f3 : q1 < 0 := of_decide_eq_true (bfact (x := decide (q1 < 0)) st.inn 0 (by kernel_rfl))
    exact res_ex (by kernel_rfl) (end_same st.inn hE (.inr rfl) (a := .bool true) (by kernel_rfl) (Nat.le_trans (Nat.le_refl _) st.kept.1) rfl)
  ·
    intro vs ls H4 E4 st hE
    have f5 : ¬ (q1 < 0) := of_decide_eq_false (bfact (x := decide (q1 < 0)) st.inn 0 (by kernel_rfl))
    have mxms : ms.length ≤ 1048576 := by omega
    have mxks : ks.length ≤ 1048576 := by omega
    obtain ⟨p6, e7, r8, n9⟩ := ptr_of st.inn hE 1 0 (by kernel_rfl) (ds := [S, Sk]) (by kernel_rfl)
    have op6 : H.next ≤ p6 := Nat.le_trans (Nat.le_refl _) (n9 (Nat.le_of_ble_eq_true rfl))
    have b10 : E4 12 = .agg [S, Sk] := env_of st.inn hE 12 (by kernel_rfl)
    have g11 : Grew H H4 := (st.kept.grew (Nat.le_of_ble_eq_true (by kernel_rfl)))
    have g12 : Grew H H4 := Grew.trans (Grew.refl _) g11
    clear st hE vs ls
    refine res_call (d := (some 13)) (f := 22) (args := [.tmp 12]) (by kernel_rfl) (R := fun z H' => Grew H4 H' ∧ ∃ S0' S1', z = .agg [S0', S1'] ∧ SlW H' 3 ms S0' ∧ FreshS H4.next S0' ∧ SlW H' 6 ks S1' ∧ FreshS H4.next S1' ∧ ApartS S0' S1') ?_ ?_
    · show ACalls _ _ [E4 12] _ _
      rw [b10]
      exact k_toPoseGraph H4 ms hr S (hS.grew g12) mxms ks hrk Sk (hSk.grew g12) mxks
    rintro z H13 ⟨gH13, S14, S15, rfl, sS14, fS14, sS15, fS15, ap16⟩
    have ne17 : ApartL (S14) p6 := fS14.apartL (H4.lt_of_get r8)
    have fr18 : FreshS H.next (S14) := fS14.mono g12.next
    have ne19 : ApartL (S15) p6 := fS15.apartL (H4.lt_of_get r8)
    have fr20 : FreshS H.next (S15) := fS15.mono g12.next
    have g21 : Grew H H13 := Grew.trans g12 gH13
    have r22 := gH13.at r8
    refine run_mn (φ := φ0) (pm := pmR 1 [(.call 25 [.agg [.nd 3 .one, .nd 4 .one]], .nd 5 .bool)] 0) 20 (nk := [(.atom 0, .one), (.atom 1, .one), (.atom 2, .int .i64), (.atom 3, .one), (.atom 4, .one), (.atom 5, .bool)]) (fs := []) (xs := [S, Sk, .int .i64 q1, S14, S15, .bool (okG ms ks)]) (ws := [⟨p6, 0, [.nd 0 .one, .nd 1 .one], false⟩]) (env := [(12, .agg [.nd 0 .one, .nd 1 .one]), (1, .ptr 0 0), (13, .agg [.nd 3 .one, .nd 4 .one])]) ?_ ?_ tb_ok ap_ok ?_
    · refine midN_in ?_ .nil _ ?_ ?_ ?_
      · exact (.cons rfl (slOne hS) (.cons rfl (slOne hSk) (.cons rfl ⟨_, rfl⟩ (.cons rfl sS14.one (.cons rfl sS15.one (.cons rfl ⟨_, rfl⟩ .nil))))))
      · exact (.cons (win_row r22 (dlCons (dNd rfl (slOne hS)) (dlCons (dNd rfl (slOne hSk)) dlNil))) .nil)
      · exact sepOk_ro rfl
      · exact (.cons (rule_call (args := [.agg [S14, S15]]) (dlCons (dAgg (dlCons (dNd rfl sS14.one) (dlCons (dNd rfl sS15.one) dlNil))) dlNil) (dNd rfl ⟨_, rfl⟩) (fun H9 hk => k_spec_ValidGraph H9 ms hr S14 ((sS14.grew (hk.grew (Nat.le_refl _)))).toL (mx40 mxms) ks hrk S15 ((sS15.grew (hk.grew (Nat.le_refl _)))).toL (mx40 mxks))) .nil)
    · exact (envEq (put_ne rfl b10) (dAgg (dlCons (dNd rfl (slOne hS)) (dlCons (dNd rfl (slOne hSk)) dlNil))) (envEq (put_ne rfl e7) (dPtr (l := p6) (o := 0) rfl) (envEq put_same (dAgg (dlCons (dNd rfl sS14.one) (dlCons (dNd rfl sS15.one) dlNil))) envNil)))
    refine all1 (by kernel_rfl) ?_
    intro vs ls H23 E23 st hE
    have b24 : E23 15 = .agg [S, Sk] := env_of st.inn hE 15 (by kernel_rfl)
    have b25 : E23 4 = .bool (okG ms ks) := env_of st.inn hE 4 (by kernel_rfl)
    have b26 : E23 1 = .ptr p6 0 := env_of st.inn hE 1 (by kernel_rfl)
    have g27 : Grew H13 H23 := (st.kept.grew (Nat.le_of_ble_eq_true (by kernel_rfl)))
    have g28 : Grew H H23 := Grew.trans g21 g27
    have r29 := g27.at r22
    have s30 := sS14.grew g27
    have s31 := sS15.grew g27
    clear st hE vs ls
    refine res_call (d := (some 16)) (f := 22) (args := [.tmp 15]) (by kernel_rfl) (R := fun z H' => Grew H23 H' ∧ ∃ S0' S1', z = .agg [S0', S1'] ∧ SlW H' 3 ms S0' ∧ FreshS H23.next S0' ∧ SlW H' 6 ks S1' ∧ FreshS H23.next S1' ∧ ApartS S0' S1') ?_ ?_
    · show ACalls _ _ [E23 15] _ _
      rw [b24]
      exact k_toPoseGraph H23 ms hr S (hS.grew g28) mxms ks hrk Sk (hSk.grew g28) mxks
    rintro z H32 ⟨gH32, S33, S34, rfl, sS33, fS33, sS34, fS34, ap35⟩
    have ne36 : ApartL (S33) p6 := fS33.apartL (H23.lt_of_get r29)
    have ne37 : ApartS (S33) (S14) := fS33.apartS s30.lt
    have ne38 : ApartS (S33) (S15) := fS33.apartS s31.lt
    have fr39 : FreshS H.next (S33) := fS33.mono g28.next
    have ne40 : ApartL (S34) p6 := fS34.apartL (H23.lt_of_get r29)
    have ne41 : ApartS (S34) (S14) := fS34.apartS s30.lt
    have ne42 : ApartS (S34) (S15) := fS34.apartS s31.lt
    have fr43 : FreshS H.next (S34) := fS34.mono g28.next
    have g44 : Grew H H32 := Grew.trans g28 gH32
    have r45 := gH32.at r29
    have s46 := s30.grew gH32
    have s47 := s31.grew gH32
    refine run_mn (φ := φ0) (pm := pmR 1 [(.call 26 [.agg [.nd 6 .one, .nd 7 .one]], .nd 5 .bool)] 0) 20 (nk := [(.atom 0, .one), (.atom 1, .one), (.atom 2, .int .i64), (.atom 3, .one), (.atom 4, .one), (.atom 5, .bool), (.atom 6, .one), (.atom 7, .one)]) (fs := []) (xs := [S, Sk, .int .i64 q1, S14, S15, .bool (okG ms ks), S33, S34]) (ws := [⟨p6, 0, [.nd 0 .one, .nd 1 .one], false⟩]) (env := [(15, .agg [.nd 0 .one, .nd 1 .one]), (4, .nd 5 .bool), (1, .ptr 0 0), (16, .agg [.nd 6 .one, .nd 7 .one])]) ?_ ?_ tb_ok ap_ok ?_
    · refine midN_in ?_ .nil _ ?_ ?_ ?_
      · exact (.cons rfl (slOne hS) (.cons rfl (slOne hSk) (.cons rfl ⟨_, rfl⟩ (.cons rfl sS14.one (.cons rfl sS15.one (.cons rfl ⟨_, rfl⟩ (.cons rfl sS33.one (.cons rfl sS34.one .nil))))))))
      · exact (.cons (win_row r45 (dlCons (dNd rfl (slOne hS)) (dlCons (dNd rfl (slOne hSk)) dlNil))) .nil)
      · exact sepOk_ro rfl
      · exact (.cons (rule_call (args := [.agg [S33, S34]]) (dlCons (dAgg (dlCons (dNd rfl sS33.one) (dlCons (dNd rfl sS34.one) dlNil))) dlNil) (dNd rfl ⟨_, rfl⟩) (fun H9 hk => k_impl_ValidGraph H9 ms hr S33 ((sS33.grew (hk.grew (Nat.le_refl _)))).toL (mx40 mxms) ks hrk S34 ((sS34.grew (hk.grew (Nat.le_refl _)))).toL (mx40 mxks))) .nil)
    · exact (envEq (put_ne rfl b24) (dAgg (dlCons (dNd rfl (slOne hS)) (dlCons (dNd rfl (slOne hSk)) dlNil))) (envEq (put_ne rfl b25) (dNd rfl ⟨_, rfl⟩) (envEq (put_ne rfl b26) (dPtr (l := p6) (o := 0) rfl) (envEq put_same (dAgg (dlCons (dNd rfl sS33.one) (dlCons (dNd rfl sS34.one) dlNil))) envNil))))
    refine all1 (by kernel_rfl) ?_
    intro vs ls H48 E48 st hE
    have b49 : E48 23 = .agg [S, Sk] := env_of st.inn hE 23 (by kernel_rfl)
    have b50 : E48 22 = .agg [S33, S34] := env_of st.inn hE 22 (by kernel_rfl)
    have g51 : Grew H32 H48 := (st.kept.grew (Nat.le_of_ble_eq_true (by kernel_rfl)))
    have g52 : Grew H H48 := Grew.trans g44 g51
    have r53 := g51.at r45
    have s54 := s46.grew g51
    have s55 := s47.grew g51
    have s56 := sS33.grew g51
    have s57 := sS34.grew g51
    clear st hE vs ls
    refine res_kid (free := false) (d := (some 24)) (f := 22) (args := [.tmp 23]) (by kernel_rfl) (R := fun z H' => Grew H48 H' ∧ ∃ S0' S1', z = .agg [S0', S1'] ∧ SlW H' 3 ms S0' ∧ FreshS H48.next S0' ∧ SlW H' 6 ks S1' ∧ FreshS H48.next S1' ∧ ApartS S0' S1') ?_ ?_
    · show ACalls _ _ [E48 23] _ _
      rw [b49]
      exact k_toPoseGraph H48 ms hr S (hS.grew g52) mxms ks hrk Sk (hSk.grew g52) mxks
    rintro z H58 ⟨gH58, S59, S60, rfl, sS59, fS59, sS60, fS60, ap61⟩
    refine ⟨gH58, ?_⟩
    have ne62 : ApartS (S59) (S14) := fS59.apartS s54.lt
    have ne63 : ApartS (S59) (S15) := fS59.apartS s55.lt
    have ne64 : ApartS (S59) (S33) := fS59.apartS s56.lt
    have ne65 : ApartS (S59) (S34) := fS59.apartS s57.lt
    have fr66 : FreshS H.next (S59) := fS59.mono g52.next
    have ne67 : ApartS (S60) (S14) := fS60.apartS s54.lt
    have ne68 : ApartS (S60) (S15) := fS60.apartS s55.lt
    have ne69 : ApartS (S60) (S33) := fS60.apartS s56.lt
    have ne70 : ApartS (S60) (S34) := fS60.apartS s57.lt
    have fr71 : FreshS H.next (S60) := fS60.mono g52.next
    have g72 : Grew H H58 := Grew.trans g52 gH58
    have s73 := s54.grew gH58
    have s74 := s55.grew gH58
    have s75 := s56.grew gH58
    have s76 := s57.grew gH58
    refine run_mn (φ := φ0) (pm := pmR 0 [(.call 24 [.agg [.nd 6 .one, .nd 7 .one], .agg [.nd 8 .one, .nd 9 .one]], .lit (.bool true))] 0) 20 (nk := [(.atom 0, .one), (.atom 1, .one), (.atom 2, .int .i64), (.atom 3, .one), (.atom 4, .one), (.atom 5, .bool), (.atom 6, .one), (.atom 7, .one), (.atom 8, .one), (.atom 9, .one)]) (fs := []) (xs := [S, Sk, .int .i64 q1, S14, S15, .bool (okG ms ks), S33, S34, S59, S60]) (ws := []) (env := [(23, .agg [.nd 0 .one, .nd 1 .one]), (22, .agg [.nd 6 .one, .nd 7 .one]), (24, .agg [.nd 8 .one, .nd 9 .one])]) ?_ ?_ tb_ok ap_ok ?_
    · refine midN_in ?_ .nil _ ?_ ?_ ?_
      · exact (.cons rfl (slOne hS) (.cons rfl (slOne hSk) (.cons rfl ⟨_, rfl⟩ (.cons rfl sS14.one (.cons rfl sS15.one (.cons rfl ⟨_, rfl⟩ (.cons rfl sS33.one (.cons rfl sS34.one (.cons rfl sS59.one (.cons rfl sS60.one .nil))))))))))
      · exact .nil
      · exact sepOk_ro rfl
      · exact (.cons (rule_call (args := [.agg [S33, S34], .agg [S59, S60]]) (dlCons (dAgg (dlCons (dNd rfl sS33.one) (dlCons (dNd rfl sS34.one) dlNil))) (dlCons (dAgg (dlCons (dNd rfl sS59.one) (dlCons (dNd rfl sS60.one) dlNil))) dlNil)) (dLit rfl) (fun H9 hk => k_eqPoseGraph H9 ms hr S33 S59 ((s75.grew (hk.grew (Nat.le_refl _)))).toL ((sS59.grew (hk.grew (Nat.le_refl _)))).toL (mx40 mxms) ks hrk S34 S60 ((s76.grew (hk.grew (Nat.le_refl _)))).toL ((sS60.grew (hk.grew (Nat.le_refl _)))).toL (mx40 mxks))) .nil)
    · exact (envEq (put_ne rfl b49) (dAgg (dlCons (dNd rfl (slOne hS)) (dlCons (dNd rfl (slOne hSk)) dlNil))) (envEq (put_ne rfl b50) (dAgg (dlCons (dNd rfl sS33.one) (dlCons (dNd rfl sS34.one) dlNil))) (envEq put_same (dAgg (dlCons (dNd rfl sS59.one) (dlCons (dNd rfl sS60.one) dlNil))) envNil)))
    refine all1 (by kernel_rfl) ?_
    intro vs ls H77 E77 st hE
    exact res_ex (by kernel_rfl) (end_same st.inn hE (.inr rfl) (a := .bool true) (by kernel_rfl) (Nat.le_trans g72.next st.kept.1) rfl)
end Go.Proofs.Ytllgmcgdkhnilaa
