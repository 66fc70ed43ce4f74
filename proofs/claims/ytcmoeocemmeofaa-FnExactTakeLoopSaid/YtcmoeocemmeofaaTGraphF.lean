/- Contracts: graphs that are valid, by the reference; the law of ValidGraph. -/
import Derived.Test.YtcmoeocemmeofaaTGraphE
import Derived.Test.YtcmoeocemmeofaaTGraphW
set_option linter.unusedVariables false
set_option linter.unusedSimpArgs false
namespace Go.Proofs.Ytcmoeocemmeofaa
open Go.Ab
set_option maxRecDepth 100000
set_option maxHeartbeats 1000000
attribute [local irreducible] Res
theorem k_l06Ok (H : AHeap) (l : Nat) (ms : List (List AV)) (hr : Recs KP ms) (S : AV) (hS : SlL H 3 ms S) (hmx : ms.length < 2 ^ 40) (ks : List (List AV)) (hrk : Recs KL ks) (Sk : AV) (hSk : SlL H 6 ks Sk) (hmxk : ks.length < 2 ^ 40) (hg : H.get l = some (.row [S, Sk] true)) : APure Try.prog 61 [.ptr l 0] H (.bool (okG ms ks)) := by
  refine res_start h_spec_l06Ok (by simp) ?_
  refine run_mn (φ := φ0) (pm := pmR 1 [(.len (.nd 0 .one), .nd 2 (.int .i64)), (.len (.nd 1 .one), .nd 3 (.int .i64))] 0) 20 (nk := [(.atom 0, .one), (.atom 1, .one), (.atom 2, .int .i64), (.atom 3, .int .i64)]) (fs := []) (xs := [S, Sk, .int .i64 (ms.length : Int), .int .i64 (ks.length : Int)]) (ws := [⟨l, 0, [.nd 0 .one, .nd 1 .one], false⟩]) (env := [(0, .ptr 0 0)]) ?_ ?_ tb_ok ap_ok ?_
  · refine midN_in ?_ .nil _ ?_ ?_ ?_
    · exact (.cons rfl (slOne hS) (.cons rfl (slOne hSk) (.cons rfl ⟨_, rfl⟩ (.cons rfl ⟨_, rfl⟩ .nil))))
    · exact (.cons (win_row hg (dlCons (dNd rfl (slOne hS)) (dlCons (dNd rfl (slOne hSk)) dlNil))) .nil)
    · exact sepOk_ro rfl
    · exact (.cons (⟨_, _, (dNd rfl (slOne hS)), (dNd rfl ⟨_, rfl⟩), slLen hS⟩) (.cons (⟨_, _, (dNd rfl (slOne hSk)), (dNd rfl ⟨_, rfl⟩), slLen hSk⟩) .nil))
  · exact (envEq rfl (dPtr (l := l) (o := 0) rfl) envNil)
  refine all4 (by kernel_rfl) ?_ ?_ ?_ ?_
  ·
    intro vs ls H1 E1 st hE
    have f2 : 60 < (ms.length : Int) := of_decide_eq_true (bfact (x := decide (60 < (ms.length : Int))) st.inn 0 (by kernel_rfl))
    have f3 : ¬ ((ms.length : Int) < 1) := of_decide_eq_false (bfact (x := decide ((ms.length : Int) < 1)) st.inn 1 (by kernel_rfl))
    refine res_ex (by kernel_rfl) (end_flat st.inn hE (.inr rfl) (a := .bool false) (by kernel_rfl) (Grew.trans (Grew.refl _) (st.kept.grew (Nat.le_of_ble_eq_true (by kernel_rfl)))) rfl ⟨?_, rfl⟩)
    rw [okG, decide_eq_false (by omega)]; rfl
  ·
    intro vs ls H4 E4 st hE
    have f5 : 120 < (ks.length : Int) := of_decide_eq_true (bfact (x := decide (120 < (ks.length : Int))) st.inn 0 (by kernel_rfl))
    have f6 : ¬ (60 < (ms.length : Int)) := of_decide_eq_false (bfact (x := decide (60 < (ms.length : Int))) st.inn 1 (by kernel_rfl))
    have f7 : ¬ ((ms.length : Int) < 1) := of_decide_eq_false (bfact (x := decide ((ms.length : Int) < 1)) st.inn 2 (by kernel_rfl))
    refine res_ex (by kernel_rfl) (end_flat st.inn hE (.inr rfl) (a := .bool false) (by kernel_rfl) (Grew.trans (Grew.refl _) (st.kept.grew (Nat.le_of_ble_eq_true (by kernel_rfl)))) rfl ⟨?_, rfl⟩)
    rw [okG, decide_eq_false (by omega)]; rfl
  ·
    intro vs ls H8 E8 st hE
    have f9 : ¬ (120 < (ks.length : Int)) := of_decide_eq_false (bfact (x := decide (120 < (ks.length : Int))) st.inn 0 (by kernel_rfl))
    have f10 : ¬ (60 < (ms.length : Int)) := of_decide_eq_false (bfact (x := decide (60 < (ms.length : Int))) st.inn 1 (by kernel_rfl))
    have f11 : ¬ ((ms.length : Int) < 1) := of_decide_eq_false (bfact (x := decide ((ms.length : Int) < 1)) st.inn 2 (by kernel_rfl))
    have b12 : E8 4 = .int .i64 0 := env_of st.inn hE 4 (by kernel_rfl)
    have b13 : E8 0 = .ptr l 0 := env_of st.inn hE 0 (by kernel_rfl)
    have b14 : E8 3 = .int .i64 (ms.length : Int) := env_of st.inn hE 3 (by kernel_rfl)
    have g15 : Grew H H8 := (st.kept.grew (Nat.le_of_ble_eq_true (by kernel_rfl)))
    have g16 : Grew H H8 := Grew.trans (Grew.refl _) g15
    have r17 := g15.at hg
    clear st hE vs ls
    refine res_scan (by kernel_rfl) [(0, .ptr l 0), (3, .int .i64 (ms.length : Int))] 4 ms.length (fun i => ∀ j, j < i → finP (ms.getD j []) = true) (.cons b13 (.cons b14 .nil)) b12 (Grew.refl _) upTo0 ?_
    intro i18 hli18 hIi18 Ei18 Hi18 hsi18 hci18 hgi18
    have g19 : Grew H Hi18 := Grew.trans g16 hgi18
    have r20 := hgi18.at r17
    refine run_mn (φ := φ0) (pm := pmR 1 [(.len (.nd 0 .one), .nd 5 (.int .i64))] 0) 20 (nk := [(.atom 0, .one), (.atom 1, .one), (.atom 2, .int .i64), (.atom 3, .int .i64), (.atom 4, .int .i64), (.atom 5, .int .i64)]) (fs := []) (xs := [S, Sk, .int .i64 (ms.length : Int), .int .i64 (ks.length : Int), .int .i64 (i18 : Int), .int .i64 (ms.length : Int)]) (ws := [⟨l, 0, [.nd 0 .one, .nd 1 .one], false⟩]) (env := [(0, .ptr 0 0), (3, .nd 2 (.int .i64)), (4, .nd 4 (.int .i64))]) ?_ ?_ tb_ok ap_ok ?_
    · refine midN_in ?_ .nil _ ?_ ?_ ?_
      · exact (.cons rfl (slOne hS) (.cons rfl (slOne hSk) (.cons rfl ⟨_, rfl⟩ (.cons rfl ⟨_, rfl⟩ (.cons rfl ⟨_, rfl⟩ (.cons rfl ⟨_, rfl⟩ .nil))))))
      · exact (.cons (win_row r20 (dlCons (dNd rfl (slOne hS)) (dlCons (dNd rfl (slOne hSk)) dlNil))) .nil)
      · exact sepOk_ro rfl
      · exact (.cons (⟨_, _, (dNd rfl (slOne hS)), (dNd rfl ⟨_, rfl⟩), slLen hS⟩) .nil)
    · exact (envEq (hsi18.at 0 rfl) (dPtr (l := l) (o := 0) rfl) (envEq (hsi18.at 1 rfl) (dNd rfl ⟨_, rfl⟩) (envEq hci18 (dNd rfl ⟨_, rfl⟩) envNil)))
    refine all2 (by kernel_rfl) ?_ ?_
    ·
      intro vs ls H21 E21 st hE
      have f22 : (i18 : Int) < (ms.length : Int) := of_decide_eq_true (bfact (x := decide ((i18 : Int) < (ms.length : Int))) st.inn 0 (by kernel_rfl))
      have b23 : E21 34 = S := env_of st.inn hE 34 (by kernel_rfl)
      have b24 : E21 35 = .int .i64 (i18 : Int) := env_of st.inn hE 35 (by kernel_rfl)
      have b25 : E21 4 = .int .i64 (i18 : Int) := env_of st.inn hE 4 (by kernel_rfl)
      have b26 : E21 0 = .ptr l 0 := env_of st.inn hE 0 (by kernel_rfl)
      have b27 : E21 3 = .int .i64 (ms.length : Int) := env_of st.inn hE 3 (by kernel_rfl)
      have g28 : Grew Hi18 H21 := (st.kept.grew (Nat.le_of_ble_eq_true (by kernel_rfl)))
      have g29 : Grew H H21 := Grew.trans g19 g28
      have g30 : Grew H8 H21 := Grew.trans hgi18 g28
      have r31 := g28.at r20
      clear st hE vs ls
      have hlt32 : i18 < ms.length := by omega
      obtain ⟨lS32, cap32, rest32, wr32, eS32, gB32⟩ := hS.isSl hlt32
      have gS32 := g29.at gB32
      obtain ⟨v32_0, v32_1, v32_2, hm32, ho32_0, ho32_1, ho32_2⟩ := partsPose (hr.get hlt32)
      have he32 : ms.getD i18 [] = [.flt .f32 v32_0, .flt .f32 v32_1, .flt .f32 v32_2] := by rw [← hm32]; simp [List.getD_eq_getElem?_getD, hlt32]
      refine run_mn (φ := φ0) (pm := pmR 2 [(.ia 3 (.nd 0 .one) (.nd 4 (.int .i64)), .ptr 1 0), (.call 87 [.agg [.nd 6 (.flt .f32), .nd 7 (.flt .f32), .nd 8 (.flt .f32)]], .nd 9 .bool)] 0) 20 (nk := [(.atom 0, .one), (.atom 1, .one), (.atom 2, .int .i64), (.atom 3, .int .i64), (.atom 4, .int .i64), (.atom 5, .int .i64), (.atom 6, .flt .f32), (.atom 7, .flt .f32), (.atom 8, .flt .f32), (.atom 9, .bool)]) (fs := []) (xs := [S, Sk, .int .i64 (ms.length : Int), .int .i64 (ks.length : Int), .int .i64 (i18 : Int), .int .i64 (ms.length : Int), .flt .f32 v32_0, .flt .f32 v32_1, .flt .f32 v32_2, .bool (finP [.flt .f32 v32_0, .flt .f32 v32_1, .flt .f32 v32_2])]) (ws := [⟨l, 0, [.nd 0 .one, .nd 1 .one], false⟩, ⟨lS32, (i18 * 3), [.nd 6 (.flt .f32), .nd 7 (.flt .f32), .nd 8 (.flt .f32)], false⟩]) (env := [(34, .nd 0 .one), (35, .nd 4 (.int .i64)), (4, .nd 4 (.int .i64)), (0, .ptr 0 0), (3, .nd 2 (.int .i64))]) ?_ ?_ tb_ok ap_ok ?_
      · refine midN_in ?_ .nil _ ?_ ?_ ?_
        · exact (.cons rfl (slOne hS) (.cons rfl (slOne hSk) (.cons rfl ⟨_, rfl⟩ (.cons rfl ⟨_, rfl⟩ (.cons rfl ⟨_, rfl⟩ (.cons rfl ⟨_, rfl⟩ (.cons rfl ⟨_, rfl, ho32_0⟩ (.cons rfl ⟨_, rfl, ho32_1⟩ (.cons rfl ⟨_, rfl, ho32_2⟩ (.cons rfl ⟨_, rfl⟩ .nil))))))))))
        · exact (.cons (win_row r31 (dlCons (dNd rfl (slOne hS)) (dlCons (dNd rfl (slOne hSk)) dlNil))) (.cons (win_elem hr gS32 hlt32 rfl (by rw [hm32]; exact (dlCons (dNd rfl ⟨_, rfl, ho32_0⟩) (dlCons (dNd rfl ⟨_, rfl, ho32_1⟩) (dlCons (dNd rfl ⟨_, rfl, ho32_2⟩) dlNil))))) .nil))
        · exact sepOk_ro rfl
        · exact (.cons (rule_iaS (k := i18) (dNd rfl (slOne hS)) eS32 (dNd rfl ⟨_, rfl⟩) hlt32 rfl) (.cons (rule_call (args := [.agg [.flt .f32 v32_0, .flt .f32 v32_1, .flt .f32 v32_2]]) (dlCons (dAgg (dlCons (dNd rfl ⟨_, rfl, ho32_0⟩) (dlCons (dNd rfl ⟨_, rfl, ho32_1⟩) (dlCons (dNd rfl ⟨_, rfl, ho32_2⟩) dlNil)))) dlNil) (dNd rfl ⟨_, rfl⟩) (fun H9 hk => k_l06Finite [.flt .f32 v32_0, .flt .f32 v32_1, .flt .f32 v32_2] (.cons ⟨_, rfl, ho32_0⟩ (.cons ⟨_, rfl, ho32_1⟩ (.cons ⟨_, rfl, ho32_2⟩ .nil))) H9)) .nil))
      · exact (envEq b23 (dNd rfl (slOne hS)) (envEq b24 (dNd rfl ⟨_, rfl⟩) (envEq b25 (dNd rfl ⟨_, rfl⟩) (envEq b26 (dPtr (l := l) (o := 0) rfl) (envEq b27 (dNd rfl ⟨_, rfl⟩) envNil)))))
      refine all2 (by kernel_rfl) ?_ ?_
      ·
        intro vs ls H33 E33 st hE
        have f34 : (finP [.flt .f32 v32_0, .flt .f32 v32_1, .flt .f32 v32_2]) = false := bfact st.inn 0 (by kernel_rfl)
        refine res_ret (by kernel_rfl) (end_flat st.inn hE (.inr rfl) (a := .bool false) (by kernel_rfl) (Grew.trans g29 (st.kept.grew (Nat.le_of_ble_eq_true (by kernel_rfl)))) rfl ⟨?_, rfl⟩)
        rw [okG, allB_at hlt32 (by show finP _ = false; rw [he32]; exact f34), Bool.false_and, Bool.and_false]
      ·
        intro vs ls H35 E35 st hE
        have f36 : (finP [.flt .f32 v32_0, .flt .f32 v32_1, .flt .f32 v32_2]) = true := bfact st.inn 0 (by kernel_rfl)
        have hlti18 : i18 < ms.length := by omega
        refine res_next (sl := [(0, .ptr l 0), (3, .int .i64 (ms.length : Int))]) (ti := 4) (i := i18) (Inv := fun i => ∀ j, j < i → finP (ms.getD j []) = true) (by kernel_rfl) st.inn hE hlti18 (by kernel_rfl) (w := (IntKind.wrap .i64 ((i18 : Int) + 1))) (by kernel_rfl) (wrap64 (by omega)) (Grew.trans g30 (st.kept.grew (Nat.le_of_ble_eq_true (by kernel_rfl)))) ?_
        exact upTo hIi18 (by rw [he32]; exact f36)
    ·
      intro vs ls H37 E37 st hE
      have f38 : ¬ ((i18 : Int) < (ms.length : Int)) := of_decide_eq_false (bfact (x := decide ((i18 : Int) < (ms.length : Int))) st.inn 0 (by kernel_rfl))
      have b39 : E37 4 = .int .i64 (i18 : Int) := env_of st.inn hE 4 (by kernel_rfl)
      have b40 : E37 0 = .ptr l 0 := env_of st.inn hE 0 (by kernel_rfl)
      have b41 : E37 23 = .ptr l 0 := env_of st.inn hE 23 (by kernel_rfl)
      have b42 : E37 24 = .ptr l 0 := env_of st.inn hE 24 (by kernel_rfl)
      have b43 : E37 25 = .ptr l 0 := env_of st.inn hE 25 (by kernel_rfl)
      have b44 : E37 26 = S := env_of st.inn hE 26 (by kernel_rfl)
      have b45 : E37 22 = .int .i64 (i18 : Int) := env_of st.inn hE 22 (by kernel_rfl)
      have b46 : E37 27 = .int .i64 (ms.length : Int) := env_of st.inn hE 27 (by kernel_rfl)
      obtain ⟨w47, hw47⟩ : ∃ z, z = (decide ((i18 : Int) < (ms.length : Int))) := ⟨_, rfl⟩
      have b48 : E37 28 = .bool w47 := by rw [hw47]; exact env_of st.inn hE 28 (by kernel_rfl)
      have b49 : E37 3 = .int .i64 (ms.length : Int) := env_of st.inn hE 3 (by kernel_rfl)
      have g50 : Grew Hi18 H37 := (st.kept.grew (Nat.le_of_ble_eq_true (by kernel_rfl)))
      have g51 : Grew H H37 := Grew.trans g19 g50
      have g52 : Grew H8 H37 := Grew.trans hgi18 g50
      have r53 := g50.at r20
      clear st hE vs ls
      refine res_exit (id := 0) (by kernel_rfl) ?_
      refine run_mn (φ := φ0) (pm := pmR 1 [] 0) 20 (nk := [(.atom 0, .one), (.atom 1, .one), (.atom 2, .int .i64), (.atom 3, .int .i64), (.atom 4, .int .i64), (.atom 5, .int .i64), (.atom 6, .bool)]) (fs := []) (xs := [S, Sk, .int .i64 (ms.length : Int), .int .i64 (ks.length : Int), .int .i64 (i18 : Int), .int .i64 (ms.length : Int), .bool w47]) (ws := [⟨l, 0, [.nd 0 .one, .nd 1 .one], false⟩]) (env := [(4, .nd 4 (.int .i64)), (0, .ptr 0 0), (23, .ptr 0 0), (24, .ptr 0 0), (25, .ptr 0 0), (26, .nd 0 .one), (22, .nd 4 (.int .i64)), (27, .nd 5 (.int .i64)), (28, .nd 6 .bool), (3, .nd 2 (.int .i64))]) ?_ ?_ tb_ok ap_ok ?_
      · refine midN_in ?_ .nil _ ?_ ?_ ?_
        · exact (.cons rfl (slOne hS) (.cons rfl (slOne hSk) (.cons rfl ⟨_, rfl⟩ (.cons rfl ⟨_, rfl⟩ (.cons rfl ⟨_, rfl⟩ (.cons rfl ⟨_, rfl⟩ (.cons rfl ⟨_, rfl⟩ .nil)))))))
        · exact (.cons (win_row r53 (dlCons (dNd rfl (slOne hS)) (dlCons (dNd rfl (slOne hSk)) dlNil))) .nil)
        · exact sepOk_ro rfl
        · exact .nil
      · exact (envEq b39 (dNd rfl ⟨_, rfl⟩) (envEq b40 (dPtr (l := l) (o := 0) rfl) (envEq b41 (dPtr (l := l) (o := 0) rfl) (envEq b42 (dPtr (l := l) (o := 0) rfl) (envEq b43 (dPtr (l := l) (o := 0) rfl) (envEq b44 (dNd rfl (slOne hS)) (envEq b45 (dNd rfl ⟨_, rfl⟩) (envEq b46 (dNd rfl ⟨_, rfl⟩) (envEq b48 (dNd rfl ⟨_, rfl⟩) (envEq b49 (dNd rfl ⟨_, rfl⟩) envNil))))))))))
      refine all1 (by kernel_rfl) ?_
      intro vs ls H54 E54 st hE
      have b55 : E54 5 = .int .i64 0 := env_of st.inn hE 5 (by kernel_rfl)
      have b56 : E54 0 = .ptr l 0 := env_of st.inn hE 0 (by kernel_rfl)
      have b57 : E54 3 = .int .i64 (ms.length : Int) := env_of st.inn hE 3 (by kernel_rfl)
      have g58 : Grew H37 H54 := (st.kept.grew (Nat.le_of_ble_eq_true (by kernel_rfl)))
      have g59 : Grew H H54 := Grew.trans g51 g58
      have r60 := g58.at r53
      clear st hE vs ls
      refine res_scan (by kernel_rfl) [(0, .ptr l 0), (3, .int .i64 (ms.length : Int))] 5 ks.length (fun i => ∀ j, j < i → okK ms.length (ks.getD j []) = true) (.cons b56 (.cons b57 .nil)) b55 (Grew.refl _) upTo0 ?_
      intro i61 hli61 hIi61 Ei61 Hi61 hsi61 hci61 hgi61
      have g62 : Grew H Hi61 := Grew.trans g59 hgi61
      have r63 := hgi61.at r60
      refine run_mn (φ := φ0) (pm := pmR 1 [(.len (.nd 1 .one), .nd 8 (.int .i64))] 0) 20 (nk := [(.atom 0, .one), (.atom 1, .one), (.atom 2, .int .i64), (.atom 3, .int .i64), (.atom 4, .int .i64), (.atom 5, .int .i64), (.atom 6, .bool), (.atom 7, .int .i64), (.atom 8, .int .i64)]) (fs := []) (xs := [S, Sk, .int .i64 (ms.length : Int), .int .i64 (ks.length : Int), .int .i64 (i18 : Int), .int .i64 (ms.length : Int), .bool w47, .int .i64 (i61 : Int), .int .i64 (ks.length : Int)]) (ws := [⟨l, 0, [.nd 0 .one, .nd 1 .one], false⟩]) (env := [(0, .ptr 0 0), (3, .nd 2 (.int .i64)), (5, .nd 7 (.int .i64))]) ?_ ?_ tb_ok ap_ok ?_
      · refine midN_in ?_ .nil _ ?_ ?_ ?_
        · exact (.cons rfl (slOne hS) (.cons rfl (slOne hSk) (.cons rfl ⟨_, rfl⟩ (.cons rfl ⟨_, rfl⟩ (.cons rfl ⟨_, rfl⟩ (.cons rfl ⟨_, rfl⟩ (.cons rfl ⟨_, rfl⟩ (.cons rfl ⟨_, rfl⟩ (.cons rfl ⟨_, rfl⟩ .nil)))))))))
        · exact (.cons (win_row r63 (dlCons (dNd rfl (slOne hS)) (dlCons (dNd rfl (slOne hSk)) dlNil))) .nil)
        · exact sepOk_ro rfl
        · exact (.cons (⟨_, _, (dNd rfl (slOne hSk)), (dNd rfl ⟨_, rfl⟩), slLen hSk⟩) .nil)
      · exact (envEq (hsi61.at 0 rfl) (dPtr (l := l) (o := 0) rfl) (envEq (hsi61.at 1 rfl) (dNd rfl ⟨_, rfl⟩) (envEq hci61 (dNd rfl ⟨_, rfl⟩) envNil)))
      refine all2 (by kernel_rfl) ?_ ?_
      ·
        intro vs ls H64 E64 st hE
        have f65 : (i61 : Int) < (ks.length : Int) := of_decide_eq_true (bfact (x := decide ((i61 : Int) < (ks.length : Int))) st.inn 0 (by kernel_rfl))
        have b66 : E64 52 = Sk := env_of st.inn hE 52 (by kernel_rfl)
        have b67 : E64 53 = .int .i64 (i61 : Int) := env_of st.inn hE 53 (by kernel_rfl)
        have b68 : E64 3 = .int .i64 (ms.length : Int) := env_of st.inn hE 3 (by kernel_rfl)
        have b69 : E64 5 = .int .i64 (i61 : Int) := env_of st.inn hE 5 (by kernel_rfl)
        have b70 : E64 0 = .ptr l 0 := env_of st.inn hE 0 (by kernel_rfl)
        have g71 : Grew Hi61 H64 := (st.kept.grew (Nat.le_of_ble_eq_true (by kernel_rfl)))
        have g72 : Grew H H64 := Grew.trans g62 g71
        have g73 : Grew H54 H64 := Grew.trans hgi61 g71
        have r74 := g71.at r63
        clear st hE vs ls
        have hlt75 : i61 < ks.length := by omega
        obtain ⟨lS75, cap75, rest75, wr75, eS75, gB75⟩ := hSk.isSl hlt75
        have gS75 := g72.at gB75
        obtain ⟨v75_0, v75_1, v75_2, v75_3, v75_4, v75_5, hm75, ho75_2, ho75_3, ho75_4, ho75_5⟩ := partsLink (hrk.get hlt75)
        have he75 : ks.getD i61 [] = [.int .i64 v75_0, .int .i64 v75_1, .flt .f32 v75_2, .flt .f32 v75_3, .flt .f32 v75_4, .flt .f32 v75_5] := by rw [← hm75]; simp [List.getD_eq_getElem?_getD, hlt75]
        refine run_mn (φ := φ0) (pm := pmR 2 [(.ia 6 (.nd 1 .one) (.nd 7 (.int .i64)), .ptr 1 0), (.call 94 [.ptr 1 0, .nd 2 (.int .i64)], .nd 15 .bool)] 0) 20 (nk := [(.atom 0, .one), (.atom 1, .one), (.atom 2, .int .i64), (.atom 3, .int .i64), (.atom 4, .int .i64), (.atom 5, .int .i64), (.atom 6, .bool), (.atom 7, .int .i64), (.atom 8, .int .i64), (.atom 9, .int .i64), (.atom 10, .int .i64), (.atom 11, .flt .f32), (.atom 12, .flt .f32), (.atom 13, .flt .f32), (.atom 14, .flt .f32), (.atom 15, .bool)]) (fs := []) (xs := [S, Sk, .int .i64 (ms.length : Int), .int .i64 (ks.length : Int), .int .i64 (i18 : Int), .int .i64 (ms.length : Int), .bool w47, .int .i64 (i61 : Int), .int .i64 (ks.length : Int), .int .i64 v75_0, .int .i64 v75_1, .flt .f32 v75_2, .flt .f32 v75_3, .flt .f32 v75_4, .flt .f32 v75_5, .bool (okK ms.length [.int .i64 v75_0, .int .i64 v75_1, .flt .f32 v75_2, .flt .f32 v75_3, .flt .f32 v75_4, .flt .f32 v75_5])]) (ws := [⟨l, 0, [.nd 0 .one, .nd 1 .one], false⟩, ⟨lS75, (i61 * 6), [.nd 9 (.int .i64), .nd 10 (.int .i64), .nd 11 (.flt .f32), .nd 12 (.flt .f32), .nd 13 (.flt .f32), .nd 14 (.flt .f32)], false⟩]) (env := [(52, .nd 1 .one), (53, .nd 7 (.int .i64)), (3, .nd 2 (.int .i64)), (5, .nd 7 (.int .i64)), (0, .ptr 0 0)]) ?_ ?_ tb_ok ap_ok ?_
        · refine midN_in ?_ .nil _ ?_ ?_ ?_
          · exact (.cons rfl (slOne hS) (.cons rfl (slOne hSk) (.cons rfl ⟨_, rfl⟩ (.cons rfl ⟨_, rfl⟩ (.cons rfl ⟨_, rfl⟩ (.cons rfl ⟨_, rfl⟩ (.cons rfl ⟨_, rfl⟩ (.cons rfl ⟨_, rfl⟩ (.cons rfl ⟨_, rfl⟩ (.cons rfl ⟨_, rfl⟩ (.cons rfl ⟨_, rfl⟩ (.cons rfl ⟨_, rfl, ho75_2⟩ (.cons rfl ⟨_, rfl, ho75_3⟩ (.cons rfl ⟨_, rfl, ho75_4⟩ (.cons rfl ⟨_, rfl, ho75_5⟩ (.cons rfl ⟨_, rfl⟩ .nil))))))))))))))))
          · exact (.cons (win_row r74 (dlCons (dNd rfl (slOne hS)) (dlCons (dNd rfl (slOne hSk)) dlNil))) (.cons (win_elem hrk gS75 hlt75 rfl (by rw [hm75]; exact (dlCons (dNd rfl ⟨_, rfl⟩) (dlCons (dNd rfl ⟨_, rfl⟩) (dlCons (dNd rfl ⟨_, rfl, ho75_2⟩) (dlCons (dNd rfl ⟨_, rfl, ho75_3⟩) (dlCons (dNd rfl ⟨_, rfl, ho75_4⟩) (dlCons (dNd rfl ⟨_, rfl, ho75_5⟩) dlNil)))))))) .nil))
          · exact sepOk_ro rfl
          · exact (.cons (rule_iaS (k := i61) (dNd rfl (slOne hSk)) eS75 (dNd rfl ⟨_, rfl⟩) hlt75 rfl) (.cons (rule_call (args := [.ptr lS75 ((i61 * 6) + 0), .int .i64 (ms.length : Int)]) (dlCons (dPtr (l := lS75) (o := (i61 * 6)) rfl) (dlCons (dNd rfl ⟨_, rfl⟩) dlNil)) (dNd rfl ⟨_, rfl⟩) (fun H9 hk => (by obtain ⟨pre, post, g1, g2⟩ := flat_split hrk.len hlt75 rest75; exact k_l06Link ms.length hmx v75_0 v75_1 v75_2 v75_3 v75_4 v75_5 ho75_2 ho75_3 ho75_4 ho75_5 H9 _ _ pre post wr75 (by rw [((hk.grew (Nat.le_refl _)).at gS75), g1, hm75]) g2))) .nil))
        · exact (envEq b66 (dNd rfl (slOne hSk)) (envEq b67 (dNd rfl ⟨_, rfl⟩) (envEq b68 (dNd rfl ⟨_, rfl⟩) (envEq b69 (dNd rfl ⟨_, rfl⟩) (envEq b70 (dPtr (l := l) (o := 0) rfl) envNil)))))
        refine all2 (by kernel_rfl) ?_ ?_
        ·
          intro vs ls H76 E76 st hE
          have f77 : (okK ms.length [.int .i64 v75_0, .int .i64 v75_1, .flt .f32 v75_2, .flt .f32 v75_3, .flt .f32 v75_4, .flt .f32 v75_5]) = false := bfact st.inn 0 (by kernel_rfl)
          refine res_ret (by kernel_rfl) (end_flat st.inn hE (.inr rfl) (a := .bool false) (by kernel_rfl) (Grew.trans g72 (st.kept.grew (Nat.le_of_ble_eq_true (by kernel_rfl)))) rfl ⟨?_, rfl⟩)
          rw [okG, show allB (fun i => okK ms.length (ks.getD i [])) ks.length = false from allB_at hlt75 (by show okK _ _ = false; rw [he75]; exact f77), Bool.and_false, Bool.and_false]
        ·
          intro vs ls H78 E78 st hE
          have f79 : (okK ms.length [.int .i64 v75_0, .int .i64 v75_1, .flt .f32 v75_2, .flt .f32 v75_3, .flt .f32 v75_4, .flt .f32 v75_5]) = true := bfact st.inn 0 (by kernel_rfl)
          have hlti61 : i61 < ks.length := by omega
          refine res_next (sl := [(0, .ptr l 0), (3, .int .i64 (ms.length : Int))]) (ti := 5) (i := i61) (Inv := fun i => ∀ j, j < i → okK ms.length (ks.getD j []) = true) (by kernel_rfl) st.inn hE hlti61 (by kernel_rfl) (w := (IntKind.wrap .i64 ((i61 : Int) + 1))) (by kernel_rfl) (wrap64 (by omega)) (Grew.trans g73 (st.kept.grew (Nat.le_of_ble_eq_true (by kernel_rfl)))) ?_
          exact upTo hIi61 (by rw [he75]; exact f79)
      ·
        intro vs ls H80 E80 st hE
        have f81 : ¬ ((i61 : Int) < (ks.length : Int)) := of_decide_eq_false (bfact (x := decide ((i61 : Int) < (ks.length : Int))) st.inn 0 (by kernel_rfl))
        have b82 : E80 5 = .int .i64 (i61 : Int) := env_of st.inn hE 5 (by kernel_rfl)
        have b83 : E80 0 = .ptr l 0 := env_of st.inn hE 0 (by kernel_rfl)
        have b84 : E80 41 = .ptr l 0 := env_of st.inn hE 41 (by kernel_rfl)
        have b85 : E80 42 = .ptr l 0 := env_of st.inn hE 42 (by kernel_rfl)
        have b86 : E80 43 = .ptr l 1 := env_of st.inn hE 43 (by kernel_rfl)
        have b87 : E80 44 = Sk := env_of st.inn hE 44 (by kernel_rfl)
        have b88 : E80 40 = .int .i64 (i61 : Int) := env_of st.inn hE 40 (by kernel_rfl)
        have b89 : E80 45 = .int .i64 (ks.length : Int) := env_of st.inn hE 45 (by kernel_rfl)
        obtain ⟨w90, hw90⟩ : ∃ z, z = (decide ((i61 : Int) < (ks.length : Int))) := ⟨_, rfl⟩
        have b91 : E80 46 = .bool w90 := by rw [hw90]; exact env_of st.inn hE 46 (by kernel_rfl)
        have b92 : E80 3 = .int .i64 (ms.length : Int) := env_of st.inn hE 3 (by kernel_rfl)
        have g93 : Grew Hi61 H80 := (st.kept.grew (Nat.le_of_ble_eq_true (by kernel_rfl)))
        have g94 : Grew H H80 := Grew.trans g62 g93
        have g95 : Grew H54 H80 := Grew.trans hgi61 g93
        have r96 := g93.at r63
        clear st hE vs ls
        refine res_exit (id := 2) (by kernel_rfl) ?_
        refine run_mn (φ := φ0) (pm := pmR 1 [] 0) 20 (nk := [(.atom 0, .one), (.atom 1, .one), (.atom 2, .int .i64), (.atom 3, .int .i64), (.atom 4, .int .i64), (.atom 5, .int .i64), (.atom 6, .bool), (.atom 7, .int .i64), (.atom 8, .int .i64), (.atom 9, .bool)]) (fs := []) (xs := [S, Sk, .int .i64 (ms.length : Int), .int .i64 (ks.length : Int), .int .i64 (i18 : Int), .int .i64 (ms.length : Int), .bool w47, .int .i64 (i61 : Int), .int .i64 (ks.length : Int), .bool w90]) (ws := [⟨l, 0, [.nd 0 .one, .nd 1 .one], false⟩]) (env := [(5, .nd 7 (.int .i64)), (0, .ptr 0 0), (41, .ptr 0 0), (42, .ptr 0 0), (43, .ptr 0 1), (44, .nd 1 .one), (40, .nd 7 (.int .i64)), (45, .nd 8 (.int .i64)), (46, .nd 9 .bool), (3, .nd 2 (.int .i64))]) ?_ ?_ tb_ok ap_ok ?_
        · refine midN_in ?_ .nil _ ?_ ?_ ?_
          · exact (.cons rfl (slOne hS) (.cons rfl (slOne hSk) (.cons rfl ⟨_, rfl⟩ (.cons rfl ⟨_, rfl⟩ (.cons rfl ⟨_, rfl⟩ (.cons rfl ⟨_, rfl⟩ (.cons rfl ⟨_, rfl⟩ (.cons rfl ⟨_, rfl⟩ (.cons rfl ⟨_, rfl⟩ (.cons rfl ⟨_, rfl⟩ .nil))))))))))
          · exact (.cons (win_row r96 (dlCons (dNd rfl (slOne hS)) (dlCons (dNd rfl (slOne hSk)) dlNil))) .nil)
          · exact sepOk_ro rfl
          · exact .nil
        · exact (envEq b82 (dNd rfl ⟨_, rfl⟩) (envEq b83 (dPtr (l := l) (o := 0) rfl) (envEq b84 (dPtr (l := l) (o := 0) rfl) (envEq b85 (dPtr (l := l) (o := 0) rfl) (envEq b86 (dPtr (l := l) (o := 0) rfl) (envEq b87 (dNd rfl (slOne hSk)) (envEq b88 (dNd rfl ⟨_, rfl⟩) (envEq b89 (dNd rfl ⟨_, rfl⟩) (envEq b91 (dNd rfl ⟨_, rfl⟩) (envEq b92 (dNd rfl ⟨_, rfl⟩) envNil))))))))))
        refine all1 (by kernel_rfl) ?_
        intro vs ls H97 E97 st hE
        refine res_ex (by kernel_rfl) (end_flat st.inn hE (.inr rfl) (a := .bool true) (by kernel_rfl) (Grew.trans g94 (st.kept.grew (Nat.le_of_ble_eq_true (by kernel_rfl)))) rfl ⟨?_, rfl⟩)
        rw [okG, decide_eq_true (by omega), allB_true (fun j hj => hIi18 j (by omega)), allB_true (fun j hj => hIi61 j (by omega))]; rfl
  ·
    intro vs ls H98 E98 st hE
    have f99 : (ms.length : Int) < 1 := of_decide_eq_true (bfact (x := decide ((ms.length : Int) < 1)) st.inn 0 (by kernel_rfl))
    refine res_ex (by kernel_rfl) (end_flat st.inn hE (.inr rfl) (a := .bool false) (by kernel_rfl) (Grew.trans (Grew.refl _) (st.kept.grew (Nat.le_of_ble_eq_true (by kernel_rfl)))) rfl ⟨?_, rfl⟩)
    rw [okG, decide_eq_false (by omega)]; rfl
end Go.Proofs.Ytcmoeocemmeofaa
