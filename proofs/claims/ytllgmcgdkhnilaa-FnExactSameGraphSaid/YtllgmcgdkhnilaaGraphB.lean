/- Contracts: graphs that are the same; the law's words for graphs. -/
import Derived.Test.YtllgmcgdkhnilaaGraphA
set_option linter.unusedVariables false
set_option linter.unusedSimpArgs false
namespace Go.Proofs.Ytllgmcgdkhnilaa
open Go.Ab
set_option maxRecDepth 100000
set_option maxHeartbeats 1000000
attribute [local irreducible] Res
theorem k_l06Same (H : AHeap) (l l' : Nat) (ms : List (List AV)) (hr : Recs KP ms) (S : AV) (hS : SlL H 3 ms S) (hmx : ms.length < 2 ^ 40) (ks : List (List AV)) (hrk : Recs KL ks) (Sk : AV) (hSk : SlL H 6 ks Sk) (hmxk : ks.length < 2 ^ 40) (ms' : List (List AV)) (hr' : Recs KP ms') (S' : AV) (hS' : SlL H 3 ms' S') (hmx' : ms'.length < 2 ^ 40) (ks' : List (List AV)) (hrk' : Recs KL ks') (Sk' : AV) (hSk' : SlL H 6 ks' Sk') (hmxk' : ks'.length < 2 ^ 40) (hg : H.get l = some (.row [S, Sk] true)) (hg' : H.get l' = some (.row [S', Sk'] true)) : APure Try.prog 60 [.ptr l 0, .ptr l' 0] H (.bool (sameL sameP ms ms' && sameL sameK ks ks')) := by
  refine res_start h_spec_l06Same (by simp) ?_
  refine run_mn (φ := φ0) (pm := pmR 2 [(.len (.nd 0 .one), .nd 4 (.int .i64)), (.len (.nd 2 .one), .nd 5 (.int .i64)), (.len (.nd 1 .one), .nd 6 (.int .i64)), (.len (.nd 3 .one), .nd 7 (.int .i64))] 0) 20 (nk := [(.atom 0, .one), (.atom 1, .one), (.atom 2, .one), (.atom 3, .one), (.atom 4, .int .i64), (.atom 5, .int .i64), (.atom 6, .int .i64), (.atom 7, .int .i64)]) (fs := []) (xs := [S, Sk, S', Sk', .int .i64 (ms.length : Int), .int .i64 (ms'.length : Int), .int .i64 (ks.length : Int), .int .i64 (ks'.length : Int)]) (ws := [⟨l, 0, [.nd 0 .one, .nd 1 .one], false⟩, ⟨l', 0, [.nd 2 .one, .nd 3 .one], false⟩]) (env := [(0, .ptr 0 0), (1, .ptr 1 0)]) ?_ ?_ tb_ok ap_ok ?_
  · refine midN_in ?_ .nil _ ?_ ?_ ?_
    · exact (.cons rfl (slOne hS) (.cons rfl (slOne hSk) (.cons rfl (slOne hS') (.cons rfl (slOne hSk') (.cons rfl ⟨_, rfl⟩ (.cons rfl ⟨_, rfl⟩ (.cons rfl ⟨_, rfl⟩ (.cons rfl ⟨_, rfl⟩ .nil))))))))
    · exact (.cons (win_row hg (dlCons (dNd rfl (slOne hS)) (dlCons (dNd rfl (slOne hSk)) dlNil))) (.cons (win_row hg' (dlCons (dNd rfl (slOne hS')) (dlCons (dNd rfl (slOne hSk')) dlNil))) .nil))
    · exact sepOk_ro rfl
    · exact (.cons (⟨_, _, (dNd rfl (slOne hS)), (dNd rfl ⟨_, rfl⟩), slLen hS⟩) (.cons (⟨_, _, (dNd rfl (slOne hS')), (dNd rfl ⟨_, rfl⟩), slLen hS'⟩) (.cons (⟨_, _, (dNd rfl (slOne hSk)), (dNd rfl ⟨_, rfl⟩), slLen hSk⟩) (.cons (⟨_, _, (dNd rfl (slOne hSk')), (dNd rfl ⟨_, rfl⟩), slLen hSk'⟩) .nil))))
  · exact (envEq rfl (dPtr (l := l) (o := 0) rfl) (envEq rfl (dPtr (l := l') (o := 0) rfl) envNil))
  refine all3 (by kernel_rfl) ?_ ?_ ?_
  ·
    intro vs ls H1 E1 st hE
    have f2 : ¬ ((ms.length : Int) = (ms'.length : Int)) := of_decide_eq_false (bfact (x := decide ((ms.length : Int) = (ms'.length : Int))) st.inn 0 (by kernel_rfl))
    refine res_ex (by kernel_rfl) (end_flat st.inn hE (.inr rfl) (a := .bool false) (by kernel_rfl) (Grew.trans (Grew.refl _) (st.kept.grew (Nat.le_of_ble_eq_true (by kernel_rfl)))) rfl ⟨?_, rfl⟩)
    first | (rw [sameL, decide_eq_false (show ¬ ms.length = ms'.length by omega)]; rfl) | (rw [show sameL sameK ks ks' = false from (by rw [sameL, decide_eq_false (show ¬ ks.length = ks'.length by omega)]; rfl), Bool.and_false])
  ·
    intro vs ls H3 E3 st hE
    have f4 : ¬ ((ks.length : Int) = (ks'.length : Int)) := of_decide_eq_false (bfact (x := decide ((ks.length : Int) = (ks'.length : Int))) st.inn 0 (by kernel_rfl))
    have f5 : (ms.length : Int) = (ms'.length : Int) := of_decide_eq_true (bfact (x := decide ((ms.length : Int) = (ms'.length : Int))) st.inn 1 (by kernel_rfl))
    refine res_ex (by kernel_rfl) (end_flat st.inn hE (.inr rfl) (a := .bool false) (by kernel_rfl) (Grew.trans (Grew.refl _) (st.kept.grew (Nat.le_of_ble_eq_true (by kernel_rfl)))) rfl ⟨?_, rfl⟩)
    first | (rw [sameL, decide_eq_false (show ¬ ms.length = ms'.length by omega)]; rfl) | (rw [show sameL sameK ks ks' = false from (by rw [sameL, decide_eq_false (show ¬ ks.length = ks'.length by omega)]; rfl), Bool.and_false])
  ·
    intro vs ls H6 E6 st hE
    have f7 : (ks.length : Int) = (ks'.length : Int) := of_decide_eq_true (bfact (x := decide ((ks.length : Int) = (ks'.length : Int))) st.inn 0 (by kernel_rfl))
    have f8 : (ms.length : Int) = (ms'.length : Int) := of_decide_eq_true (bfact (x := decide ((ms.length : Int) = (ms'.length : Int))) st.inn 1 (by kernel_rfl))
    have b9 : E6 5 = .int .i64 0 := env_of st.inn hE 5 (by kernel_rfl)
    have b10 : E6 0 = .ptr l 0 := env_of st.inn hE 0 (by kernel_rfl)
    have b11 : E6 1 = .ptr l' 0 := env_of st.inn hE 1 (by kernel_rfl)
    have g12 : Grew H H6 := (st.kept.grew (Nat.le_of_ble_eq_true (by kernel_rfl)))
    have g13 : Grew H H6 := Grew.trans (Grew.refl _) g12
    have r14 := g12.at hg
    have r15 := g12.at hg'
    clear st hE vs ls
    refine res_scan (by kernel_rfl) [(0, .ptr l 0), (1, .ptr l' 0)] 5 ms.length (fun i => ∀ j, j < i → sameP (ms.getD j []) (ms'.getD j []) = true) (.cons b10 (.cons b11 .nil)) b9 (Grew.refl _) upTo0 ?_
    intro i16 hli16 hIi16 Ei16 Hi16 hsi16 hci16 hgi16
    have g17 : Grew H Hi16 := Grew.trans g13 hgi16
    have r18 := hgi16.at r14
    have r19 := hgi16.at r15
    refine run_mn (φ := φ0) (pm := pmR 2 [(.len (.nd 0 .one), .nd 9 (.int .i64))] 0) 20 (nk := [(.atom 0, .one), (.atom 1, .one), (.atom 2, .one), (.atom 3, .one), (.atom 4, .int .i64), (.atom 5, .int .i64), (.atom 6, .int .i64), (.atom 7, .int .i64), (.atom 8, .int .i64), (.atom 9, .int .i64)]) (fs := []) (xs := [S, Sk, S', Sk', .int .i64 (ms.length : Int), .int .i64 (ms'.length : Int), .int .i64 (ks.length : Int), .int .i64 (ks'.length : Int), .int .i64 (i16 : Int), .int .i64 (ms.length : Int)]) (ws := [⟨l, 0, [.nd 0 .one, .nd 1 .one], false⟩, ⟨l', 0, [.nd 2 .one, .nd 3 .one], false⟩]) (env := [(0, .ptr 0 0), (1, .ptr 1 0), (5, .nd 8 (.int .i64))]) ?_ ?_ tb_ok ap_ok ?_
    · refine midN_in ?_ .nil _ ?_ ?_ ?_
      · exact (.cons rfl (slOne hS) (.cons rfl (slOne hSk) (.cons rfl (slOne hS') (.cons rfl (slOne hSk') (.cons rfl ⟨_, rfl⟩ (.cons rfl ⟨_, rfl⟩ (.cons rfl ⟨_, rfl⟩ (.cons rfl ⟨_, rfl⟩ (.cons rfl ⟨_, rfl⟩ (.cons rfl ⟨_, rfl⟩ .nil))))))))))
      · exact (.cons (win_row r18 (dlCons (dNd rfl (slOne hS)) (dlCons (dNd rfl (slOne hSk)) dlNil))) (.cons (win_row r19 (dlCons (dNd rfl (slOne hS')) (dlCons (dNd rfl (slOne hSk')) dlNil))) .nil))
      · exact sepOk_ro rfl
      · exact (.cons (⟨_, _, (dNd rfl (slOne hS)), (dNd rfl ⟨_, rfl⟩), slLen hS⟩) .nil)
    · exact (envEq (hsi16.at 0 rfl) (dPtr (l := l) (o := 0) rfl) (envEq (hsi16.at 1 rfl) (dPtr (l := l') (o := 0) rfl) (envEq hci16 (dNd rfl ⟨_, rfl⟩) envNil)))
    refine all2 (by kernel_rfl) ?_ ?_
    ·
      intro vs ls H20 E20 st hE
      have f21 : (i16 : Int) < (ms.length : Int) := of_decide_eq_true (bfact (x := decide ((i16 : Int) < (ms.length : Int))) st.inn 0 (by kernel_rfl))
      have b22 : E20 45 = S := env_of st.inn hE 45 (by kernel_rfl)
      have b23 : E20 46 = .int .i64 (i16 : Int) := env_of st.inn hE 46 (by kernel_rfl)
      have b24 : E20 1 = .ptr l' 0 := env_of st.inn hE 1 (by kernel_rfl)
      have b25 : E20 5 = .int .i64 (i16 : Int) := env_of st.inn hE 5 (by kernel_rfl)
      have b26 : E20 0 = .ptr l 0 := env_of st.inn hE 0 (by kernel_rfl)
      have g27 : Grew Hi16 H20 := (st.kept.grew (Nat.le_of_ble_eq_true (by kernel_rfl)))
      have g28 : Grew H H20 := Grew.trans g17 g27
      have g29 : Grew H6 H20 := Grew.trans hgi16 g27
      have r30 := g27.at r18
      have r31 := g27.at r19
      clear st hE vs ls
      have hlt32 : i16 < ms.length := by omega
      obtain ⟨lS32, cap32, rest32, wr32, eS32, gB32⟩ := hS.isSl hlt32
      have gS32 := g28.at gB32
      obtain ⟨v32_0, v32_1, v32_2, hm32, ho32_0, ho32_1, ho32_2⟩ := partsPose (hr.get hlt32)
      have he32 : ms.getD i16 [] = [.flt .f32 v32_0, .flt .f32 v32_1, .flt .f32 v32_2] := by rw [← hm32]; simp [List.getD_eq_getElem?_getD, hlt32]
      refine run_mn (φ := φ0) (pm := pmR 3 [(.ia 3 (.nd 0 .one) (.nd 8 (.int .i64)), .ptr 2 0)] 0) 20 (nk := [(.atom 0, .one), (.atom 1, .one), (.atom 2, .one), (.atom 3, .one), (.atom 4, .int .i64), (.atom 5, .int .i64), (.atom 6, .int .i64), (.atom 7, .int .i64), (.atom 8, .int .i64), (.atom 9, .int .i64), (.atom 10, .flt .f32), (.atom 11, .flt .f32), (.atom 12, .flt .f32)]) (fs := []) (xs := [S, Sk, S', Sk', .int .i64 (ms.length : Int), .int .i64 (ms'.length : Int), .int .i64 (ks.length : Int), .int .i64 (ks'.length : Int), .int .i64 (i16 : Int), .int .i64 (ms.length : Int), .flt .f32 v32_0, .flt .f32 v32_1, .flt .f32 v32_2]) (ws := [⟨l, 0, [.nd 0 .one, .nd 1 .one], false⟩, ⟨l', 0, [.nd 2 .one, .nd 3 .one], false⟩, ⟨lS32, (i16 * 3), [.nd 10 (.flt .f32), .nd 11 (.flt .f32), .nd 12 (.flt .f32)], false⟩]) (env := [(45, .nd 0 .one), (46, .nd 8 (.int .i64)), (1, .ptr 1 0), (5, .nd 8 (.int .i64)), (0, .ptr 0 0)]) ?_ ?_ tb_ok ap_ok ?_
      · refine midN_in ?_ .nil _ ?_ ?_ ?_
        · exact (.cons rfl (slOne hS) (.cons rfl (slOne hSk) (.cons rfl (slOne hS') (.cons rfl (slOne hSk') (.cons rfl ⟨_, rfl⟩ (.cons rfl ⟨_, rfl⟩ (.cons rfl ⟨_, rfl⟩ (.cons rfl ⟨_, rfl⟩ (.cons rfl ⟨_, rfl⟩ (.cons rfl ⟨_, rfl⟩ (.cons rfl ⟨_, rfl, ho32_0⟩ (.cons rfl ⟨_, rfl, ho32_1⟩ (.cons rfl ⟨_, rfl, ho32_2⟩ .nil)))))))))))))
        · exact (.cons (win_row r30 (dlCons (dNd rfl (slOne hS)) (dlCons (dNd rfl (slOne hSk)) dlNil))) (.cons (win_row r31 (dlCons (dNd rfl (slOne hS')) (dlCons (dNd rfl (slOne hSk')) dlNil))) (.cons (win_elem hr gS32 hlt32 rfl (by rw [hm32]; exact (dlCons (dNd rfl ⟨_, rfl, ho32_0⟩) (dlCons (dNd rfl ⟨_, rfl, ho32_1⟩) (dlCons (dNd rfl ⟨_, rfl, ho32_2⟩) dlNil))))) .nil)))
        · exact sepOk_ro rfl
        · exact (.cons (rule_iaS (k := i16) (dNd rfl (slOne hS)) eS32 (dNd rfl ⟨_, rfl⟩) hlt32 rfl) .nil)
      · exact (envEq b22 (dNd rfl (slOne hS)) (envEq b23 (dNd rfl ⟨_, rfl⟩) (envEq b24 (dPtr (l := l') (o := 0) rfl) (envEq b25 (dNd rfl ⟨_, rfl⟩) (envEq b26 (dPtr (l := l) (o := 0) rfl) envNil)))))
      refine all1 (by kernel_rfl) ?_
      intro vs ls H33 E33 st hE
      have b34 : E33 52 = S' := env_of st.inn hE 52 (by kernel_rfl)
      have b35 : E33 53 = .int .i64 (i16 : Int) := env_of st.inn hE 53 (by kernel_rfl)
      have b36 : E33 48 = .agg [.flt .f32 v32_0, .flt .f32 v32_1, .flt .f32 v32_2] := env_of st.inn hE 48 (by kernel_rfl)
      have b37 : E33 5 = .int .i64 (i16 : Int) := env_of st.inn hE 5 (by kernel_rfl)
      have b38 : E33 0 = .ptr l 0 := env_of st.inn hE 0 (by kernel_rfl)
      have b39 : E33 1 = .ptr l' 0 := env_of st.inn hE 1 (by kernel_rfl)
      have g40 : Grew H20 H33 := (st.kept.grew (Nat.le_of_ble_eq_true (by kernel_rfl)))
      have g41 : Grew H H33 := Grew.trans g28 g40
      have g42 : Grew H6 H33 := Grew.trans g29 g40
      have r43 := g40.at r30
      have r44 := g40.at r31
      clear st hE vs ls
      have hlt46 : i16 < ms'.length := by omega
      obtain ⟨lS46, cap46, rest46, wr46, eS46, gB46⟩ := hS'.isSl hlt46
      have gS46 := g41.at gB46
      obtain ⟨v46_0, v46_1, v46_2, hm46, ho46_0, ho46_1, ho46_2⟩ := partsPose (hr'.get hlt46)
      have he46 : ms'.getD i16 [] = [.flt .f32 v46_0, .flt .f32 v46_1, .flt .f32 v46_2] := by rw [← hm46]; simp [List.getD_eq_getElem?_getD, hlt46]
      refine run_mn (φ := φ0) (pm := pmR 3 [(.ia 3 (.nd 2 .one) (.nd 8 (.int .i64)), .ptr 2 0), (.call 57 [.agg [.nd 10 (.flt .f32), .nd 11 (.flt .f32), .nd 12 (.flt .f32)], .agg [.nd 13 (.flt .f32), .nd 14 (.flt .f32), .nd 15 (.flt .f32)]], .nd 16 .bool)] 0) 20 (nk := [(.atom 0, .one), (.atom 1, .one), (.atom 2, .one), (.atom 3, .one), (.atom 4, .int .i64), (.atom 5, .int .i64), (.atom 6, .int .i64), (.atom 7, .int .i64), (.atom 8, .int .i64), (.atom 9, .int .i64), (.atom 10, .flt .f32), (.atom 11, .flt .f32), (.atom 12, .flt .f32), (.atom 13, .flt .f32), (.atom 14, .flt .f32), (.atom 15, .flt .f32), (.atom 16, .bool)]) (fs := []) (xs := [S, Sk, S', Sk', .int .i64 (ms.length : Int), .int .i64 (ms'.length : Int), .int .i64 (ks.length : Int), .int .i64 (ks'.length : Int), .int .i64 (i16 : Int), .int .i64 (ms.length : Int), .flt .f32 v32_0, .flt .f32 v32_1, .flt .f32 v32_2, .flt .f32 v46_0, .flt .f32 v46_1, .flt .f32 v46_2, .bool (sameP [.flt .f32 v32_0, .flt .f32 v32_1, .flt .f32 v32_2] [.flt .f32 v46_0, .flt .f32 v46_1, .flt .f32 v46_2])]) (ws := [⟨l, 0, [.nd 0 .one, .nd 1 .one], false⟩, ⟨l', 0, [.nd 2 .one, .nd 3 .one], false⟩, ⟨lS46, (i16 * 3), [.nd 13 (.flt .f32), .nd 14 (.flt .f32), .nd 15 (.flt .f32)], false⟩]) (env := [(52, .nd 2 .one), (53, .nd 8 (.int .i64)), (48, .agg [.nd 10 (.flt .f32), .nd 11 (.flt .f32), .nd 12 (.flt .f32)]), (5, .nd 8 (.int .i64)), (0, .ptr 0 0), (1, .ptr 1 0)]) ?_ ?_ tb_ok ap_ok ?_
      · refine midN_in ?_ .nil _ ?_ ?_ ?_
        · exact (.cons rfl (slOne hS) (.cons rfl (slOne hSk) (.cons rfl (slOne hS') (.cons rfl (slOne hSk') (.cons rfl ⟨_, rfl⟩ (.cons rfl ⟨_, rfl⟩ (.cons rfl ⟨_, rfl⟩ (.cons rfl ⟨_, rfl⟩ (.cons rfl ⟨_, rfl⟩ (.cons rfl ⟨_, rfl⟩ (.cons rfl ⟨_, rfl, ho32_0⟩ (.cons rfl ⟨_, rfl, ho32_1⟩ (.cons rfl ⟨_, rfl, ho32_2⟩ (.cons rfl ⟨_, rfl, ho46_0⟩ (.cons rfl ⟨_, rfl, ho46_1⟩ (.cons rfl ⟨_, rfl, ho46_2⟩ (.cons rfl ⟨_, rfl⟩ .nil)))))))))))))))))
        · exact (.cons (win_row r43 (dlCons (dNd rfl (slOne hS)) (dlCons (dNd rfl (slOne hSk)) dlNil))) (.cons (win_row r44 (dlCons (dNd rfl (slOne hS')) (dlCons (dNd rfl (slOne hSk')) dlNil))) (.cons (win_elem hr' gS46 hlt46 rfl (by rw [hm46]; exact (dlCons (dNd rfl ⟨_, rfl, ho46_0⟩) (dlCons (dNd rfl ⟨_, rfl, ho46_1⟩) (dlCons (dNd rfl ⟨_, rfl, ho46_2⟩) dlNil))))) .nil)))
        · exact sepOk_ro rfl
        · exact (.cons (rule_iaS (k := i16) (dNd rfl (slOne hS')) eS46 (dNd rfl ⟨_, rfl⟩) hlt46 rfl) (.cons (rule_call (args := [.agg [.flt .f32 v32_0, .flt .f32 v32_1, .flt .f32 v32_2], .agg [.flt .f32 v46_0, .flt .f32 v46_1, .flt .f32 v46_2]]) (dlCons (dAgg (dlCons (dNd rfl ⟨_, rfl, ho32_0⟩) (dlCons (dNd rfl ⟨_, rfl, ho32_1⟩) (dlCons (dNd rfl ⟨_, rfl, ho32_2⟩) dlNil)))) (dlCons (dAgg (dlCons (dNd rfl ⟨_, rfl, ho46_0⟩) (dlCons (dNd rfl ⟨_, rfl, ho46_1⟩) (dlCons (dNd rfl ⟨_, rfl, ho46_2⟩) dlNil)))) dlNil)) (dNd rfl ⟨_, rfl⟩) (fun H9 hk => k_l06SamePose [.flt .f32 v32_0, .flt .f32 v32_1, .flt .f32 v32_2] [.flt .f32 v46_0, .flt .f32 v46_1, .flt .f32 v46_2] (.cons ⟨_, rfl, ho32_0⟩ (.cons ⟨_, rfl, ho32_1⟩ (.cons ⟨_, rfl, ho32_2⟩ .nil))) (.cons ⟨_, rfl, ho46_0⟩ (.cons ⟨_, rfl, ho46_1⟩ (.cons ⟨_, rfl, ho46_2⟩ .nil))) H9)) .nil))
      · exact (envEq b34 (dNd rfl (slOne hS')) (envEq b35 (dNd rfl ⟨_, rfl⟩) (envEq b36 (dAgg (dlCons (dNd rfl ⟨_, rfl, ho32_0⟩) (dlCons (dNd rfl ⟨_, rfl, ho32_1⟩) (dlCons (dNd rfl ⟨_, rfl, ho32_2⟩) dlNil)))) (envEq b37 (dNd rfl ⟨_, rfl⟩) (envEq b38 (dPtr (l := l) (o := 0) rfl) (envEq b39 (dPtr (l := l') (o := 0) rfl) envNil))))))
      refine all2 (by kernel_rfl) ?_ ?_
      ·
        intro vs ls H47 E47 st hE
        have f48 : (sameP [.flt .f32 v32_0, .flt .f32 v32_1, .flt .f32 v32_2] [.flt .f32 v46_0, .flt .f32 v46_1, .flt .f32 v46_2]) = false := bfact st.inn 0 (by kernel_rfl)
        refine res_ret (by kernel_rfl) (end_flat st.inn hE (.inr rfl) (a := .bool false) (by kernel_rfl) (Grew.trans g41 (st.kept.grew (Nat.le_of_ble_eq_true (by kernel_rfl)))) rfl ⟨?_, rfl⟩)
        rw [show sameL sameP ms ms' = false from (by rw [sameL, allB_at hlt32 (by show sameP _ _ = false; rw [he32, he46]; exact f48), Bool.and_false]), Bool.false_and]
      ·
        intro vs ls H49 E49 st hE
        have f50 : (sameP [.flt .f32 v32_0, .flt .f32 v32_1, .flt .f32 v32_2] [.flt .f32 v46_0, .flt .f32 v46_1, .flt .f32 v46_2]) = true := bfact st.inn 0 (by kernel_rfl)
        have hlti16 : i16 < ms.length := by omega
        refine res_next (sl := [(0, .ptr l 0), (1, .ptr l' 0)]) (ti := 5) (i := i16) (Inv := fun i => ∀ j, j < i → sameP (ms.getD j []) (ms'.getD j []) = true) (by kernel_rfl) st.inn hE hlti16 (by kernel_rfl) (w := (IntKind.wrap .i64 ((i16 : Int) + 1))) (by kernel_rfl) (wrap64 (by omega)) (Grew.trans g42 (st.kept.grew (Nat.le_of_ble_eq_true (by kernel_rfl)))) ?_
        exact upTo hIi16 (by rw [he32, he46]; exact f50)
    ·
      intro vs ls H51 E51 st hE
      have f52 : ¬ ((i16 : Int) < (ms.length : Int)) := of_decide_eq_false (bfact (x := decide ((i16 : Int) < (ms.length : Int))) st.inn 0 (by kernel_rfl))
      have b53 : E51 5 = .int .i64 (i16 : Int) := env_of st.inn hE 5 (by kernel_rfl)
      have b54 : E51 0 = .ptr l 0 := env_of st.inn hE 0 (by kernel_rfl)
      have b55 : E51 34 = .ptr l 0 := env_of st.inn hE 34 (by kernel_rfl)
      have b56 : E51 35 = .ptr l 0 := env_of st.inn hE 35 (by kernel_rfl)
      have b57 : E51 36 = .ptr l 0 := env_of st.inn hE 36 (by kernel_rfl)
      have b58 : E51 37 = S := env_of st.inn hE 37 (by kernel_rfl)
      have b59 : E51 33 = .int .i64 (i16 : Int) := env_of st.inn hE 33 (by kernel_rfl)
      have b60 : E51 38 = .int .i64 (ms.length : Int) := env_of st.inn hE 38 (by kernel_rfl)
      obtain ⟨w61, hw61⟩ : ∃ z, z = (decide ((i16 : Int) < (ms.length : Int))) := ⟨_, rfl⟩
      have b62 : E51 39 = .bool w61 := by rw [hw61]; exact env_of st.inn hE 39 (by kernel_rfl)
      have b63 : E51 1 = .ptr l' 0 := env_of st.inn hE 1 (by kernel_rfl)
      have g64 : Grew Hi16 H51 := (st.kept.grew (Nat.le_of_ble_eq_true (by kernel_rfl)))
      have g65 : Grew H H51 := Grew.trans g17 g64
      have g66 : Grew H6 H51 := Grew.trans hgi16 g64
      have r67 := g64.at r18
      have r68 := g64.at r19
      clear st hE vs ls
      refine res_exit (id := 0) (by kernel_rfl) ?_
      refine run_mn (φ := φ0) (pm := pmR 2 [] 0) 20 (nk := [(.atom 0, .one), (.atom 1, .one), (.atom 2, .one), (.atom 3, .one), (.atom 4, .int .i64), (.atom 5, .int .i64), (.atom 6, .int .i64), (.atom 7, .int .i64), (.atom 8, .int .i64), (.atom 9, .int .i64), (.atom 10, .bool)]) (fs := []) (xs := [S, Sk, S', Sk', .int .i64 (ms.length : Int), .int .i64 (ms'.length : Int), .int .i64 (ks.length : Int), .int .i64 (ks'.length : Int), .int .i64 (i16 : Int), .int .i64 (ms.length : Int), .bool w61]) (ws := [⟨l, 0, [.nd 0 .one, .nd 1 .one], false⟩, ⟨l', 0, [.nd 2 .one, .nd 3 .one], false⟩]) (env := [(5, .nd 8 (.int .i64)), (0, .ptr 0 0), (34, .ptr 0 0), (35, .ptr 0 0), (36, .ptr 0 0), (37, .nd 0 .one), (33, .nd 8 (.int .i64)), (38, .nd 9 (.int .i64)), (39, .nd 10 .bool), (1, .ptr 1 0)]) ?_ ?_ tb_ok ap_ok ?_
      · refine midN_in ?_ .nil _ ?_ ?_ ?_
        · exact (.cons rfl (slOne hS) (.cons rfl (slOne hSk) (.cons rfl (slOne hS') (.cons rfl (slOne hSk') (.cons rfl ⟨_, rfl⟩ (.cons rfl ⟨_, rfl⟩ (.cons rfl ⟨_, rfl⟩ (.cons rfl ⟨_, rfl⟩ (.cons rfl ⟨_, rfl⟩ (.cons rfl ⟨_, rfl⟩ (.cons rfl ⟨_, rfl⟩ .nil)))))))))))
        · exact (.cons (win_row r67 (dlCons (dNd rfl (slOne hS)) (dlCons (dNd rfl (slOne hSk)) dlNil))) (.cons (win_row r68 (dlCons (dNd rfl (slOne hS')) (dlCons (dNd rfl (slOne hSk')) dlNil))) .nil))
        · exact sepOk_ro rfl
        · exact .nil
      · exact (envEq b53 (dNd rfl ⟨_, rfl⟩) (envEq b54 (dPtr (l := l) (o := 0) rfl) (envEq b55 (dPtr (l := l) (o := 0) rfl) (envEq b56 (dPtr (l := l) (o := 0) rfl) (envEq b57 (dPtr (l := l) (o := 0) rfl) (envEq b58 (dNd rfl (slOne hS)) (envEq b59 (dNd rfl ⟨_, rfl⟩) (envEq b60 (dNd rfl ⟨_, rfl⟩) (envEq b62 (dNd rfl ⟨_, rfl⟩) (envEq b63 (dPtr (l := l') (o := 0) rfl) envNil))))))))))
      refine all1 (by kernel_rfl) ?_
      intro vs ls H69 E69 st hE
      have b70 : E69 6 = .int .i64 0 := env_of st.inn hE 6 (by kernel_rfl)
      have b71 : E69 0 = .ptr l 0 := env_of st.inn hE 0 (by kernel_rfl)
      have b72 : E69 1 = .ptr l' 0 := env_of st.inn hE 1 (by kernel_rfl)
      have g73 : Grew H51 H69 := (st.kept.grew (Nat.le_of_ble_eq_true (by kernel_rfl)))
      have g74 : Grew H H69 := Grew.trans g65 g73
      have r75 := g73.at r67
      have r76 := g73.at r68
      clear st hE vs ls
      refine res_scan (by kernel_rfl) [(0, .ptr l 0), (1, .ptr l' 0)] 6 ks.length (fun i => ∀ j, j < i → sameK (ks.getD j []) (ks'.getD j []) = true) (.cons b71 (.cons b72 .nil)) b70 (Grew.refl _) upTo0 ?_
      intro i77 hli77 hIi77 Ei77 Hi77 hsi77 hci77 hgi77
      have g78 : Grew H Hi77 := Grew.trans g74 hgi77
      have r79 := hgi77.at r75
      have r80 := hgi77.at r76
      refine run_mn (φ := φ0) (pm := pmR 2 [(.len (.nd 1 .one), .nd 12 (.int .i64))] 0) 20 (nk := [(.atom 0, .one), (.atom 1, .one), (.atom 2, .one), (.atom 3, .one), (.atom 4, .int .i64), (.atom 5, .int .i64), (.atom 6, .int .i64), (.atom 7, .int .i64), (.atom 8, .int .i64), (.atom 9, .int .i64), (.atom 10, .bool), (.atom 11, .int .i64), (.atom 12, .int .i64)]) (fs := []) (xs := [S, Sk, S', Sk', .int .i64 (ms.length : Int), .int .i64 (ms'.length : Int), .int .i64 (ks.length : Int), .int .i64 (ks'.length : Int), .int .i64 (i16 : Int), .int .i64 (ms.length : Int), .bool w61, .int .i64 (i77 : Int), .int .i64 (ks.length : Int)]) (ws := [⟨l, 0, [.nd 0 .one, .nd 1 .one], false⟩, ⟨l', 0, [.nd 2 .one, .nd 3 .one], false⟩]) (env := [(0, .ptr 0 0), (1, .ptr 1 0), (6, .nd 11 (.int .i64))]) ?_ ?_ tb_ok ap_ok ?_
      · refine midN_in ?_ .nil _ ?_ ?_ ?_
        · exact (.cons rfl (slOne hS) (.cons rfl (slOne hSk) (.cons rfl (slOne hS') (.cons rfl (slOne hSk') (.cons rfl ⟨_, rfl⟩ (.cons rfl ⟨_, rfl⟩ (.cons rfl ⟨_, rfl⟩ (.cons rfl ⟨_, rfl⟩ (.cons rfl ⟨_, rfl⟩ (.cons rfl ⟨_, rfl⟩ (.cons rfl ⟨_, rfl⟩ (.cons rfl ⟨_, rfl⟩ (.cons rfl ⟨_, rfl⟩ .nil)))))))))))))
        · exact (.cons (win_row r79 (dlCons (dNd rfl (slOne hS)) (dlCons (dNd rfl (slOne hSk)) dlNil))) (.cons (win_row r80 (dlCons (dNd rfl (slOne hS')) (dlCons (dNd rfl (slOne hSk')) dlNil))) .nil))
        · exact sepOk_ro rfl
        · exact (.cons (⟨_, _, (dNd rfl (slOne hSk)), (dNd rfl ⟨_, rfl⟩), slLen hSk⟩) .nil)
      · exact (envEq (hsi77.at 0 rfl) (dPtr (l := l) (o := 0) rfl) (envEq (hsi77.at 1 rfl) (dPtr (l := l') (o := 0) rfl) (envEq hci77 (dNd rfl ⟨_, rfl⟩) envNil)))
      refine all2 (by kernel_rfl) ?_ ?_
      ·
        intro vs ls H81 E81 st hE
        have f82 : (i77 : Int) < (ks.length : Int) := of_decide_eq_true (bfact (x := decide ((i77 : Int) < (ks.length : Int))) st.inn 0 (by kernel_rfl))
        have b83 : E81 70 = Sk := env_of st.inn hE 70 (by kernel_rfl)
        have b84 : E81 71 = .int .i64 (i77 : Int) := env_of st.inn hE 71 (by kernel_rfl)
        have b85 : E81 1 = .ptr l' 0 := env_of st.inn hE 1 (by kernel_rfl)
        have b86 : E81 6 = .int .i64 (i77 : Int) := env_of st.inn hE 6 (by kernel_rfl)
        have b87 : E81 0 = .ptr l 0 := env_of st.inn hE 0 (by kernel_rfl)
        have g88 : Grew Hi77 H81 := (st.kept.grew (Nat.le_of_ble_eq_true (by kernel_rfl)))
        have g89 : Grew H H81 := Grew.trans g78 g88
        have g90 : Grew H69 H81 := Grew.trans hgi77 g88
        have r91 := g88.at r79
        have r92 := g88.at r80
        clear st hE vs ls
        have hlt93 : i77 < ks.length := by omega
        obtain ⟨lS93, cap93, rest93, wr93, eS93, gB93⟩ := hSk.isSl hlt93
        have gS93 := g89.at gB93
        obtain ⟨v93_0, v93_1, v93_2, v93_3, v93_4, v93_5, hm93, ho93_2, ho93_3, ho93_4, ho93_5⟩ := partsLink (hrk.get hlt93)
        have he93 : ks.getD i77 [] = [.int .i64 v93_0, .int .i64 v93_1, .flt .f32 v93_2, .flt .f32 v93_3, .flt .f32 v93_4, .flt .f32 v93_5] := by rw [← hm93]; simp [List.getD_eq_getElem?_getD, hlt93]
        refine run_mn (φ := φ0) (pm := pmR 3 [(.ia 6 (.nd 1 .one) (.nd 11 (.int .i64)), .ptr 2 0)] 0) 20 (nk := [(.atom 0, .one), (.atom 1, .one), (.atom 2, .one), (.atom 3, .one), (.atom 4, .int .i64), (.atom 5, .int .i64), (.atom 6, .int .i64), (.atom 7, .int .i64), (.atom 8, .int .i64), (.atom 9, .int .i64), (.atom 10, .bool), (.atom 11, .int .i64), (.atom 12, .int .i64), (.atom 13, .int .i64), (.atom 14, .int .i64), (.atom 15, .flt .f32), (.atom 16, .flt .f32), (.atom 17, .flt .f32), (.atom 18, .flt .f32)]) (fs := []) (xs := [S, Sk, S', Sk', .int .i64 (ms.length : Int), .int .i64 (ms'.length : Int), .int .i64 (ks.length : Int), .int .i64 (ks'.length : Int), .int .i64 (i16 : Int), .int .i64 (ms.length : Int), .bool w61, .int .i64 (i77 : Int), .int .i64 (ks.length : Int), .int .i64 v93_0, .int .i64 v93_1, .flt .f32 v93_2, .flt .f32 v93_3, .flt .f32 v93_4, .flt .f32 v93_5]) (ws := [⟨l, 0, [.nd 0 .one, .nd 1 .one], false⟩, ⟨l', 0, [.nd 2 .one, .nd 3 .one], false⟩, ⟨lS93, (i77 * 6), [.nd 13 (.int .i64), .nd 14 (.int .i64), .nd 15 (.flt .f32), .nd 16 (.flt .f32), .nd 17 (.flt .f32), .nd 18 (.flt .f32)], false⟩]) (env := [(70, .nd 1 .one), (71, .nd 11 (.int .i64)), (1, .ptr 1 0), (6, .nd 11 (.int .i64)), (0, .ptr 0 0)]) ?_ ?_ tb_ok ap_ok ?_
        · refine midN_in ?_ .nil _ ?_ ?_ ?_
          · exact (.cons rfl (slOne hS) (.cons rfl (slOne hSk) (.cons rfl (slOne hS') (.cons rfl (slOne hSk') (.cons rfl ⟨_, rfl⟩ (.cons rfl ⟨_, rfl⟩ (.cons rfl ⟨_, rfl⟩ (.cons rfl ⟨_, rfl⟩ (.cons rfl ⟨_, rfl⟩ (.cons rfl ⟨_, rfl⟩ (.cons rfl ⟨_, rfl⟩ (.cons rfl ⟨_, rfl⟩ (.cons rfl ⟨_, rfl⟩ (.cons rfl ⟨_, rfl⟩ (.cons rfl ⟨_, rfl⟩ (.cons rfl ⟨_, rfl, ho93_2⟩ (.cons rfl ⟨_, rfl, ho93_3⟩ (.cons rfl ⟨_, rfl, ho93_4⟩ (.cons rfl ⟨_, rfl, ho93_5⟩ .nil)))))))))))))))))))
          · exact (.cons (win_row r91 (dlCons (dNd rfl (slOne hS)) (dlCons (dNd rfl (slOne hSk)) dlNil))) (.cons (win_row r92 (dlCons (dNd rfl (slOne hS')) (dlCons (dNd rfl (slOne hSk')) dlNil))) (.cons (win_elem hrk gS93 hlt93 rfl (by rw [hm93]; exact (dlCons (dNd rfl ⟨_, rfl⟩) (dlCons (dNd rfl ⟨_, rfl⟩) (dlCons (dNd rfl ⟨_, rfl, ho93_2⟩) (dlCons (dNd rfl ⟨_, rfl, ho93_3⟩) (dlCons (dNd rfl ⟨_, rfl, ho93_4⟩) (dlCons (dNd rfl ⟨_, rfl, ho93_5⟩) dlNil)))))))) .nil)))
          · exact sepOk_ro rfl
          · exact (.cons (rule_iaS (k := i77) (dNd rfl (slOne hSk)) eS93 (dNd rfl ⟨_, rfl⟩) hlt93 rfl) .nil)
        · exact (envEq b83 (dNd rfl (slOne hSk)) (envEq b84 (dNd rfl ⟨_, rfl⟩) (envEq b85 (dPtr (l := l') (o := 0) rfl) (envEq b86 (dNd rfl ⟨_, rfl⟩) (envEq b87 (dPtr (l := l) (o := 0) rfl) envNil)))))
        refine all1 (by kernel_rfl) ?_
        intro vs ls H94 E94 st hE
        have b95 : E94 76 = Sk' := env_of st.inn hE 76 (by kernel_rfl)
        have b96 : E94 77 = .int .i64 (i77 : Int) := env_of st.inn hE 77 (by kernel_rfl)
        have b97 : E94 7 = .ptr lS93 ((i77 * 6) + 0) := env_of st.inn hE 7 (by kernel_rfl)
        have b98 : E94 6 = .int .i64 (i77 : Int) := env_of st.inn hE 6 (by kernel_rfl)
        have b99 : E94 0 = .ptr l 0 := env_of st.inn hE 0 (by kernel_rfl)
        have b100 : E94 1 = .ptr l' 0 := env_of st.inn hE 1 (by kernel_rfl)
        have g101 : Grew H81 H94 := (st.kept.grew (Nat.le_of_ble_eq_true (by kernel_rfl)))
        have g102 : Grew H H94 := Grew.trans g89 g101
        have g103 : Grew H69 H94 := Grew.trans g90 g101
        have r104 := g101.at r91
        have r105 := g101.at r92
        have r106 := g101.at gS93
        clear st hE vs ls
        have hlt107 : i77 < ks'.length := by omega
        obtain ⟨lS107, cap107, rest107, wr107, eS107, gB107⟩ := hSk'.isSl hlt107
        have gS107 := g102.at gB107
        obtain ⟨v107_0, v107_1, v107_2, v107_3, v107_4, v107_5, hm107, ho107_2, ho107_3, ho107_4, ho107_5⟩ := partsLink (hrk'.get hlt107)
        have he107 : ks'.getD i77 [] = [.int .i64 v107_0, .int .i64 v107_1, .flt .f32 v107_2, .flt .f32 v107_3, .flt .f32 v107_4, .flt .f32 v107_5] := by rw [← hm107]; simp [List.getD_eq_getElem?_getD, hlt107]
        refine run_mn (φ := φ0) (pm := pmR 4 [(.ia 6 (.nd 3 .one) (.nd 11 (.int .i64)), .ptr 3 0), (.call 57 [.agg [.nd 15 (.flt .f32), .nd 16 (.flt .f32), .nd 17 (.flt .f32)], .agg [.nd 21 (.flt .f32), .nd 22 (.flt .f32), .nd 23 (.flt .f32)]], .nd 25 .bool), (.call 95 [.nd 18 (.flt .f32), .nd 24 (.flt .f32)], .nd 26 .bool)] 0) 20 (nk := [(.atom 0, .one), (.atom 1, .one), (.atom 2, .one), (.atom 3, .one), (.atom 4, .int .i64), (.atom 5, .int .i64), (.atom 6, .int .i64), (.atom 7, .int .i64), (.atom 8, .int .i64), (.atom 9, .int .i64), (.atom 10, .bool), (.atom 11, .int .i64), (.atom 12, .int .i64), (.atom 13, .int .i64), (.atom 14, .int .i64), (.atom 15, .flt .f32), (.atom 16, .flt .f32), (.atom 17, .flt .f32), (.atom 18, .flt .f32), (.atom 19, .int .i64), (.atom 20, .int .i64), (.atom 21, .flt .f32), (.atom 22, .flt .f32), (.atom 23, .flt .f32), (.atom 24, .flt .f32), (.atom 25, .bool), (.atom 26, .bool)]) (fs := []) (xs := [S, Sk, S', Sk', .int .i64 (ms.length : Int), .int .i64 (ms'.length : Int), .int .i64 (ks.length : Int), .int .i64 (ks'.length : Int), .int .i64 (i16 : Int), .int .i64 (ms.length : Int), .bool w61, .int .i64 (i77 : Int), .int .i64 (ks.length : Int), .int .i64 v93_0, .int .i64 v93_1, .flt .f32 v93_2, .flt .f32 v93_3, .flt .f32 v93_4, .flt .f32 v93_5, .int .i64 v107_0, .int .i64 v107_1, .flt .f32 v107_2, .flt .f32 v107_3, .flt .f32 v107_4, .flt .f32 v107_5, .bool (sameP [.flt .f32 v93_2, .flt .f32 v93_3, .flt .f32 v93_4] [.flt .f32 v107_2, .flt .f32 v107_3, .flt .f32 v107_4]), .bool (sameN v93_5 v107_5)]) (ws := [⟨l, 0, [.nd 0 .one, .nd 1 .one], false⟩, ⟨l', 0, [.nd 2 .one, .nd 3 .one], false⟩, ⟨lS93, (i77 * 6), [.nd 13 (.int .i64), .nd 14 (.int .i64), .nd 15 (.flt .f32), .nd 16 (.flt .f32), .nd 17 (.flt .f32), .nd 18 (.flt .f32)], false⟩, ⟨lS107, (i77 * 6), [.nd 19 (.int .i64), .nd 20 (.int .i64), .nd 21 (.flt .f32), .nd 22 (.flt .f32), .nd 23 (.flt .f32), .nd 24 (.flt .f32)], false⟩]) (env := [(76, .nd 3 .one), (77, .nd 11 (.int .i64)), (7, .ptr 2 0), (6, .nd 11 (.int .i64)), (0, .ptr 0 0), (1, .ptr 1 0)]) ?_ ?_ tb_ok ap_ok ?_
        · refine midN_in ?_ .nil _ ?_ ?_ ?_
          · exact (.cons rfl (slOne hS) (.cons rfl (slOne hSk) (.cons rfl (slOne hS') (.cons rfl (slOne hSk') (.cons rfl ⟨_, rfl⟩ (.cons rfl ⟨_, rfl⟩ (.cons rfl ⟨_, rfl⟩ (.cons rfl ⟨_, rfl⟩ (.cons rfl ⟨_, rfl⟩ (.cons rfl ⟨_, rfl⟩ (.cons rfl ⟨_, rfl⟩ (.cons rfl ⟨_, rfl⟩ (.cons rfl ⟨_, rfl⟩ (.cons rfl ⟨_, rfl⟩ (.cons rfl ⟨_, rfl⟩ (.cons rfl ⟨_, rfl, ho93_2⟩ (.cons rfl ⟨_, rfl, ho93_3⟩ (.cons rfl ⟨_, rfl, ho93_4⟩ (.cons rfl ⟨_, rfl, ho93_5⟩ (.cons rfl ⟨_, rfl⟩ (.cons rfl ⟨_, rfl⟩ (.cons rfl ⟨_, rfl, ho107_2⟩ (.cons rfl ⟨_, rfl, ho107_3⟩ (.cons rfl ⟨_, rfl, ho107_4⟩ (.cons rfl ⟨_, rfl, ho107_5⟩ (.cons rfl ⟨_, rfl⟩ (.cons rfl ⟨_, rfl⟩ .nil)))))))))))))))))))))))))))
          · exact (.cons (win_row r104 (dlCons (dNd rfl (slOne hS)) (dlCons (dNd rfl (slOne hSk)) dlNil))) (.cons (win_row r105 (dlCons (dNd rfl (slOne hS')) (dlCons (dNd rfl (slOne hSk')) dlNil))) (.cons (win_elem hrk r106 hlt93 rfl (by rw [hm93]; exact (dlCons (dNd rfl ⟨_, rfl⟩) (dlCons (dNd rfl ⟨_, rfl⟩) (dlCons (dNd rfl ⟨_, rfl, ho93_2⟩) (dlCons (dNd rfl ⟨_, rfl, ho93_3⟩) (dlCons (dNd rfl ⟨_, rfl, ho93_4⟩) (dlCons (dNd rfl ⟨_, rfl, ho93_5⟩) dlNil)))))))) (.cons (win_elem hrk' gS107 hlt107 rfl (by rw [hm107]; exact (dlCons (dNd rfl ⟨_, rfl⟩) (dlCons (dNd rfl ⟨_, rfl⟩) (dlCons (dNd rfl ⟨_, rfl, ho107_2⟩) (dlCons (dNd rfl ⟨_, rfl, ho107_3⟩) (dlCons (dNd rfl ⟨_, rfl, ho107_4⟩) (dlCons (dNd rfl ⟨_, rfl, ho107_5⟩) dlNil)))))))) .nil))))
          · exact sepOk_ro rfl
          · exact (.cons (rule_iaS (k := i77) (dNd rfl (slOne hSk')) eS107 (dNd rfl ⟨_, rfl⟩) hlt107 rfl) (.cons (rule_call (args := [.agg [.flt .f32 v93_2, .flt .f32 v93_3, .flt .f32 v93_4], .agg [.flt .f32 v107_2, .flt .f32 v107_3, .flt .f32 v107_4]]) (dlCons (dAgg (dlCons (dNd rfl ⟨_, rfl, ho93_2⟩) (dlCons (dNd rfl ⟨_, rfl, ho93_3⟩) (dlCons (dNd rfl ⟨_, rfl, ho93_4⟩) dlNil)))) (dlCons (dAgg (dlCons (dNd rfl ⟨_, rfl, ho107_2⟩) (dlCons (dNd rfl ⟨_, rfl, ho107_3⟩) (dlCons (dNd rfl ⟨_, rfl, ho107_4⟩) dlNil)))) dlNil)) (dNd rfl ⟨_, rfl⟩) (fun H9 hk => k_l06SamePose [.flt .f32 v93_2, .flt .f32 v93_3, .flt .f32 v93_4] [.flt .f32 v107_2, .flt .f32 v107_3, .flt .f32 v107_4] (.cons ⟨_, rfl, ho93_2⟩ (.cons ⟨_, rfl, ho93_3⟩ (.cons ⟨_, rfl, ho93_4⟩ .nil))) (.cons ⟨_, rfl, ho107_2⟩ (.cons ⟨_, rfl, ho107_3⟩ (.cons ⟨_, rfl, ho107_4⟩ .nil))) H9)) (.cons (rule_call (args := [.flt .f32 v93_5, .flt .f32 v107_5]) (dlCons (dNd rfl ⟨_, rfl, ho93_5⟩) (dlCons (dNd rfl ⟨_, rfl, ho107_5⟩) dlNil)) (dNd rfl ⟨_, rfl⟩) (fun H9 hk => k_l01Same v93_5 v107_5 ho93_5 ho107_5 H9)) .nil)))
        · exact (envEq b95 (dNd rfl (slOne hSk')) (envEq b96 (dNd rfl ⟨_, rfl⟩) (envEq b97 (dPtr (l := lS93) (o := (i77 * 6)) rfl) (envEq b98 (dNd rfl ⟨_, rfl⟩) (envEq b99 (dPtr (l := l) (o := 0) rfl) (envEq b100 (dPtr (l := l') (o := 0) rfl) envNil))))))
        refine all5 (by kernel_rfl) ?_ ?_ ?_ ?_ ?_
        ·
          intro vs ls H108 E108 st hE
          have f109 : ¬ (v93_0 = v107_0) := of_decide_eq_false (bfact (x := decide (v93_0 = v107_0)) st.inn 0 (by kernel_rfl))
          refine res_ret (by kernel_rfl) (end_flat st.inn hE (.inr rfl) (a := .bool false) (by kernel_rfl) (Grew.trans g102 (st.kept.grew (Nat.le_of_ble_eq_true (by kernel_rfl)))) rfl ⟨?_, rfl⟩)
          rw [show sameL sameK ks ks' = false from (by rw [sameL, allB_at hlt93 (by show sameK _ _ = false; rw [he93, he107]; simp [sameK, f109]), Bool.and_false]), Bool.and_false]
        ·
          intro vs ls H110 E110 st hE
          have f111 : ¬ (v93_1 = v107_1) := of_decide_eq_false (bfact (x := decide (v93_1 = v107_1)) st.inn 0 (by kernel_rfl))
          have f112 : v93_0 = v107_0 := of_decide_eq_true (bfact (x := decide (v93_0 = v107_0)) st.inn 1 (by kernel_rfl))
          refine res_ret (by kernel_rfl) (end_flat st.inn hE (.inr rfl) (a := .bool false) (by kernel_rfl) (Grew.trans g102 (st.kept.grew (Nat.le_of_ble_eq_true (by kernel_rfl)))) rfl ⟨?_, rfl⟩)
          rw [show sameL sameK ks ks' = false from (by rw [sameL, allB_at hlt93 (by show sameK _ _ = false; rw [he93, he107]; simp [sameK, f111, f112]), Bool.and_false]), Bool.and_false]
        ·
          intro vs ls H113 E113 st hE
          have f114 : (sameP [.flt .f32 v93_2, .flt .f32 v93_3, .flt .f32 v93_4] [.flt .f32 v107_2, .flt .f32 v107_3, .flt .f32 v107_4]) = false := bfact st.inn 0 (by kernel_rfl)
          have f115 : v93_1 = v107_1 := of_decide_eq_true (bfact (x := decide (v93_1 = v107_1)) st.inn 1 (by kernel_rfl))
          have f116 : v93_0 = v107_0 := of_decide_eq_true (bfact (x := decide (v93_0 = v107_0)) st.inn 2 (by kernel_rfl))
          refine res_ret (by kernel_rfl) (end_flat st.inn hE (.inr rfl) (a := .bool false) (by kernel_rfl) (Grew.trans g102 (st.kept.grew (Nat.le_of_ble_eq_true (by kernel_rfl)))) rfl ⟨?_, rfl⟩)
          rw [show sameL sameK ks ks' = false from (by rw [sameL, allB_at hlt93 (by show sameK _ _ = false; rw [he93, he107]; simp [sameK, f114, f115, f116]), Bool.and_false]), Bool.and_false]
        ·
          intro vs ls H117 E117 st hE
          have f118 : (sameN v93_5 v107_5) = false := bfact st.inn 0 (by kernel_rfl)
          have f119 : (sameP [.flt .f32 v93_2, .flt .f32 v93_3, .flt .f32 v93_4] [.flt .f32 v107_2, .flt .f32 v107_3, .flt .f32 v107_4]) = true := bfact st.inn 1 (by kernel_rfl)
          have f120 : v93_1 = v107_1 := of_decide_eq_true (bfact (x := decide (v93_1 = v107_1)) st.inn 2 (by kernel_rfl))
          have f121 : v93_0 = v107_0 := of_decide_eq_true (bfact (x := decide (v93_0 = v107_0)) st.inn 3 (by kernel_rfl))
          refine res_ret (by kernel_rfl) (end_flat st.inn hE (.inr rfl) (a := .bool false) (by kernel_rfl) (Grew.trans g102 (st.kept.grew (Nat.le_of_ble_eq_true (by kernel_rfl)))) rfl ⟨?_, rfl⟩)
          rw [show sameL sameK ks ks' = false from (by rw [sameL, allB_at hlt93 (by show sameK _ _ = false; rw [he93, he107]; simp [sameK, f118, f119, f120, f121]), Bool.and_false]), Bool.and_false]
        ·
          intro vs ls H122 E122 st hE
          have f123 : (sameN v93_5 v107_5) = true := bfact st.inn 0 (by kernel_rfl)
          have f124 : (sameP [.flt .f32 v93_2, .flt .f32 v93_3, .flt .f32 v93_4] [.flt .f32 v107_2, .flt .f32 v107_3, .flt .f32 v107_4]) = true := bfact st.inn 1 (by kernel_rfl)
          have f125 : v93_1 = v107_1 := of_decide_eq_true (bfact (x := decide (v93_1 = v107_1)) st.inn 2 (by kernel_rfl))
          have f126 : v93_0 = v107_0 := of_decide_eq_true (bfact (x := decide (v93_0 = v107_0)) st.inn 3 (by kernel_rfl))
          have hlti77 : i77 < ks.length := by omega
          refine res_next (sl := [(0, .ptr l 0), (1, .ptr l' 0)]) (ti := 6) (i := i77) (Inv := fun i => ∀ j, j < i → sameK (ks.getD j []) (ks'.getD j []) = true) (by kernel_rfl) st.inn hE hlti77 (by kernel_rfl) (w := (IntKind.wrap .i64 ((i77 : Int) + 1))) (by kernel_rfl) (wrap64 (by omega)) (Grew.trans g103 (st.kept.grew (Nat.le_of_ble_eq_true (by kernel_rfl)))) ?_
          exact upTo hIi77 (by rw [he93, he107]; simp [sameK, f123, f124, f125, f126])
      ·
        intro vs ls H127 E127 st hE
        have f128 : ¬ ((i77 : Int) < (ks.length : Int)) := of_decide_eq_false (bfact (x := decide ((i77 : Int) < (ks.length : Int))) st.inn 0 (by kernel_rfl))
        have b129 : E127 6 = .int .i64 (i77 : Int) := env_of st.inn hE 6 (by kernel_rfl)
        have b130 : E127 0 = .ptr l 0 := env_of st.inn hE 0 (by kernel_rfl)
        have b131 : E127 59 = .ptr l 0 := env_of st.inn hE 59 (by kernel_rfl)
        have b132 : E127 60 = .ptr l 0 := env_of st.inn hE 60 (by kernel_rfl)
        have b133 : E127 61 = .ptr l 1 := env_of st.inn hE 61 (by kernel_rfl)
        have b134 : E127 62 = Sk := env_of st.inn hE 62 (by kernel_rfl)
        have b135 : E127 58 = .int .i64 (i77 : Int) := env_of st.inn hE 58 (by kernel_rfl)
        have b136 : E127 63 = .int .i64 (ks.length : Int) := env_of st.inn hE 63 (by kernel_rfl)
        obtain ⟨w137, hw137⟩ : ∃ z, z = (decide ((i77 : Int) < (ks.length : Int))) := ⟨_, rfl⟩
        have b138 : E127 64 = .bool w137 := by rw [hw137]; exact env_of st.inn hE 64 (by kernel_rfl)
        have b139 : E127 1 = .ptr l' 0 := env_of st.inn hE 1 (by kernel_rfl)
        have g140 : Grew Hi77 H127 := (st.kept.grew (Nat.le_of_ble_eq_true (by kernel_rfl)))
        have g141 : Grew H H127 := Grew.trans g78 g140
        have g142 : Grew H69 H127 := Grew.trans hgi77 g140
        have r143 := g140.at r79
        have r144 := g140.at r80
        clear st hE vs ls
        refine res_exit (id := 2) (by kernel_rfl) ?_
        refine run_mn (φ := φ0) (pm := pmR 2 [] 0) 20 (nk := [(.atom 0, .one), (.atom 1, .one), (.atom 2, .one), (.atom 3, .one), (.atom 4, .int .i64), (.atom 5, .int .i64), (.atom 6, .int .i64), (.atom 7, .int .i64), (.atom 8, .int .i64), (.atom 9, .int .i64), (.atom 10, .bool), (.atom 11, .int .i64), (.atom 12, .int .i64), (.atom 13, .bool)]) (fs := []) (xs := [S, Sk, S', Sk', .int .i64 (ms.length : Int), .int .i64 (ms'.length : Int), .int .i64 (ks.length : Int), .int .i64 (ks'.length : Int), .int .i64 (i16 : Int), .int .i64 (ms.length : Int), .bool w61, .int .i64 (i77 : Int), .int .i64 (ks.length : Int), .bool w137]) (ws := [⟨l, 0, [.nd 0 .one, .nd 1 .one], false⟩, ⟨l', 0, [.nd 2 .one, .nd 3 .one], false⟩]) (env := [(6, .nd 11 (.int .i64)), (0, .ptr 0 0), (59, .ptr 0 0), (60, .ptr 0 0), (61, .ptr 0 1), (62, .nd 1 .one), (58, .nd 11 (.int .i64)), (63, .nd 12 (.int .i64)), (64, .nd 13 .bool), (1, .ptr 1 0)]) ?_ ?_ tb_ok ap_ok ?_
        · refine midN_in ?_ .nil _ ?_ ?_ ?_
          · exact (.cons rfl (slOne hS) (.cons rfl (slOne hSk) (.cons rfl (slOne hS') (.cons rfl (slOne hSk') (.cons rfl ⟨_, rfl⟩ (.cons rfl ⟨_, rfl⟩ (.cons rfl ⟨_, rfl⟩ (.cons rfl ⟨_, rfl⟩ (.cons rfl ⟨_, rfl⟩ (.cons rfl ⟨_, rfl⟩ (.cons rfl ⟨_, rfl⟩ (.cons rfl ⟨_, rfl⟩ (.cons rfl ⟨_, rfl⟩ (.cons rfl ⟨_, rfl⟩ .nil))))))))))))))
          · exact (.cons (win_row r143 (dlCons (dNd rfl (slOne hS)) (dlCons (dNd rfl (slOne hSk)) dlNil))) (.cons (win_row r144 (dlCons (dNd rfl (slOne hS')) (dlCons (dNd rfl (slOne hSk')) dlNil))) .nil))
          · exact sepOk_ro rfl
          · exact .nil
        · exact (envEq b129 (dNd rfl ⟨_, rfl⟩) (envEq b130 (dPtr (l := l) (o := 0) rfl) (envEq b131 (dPtr (l := l) (o := 0) rfl) (envEq b132 (dPtr (l := l) (o := 0) rfl) (envEq b133 (dPtr (l := l) (o := 0) rfl) (envEq b134 (dNd rfl (slOne hSk)) (envEq b135 (dNd rfl ⟨_, rfl⟩) (envEq b136 (dNd rfl ⟨_, rfl⟩) (envEq b138 (dNd rfl ⟨_, rfl⟩) (envEq b139 (dPtr (l := l') (o := 0) rfl) envNil))))))))))
        refine all1 (by kernel_rfl) ?_
        intro vs ls H145 E145 st hE
        refine res_ex (by kernel_rfl) (end_flat st.inn hE (.inr rfl) (a := .bool true) (by kernel_rfl) (Grew.trans g141 (st.kept.grew (Nat.le_of_ble_eq_true (by kernel_rfl)))) rfl ⟨?_, rfl⟩)
        rw [sameL, decide_eq_true (show ms.length = ms'.length by omega), allB_true (fun j hj => hIi16 j (by omega)), sameL, decide_eq_true (show ks.length = ks'.length by omega), allB_true (fun j hj => hIi77 j (by omega))]; rfl
theorem k_impl_SameGraph (H : AHeap) (ms : List (List AV)) (hr : Recs KP ms) (S : AV) (hS : SlL H 3 ms S) (hmx : ms.length < 2 ^ 40) (ks : List (List AV)) (hrk : Recs KL ks) (Sk : AV) (hSk : SlL H 6 ks Sk) (hmxk : ks.length < 2 ^ 40) (ms' : List (List AV)) (hr' : Recs KP ms') (S' : AV) (hS' : SlL H 3 ms' S') (hmx' : ms'.length < 2 ^ 40) (ks' : List (List AV)) (hrk' : Recs KL ks') (Sk' : AV) (hSk' : SlL H 6 ks' Sk') (hmxk' : ks'.length < 2 ^ 40) : APure Try.prog 23 [.agg [S, Sk], .agg [S', Sk']] H (.bool (sameL sameP ms ms' && sameL sameK ks ks')) := by
  refine res_start h_impl_SameGraph (by simp) ?_
  refine run_mn (φ := φ0) (pm := pmR 0 [(.call 62 [.nd 0 .one, .nd 2 .one, .fn 19 [] []], .nd 4 .bool), (.call 63 [.nd 1 .one, .nd 3 .one, .fn 64 [] []], .nd 5 .bool)] 0) 20 (nk := [(.atom 0, .one), (.atom 1, .one), (.atom 2, .one), (.atom 3, .one), (.atom 4, .bool), (.atom 5, .bool)]) (fs := []) (xs := [S, Sk, S', Sk', .bool (sameL sameP ms ms'), .bool (sameL sameK ks ks')]) (ws := []) (env := [(0, .agg [.nd 0 .one, .nd 1 .one]), (1, .agg [.nd 2 .one, .nd 3 .one])]) ?_ ?_ tb_ok ap_ok ?_
  · refine midN_in ?_ .nil _ ?_ ?_ ?_
    · exact (.cons rfl (slOne hS) (.cons rfl (slOne hSk) (.cons rfl (slOne hS') (.cons rfl (slOne hSk') (.cons rfl ⟨_, rfl⟩ (.cons rfl ⟨_, rfl⟩ .nil))))))
    · exact .nil
    · exact sepOk_ro rfl
    · exact (.cons (rule_call (args := [S, S', .func 19 [] []]) (dlCons (dNd rfl (slOne hS)) (dlCons (dNd rfl (slOne hS')) (dlCons (dFn' dlNil dlNil) dlNil))) (dNd rfl ⟨_, rfl⟩) (fun H9 hk => k_EqualFuncP H9 ms ms' hr hr' S S' (hS.grew (Grew.trans (Grew.refl _) (hk.grew (Nat.le_refl _)))) (hS'.grew (Grew.trans (Grew.refl _) (hk.grew (Nat.le_refl _)))) hmx)) (.cons (rule_call (args := [Sk, Sk', .func 64 [] []]) (dlCons (dNd rfl (slOne hSk)) (dlCons (dNd rfl (slOne hSk')) (dlCons (dFn' dlNil dlNil) dlNil))) (dNd rfl ⟨_, rfl⟩) (fun H9 hk => k_EqualFuncL H9 ks ks' hrk hrk' Sk Sk' (hSk.grew (Grew.trans (Grew.refl _) (hk.grew (Nat.le_refl _)))) (hSk'.grew (Grew.trans (Grew.refl _) (hk.grew (Nat.le_refl _)))) hmxk)) .nil))
  · exact (envEq rfl (dAgg (dlCons (dNd rfl (slOne hS)) (dlCons (dNd rfl (slOne hSk)) dlNil))) (envEq rfl (dAgg (dlCons (dNd rfl (slOne hS')) (dlCons (dNd rfl (slOne hSk')) dlNil))) envNil))
  refine all2 (by kernel_rfl) ?_ ?_
  ·
    intro vs ls H1 E1 st hE
    have f2 : (sameL sameP ms ms') = true := bfact st.inn 0 (by kernel_rfl)
    refine res_ex (by kernel_rfl) (end_flat st.inn hE (.inr rfl) (a := .bool (sameL sameK ks ks')) (by kernel_rfl) (Grew.trans (Grew.refl _) (st.kept.grew (Nat.le_of_ble_eq_true (by kernel_rfl)))) rfl ⟨?_, rfl⟩)
    simp [f2]
  ·
    intro vs ls H3 E3 st hE
    have f4 : (sameL sameP ms ms') = false := bfact st.inn 0 (by kernel_rfl)
    refine res_ex (by kernel_rfl) (end_flat st.inn hE (.inr rfl) (a := .bool false) (by kernel_rfl) (Grew.trans (Grew.refl _) (st.kept.grew (Nat.le_of_ble_eq_true (by kernel_rfl)))) rfl ⟨?_, rfl⟩)
    simp [f4]
theorem k_spec_SameGraph (H : AHeap) (ms : List (List AV)) (hr : Recs KP ms) (S : AV) (hS : SlL H 3 ms S) (hmx : ms.length < 2 ^ 40) (ks : List (List AV)) (hrk : Recs KL ks) (Sk : AV) (hSk : SlL H 6 ks Sk) (hmxk : ks.length < 2 ^ 40) (ms' : List (List AV)) (hr' : Recs KP ms') (S' : AV) (hS' : SlL H 3 ms' S') (hmx' : ms'.length < 2 ^ 40) (ks' : List (List AV)) (hrk' : Recs KL ks') (Sk' : AV) (hSk' : SlL H 6 ks' Sk') (hmxk' : ks'.length < 2 ^ 40) : APure Try.prog 21 [.agg [S, Sk], .agg [S', Sk']] H (.bool (sameL sameP ms ms' && sameL sameK ks ks')) := by
  refine res_start h_spec_SameGraph (by simp) ?_
  refine run_mn (φ := φ0) (pm := pmR 0 [] 0) 20 (nk := [(.atom 0, .one), (.atom 1, .one), (.atom 2, .one), (.atom 3, .one)]) (fs := []) (xs := [S, Sk, S', Sk']) (ws := []) (env := [(0, .agg [.nd 0 .one, .nd 1 .one]), (1, .agg [.nd 2 .one, .nd 3 .one])]) ?_ ?_ tb_ok ap_ok ?_
  · refine midN_in ?_ .nil _ ?_ ?_ ?_
    · exact (.cons rfl (slOne hS) (.cons rfl (slOne hSk) (.cons rfl (slOne hS') (.cons rfl (slOne hSk') .nil))))
    · exact .nil
    · exact sepOk_ro rfl
    · exact .nil
  · exact (envEq rfl (dAgg (dlCons (dNd rfl (slOne hS)) (dlCons (dNd rfl (slOne hSk)) dlNil))) (envEq rfl (dAgg (dlCons (dNd rfl (slOne hS')) (dlCons (dNd rfl (slOne hSk')) dlNil))) envNil))
  refine all1 (by kernel_rfl) ?_
  intro vs ls H1 E1 st hE
  obtain ⟨p2, e3, r4, n5⟩ := ptr_of st.inn hE 2 0 (by kernel_rfl) (ds := [S, Sk]) (by kernel_rfl)
  have op2 : H.next ≤ p2 := Nat.le_trans (Nat.le_refl _) (n5 (Nat.le_of_ble_eq_true rfl))
  obtain ⟨p6, e7, r8, n9⟩ := ptr_of st.inn hE 3 1 (by kernel_rfl) (ds := [S', Sk']) (by kernel_rfl)
  have op6 : H.next ≤ p6 := Nat.le_trans (Nat.le_refl _) (n9 (Nat.le_of_ble_eq_true rfl))
  have ne10 : Apart p2 p6 := ⟨ptr_ne st.inn hE 2 0 3 1 (by kernel_rfl) (by kernel_rfl) (cs := [.nd 0 .one, .nd 1 .one]) (by kernel_rfl) (by decide) e3 e7⟩
  have g11 : Grew H H1 := (st.kept.grew (Nat.le_of_ble_eq_true (by kernel_rfl)))
  have g12 : Grew H H1 := Grew.trans (Grew.refl _) g11
  clear st hE vs ls
  refine res_call (d := (some 5)) (f := 60) (args := [.tmp 2, .tmp 3]) (by kernel_rfl) (R := fun z H' => z = .bool (sameL sameP ms ms' && sameL sameK ks ks') ∧ H' = H1) ?_ ?_
  · show ACalls _ _ [E1 2, E1 3] _ _
    rw [e3, e7]
    exact k_l06Same H1 p2 p6 ms hr S (hS.grew g12) hmx ks hrk Sk (hSk.grew g12) hmxk ms' hr' S' (hS'.grew g12) hmx' ks' hrk' Sk' (hSk'.grew g12) hmxk' r4 r8
  rintro z H1 ⟨rfl, rfl⟩
  refine run_mn (φ := φ0) (pm := pmR 2 [] 0) 20 (nk := [(.atom 0, .one), (.atom 1, .one), (.atom 2, .one), (.atom 3, .one), (.atom 4, .bool)]) (fs := []) (xs := [S, Sk, S', Sk', .bool (sameL sameP ms ms' && sameL sameK ks ks')]) (ws := [⟨p2, 0, [.nd 0 .one, .nd 1 .one], false⟩, ⟨p6, 0, [.nd 2 .one, .nd 3 .one], false⟩]) (env := [(2, .ptr 0 0), (3, .ptr 1 0), (5, .nd 4 .bool)]) ?_ ?_ tb_ok ap_ok ?_
  · refine midN_in ?_ .nil _ ?_ ?_ ?_
    · exact (.cons rfl (slOne hS) (.cons rfl (slOne hSk) (.cons rfl (slOne hS') (.cons rfl (slOne hSk') (.cons rfl ⟨_, rfl⟩ .nil)))))
    · exact (.cons (win_row r4 (dlCons (dNd rfl (slOne hS)) (dlCons (dNd rfl (slOne hSk)) dlNil))) (.cons (win_row r8 (dlCons (dNd rfl (slOne hS')) (dlCons (dNd rfl (slOne hSk')) dlNil))) .nil))
    · exact sepOk_ro rfl
    · exact .nil
  · exact (envEq (put_ne rfl e3) (dPtr (l := p2) (o := 0) rfl) (envEq (put_ne rfl e7) (dPtr (l := p6) (o := 0) rfl) (envEq put_same (dNd rfl ⟨_, rfl⟩) envNil)))
  refine all1 (by kernel_rfl) ?_
  intro vs ls H13 E13 st hE
  refine res_ex (by kernel_rfl) (end_flat st.inn hE (.inr rfl) (a := .bool (sameL sameP ms ms' && sameL sameK ks ks')) (by kernel_rfl) (Grew.trans g12 (st.kept.grew (Nat.le_of_ble_eq_true (by kernel_rfl)))) rfl ⟨?_, rfl⟩)
  rfl
end Go.Proofs.Ytllgmcgdkhnilaa
