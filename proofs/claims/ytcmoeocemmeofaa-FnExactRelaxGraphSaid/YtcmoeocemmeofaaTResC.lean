/- Contracts: costs of graphs; what links are off, by both. -/
import Derived.Test.YtcmoeocemmeofaaTResB
set_option linter.unusedVariables false
set_option linter.unusedSimpArgs false
namespace Go.Proofs.Ytcmoeocemmeofaa
open Go.Ab
set_option maxRecDepth 100000
set_option maxHeartbeats 1000000
attribute [local irreducible] Res
theorem k_cost (H : AHeap) (ms : List (List AV)) (hr : Recs KP ms) (S : AV) (hS : SlL H 3 ms S) (hmx : ms.length < 2 ^ 40) (ks : List (List AV)) (hrk : Recs KL ks) (Sk : AV) (hSk : SlL H 6 ks Sk) (hmxk : ks.length < 2 ^ 40) (hok : okG ms ks = true) : APure Try.prog 68 [.agg [S, Sk]] H (.flt .f32 (costF ms ks ks.length)) := by
 refine res_start h_impl_PoseGraph_cost (by simp) ?_
 have q1 : KdsL [.one, .one, KI] [S, Sk, .int .i64 (ks.length : Int)] := .cons (slOne hS) (.cons (slOne hSk) (.cons ⟨_, rfl⟩ .nil))
 refine run_mc (φ := φ0) (pm := pmR 0 [(.len (n1 1), nI 2)] 0) 20 (ws := []) (env := [(0, .agg [n1 0, n1 1])]) q1 .nil (sepOk_ro rfl) (.cons (⟨_, _, (dE q1), (dE q1), slLen hSk⟩) .nil) (eC q1 (.cons (t := 0) rfl .nil)) tb_ok ap_ok ?_
 refine all1 (by kernel_rfl) ?_
 intro vs ls H2 E2 st hE
 obtain ⟨p3, e4, r5, n6⟩ := ptr_of st.inn hE 1 0 (by kernel_rfl) (ds := [S, Sk]) (by kernel_rfl)
 have op3 : H.next ≤ p3 := Nat.le_trans (Nat.le_refl _) (n6 (Nat.le_of_ble_eq_true rfl))
 have b7 := eo st hE 9 (.int .i64 0)
 have b8 := eo st hE 8 (.int .i64 (ks.length : Int))
 have b9 := eo st hE 7 Sk
 have b10 := eo st hE 3 (.flt .f32 (some 0))
 have g11 : Grew H H2 := (gk st)
 have g12 : Grew H H2 := Grew.trans (Grew.refl _) g11
 clear st hE vs ls
 refine res_scanv (by kernel_rfl) (fun i => [(8, .int .i64 (ks.length : Int)), (7, Sk), (3, .flt .f32 (costF ms ks i)), (1, .ptr p3 0)]) 9 0 ks.length (fun i => True) (Nat.zero_le _) (.cons b8 (.cons b9 (.cons b10 (.cons e4 .nil)))) b7 (Grew.refl _) trivial ?_
 intro i13 hoi13 hli13 hIi13 Ei13 Hi13 hsi13 hci13 hgi13
 have g14 : Grew H Hi13 := Grew.trans g12 hgi13
 have r15 := hgi13.at r5
 have q16 := q1.app (.cons ⟨_, rfl, costF_ok ms ks i13⟩ (.cons ⟨_, rfl⟩ .nil) : KdsL [KF, KI] [.flt .f32 (costF ms ks i13), .int .i64 (i13 : Int)])
 refine run_mc (φ := φ0) (pm := pmR 1 [] 0) 20 (ws := [⟨p3, 0, [n1 0, n1 1], false⟩]) (env := [(8, nI 2), (7, n1 1), (3, nF 3), (1, .ptr 0 0), (9, nI 4)]) q16 (.cons (wR r15 q16) .nil) (sepOk_ro rfl) .nil (eC q16 (.cons (hsi13.at 0 rfl) (.cons (hsi13.at 1 rfl) (.cons (hsi13.at 2 rfl) (.cons (hsi13.at 3 rfl) (.cons hci13 .nil)))))) tb_ok ap_ok ?_
 refine all2 (by kernel_rfl) ?_ ?_
 ·
  intro vs ls H17 E17 st hE
  have f18 : (i13 : Int) < (ks.length : Int) := dt st 0
  have b19 := eo st hE 7 Sk
  have b20 := eo st hE 9 (.int .i64 (i13 : Int))
  have b21 := eo st hE 3 (.flt .f32 (costF ms ks i13))
  have b22 := eo st hE 1 (.ptr p3 0)
  have b23 := eo st hE 8 (.int .i64 (ks.length : Int))
  have g24 : Grew Hi13 H17 := (gk st)
  have g25 : Grew H H17 := Grew.trans g14 g24
  have g26 : Grew H2 H17 := Grew.trans hgi13 g24
  have r27 := g24.at r15
  clear st hE vs ls
  have hlt28 : i13 < ks.length := by omega
  obtain ⟨lS28, cap28, rest28, wr28, eS28, gB28⟩ := hSk.isSl hlt28
  have gS28 := g25.at gB28
  have ne29 := apn gB28 op3
  obtain ⟨v28_0, v28_1, v28_2, v28_3, v28_4, v28_5, hm28, ho28_2, ho28_3, ho28_4, ho28_5, ha28, hb28, hne28⟩ := okG_link hok hrk i13 hlt28
  have he28 : ks.getD i13 [] = [.int .i64 (v28_0 : Int), .int .i64 (v28_1 : Int), .flt .f32 v28_2, .flt .f32 v28_3, .flt .f32 v28_4, .flt .f32 v28_5] := by rw [← hm28, List.getD_eq_getElem?_getD, List.getElem?_eq_getElem hlt28]; rfl
  have q30 := q16.app (.cons ⟨_, rfl⟩ (.cons ⟨_, rfl⟩ (.cons ⟨_, rfl, ho28_2⟩ (.cons ⟨_, rfl, ho28_3⟩ (.cons ⟨_, rfl, ho28_4⟩ (.cons ⟨_, rfl, ho28_5⟩ (.cons ⟨_, rfl, sqF_ok ms [.int .i64 (v28_0 : Int), .int .i64 (v28_1 : Int), .flt .f32 v28_2, .flt .f32 v28_3, .flt .f32 v28_4, .flt .f32 v28_5]⟩ .nil)))))) : KdsL [KI, KI, KF, KF, KF, KF, KF] [.int .i64 (v28_0 : Int), .int .i64 (v28_1 : Int), .flt .f32 v28_2, .flt .f32 v28_3, .flt .f32 v28_4, .flt .f32 v28_5, .flt .f32 (sqF ms [.int .i64 (v28_0 : Int), .int .i64 (v28_1 : Int), .flt .f32 v28_2, .flt .f32 v28_3, .flt .f32 v28_4, .flt .f32 v28_5])])
  refine run_mc (φ := φ0) (pm := pmR 2 [(.ia 6 (n1 1) (nI 4), .ptr 1 0), (.call 70 [.agg [n1 0, n1 1], .agg [nI 5, nI 6, nF 7, nF 8, nF 9, nF 10]], nF 11)] 0) 20 (ws := [⟨p3, 0, [n1 0, n1 1], false⟩, ⟨lS28, (i13 * 6), [nI 5, nI 6, nF 7, nF 8, nF 9, nF 10], false⟩]) (env := [(7, n1 1), (9, nI 4), (3, nF 3), (1, .ptr 0 0), (8, nI 2)]) q30 (.cons (wR r27 q30) (.cons (win_elem hrk gS28 hlt28 rfl (by rw [hm28]; exact (dL q30))) .nil)) (sepOk_ro rfl) (.cons (rule_iaS (k := i13) (dE q30) eS28 (dE q30) hlt28 rfl) (.cons (rule_call (args := [.agg [S, Sk], .agg [.int .i64 (v28_0 : Int), .int .i64 (v28_1 : Int), .flt .f32 v28_2, .flt .f32 v28_3, .flt .f32 v28_4, .flt .f32 v28_5]]) (dL q30) (dE q30) (fun H9 hk => k_costOfLink H9 ms hr S (hS.grew (Grew.trans g25 (hk.grew (Nat.le_refl _)))) hmx Sk (slOne hSk) v28_0 v28_1 ha28 hb28 v28_2 v28_3 v28_4 v28_5 ho28_2 ho28_3 ho28_4 ho28_5)) .nil)) (eC q30 (.cons b19 (.cons b20 (.cons b21 (.cons b22 (.cons b23 .nil)))))) tb_ok ap_ok ?_
  refine all1 (by kernel_rfl) ?_
  intro vs ls H31 E31 st hE
  have hlti13 : i13 < ks.length := by omega
  refine res_nextv (sl := fun i => [(8, .int .i64 (ks.length : Int)), (7, Sk), (3, .flt .f32 (costF ms ks i)), (1, .ptr p3 0)]) (sl' := [(8, .int .i64 (ks.length : Int)), (7, Sk), (3, .flt .f32 (fop .add .f32 (costF ms ks i13) (sqF ms [.int .i64 (v28_0 : Int), .int .i64 (v28_1 : Int), .flt .f32 v28_2, .flt .f32 v28_3, .flt .f32 v28_4, .flt .f32 v28_5]))), (1, .ptr p3 0)]) (ti := 9) (i := i13) (Inv := fun i => True) (by kernel_rfl) st.inn hE hlti13 (by kernel_rfl) ?_ (w := (IntKind.wrap .i64 ((i13 : Int) + 1))) (by kernel_rfl) (wrap64 (by omega)) (Grew.trans g26 (gk st)) ?_
  ·
   show _ = [_, _, _, _]; simp only [costF]; rw [he28]
  trivial
 ·
  intro vs ls H32 E32 st hE
  have f33 : ¬ ((i13 : Int) < (ks.length : Int)) := df st 0
  have b34 := eo st hE 9 (.int .i64 (i13 : Int))
  have b35 := eo st hE 8 (.int .i64 (ks.length : Int))
  obtain ⟨w36, hw36⟩ : ∃ z, z = (decide ((i13 : Int) < (ks.length : Int))) := ⟨_, rfl⟩
  have b37 : E32 10 = .bool w36 := by rw [hw36]; exact eo st hE 10 _
  have b38 := eo st hE 7 Sk
  have b39 := eo st hE 3 (.flt .f32 (costF ms ks i13))
  have b40 := eo st hE 1 (.ptr p3 0)
  have g41 : Grew Hi13 H32 := (gk st)
  have g42 : Grew H H32 := Grew.trans g14 g41
  have r44 := g41.at r15
  clear st hE vs ls
  refine res_exit (id := 0) (by kernel_rfl) ?_
  have q45 := q16.app (.cons ⟨_, rfl⟩ .nil : KdsL [.bool] [.bool w36])
  refine run_mc (φ := φ0) (pm := pmR 1 [] 0) 20 (ws := [⟨p3, 0, [n1 0, n1 1], false⟩]) (env := [(9, nI 4), (8, nI 2), (10, nB 5), (7, n1 1), (3, nF 3), (1, .ptr 0 0)]) q45 (.cons (wR r44 q45) .nil) (sepOk_ro rfl) .nil (eC q45 (.cons b34 (.cons b35 (.cons b37 (.cons b38 (.cons b39 (.cons b40 .nil))))))) tb_ok ap_ok ?_
  refine all1 (by kernel_rfl) ?_
  intro vs ls H46 E46 st hE
  refine res_ex (by kernel_rfl) (end_flat st.inn hE (.inr rfl) (a := .flt .f32 (costF ms ks i13)) (by kernel_rfl) (Grew.trans g42 (gk st)) rfl ⟨?_, rfl⟩)
  rw [show ks.length = i13 by omega]
theorem k_l06Cost (H : AHeap) (ms : List (List AV)) (hr : Recs KP ms) (S : AV) (hS : SlL H 3 ms S) (hmx : ms.length < 2 ^ 40) (ks : List (List AV)) (hrk : Recs KL ks) (Sk : AV) (hSk : SlL H 6 ks Sk) (hmxk : ks.length < 2 ^ 40) (hok : okG ms ks = true) (lg : Nat) (hg : H.get lg = some (.row [S, Sk] true)) : APure Try.prog 67 [.ptr lg 0] H (.flt .f32 (costF ms ks ks.length)) := by
 refine res_start h_spec_l06Cost (by simp) ?_
 have q1 : KdsL [.one, .one] [S, Sk] := .cons (slOne hS) (.cons (slOne hSk) .nil)
 refine run_mc (φ := φ0) (pm := pmR 1 [] 0) 20 (ws := [⟨lg, 0, [n1 0, n1 1], false⟩]) (env := [(0, .ptr 0 0)]) q1 (.cons (wR hg q1) .nil) (sepOk_ro rfl) .nil (eC q1 (.cons (t := 0) rfl .nil)) tb_ok ap_ok ?_
 refine all1 (by kernel_rfl) ?_
 intro vs ls H2 E2 st hE
 have b3 := eo st hE 4 (.int .i64 0)
 have b4 := eo st hE 0 (.ptr lg 0)
 have b5 := eo st hE 3 (.flt .f32 (some 0))
 have g6 : Grew H H2 := (gk st)
 have g7 : Grew H H2 := Grew.trans (Grew.refl _) g6
 have r8 := g6.at hg
 clear st hE vs ls
 refine res_scanv (by kernel_rfl) (fun i => [(0, .ptr lg 0), (3, .flt .f32 (costF ms ks i))]) 4 0 ks.length (fun i => True) (Nat.zero_le _) (.cons b4 (.cons b5 .nil)) b3 (Grew.refl _) trivial ?_
 intro i9 hoi9 hli9 hIi9 Ei9 Hi9 hsi9 hci9 hgi9
 have g10 : Grew H Hi9 := Grew.trans g7 hgi9
 have r11 := hgi9.at r8
 have q12 := q1.app (.cons ⟨_, rfl, costF_ok ms ks i9⟩ (.cons ⟨_, rfl⟩ (.cons ⟨_, rfl⟩ .nil)) : KdsL [KF, KI, KI] [.flt .f32 (costF ms ks i9), .int .i64 (i9 : Int), .int .i64 (ks.length : Int)])
 refine run_mc (φ := φ0) (pm := pmR 1 [(.len (n1 1), nI 4)] 0) 20 (ws := [⟨lg, 0, [n1 0, n1 1], false⟩]) (env := [(0, .ptr 0 0), (3, nF 2), (4, nI 3)]) q12 (.cons (wR r11 q12) .nil) (sepOk_ro rfl) (.cons (⟨_, _, (dE q12), (dE q12), slLen hSk⟩) .nil) (eC q12 (.cons (hsi9.at 0 rfl) (.cons (hsi9.at 1 rfl) (.cons hci9 .nil)))) tb_ok ap_ok ?_
 refine all2 (by kernel_rfl) ?_ ?_
 ·
  intro vs ls H13 E13 st hE
  have f14 : (i9 : Int) < (ks.length : Int) := dt st 0
  have b15 := eo st hE 19 Sk
  have b16 := eo st hE 20 (.int .i64 (i9 : Int))
  have b17 := eo st hE 15 (.ptr lg 0)
  have b18 := eo st hE 14 (.flt .f32 (costF ms ks i9))
  have b19 := eo st hE 4 (.int .i64 (i9 : Int))
  have b20 := eo st hE 0 (.ptr lg 0)
  have b22 := eo st hE 3 (.flt .f32 (costF ms ks i9))
  have g23 : Grew Hi9 H13 := (gk st)
  have g24 : Grew H H13 := Grew.trans g10 g23
  have g25 : Grew H2 H13 := Grew.trans hgi9 g23
  have r26 := g23.at r11
  clear st hE vs ls
  have hlt27 : i9 < ks.length := by omega
  obtain ⟨lS27, cap27, rest27, wr27, eS27, gB27⟩ := hSk.isSl hlt27
  have gS27 := g24.at gB27
  obtain ⟨v27_0, v27_1, v27_2, v27_3, v27_4, v27_5, hm27, ho27_2, ho27_3, ho27_4, ho27_5, ha27, hb27, hne27⟩ := okG_link hok hrk i9 hlt27
  have he27 : ks.getD i9 [] = [.int .i64 (v27_0 : Int), .int .i64 (v27_1 : Int), .flt .f32 v27_2, .flt .f32 v27_3, .flt .f32 v27_4, .flt .f32 v27_5] := by rw [← hm27, List.getD_eq_getElem?_getD, List.getElem?_eq_getElem hlt27]; rfl
  have q28 := q12.app (.cons ⟨_, rfl⟩ (.cons ⟨_, rfl⟩ (.cons ⟨_, rfl, ho27_2⟩ (.cons ⟨_, rfl, ho27_3⟩ (.cons ⟨_, rfl, ho27_4⟩ (.cons ⟨_, rfl, ho27_5⟩ (.cons ⟨_, rfl, sqF_ok ms [.int .i64 (v27_0 : Int), .int .i64 (v27_1 : Int), .flt .f32 v27_2, .flt .f32 v27_3, .flt .f32 v27_4, .flt .f32 v27_5]⟩ .nil)))))) : KdsL [KI, KI, KF, KF, KF, KF, KF] [.int .i64 (v27_0 : Int), .int .i64 (v27_1 : Int), .flt .f32 v27_2, .flt .f32 v27_3, .flt .f32 v27_4, .flt .f32 v27_5, .flt .f32 (sqF ms [.int .i64 (v27_0 : Int), .int .i64 (v27_1 : Int), .flt .f32 v27_2, .flt .f32 v27_3, .flt .f32 v27_4, .flt .f32 v27_5])])
  refine run_mc (φ := φ0) (pm := pmR 2 [(.ia 6 (n1 1) (nI 3), .ptr 1 0), (.call 69 [.ptr 0 0, .ptr 1 0], nF 11)] 0) 20 (ws := [⟨lg, 0, [n1 0, n1 1], false⟩, ⟨lS27, (i9 * 6), [nI 5, nI 6, nF 7, nF 8, nF 9, nF 10], false⟩]) (env := [(19, n1 1), (20, nI 3), (15, .ptr 0 0), (14, nF 2), (4, nI 3), (0, .ptr 0 0), (3, nF 2)]) q28 (.cons (wR r26 q28) (.cons (win_elem hrk gS27 hlt27 rfl (by rw [hm27]; exact (dL q28))) .nil)) (sepOk_ro rfl) (.cons (rule_iaS (k := i9) (dE q28) eS27 (dE q28) hlt27 rfl) (.cons (rule_call (args := [.ptr lg 0, .ptr lS27 ((i9 * 6) + 0)]) (r := .flt .f32 (sqF ms [.int .i64 (v27_0 : Int), .int .i64 (v27_1 : Int), .flt .f32 v27_2, .flt .f32 v27_3, .flt .f32 v27_4, .flt .f32 v27_5])) (dL q28) (dE q28) (fun H9 hk => (by obtain ⟨pre, post, g1, g2⟩ := flat_split hrk.len hlt27 rest27; exact k_l06Square H9 ms hr S (hS.grew (Grew.trans g24 (hk.grew (Nat.le_refl _)))) hmx Sk (slOne hSk) v27_0 v27_1 ha27 hb27 v27_2 v27_3 v27_4 v27_5 ho27_2 ho27_3 ho27_4 ho27_5 lg ((hk.grew (Nat.le_refl _)).at r26) _ _ pre post wr27 (by rw [((hk.grew (Nat.le_refl _)).at gS27), g1, hm27]) g2))) .nil)) (eC q28 (.cons b15 (.cons b16 (.cons b17 (.cons b18 (.cons b19 (.cons b20 (.cons b22 .nil)))))))) tb_ok ap_ok ?_
  refine all1 (by kernel_rfl) ?_
  intro vs ls H29 E29 st hE
  have hlti9 : i9 < ks.length := by omega
  refine res_nextv (sl := fun i => [(0, .ptr lg 0), (3, .flt .f32 (costF ms ks i))]) (sl' := [(0, .ptr lg 0), (3, .flt .f32 (fop .add .f32 (costF ms ks i9) (sqF ms [.int .i64 (v27_0 : Int), .int .i64 (v27_1 : Int), .flt .f32 v27_2, .flt .f32 v27_3, .flt .f32 v27_4, .flt .f32 v27_5])))]) (ti := 4) (i := i9) (Inv := fun i => True) (by kernel_rfl) st.inn hE hlti9 (by kernel_rfl) ?_ (w := (IntKind.wrap .i64 ((i9 : Int) + 1))) (by kernel_rfl) (wrap64 (by omega)) (Grew.trans g25 (gk st)) ?_
  ·
   show _ = [_, _]; simp only [costF]; rw [he27]
  trivial
 ·
  intro vs ls H30 E30 st hE
  have f31 : ¬ ((i9 : Int) < (ks.length : Int)) := df st 0
  have b32 := eo st hE 4 (.int .i64 (i9 : Int))
  have b33 := eo st hE 0 (.ptr lg 0)
  have b34 := eo st hE 6 (.ptr lg 0)
  have b35 := eo st hE 7 (.ptr lg 0)
  have b36 := eo st hE 8 (.ptr lg 1)
  have b37 := eo st hE 9 Sk
  have b38 := eo st hE 5 (.int .i64 (i9 : Int))
  have b39 := eo st hE 10 (.int .i64 (ks.length : Int))
  obtain ⟨w40, hw40⟩ : ∃ z, z = (decide ((i9 : Int) < (ks.length : Int))) := ⟨_, rfl⟩
  have b41 : E30 11 = .bool w40 := by rw [hw40]; exact eo st hE 11 _
  have b42 := eo st hE 3 (.flt .f32 (costF ms ks i9))
  have g43 : Grew Hi9 H30 := (gk st)
  have g44 : Grew H H30 := Grew.trans g10 g43
  have r46 := g43.at r11
  clear st hE vs ls
  refine res_exit (id := 0) (by kernel_rfl) ?_
  have q47 := q12.app (.cons ⟨_, rfl⟩ .nil : KdsL [.bool] [.bool w40])
  refine run_mc (φ := φ0) (pm := pmR 1 [] 0) 20 (ws := [⟨lg, 0, [n1 0, n1 1], false⟩]) (env := [(4, nI 3), (0, .ptr 0 0), (6, .ptr 0 0), (7, .ptr 0 0), (8, .ptr 0 1), (9, n1 1), (5, nI 3), (10, nI 4), (11, nB 5), (3, nF 2)]) q47 (.cons (wR r46 q47) .nil) (sepOk_ro rfl) .nil (eC q47 (.cons b32 (.cons b33 (.cons b34 (.cons b35 (.cons b36 (.cons b37 (.cons b38 (.cons b39 (.cons b41 (.cons b42 .nil))))))))))) tb_ok ap_ok ?_
  refine all1 (by kernel_rfl) ?_
  intro vs ls H48 E48 st hE
  refine res_ex (by kernel_rfl) (end_flat st.inn hE (.inr rfl) (a := .flt .f32 (costF ms ks i9)) (by kernel_rfl) (Grew.trans g44 (gk st)) rfl ⟨?_, rfl⟩)
  rw [show ks.length = i9 by omega]
end Go.Proofs.Ytcmoeocemmeofaa
