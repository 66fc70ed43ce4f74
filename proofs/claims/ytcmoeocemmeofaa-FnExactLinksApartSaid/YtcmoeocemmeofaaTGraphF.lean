/- Contracts: graphs that are valid, by the reference; the law of ValidGraph. -/
import Derived.Test.YtcmoeocemmeofaaTGraphE
import Derived.Test.YtcmoeocemmeofaaTGraphW
set_option linter.unusedVariables false
set_option linter.unusedSimpArgs false
namespace Go.Proofs.Ytcmoeocemmeofaa
open Go.Ab
set_option maxRecDepth 100000
set_option maxHeartbeats 1000000
attribute [local irreducible] Res
theorem k_l06Ok (H : AHeap) (l : Nat) (ms : List (List AV)) (hr : Recs KP ms) (S : AV) (hS : SlL H 3 ms S) (hmx : ms.length < 2 ^ 40) (ks : List (List AV)) (hrk : Recs KL ks) (Sk : AV) (hSk : SlL H 6 ks Sk) (hmxk : ks.length < 2 ^ 40) (hg : H.get l = some (.row [S, Sk] true)) : APure Try.prog 61 [.ptr l 0] H (.bool (okG ms ks)) := by
 refine res_start h_spec_l06Ok (by simp) ?_
 have q1 : KdsL [.one, .one, KI, KI] [S, Sk, .int .i64 (ms.length : Int), .int .i64 (ks.length : Int)] := .cons (slOne hS) (.cons (slOne hSk) (.cons ⟨_, rfl⟩ (.cons ⟨_, rfl⟩ .nil)))
 refine run_mc (φ := φ0) (pm := pmR 1 [(.len (n1 0), nI 2), (.len (n1 1), nI 3)] 0) 20 (ws := [⟨l, 0, [n1 0, n1 1], false⟩]) (env := [(0, .ptr 0 0)]) q1 (.cons (wR hg q1) .nil) (sepOk_ro rfl) (.cons (⟨_, _, (dE q1), (dE q1), slLen hS⟩) (.cons (⟨_, _, (dE q1), (dE q1), slLen hSk⟩) .nil)) (eC q1 (.cons (t := 0) rfl .nil)) tb_ok ap_ok ?_
 refine all4 (by kernel_rfl) ?_ ?_ ?_ ?_
 ·
  intro vs ls H2 E2 st hE
  have f3 : 60 < (ms.length : Int) := dt st 0
  have f4 : ¬ ((ms.length : Int) < 1) := df st 1
  refine res_ex (by kernel_rfl) (end_flat st.inn hE (.inr rfl) (a := .bool false) (by kernel_rfl) (Grew.trans (Grew.refl _) (gk st)) rfl ⟨?_, rfl⟩)
  rw [okG, decide_eq_false (by omega)]; rfl
 ·
  intro vs ls H5 E5 st hE
  have f6 : 120 < (ks.length : Int) := dt st 0
  have f7 : ¬ (60 < (ms.length : Int)) := df st 1
  have f8 : ¬ ((ms.length : Int) < 1) := df st 2
  refine res_ex (by kernel_rfl) (end_flat st.inn hE (.inr rfl) (a := .bool false) (by kernel_rfl) (Grew.trans (Grew.refl _) (gk st)) rfl ⟨?_, rfl⟩)
  rw [okG, decide_eq_false (by omega)]; rfl
 ·
  intro vs ls H9 E9 st hE
  have f10 : ¬ (120 < (ks.length : Int)) := df st 0
  have f11 : ¬ (60 < (ms.length : Int)) := df st 1
  have f12 : ¬ ((ms.length : Int) < 1) := df st 2
  have b13 := eo st hE 4 (.int .i64 0)
  have b14 := eo st hE 0 (.ptr l 0)
  have b15 := eo st hE 3 (.int .i64 (ms.length : Int))
  have g16 : Grew H H9 := (gk st)
  have g17 : Grew H H9 := Grew.trans (Grew.refl _) g16
  have r18 := g16.at hg
  clear st hE vs ls
  refine res_scan (by kernel_rfl) [(0, .ptr l 0), (3, .int .i64 (ms.length : Int))] 4 ms.length (fun i => ∀ j, j < i → finP (ms.getD j []) = true) (.cons b14 (.cons b15 .nil)) b13 (Grew.refl _) upTo0 ?_
  intro i19 hli19 hIi19 Ei19 Hi19 hsi19 hci19 hgi19
  have g20 : Grew H Hi19 := Grew.trans g17 hgi19
  have r21 := hgi19.at r18
  have q22 := q1.app (.cons ⟨_, rfl⟩ (.cons ⟨_, rfl⟩ .nil) : KdsL [KI, KI] [.int .i64 (i19 : Int), .int .i64 (ms.length : Int)])
  refine run_mc (φ := φ0) (pm := pmR 1 [(.len (n1 0), nI 5)] 0) 20 (ws := [⟨l, 0, [n1 0, n1 1], false⟩]) (env := [(0, .ptr 0 0), (3, nI 2), (4, nI 4)]) q22 (.cons (wR r21 q22) .nil) (sepOk_ro rfl) (.cons (⟨_, _, (dE q22), (dE q22), slLen hS⟩) .nil) (eC q22 (.cons (hsi19.at 0 rfl) (.cons (hsi19.at 1 rfl) (.cons hci19 .nil)))) tb_ok ap_ok ?_
  refine all2 (by kernel_rfl) ?_ ?_
  ·
   intro vs ls H23 E23 st hE
   have f24 : (i19 : Int) < (ms.length : Int) := dt st 0
   have b25 := eo st hE 34 S
   have b26 := eo st hE 35 (.int .i64 (i19 : Int))
   have b27 := eo st hE 4 (.int .i64 (i19 : Int))
   have b28 := eo st hE 0 (.ptr l 0)
   have b29 := eo st hE 3 (.int .i64 (ms.length : Int))
   have g30 : Grew Hi19 H23 := (gk st)
   have g31 : Grew H H23 := Grew.trans g20 g30
   have g32 : Grew H9 H23 := Grew.trans hgi19 g30
   have r33 := g30.at r21
   clear st hE vs ls
   have hlt34 : i19 < ms.length := by omega
   obtain ⟨lS34, cap34, rest34, wr34, eS34, gB34⟩ := hS.isSl hlt34
   have gS34 := g31.at gB34
   obtain ⟨v34_0, v34_1, v34_2, hm34, ho34_0, ho34_1, ho34_2⟩ := partsPose (hr.get hlt34)
   have he34 : ms.getD i19 [] = [.flt .f32 v34_0, .flt .f32 v34_1, .flt .f32 v34_2] := by rw [← hm34, List.getD_eq_getElem?_getD, List.getElem?_eq_getElem hlt34]; rfl
   have q35 := q22.app (.cons ⟨_, rfl, ho34_0⟩ (.cons ⟨_, rfl, ho34_1⟩ (.cons ⟨_, rfl, ho34_2⟩ (.cons ⟨_, rfl⟩ .nil))) : KdsL [KF, KF, KF, .bool] [.flt .f32 v34_0, .flt .f32 v34_1, .flt .f32 v34_2, .bool (finP [.flt .f32 v34_0, .flt .f32 v34_1, .flt .f32 v34_2])])
   refine run_mc (φ := φ0) (pm := pmR 2 [(.ia 3 (n1 0) (nI 4), .ptr 1 0), (.call 87 [.agg [nF 6, nF 7, nF 8]], nB 9)] 0) 20 (ws := [⟨l, 0, [n1 0, n1 1], false⟩, ⟨lS34, (i19 * 3), [nF 6, nF 7, nF 8], false⟩]) (env := [(34, n1 0), (35, nI 4), (4, nI 4), (0, .ptr 0 0), (3, nI 2)]) q35 (.cons (wR r33 q35) (.cons (win_elem hr gS34 hlt34 rfl (by rw [hm34]; exact (dL q35))) .nil)) (sepOk_ro rfl) (.cons (rule_iaS (k := i19) (dE q35) eS34 (dE q35) hlt34 rfl) (.cons (rule_call (args := [.agg [.flt .f32 v34_0, .flt .f32 v34_1, .flt .f32 v34_2]]) (dL q35) (dE q35) (fun H9 hk => k_l06Finite [.flt .f32 v34_0, .flt .f32 v34_1, .flt .f32 v34_2] (.cons ⟨_, rfl, ho34_0⟩ (.cons ⟨_, rfl, ho34_1⟩ (.cons ⟨_, rfl, ho34_2⟩ .nil))) H9)) .nil)) (eC q35 (.cons b25 (.cons b26 (.cons b27 (.cons b28 (.cons b29 .nil)))))) tb_ok ap_ok ?_
   refine all2 (by kernel_rfl) ?_ ?_
   ·
    intro vs ls H36 E36 st hE
    have f37 : (finP [.flt .f32 v34_0, .flt .f32 v34_1, .flt .f32 v34_2]) = false := bf st 0
    refine res_ret (by kernel_rfl) (end_flat st.inn hE (.inr rfl) (a := .bool false) (by kernel_rfl) (Grew.trans g31 (gk st)) rfl ⟨?_, rfl⟩)
    rw [okG, allB_at hlt34 (by show finP _ = false; rw [he34]; exact f37), Bool.false_and, Bool.and_false]
   ·
    intro vs ls H38 E38 st hE
    have f39 : (finP [.flt .f32 v34_0, .flt .f32 v34_1, .flt .f32 v34_2]) = true := bf st 0
    have hlti19 : i19 < ms.length := by omega
    refine res_next (sl := [(0, .ptr l 0), (3, .int .i64 (ms.length : Int))]) (ti := 4) (i := i19) (Inv := fun i => ∀ j, j < i → finP (ms.getD j []) = true) (by kernel_rfl) st.inn hE hlti19 (by kernel_rfl) (w := (IntKind.wrap .i64 ((i19 : Int) + 1))) (by kernel_rfl) (wrap64 (by omega)) (Grew.trans g32 (gk st)) ?_
    exact upTo hIi19 (by rw [he34]; exact f39)
  ·
   intro vs ls H40 E40 st hE
   have f41 : ¬ ((i19 : Int) < (ms.length : Int)) := df st 0
   have b42 := eo st hE 4 (.int .i64 (i19 : Int))
   have b43 := eo st hE 0 (.ptr l 0)
   have b44 := eo st hE 23 (.ptr l 0)
   have b45 := eo st hE 24 (.ptr l 0)
   have b46 := eo st hE 25 (.ptr l 0)
   have b47 := eo st hE 26 S
   have b48 := eo st hE 22 (.int .i64 (i19 : Int))
   have b49 := eo st hE 27 (.int .i64 (ms.length : Int))
   obtain ⟨w50, hw50⟩ : ∃ z, z = (decide ((i19 : Int) < (ms.length : Int))) := ⟨_, rfl⟩
   have b51 : E40 28 = .bool w50 := by rw [hw50]; exact eo st hE 28 _
   have b52 := eo st hE 3 (.int .i64 (ms.length : Int))
   have g53 : Grew Hi19 H40 := (gk st)
   have g54 : Grew H H40 := Grew.trans g20 g53
   have r56 := g53.at r21
   clear st hE vs ls
   refine res_exit (id := 0) (by kernel_rfl) ?_
   have q57 := q22.app (.cons ⟨_, rfl⟩ .nil : KdsL [.bool] [.bool w50])
   refine run_mc (φ := φ0) (pm := pmR 1 [] 0) 20 (ws := [⟨l, 0, [n1 0, n1 1], false⟩]) (env := [(4, nI 4), (0, .ptr 0 0), (23, .ptr 0 0), (24, .ptr 0 0), (25, .ptr 0 0), (26, n1 0), (22, nI 4), (27, nI 5), (28, nB 6), (3, nI 2)]) q57 (.cons (wR r56 q57) .nil) (sepOk_ro rfl) .nil (eC q57 (.cons b42 (.cons b43 (.cons b44 (.cons b45 (.cons b46 (.cons b47 (.cons b48 (.cons b49 (.cons b51 (.cons b52 .nil))))))))))) tb_ok ap_ok ?_
   refine all1 (by kernel_rfl) ?_
   intro vs ls H58 E58 st hE
   have b59 := eo st hE 5 (.int .i64 0)
   have b60 := eo st hE 0 (.ptr l 0)
   have b61 := eo st hE 3 (.int .i64 (ms.length : Int))
   have g62 : Grew H40 H58 := (gk st)
   have g63 : Grew H H58 := Grew.trans g54 g62
   have r64 := g62.at r56
   clear st hE vs ls
   refine res_scan (by kernel_rfl) [(0, .ptr l 0), (3, .int .i64 (ms.length : Int))] 5 ks.length (fun i => ∀ j, j < i → okK ms.length (ks.getD j []) = true) (.cons b60 (.cons b61 .nil)) b59 (Grew.refl _) upTo0 ?_
   intro i65 hli65 hIi65 Ei65 Hi65 hsi65 hci65 hgi65
   have g66 : Grew H Hi65 := Grew.trans g63 hgi65
   have r67 := hgi65.at r64
   have q68 := q57.app (.cons ⟨_, rfl⟩ (.cons ⟨_, rfl⟩ .nil) : KdsL [KI, KI] [.int .i64 (i65 : Int), .int .i64 (ks.length : Int)])
   refine run_mc (φ := φ0) (pm := pmR 1 [(.len (n1 1), nI 8)] 0) 20 (ws := [⟨l, 0, [n1 0, n1 1], false⟩]) (env := [(0, .ptr 0 0), (3, nI 2), (5, nI 7)]) q68 (.cons (wR r67 q68) .nil) (sepOk_ro rfl) (.cons (⟨_, _, (dE q68), (dE q68), slLen hSk⟩) .nil) (eC q68 (.cons (hsi65.at 0 rfl) (.cons (hsi65.at 1 rfl) (.cons hci65 .nil)))) tb_ok ap_ok ?_
   refine all2 (by kernel_rfl) ?_ ?_
   ·
    intro vs ls H69 E69 st hE
    have f70 : (i65 : Int) < (ks.length : Int) := dt st 0
    have b71 := eo st hE 52 Sk
    have b72 := eo st hE 53 (.int .i64 (i65 : Int))
    have b73 := eo st hE 3 (.int .i64 (ms.length : Int))
    have b74 := eo st hE 5 (.int .i64 (i65 : Int))
    have b75 := eo st hE 0 (.ptr l 0)
    have g76 : Grew Hi65 H69 := (gk st)
    have g77 : Grew H H69 := Grew.trans g66 g76
    have g78 : Grew H58 H69 := Grew.trans hgi65 g76
    have r79 := g76.at r67
    clear st hE vs ls
    have hlt80 : i65 < ks.length := by omega
    obtain ⟨lS80, cap80, rest80, wr80, eS80, gB80⟩ := hSk.isSl hlt80
    have gS80 := g77.at gB80
    obtain ⟨v80_0, v80_1, v80_2, v80_3, v80_4, v80_5, hm80, ho80_2, ho80_3, ho80_4, ho80_5⟩ := partsLink (hrk.get hlt80)
    have he80 : ks.getD i65 [] = [.int .i64 v80_0, .int .i64 v80_1, .flt .f32 v80_2, .flt .f32 v80_3, .flt .f32 v80_4, .flt .f32 v80_5] := by rw [← hm80, List.getD_eq_getElem?_getD, List.getElem?_eq_getElem hlt80]; rfl
    have q81 := q68.app (.cons ⟨_, rfl⟩ (.cons ⟨_, rfl⟩ (.cons ⟨_, rfl, ho80_2⟩ (.cons ⟨_, rfl, ho80_3⟩ (.cons ⟨_, rfl, ho80_4⟩ (.cons ⟨_, rfl, ho80_5⟩ (.cons ⟨_, rfl⟩ .nil)))))) : KdsL [KI, KI, KF, KF, KF, KF, .bool] [.int .i64 v80_0, .int .i64 v80_1, .flt .f32 v80_2, .flt .f32 v80_3, .flt .f32 v80_4, .flt .f32 v80_5, .bool (okK ms.length [.int .i64 v80_0, .int .i64 v80_1, .flt .f32 v80_2, .flt .f32 v80_3, .flt .f32 v80_4, .flt .f32 v80_5])])
    refine run_mc (φ := φ0) (pm := pmR 2 [(.ia 6 (n1 1) (nI 7), .ptr 1 0), (.call 94 [.ptr 1 0, nI 2], nB 15)] 0) 20 (ws := [⟨l, 0, [n1 0, n1 1], false⟩, ⟨lS80, (i65 * 6), [nI 9, nI 10, nF 11, nF 12, nF 13, nF 14], false⟩]) (env := [(52, n1 1), (53, nI 7), (3, nI 2), (5, nI 7), (0, .ptr 0 0)]) q81 (.cons (wR r79 q81) (.cons (win_elem hrk gS80 hlt80 rfl (by rw [hm80]; exact (dL q81))) .nil)) (sepOk_ro rfl) (.cons (rule_iaS (k := i65) (dE q81) eS80 (dE q81) hlt80 rfl) (.cons (rule_call (args := [.ptr lS80 ((i65 * 6) + 0), .int .i64 (ms.length : Int)]) (r := .bool (okK ms.length [.int .i64 v80_0, .int .i64 v80_1, .flt .f32 v80_2, .flt .f32 v80_3, .flt .f32 v80_4, .flt .f32 v80_5])) (dL q81) (dE q81) (fun H9 hk => (by obtain ⟨pre, post, g1, g2⟩ := flat_split hrk.len hlt80 rest80; exact k_l06Link ms.length hmx v80_0 v80_1 v80_2 v80_3 v80_4 v80_5 ho80_2 ho80_3 ho80_4 ho80_5 H9 _ _ pre post wr80 (by rw [((hk.grew (Nat.le_refl _)).at gS80), g1, hm80]) g2))) .nil)) (eC q81 (.cons b71 (.cons b72 (.cons b73 (.cons b74 (.cons b75 .nil)))))) tb_ok ap_ok ?_
    refine all2 (by kernel_rfl) ?_ ?_
    ·
     intro vs ls H82 E82 st hE
     have f83 : (okK ms.length [.int .i64 v80_0, .int .i64 v80_1, .flt .f32 v80_2, .flt .f32 v80_3, .flt .f32 v80_4, .flt .f32 v80_5]) = false := bf st 0
     refine res_ret (by kernel_rfl) (end_flat st.inn hE (.inr rfl) (a := .bool false) (by kernel_rfl) (Grew.trans g77 (gk st)) rfl ⟨?_, rfl⟩)
     rw [okG, show allB (fun i => okK ms.length (ks.getD i [])) ks.length = false from allB_at hlt80 (by show okK _ _ = false; rw [he80]; exact f83), Bool.and_false, Bool.and_false]
    ·
     intro vs ls H84 E84 st hE
     have f85 : (okK ms.length [.int .i64 v80_0, .int .i64 v80_1, .flt .f32 v80_2, .flt .f32 v80_3, .flt .f32 v80_4, .flt .f32 v80_5]) = true := bf st 0
     have hlti65 : i65 < ks.length := by omega
     refine res_next (sl := [(0, .ptr l 0), (3, .int .i64 (ms.length : Int))]) (ti := 5) (i := i65) (Inv := fun i => ∀ j, j < i → okK ms.length (ks.getD j []) = true) (by kernel_rfl) st.inn hE hlti65 (by kernel_rfl) (w := (IntKind.wrap .i64 ((i65 : Int) + 1))) (by kernel_rfl) (wrap64 (by omega)) (Grew.trans g78 (gk st)) ?_
     exact upTo hIi65 (by rw [he80]; exact f85)
   ·
    intro vs ls H86 E86 st hE
    have f87 : ¬ ((i65 : Int) < (ks.length : Int)) := df st 0
    have b88 := eo st hE 5 (.int .i64 (i65 : Int))
    have b89 := eo st hE 0 (.ptr l 0)
    have b90 := eo st hE 41 (.ptr l 0)
    have b91 := eo st hE 42 (.ptr l 0)
    have b92 := eo st hE 43 (.ptr l 1)
    have b93 := eo st hE 44 Sk
    have b94 := eo st hE 40 (.int .i64 (i65 : Int))
    have b95 := eo st hE 45 (.int .i64 (ks.length : Int))
    obtain ⟨w96, hw96⟩ : ∃ z, z = (decide ((i65 : Int) < (ks.length : Int))) := ⟨_, rfl⟩
    have b97 : E86 46 = .bool w96 := by rw [hw96]; exact eo st hE 46 _
    have b98 := eo st hE 3 (.int .i64 (ms.length : Int))
    have g99 : Grew Hi65 H86 := (gk st)
    have g100 : Grew H H86 := Grew.trans g66 g99
    have r102 := g99.at r67
    clear st hE vs ls
    refine res_exit (id := 2) (by kernel_rfl) ?_
    have q103 := q68.app (.cons ⟨_, rfl⟩ .nil : KdsL [.bool] [.bool w96])
    refine run_mc (φ := φ0) (pm := pmR 1 [] 0) 20 (ws := [⟨l, 0, [n1 0, n1 1], false⟩]) (env := [(5, nI 7), (0, .ptr 0 0), (41, .ptr 0 0), (42, .ptr 0 0), (43, .ptr 0 1), (44, n1 1), (40, nI 7), (45, nI 8), (46, nB 9), (3, nI 2)]) q103 (.cons (wR r102 q103) .nil) (sepOk_ro rfl) .nil (eC q103 (.cons b88 (.cons b89 (.cons b90 (.cons b91 (.cons b92 (.cons b93 (.cons b94 (.cons b95 (.cons b97 (.cons b98 .nil))))))))))) tb_ok ap_ok ?_
    refine all1 (by kernel_rfl) ?_
    intro vs ls H104 E104 st hE
    refine res_ex (by kernel_rfl) (end_flat st.inn hE (.inr rfl) (a := .bool true) (by kernel_rfl) (Grew.trans g100 (gk st)) rfl ⟨?_, rfl⟩)
    rw [okG, decide_eq_true (by omega), allB_true (fun j hj => hIi19 j (by omega)), allB_true (fun j hj => hIi65 j (by omega))]; rfl
 ·
  intro vs ls H105 E105 st hE
  have f106 : (ms.length : Int) < 1 := dt st 0
  refine res_ex (by kernel_rfl) (end_flat st.inn hE (.inr rfl) (a := .bool false) (by kernel_rfl) (Grew.trans (Grew.refl _) (gk st)) rfl ⟨?_, rfl⟩)
  rw [okG, decide_eq_false (by omega)]; rfl
end Go.Proofs.Ytcmoeocemmeofaa
