/- Contracts: graphs that are valid, by both. -/
import Derived.Test.YtcmoeocemmeofaaTGraphD
set_option linter.unusedVariables false
set_option linter.unusedSimpArgs false
namespace Go.Proofs.Ytcmoeocemmeofaa
open Go.Ab
set_option maxRecDepth 100000
set_option maxHeartbeats 1000000
attribute [local irreducible] Res
theorem k_fn1 (v0 v1 v2 : Option Nat) (o0 : fOk .f32 v0) (o1 : fOk .f32 v1) (o2 : fOk .f32 v2) (H : AHeap) : APure Try.prog 96 [.agg [.flt .f32 v0, .flt .f32 v1, .flt .f32 v2]] H (.bool (!finP [.flt .f32 v0, .flt .f32 v1, .flt .f32 v2])) := by
 refine res_start h_impl_ValidGraph_1 (by simp) ?_
 have q1 : KdsL [KF, KF, KF, .bool] [.flt .f32 v0, .flt .f32 v1, .flt .f32 v2, .bool (finP [.flt .f32 v0, .flt .f32 v1, .flt .f32 v2])] := .cons ⟨_, rfl, o0⟩ (.cons ⟨_, rfl, o1⟩ (.cons ⟨_, rfl, o2⟩ (.cons ⟨_, rfl⟩ .nil)))
 refine run_mc (φ := φ0) (pm := pmR 0 [(.call 57 [.agg [nF 0, nF 1, nF 2]], nB 3)] 0) 20 (ws := []) (env := [(0, .agg [nF 0, nF 1, nF 2])]) q1 .nil (sepOk_ro rfl) (.cons (rule_call (args := [.agg [.flt .f32 v0, .flt .f32 v1, .flt .f32 v2]]) (dL q1) (dE q1) (fun H9 hk => k_IsFinitePose [.flt .f32 v0, .flt .f32 v1, .flt .f32 v2] (.cons ⟨_, rfl, o0⟩ (.cons ⟨_, rfl, o1⟩ (.cons ⟨_, rfl, o2⟩ .nil))) H9)) .nil) (eC q1 (.cons (t := 0) rfl .nil)) tb_ok ap_ok ?_
 refine all1 (by kernel_rfl) ?_
 intro vs ls H2 E2 st hE
 refine res_ex (by kernel_rfl) (end_flat st.inn hE (.inr rfl) (a := .bool (!(finP [.flt .f32 v0, .flt .f32 v1, .flt .f32 v2]))) (by kernel_rfl) (Grew.trans (Grew.refl _) (gk st)) rfl ⟨?_, rfl⟩)
 rfl
theorem k_fn2 (H : AHeap) (ms : List (List AV)) (S : AV) (hS : SlL H 3 ms S) (hmx : ms.length < 2 ^ 40) (Sk : AV) (hSk : Sk.one = true) (l : Nat) (hg : H.get l = some (.row [S, Sk] true)) (v0 v1 : Int) (v2 v3 v4 v5 : Option Nat) (o2 : fOk .f32 v2) (o3 : fOk .f32 v3) (o4 : fOk .f32 v4) (o5 : fOk .f32 v5) : APure Try.prog 98 [.agg [.int .i64 v0, .int .i64 v1, .flt .f32 v2, .flt .f32 v3, .flt .f32 v4, .flt .f32 v5], .ptr l 0] H (.bool (!okK ms.length [.int .i64 v0, .int .i64 v1, .flt .f32 v2, .flt .f32 v3, .flt .f32 v4, .flt .f32 v5])) := by
 refine res_start h_impl_ValidGraph_2 (by simp) ?_
 have q1 : KdsL [.one, .one, KI, KI, KF, KF, KF, KF, KI, .bool] [S, Sk, .int .i64 v0, .int .i64 v1, .flt .f32 v2, .flt .f32 v3, .flt .f32 v4, .flt .f32 v5, .int .i64 (ms.length : Int), .bool (okK ms.length [.int .i64 v0, .int .i64 v1, .flt .f32 v2, .flt .f32 v3, .flt .f32 v4, .flt .f32 v5])] := .cons (slOne hS) (.cons hSk (.cons ⟨_, rfl⟩ (.cons ⟨_, rfl⟩ (.cons ⟨_, rfl, o2⟩ (.cons ⟨_, rfl, o3⟩ (.cons ⟨_, rfl, o4⟩ (.cons ⟨_, rfl, o5⟩ (.cons ⟨_, rfl⟩ (.cons ⟨_, rfl⟩ .nil)))))))))
 refine run_mc (φ := φ0) (pm := pmR 1 [(.len (n1 0), nI 8), (.call 99 [.agg [nI 2, nI 3, nF 4, nF 5, nF 6, nF 7], nI 8], nB 9)] 0) 20 (ws := [⟨l, 0, [n1 0, n1 1], false⟩]) (env := [(0, .agg [nI 2, nI 3, nF 4, nF 5, nF 6, nF 7]), (1, .ptr 0 0)]) q1 (.cons (wR hg q1) .nil) (sepOk_ro rfl) (.cons (⟨_, _, (dE q1), (dE q1), slLen hS⟩) (.cons (rule_call (args := [.agg [.int .i64 v0, .int .i64 v1, .flt .f32 v2, .flt .f32 v3, .flt .f32 v4, .flt .f32 v5], .int .i64 (ms.length : Int)]) (dL q1) (dE q1) (fun H9 hk => k_validLink ms.length hmx v0 v1 v2 v3 v4 v5 o2 o3 o4 o5 H9)) .nil)) (eC q1 (.cons (t := 0) rfl (.cons (t := 1) rfl .nil))) tb_ok ap_ok ?_
 refine all1 (by kernel_rfl) ?_
 intro vs ls H2 E2 st hE
 refine res_ex (by kernel_rfl) (end_flat st.inn hE (.inr rfl) (a := .bool (!(okK ms.length [.int .i64 v0, .int .i64 v1, .flt .f32 v2, .flt .f32 v3, .flt .f32 v4, .flt .f32 v5]))) (by kernel_rfl) (Grew.trans (Grew.refl _) (gk st)) rfl ⟨?_, rfl⟩)
 rfl
theorem k_IndexP (H : AHeap) (ms : List (List AV)) (hr : Recs KP ms) (S : AV) (hS : SlL H 3 ms S) (hmx : ms.length < 2 ^ 40) : APure Try.prog 90 [S, .func 96 [] []] H (.int .i64 (idxF (fun i => !finP (ms.getD i [])) ms.length)) := by
 refine res_start h_slices_IndexFunc_impl_Pose_impl_Pose (by simp) ?_
 have q1 : KdsL [.one, KI] [S, .int .i64 (ms.length : Int)] := .cons (slOne hS) (.cons ⟨_, rfl⟩ .nil)
 refine run_mc (φ := φ0) (pm := pmR 0 [(.len (n1 0), nI 1)] 0) 20 (ws := []) (env := [(0, n1 0), (1, .fn 96 [] [])]) q1 .nil (sepOk_ro rfl) (.cons (⟨_, _, (dE q1), (dE q1), slLen hS⟩) .nil) (eC q1 (.cons (t := 0) rfl (.cons (t := 1) rfl .nil))) tb_ok ap_ok ?_
 refine all1 (by kernel_rfl) ?_
 intro vs ls H2 E2 st hE
 have b3 := eo st hE 8 (.int .i64 0)
 have b4 := eo st hE 7 (.int .i64 (ms.length : Int))
 have b5 := eo st hE 1 (.func 96 [] [])
 have b6 := eo st hE 0 S
 have g7 : Grew H H2 := (gk st)
 have g8 : Grew H H2 := Grew.trans (Grew.refl _) g7
 clear st hE vs ls
 refine res_scan (by kernel_rfl) [(7, .int .i64 (ms.length : Int)), (1, .func 96 [] []), (0, S)] 8 ms.length (fun i => ∀ j, j < i → (!finP (ms.getD j [])) = false) (.cons b4 (.cons b5 (.cons b6 .nil))) b3 (Grew.refl _) upTo0 ?_
 intro i9 hli9 hIi9 Ei9 Hi9 hsi9 hci9 hgi9
 have g10 : Grew H Hi9 := Grew.trans g8 hgi9
 have q11 := q1.app (.cons ⟨_, rfl⟩ .nil : KdsL [KI] [.int .i64 (i9 : Int)])
 refine run_mc (φ := φ0) (pm := pmR 0 [] 0) 20 (ws := []) (env := [(7, nI 1), (1, .fn 96 [] []), (0, n1 0), (8, nI 2)]) q11 .nil (sepOk_ro rfl) .nil (eC q11 (.cons (hsi9.at 0 rfl) (.cons (hsi9.at 1 rfl) (.cons (hsi9.at 2 rfl) (.cons hci9 .nil))))) tb_ok ap_ok ?_
 refine all2 (by kernel_rfl) ?_ ?_
 ·
  intro vs ls H12 E12 st hE
  have f13 : (i9 : Int) < (ms.length : Int) := dt st 0
  have b14 := eo st hE 12 S
  have b15 := eo st hE 13 (.int .i64 (i9 : Int))
  have b16 := eo st hE 11 (.func 96 [] [])
  have b17 := eo st hE 5 (.int .i64 (i9 : Int))
  have b18 := eo st hE 8 (.int .i64 (i9 : Int))
  have b19 := eo st hE 7 (.int .i64 (ms.length : Int))
  have b20 := eo st hE 1 (.func 96 [] [])
  have b21 := eo st hE 0 S
  have g22 : Grew Hi9 H12 := (gk st)
  have g23 : Grew H H12 := Grew.trans g10 g22
  have g24 : Grew H2 H12 := Grew.trans hgi9 g22
  clear st hE vs ls
  have hlt25 : i9 < ms.length := by omega
  obtain ⟨lS25, cap25, rest25, wr25, eS25, gB25⟩ := hS.isSl hlt25
  have gS25 := g23.at gB25
  obtain ⟨v25_0, v25_1, v25_2, hm25, ho25_0, ho25_1, ho25_2⟩ := partsPose (hr.get hlt25)
  have he25 : ms.getD i9 [] = [.flt .f32 v25_0, .flt .f32 v25_1, .flt .f32 v25_2] := by rw [← hm25, List.getD_eq_getElem?_getD, List.getElem?_eq_getElem hlt25]; rfl
  have q26 := q11.app (.cons ⟨_, rfl, ho25_0⟩ (.cons ⟨_, rfl, ho25_1⟩ (.cons ⟨_, rfl, ho25_2⟩ (.cons ⟨_, rfl⟩ .nil))) : KdsL [KF, KF, KF, .bool] [.flt .f32 v25_0, .flt .f32 v25_1, .flt .f32 v25_2, .bool (!finP [.flt .f32 v25_0, .flt .f32 v25_1, .flt .f32 v25_2])])
  refine run_mc (φ := φ0) (pm := pmR 1 [(.ia 3 (n1 0) (nI 2), .ptr 0 0), (.call 96 [.agg [nF 3, nF 4, nF 5]], nB 6)] 0) 20 (ws := [⟨lS25, (i9 * 3), [nF 3, nF 4, nF 5], false⟩]) (env := [(12, n1 0), (13, nI 2), (11, .fn 96 [] []), (5, nI 2), (8, nI 2), (7, nI 1), (1, .fn 96 [] []), (0, n1 0)]) q26 (.cons (win_elem hr gS25 hlt25 rfl (by rw [hm25]; exact (dL q26))) .nil) (sepOk_ro rfl) (.cons (rule_iaS (k := i9) (dE q26) eS25 (dE q26) hlt25 rfl) (.cons (rule_call (args := [.agg [.flt .f32 v25_0, .flt .f32 v25_1, .flt .f32 v25_2]]) (dL q26) (dE q26) (fun H9 hk => k_fn1 v25_0 v25_1 v25_2 ho25_0 ho25_1 ho25_2 H9)) .nil)) (eC q26 (.cons b14 (.cons b15 (.cons b16 (.cons b17 (.cons b18 (.cons b19 (.cons b20 (.cons b21 .nil))))))))) tb_ok ap_ok ?_
  refine all2 (by kernel_rfl) ?_ ?_
  ·
   intro vs ls H27 E27 st hE
   have f28 : (!finP [.flt .f32 v25_0, .flt .f32 v25_1, .flt .f32 v25_2]) = true := bf st 0
   refine res_ret (by kernel_rfl) (end_flat st.inn hE (.inr rfl) (a := .int .i64 (i9 : Int)) (by kernel_rfl) (Grew.trans g23 (gk st)) rfl ⟨?_, rfl⟩)
   rw [idxF_at hlt25 hIi9 (by show (!finP _) = true; rw [he25]; simpa using f28)]
  ·
   intro vs ls H29 E29 st hE
   have f30 : (!finP [.flt .f32 v25_0, .flt .f32 v25_1, .flt .f32 v25_2]) = false := bf st 0
   have hlti9 : i9 < ms.length := by omega
   refine res_next (sl := [(7, .int .i64 (ms.length : Int)), (1, .func 96 [] []), (0, S)]) (ti := 8) (i := i9) (Inv := fun i => ∀ j, j < i → (!finP (ms.getD j [])) = false) (by kernel_rfl) st.inn hE hlti9 (by kernel_rfl) (w := (IntKind.wrap .i64 ((i9 : Int) + 1))) (by kernel_rfl) (wrap64 (by omega)) (Grew.trans g24 (gk st)) ?_
   exact upTo hIi9 (by rw [he25]; simpa using f30)
 ·
  intro vs ls H31 E31 st hE
  have f32 : ¬ ((i9 : Int) < (ms.length : Int)) := df st 0
  have b33 := eo st hE 8 (.int .i64 (i9 : Int))
  have b34 := eo st hE 7 (.int .i64 (ms.length : Int))
  obtain ⟨w35, hw35⟩ : ∃ z, z = (decide ((i9 : Int) < (ms.length : Int))) := ⟨_, rfl⟩
  have b36 : E31 9 = .bool w35 := by rw [hw35]; exact eo st hE 9 _
  have b37 := eo st hE 1 (.func 96 [] [])
  have b38 := eo st hE 0 S
  have g39 : Grew Hi9 H31 := (gk st)
  have g40 : Grew H H31 := Grew.trans g10 g39
  clear st hE vs ls
  refine res_exit (id := 0) (by kernel_rfl) ?_
  have q42 := q11.app (.cons ⟨_, rfl⟩ .nil : KdsL [.bool] [.bool w35])
  refine run_mc (φ := φ0) (pm := pmR 0 [] 0) 20 (ws := []) (env := [(8, nI 2), (7, nI 1), (9, nB 3), (1, .fn 96 [] []), (0, n1 0)]) q42 .nil (sepOk_ro rfl) .nil (eC q42 (.cons b33 (.cons b34 (.cons b36 (.cons b37 (.cons b38 .nil)))))) tb_ok ap_ok ?_
  refine all1 (by kernel_rfl) ?_
  intro vs ls H43 E43 st hE
  refine res_ex (by kernel_rfl) (end_flat st.inn hE (.inr rfl) (a := .int .i64 (-1)) (by kernel_rfl) (Grew.trans g40 (gk st)) rfl ⟨?_, rfl⟩)
  rw [idxF_none (fun j hj => hIi9 j (by omega))]
theorem k_IndexL (H : AHeap) (ms : List (List AV)) (S : AV) (hS : SlL H 3 ms S) (hmx : ms.length < 2 ^ 40) (ks : List (List AV)) (hrk : Recs KL ks) (Sk : AV) (hSk : SlL H 6 ks Sk) (hmxk : ks.length < 2 ^ 40) (l : Nat) (hg : H.get l = some (.row [S, Sk] true)) : APure Try.prog 118 [Sk, .func 98 [] [.ptr l 0]] H (.int .i64 (idxF (fun i => !okK ms.length (ks.getD i [])) ks.length)) := by
 refine res_start h_slices_IndexFunc_impl_Link_impl_Link (by simp) ?_
 have q1 : KdsL [.one, .one, KI] [S, Sk, .int .i64 (ks.length : Int)] := .cons (slOne hS) (.cons (slOne hSk) (.cons ⟨_, rfl⟩ .nil))
 refine run_mc (φ := φ0) (pm := pmR 1 [(.len (n1 1), nI 2)] 0) 20 (ws := [⟨l, 0, [n1 0, n1 1], false⟩]) (env := [(0, n1 1), (1, .fn 98 [] [.ptr 0 0])]) q1 (.cons (wR hg q1) .nil) (sepOk_ro rfl) (.cons (⟨_, _, (dE q1), (dE q1), slLen hSk⟩) .nil) (eC q1 (.cons (t := 0) rfl (.cons (t := 1) rfl .nil))) tb_ok ap_ok ?_
 refine all1 (by kernel_rfl) ?_
 intro vs ls H2 E2 st hE
 have b3 := eo st hE 8 (.int .i64 0)
 have b4 := eo st hE 7 (.int .i64 (ks.length : Int))
 have b5 := eo st hE 1 (.func 98 [] [.ptr l 0])
 have b6 := eo st hE 0 Sk
 have g7 : Grew H H2 := (gk st)
 have g8 : Grew H H2 := Grew.trans (Grew.refl _) g7
 have r9 := g7.at hg
 clear st hE vs ls
 refine res_scan (by kernel_rfl) [(7, .int .i64 (ks.length : Int)), (1, .func 98 [] [.ptr l 0]), (0, Sk)] 8 ks.length (fun i => ∀ j, j < i → (!okK ms.length (ks.getD j [])) = false) (.cons b4 (.cons b5 (.cons b6 .nil))) b3 (Grew.refl _) upTo0 ?_
 intro i10 hli10 hIi10 Ei10 Hi10 hsi10 hci10 hgi10
 have g11 : Grew H Hi10 := Grew.trans g8 hgi10
 have r12 := hgi10.at r9
 have q13 := q1.app (.cons ⟨_, rfl⟩ .nil : KdsL [KI] [.int .i64 (i10 : Int)])
 refine run_mc (φ := φ0) (pm := pmR 1 [] 0) 20 (ws := [⟨l, 0, [n1 0, n1 1], false⟩]) (env := [(7, nI 2), (1, .fn 98 [] [.ptr 0 0]), (0, n1 1), (8, nI 3)]) q13 (.cons (wR r12 q13) .nil) (sepOk_ro rfl) .nil (eC q13 (.cons (hsi10.at 0 rfl) (.cons (hsi10.at 1 rfl) (.cons (hsi10.at 2 rfl) (.cons hci10 .nil))))) tb_ok ap_ok ?_
 refine all2 (by kernel_rfl) ?_ ?_
 ·
  intro vs ls H14 E14 st hE
  have f15 : (i10 : Int) < (ks.length : Int) := dt st 0
  have b16 := eo st hE 12 Sk
  have b17 := eo st hE 13 (.int .i64 (i10 : Int))
  have b18 := eo st hE 11 (.func 98 [] [.ptr l 0])
  have b19 := eo st hE 5 (.int .i64 (i10 : Int))
  have b20 := eo st hE 8 (.int .i64 (i10 : Int))
  have b21 := eo st hE 7 (.int .i64 (ks.length : Int))
  have b22 := eo st hE 1 (.func 98 [] [.ptr l 0])
  have b23 := eo st hE 0 Sk
  have g24 : Grew Hi10 H14 := (gk st)
  have g25 : Grew H H14 := Grew.trans g11 g24
  have g26 : Grew H2 H14 := Grew.trans hgi10 g24
  have r27 := g24.at r12
  clear st hE vs ls
  have hlt28 : i10 < ks.length := by omega
  obtain ⟨lS28, cap28, rest28, wr28, eS28, gB28⟩ := hSk.isSl hlt28
  have gS28 := g25.at gB28
  obtain ⟨v28_0, v28_1, v28_2, v28_3, v28_4, v28_5, hm28, ho28_2, ho28_3, ho28_4, ho28_5⟩ := partsLink (hrk.get hlt28)
  have he28 : ks.getD i10 [] = [.int .i64 v28_0, .int .i64 v28_1, .flt .f32 v28_2, .flt .f32 v28_3, .flt .f32 v28_4, .flt .f32 v28_5] := by rw [← hm28, List.getD_eq_getElem?_getD, List.getElem?_eq_getElem hlt28]; rfl
  have q29 := q13.app (.cons ⟨_, rfl⟩ (.cons ⟨_, rfl⟩ (.cons ⟨_, rfl, ho28_2⟩ (.cons ⟨_, rfl, ho28_3⟩ (.cons ⟨_, rfl, ho28_4⟩ (.cons ⟨_, rfl, ho28_5⟩ (.cons ⟨_, rfl⟩ .nil)))))) : KdsL [KI, KI, KF, KF, KF, KF, .bool] [.int .i64 v28_0, .int .i64 v28_1, .flt .f32 v28_2, .flt .f32 v28_3, .flt .f32 v28_4, .flt .f32 v28_5, .bool (!okK ms.length [.int .i64 v28_0, .int .i64 v28_1, .flt .f32 v28_2, .flt .f32 v28_3, .flt .f32 v28_4, .flt .f32 v28_5])])
  refine run_mc (φ := φ0) (pm := pmR 2 [(.ia 6 (n1 1) (nI 3), .ptr 1 0), (.call 98 [.agg [nI 4, nI 5, nF 6, nF 7, nF 8, nF 9], .ptr 0 0], nB 10)] 0) 20 (ws := [⟨l, 0, [n1 0, n1 1], false⟩, ⟨lS28, (i10 * 6), [nI 4, nI 5, nF 6, nF 7, nF 8, nF 9], false⟩]) (env := [(12, n1 1), (13, nI 3), (11, .fn 98 [] [.ptr 0 0]), (5, nI 3), (8, nI 3), (7, nI 2), (1, .fn 98 [] [.ptr 0 0]), (0, n1 1)]) q29 (.cons (wR r27 q29) (.cons (win_elem hrk gS28 hlt28 rfl (by rw [hm28]; exact (dL q29))) .nil)) (sepOk_ro rfl) (.cons (rule_iaS (k := i10) (dE q29) eS28 (dE q29) hlt28 rfl) (.cons (rule_call (args := [.agg [.int .i64 v28_0, .int .i64 v28_1, .flt .f32 v28_2, .flt .f32 v28_3, .flt .f32 v28_4, .flt .f32 v28_5], .ptr l 0]) (dL q29) (dE q29) (fun H9 hk => k_fn2 H9 ms S (hS.grew (Grew.trans g25 (hk.grew (Nat.le_refl _)))) hmx Sk (slOne hSk) l ((hk.grew (Nat.le_refl _)).at r27) v28_0 v28_1 v28_2 v28_3 v28_4 v28_5 ho28_2 ho28_3 ho28_4 ho28_5)) .nil)) (eC q29 (.cons b16 (.cons b17 (.cons b18 (.cons b19 (.cons b20 (.cons b21 (.cons b22 (.cons b23 .nil))))))))) tb_ok ap_ok ?_
  refine all2 (by kernel_rfl) ?_ ?_
  ·
   intro vs ls H30 E30 st hE
   have f31 : (!okK ms.length [.int .i64 v28_0, .int .i64 v28_1, .flt .f32 v28_2, .flt .f32 v28_3, .flt .f32 v28_4, .flt .f32 v28_5]) = true := bf st 0
   refine res_ret (by kernel_rfl) (end_flat st.inn hE (.inr rfl) (a := .int .i64 (i10 : Int)) (by kernel_rfl) (Grew.trans g25 (gk st)) rfl ⟨?_, rfl⟩)
   rw [idxF_at hlt28 hIi10 (by show (!okK ms.length _) = true; rw [he28]; simpa using f31)]
  ·
   intro vs ls H32 E32 st hE
   have f33 : (!okK ms.length [.int .i64 v28_0, .int .i64 v28_1, .flt .f32 v28_2, .flt .f32 v28_3, .flt .f32 v28_4, .flt .f32 v28_5]) = false := bf st 0
   have hlti10 : i10 < ks.length := by omega
   refine res_next (sl := [(7, .int .i64 (ks.length : Int)), (1, .func 98 [] [.ptr l 0]), (0, Sk)]) (ti := 8) (i := i10) (Inv := fun i => ∀ j, j < i → (!okK ms.length (ks.getD j [])) = false) (by kernel_rfl) st.inn hE hlti10 (by kernel_rfl) (w := (IntKind.wrap .i64 ((i10 : Int) + 1))) (by kernel_rfl) (wrap64 (by omega)) (Grew.trans g26 (gk st)) ?_
   exact upTo hIi10 (by rw [he28]; simpa using f33)
 ·
  intro vs ls H34 E34 st hE
  have f35 : ¬ ((i10 : Int) < (ks.length : Int)) := df st 0
  have b36 := eo st hE 8 (.int .i64 (i10 : Int))
  have b37 := eo st hE 7 (.int .i64 (ks.length : Int))
  obtain ⟨w38, hw38⟩ : ∃ z, z = (decide ((i10 : Int) < (ks.length : Int))) := ⟨_, rfl⟩
  have b39 : E34 9 = .bool w38 := by rw [hw38]; exact eo st hE 9 _
  have b40 := eo st hE 1 (.func 98 [] [.ptr l 0])
  have b41 := eo st hE 0 Sk
  have g42 : Grew Hi10 H34 := (gk st)
  have g43 : Grew H H34 := Grew.trans g11 g42
  have r45 := g42.at r12
  clear st hE vs ls
  refine res_exit (id := 0) (by kernel_rfl) ?_
  have q46 := q13.app (.cons ⟨_, rfl⟩ .nil : KdsL [.bool] [.bool w38])
  refine run_mc (φ := φ0) (pm := pmR 1 [] 0) 20 (ws := [⟨l, 0, [n1 0, n1 1], false⟩]) (env := [(8, nI 3), (7, nI 2), (9, nB 4), (1, .fn 98 [] [.ptr 0 0]), (0, n1 1)]) q46 (.cons (wR r45 q46) .nil) (sepOk_ro rfl) .nil (eC q46 (.cons b36 (.cons b37 (.cons b39 (.cons b40 (.cons b41 .nil)))))) tb_ok ap_ok ?_
  refine all1 (by kernel_rfl) ?_
  intro vs ls H47 E47 st hE
  refine res_ex (by kernel_rfl) (end_flat st.inn hE (.inr rfl) (a := .int .i64 (-1)) (by kernel_rfl) (Grew.trans g43 (gk st)) rfl ⟨?_, rfl⟩)
  rw [idxF_none (fun j hj => hIi10 j (by omega))]
theorem k_ContainsP (H : AHeap) (ms : List (List AV)) (hr : Recs KP ms) (S : AV) (hS : SlL H 3 ms S) (hmx : ms.length < 2 ^ 40) : APure Try.prog 58 [S, .func 96 [] []] H (.bool (!allB (fun i => finP (ms.getD i [])) ms.length)) := by
 refine res_start h_slices_ContainsFunc_impl_Pose_impl_Pose (by simp) ?_
 have q1 : KdsL [.one, KI] [S, .int .i64 (idxF (fun i => !finP (ms.getD i [])) ms.length)] := .cons (slOne hS) (.cons ⟨_, rfl⟩ .nil)
 refine run_mc (φ := φ0) (pm := pmR 0 [(.call 90 [n1 0, .fn 96 [] []], nI 1)] 0) 20 (ws := []) (env := [(0, n1 0), (1, .fn 96 [] [])]) q1 .nil (sepOk_ro rfl) (.cons (rule_call (args := [S, .func 96 [] []]) (dL q1) (dE q1) (fun H9 hk => k_IndexP H9 ms hr S (hS.grew (Grew.trans (Grew.refl _) (hk.grew (Nat.le_refl _)))) hmx)) .nil) (eC q1 (.cons (t := 0) rfl (.cons (t := 1) rfl .nil))) tb_ok ap_ok ?_
 refine all1 (by kernel_rfl) ?_
 intro vs ls H2 E2 st hE
 refine res_ex (by kernel_rfl) (end_flat st.inn hE (.inr rfl) (a := .bool (!(decide ((idxF (fun i => !finP (ms.getD i [])) ms.length) < 0)))) (by kernel_rfl) (Grew.trans (Grew.refl _) (gk st)) rfl ⟨?_, rfl⟩)
 rw [idxF_pos]
theorem k_ContainsL (H : AHeap) (ms : List (List AV)) (S : AV) (hS : SlL H 3 ms S) (hmx : ms.length < 2 ^ 40) (ks : List (List AV)) (hrk : Recs KL ks) (Sk : AV) (hSk : SlL H 6 ks Sk) (hmxk : ks.length < 2 ^ 40) (l : Nat) (hg : H.get l = some (.row [S, Sk] true)) : APure Try.prog 97 [Sk, .func 98 [] [.ptr l 0]] H (.bool (!allB (fun i => okK ms.length (ks.getD i [])) ks.length)) := by
 refine res_start h_slices_ContainsFunc_impl_Link_impl_Link (by simp) ?_
 have q1 : KdsL [.one, .one, KI] [S, Sk, .int .i64 (idxF (fun i => !okK ms.length (ks.getD i [])) ks.length)] := .cons (slOne hS) (.cons (slOne hSk) (.cons ⟨_, rfl⟩ .nil))
 refine run_mc (φ := φ0) (pm := pmR 1 [(.call 118 [n1 1, .fn 98 [] [.ptr 0 0]], nI 2)] 0) 20 (ws := [⟨l, 0, [n1 0, n1 1], false⟩]) (env := [(0, n1 1), (1, .fn 98 [] [.ptr 0 0])]) q1 (.cons (wR hg q1) .nil) (sepOk_ro rfl) (.cons (rule_call (args := [Sk, .func 98 [] [.ptr l 0]]) (dL q1) (dE q1) (fun H9 hk => k_IndexL H9 ms S (hS.grew (Grew.trans (Grew.refl _) (hk.grew (Nat.le_refl _)))) hmx ks hrk Sk (hSk.grew (Grew.trans (Grew.refl _) (hk.grew (Nat.le_refl _)))) hmxk l ((hk.grew (Nat.le_refl _)).at hg))) .nil) (eC q1 (.cons (t := 0) rfl (.cons (t := 1) rfl .nil))) tb_ok ap_ok ?_
 refine all1 (by kernel_rfl) ?_
 intro vs ls H2 E2 st hE
 refine res_ex (by kernel_rfl) (end_flat st.inn hE (.inr rfl) (a := .bool (!(decide ((idxF (fun i => !okK ms.length (ks.getD i [])) ks.length) < 0)))) (by kernel_rfl) (Grew.trans (Grew.refl _) (gk st)) rfl ⟨?_, rfl⟩)
 rw [idxF_pos]
theorem k_impl_ValidGraph (H : AHeap) (ms : List (List AV)) (hr : Recs KP ms) (S : AV) (hS : SlL H 3 ms S) (hmx : ms.length < 2 ^ 40) (ks : List (List AV)) (hrk : Recs KL ks) (Sk : AV) (hSk : SlL H 6 ks Sk) (hmxk : ks.length < 2 ^ 40) : APure Try.prog 64 [.agg [S, Sk]] H (.bool (okG ms ks)) := by
 refine res_start h_impl_ValidGraph (by simp) ?_
 have q1 : KdsL [.one, .one, KI, KI, .bool] [S, Sk, .int .i64 (ms.length : Int), .int .i64 (ks.length : Int), .bool (!allB (fun i => finP (ms.getD i [])) ms.length)] := .cons (slOne hS) (.cons (slOne hSk) (.cons ⟨_, rfl⟩ (.cons ⟨_, rfl⟩ (.cons ⟨_, rfl⟩ .nil))))
 refine run_mc (φ := φ0) (pm := pmR 0 [(.len (n1 0), nI 2), (.len (n1 1), nI 3), (.call 58 [n1 0, .fn 96 [] []], nB 4)] 0) 20 (ws := []) (env := [(0, .agg [n1 0, n1 1])]) q1 .nil (sepOk_ro rfl) (.cons (⟨_, _, (dE q1), (dE q1), slLen hS⟩) (.cons (⟨_, _, (dE q1), (dE q1), slLen hSk⟩) (.cons (rule_call (args := [S, .func 96 [] []]) (dL q1) (dE q1) (fun H9 hk => k_ContainsP H9 ms hr S (hS.grew (Grew.trans (Grew.refl _) (hk.grew (Nat.le_refl _)))) hmx)) .nil))) (eC q1 (.cons (t := 0) rfl .nil)) tb_ok ap_ok ?_
 refine all5 (by kernel_rfl) ?_ ?_ ?_ ?_ ?_
 ·
  intro vs ls H2 E2 st hE
  have f3 : 60 < (ms.length : Int) := dt st 0
  have f4 : ¬ ((ms.length : Int) < 1) := df st 1
  refine res_ex (by kernel_rfl) (end_flat st.inn hE (.inr rfl) (a := .bool false) (by kernel_rfl) (Grew.trans (Grew.refl _) (gk st)) rfl ⟨?_, rfl⟩)
  first | (rw [okG, decide_eq_false (by omega)]; rfl) | skip
  all_goals (rw [okG, decide_eq_true (by omega), Bool.true_and])
  all_goals (rcases hA : allB (fun i => finP (ms.getD i [])) ms.length with _ | _ <;> rcases hB : allB (fun i => okK ms.length (ks.getD i [])) ks.length with _ | _ <;> first | rfl)
 ·
  intro vs ls H5 E5 st hE
  have f6 : 120 < (ks.length : Int) := dt st 0
  have f7 : ¬ (60 < (ms.length : Int)) := df st 1
  have f8 : ¬ ((ms.length : Int) < 1) := df st 2
  refine res_ex (by kernel_rfl) (end_flat st.inn hE (.inr rfl) (a := .bool false) (by kernel_rfl) (Grew.trans (Grew.refl _) (gk st)) rfl ⟨?_, rfl⟩)
  first | (rw [okG, decide_eq_false (by omega)]; rfl) | skip
  all_goals (rw [okG, decide_eq_true (by omega), Bool.true_and])
  all_goals (rcases hA : allB (fun i => finP (ms.getD i [])) ms.length with _ | _ <;> rcases hB : allB (fun i => okK ms.length (ks.getD i [])) ks.length with _ | _ <;> first | rfl)
 ·
  intro vs ls H9 E9 st hE
  have f10 : (!allB (fun i => finP (ms.getD i [])) ms.length) = false := bf st 0
  have f11 : ¬ (120 < (ks.length : Int)) := df st 1
  have f12 : ¬ (60 < (ms.length : Int)) := df st 2
  have f13 : ¬ ((ms.length : Int) < 1) := df st 3
  obtain ⟨p14, e15, r16, n17⟩ := ptr_of st.inn hE 1 0 (by kernel_rfl) (ds := [S, Sk]) (by kernel_rfl)
  have op14 : H.next ≤ p14 := Nat.le_trans (Nat.le_refl _) (n17 (Nat.le_of_ble_eq_true rfl))
  have b18 := eo st hE 20 Sk
  have b19 : E9 21 = .func 98 [] [.ptr p14 0] := fn_of1 (j := 0) st.inn hE 21 (by kernel_rfl) 1 (by kernel_rfl) e15
  obtain ⟨w20, hw20⟩ : ∃ z, z = (!(!allB (fun i => finP (ms.getD i [])) ms.length)) := ⟨_, rfl⟩
  have b21 : E9 18 = .bool w20 := by rw [hw20]; exact eo st hE 18 _
  have g22 : Grew H H9 := (gk st)
  have g23 : Grew H H9 := Grew.trans (Grew.refl _) g22
  clear st hE vs ls
  have gd24 : E9 18 = .bool true := by rw [b21]; rw [hw20]; simp only [f10, f11, f12, f13, Bool.not_true, Bool.not_false]
  refine res_callg (d := (some 22)) (f := 97) (args := [.tmp 20, .tmp 21]) (g := 18) (b := true) (r := .bool (!allB (fun i => okK ms.length (ks.getD i [])) ks.length)) (by kernel_rfl) gd24 ?_ ?_
  ·
   show ACalls _ _ [E9 20, E9 21] _ _
   rw [b18, b19]
   exact k_ContainsL H9 ms S (hS.grew g23) hmx ks hrk Sk (hSk.grew g23) hmxk p14 r16
  have q25 := q1.app (.cons ⟨_, rfl⟩ (.cons ⟨_, rfl⟩ .nil) : KdsL [.bool, .bool] [.bool w20, .bool (!allB (fun i => okK ms.length (ks.getD i [])) ks.length)])
  refine run_mc (φ := φ0) (pm := pmR 1 [] 0) 20 (ws := [⟨p14, 0, [n1 0, n1 1], false⟩]) (env := [(20, n1 1), (21, .fn 98 [] [.ptr 0 0]), (18, .lit (.bool true)), (1, .ptr 0 0), (22, nB 6)]) q25 (.cons (wR r16 q25) .nil) (sepOk_ro rfl) .nil (eC q25 (.cons (put_ne rfl b18) (.cons (put_ne rfl b19) (.cons (put_ne rfl gd24) (.cons (put_ne rfl e15) (.cons put_same .nil)))))) tb_ok ap_ok ?_
  refine all1 (by kernel_rfl) ?_
  intro vs ls H26 E26 st hE
  refine res_ex (by kernel_rfl) (end_flat st.inn hE (.inr rfl) (a := .bool (!(!allB (fun i => okK ms.length (ks.getD i [])) ks.length))) (by kernel_rfl) (Grew.trans g23 (gk st)) rfl ⟨?_, rfl⟩)
  skip
  all_goals (rw [okG, decide_eq_true (by omega), Bool.true_and])
  all_goals (rcases hA : allB (fun i => finP (ms.getD i [])) ms.length with _ | _ <;> rcases hB : allB (fun i => okK ms.length (ks.getD i [])) ks.length with _ | _ <;> first | rfl | (rw [hA] at f10; cases f10) | (rw [hB] at f10; cases f10))
 ·
  intro vs ls H27 E27 st hE
  have f28 : (!allB (fun i => finP (ms.getD i [])) ms.length) = true := bf st 0
  have f29 : ¬ (120 < (ks.length : Int)) := df st 1
  have f30 : ¬ (60 < (ms.length : Int)) := df st 2
  have f31 : ¬ ((ms.length : Int) < 1) := df st 3
  refine res_ex (by kernel_rfl) (end_flat st.inn hE (.inr rfl) (a := .bool false) (by kernel_rfl) (Grew.trans (Grew.refl _) (gk st)) rfl ⟨?_, rfl⟩)
  first | (rw [okG, decide_eq_false (by omega)]; rfl) | skip
  all_goals (rw [okG, decide_eq_true (by omega), Bool.true_and])
  all_goals (rcases hA : allB (fun i => finP (ms.getD i [])) ms.length with _ | _ <;> rcases hB : allB (fun i => okK ms.length (ks.getD i [])) ks.length with _ | _ <;> first | rfl | (rw [hA] at f28; cases f28) | (rw [hB] at f28; cases f28))
 ·
  intro vs ls H32 E32 st hE
  have f33 : (ms.length : Int) < 1 := dt st 0
  refine res_ex (by kernel_rfl) (end_flat st.inn hE (.inr rfl) (a := .bool false) (by kernel_rfl) (Grew.trans (Grew.refl _) (gk st)) rfl ⟨?_, rfl⟩)
  first | (rw [okG, decide_eq_false (by omega)]; rfl) | skip
  all_goals (rw [okG, decide_eq_true (by omega), Bool.true_and])
  all_goals (rcases hA : allB (fun i => finP (ms.getD i [])) ms.length with _ | _ <;> rcases hB : allB (fun i => okK ms.length (ks.getD i [])) ks.length with _ | _ <;> first | rfl)
end Go.Proofs.Ytcmoeocemmeofaa
