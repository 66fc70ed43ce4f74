/- Contracts: grids that are empty; comparisons and marks of grids. -/
import Derived.Test.YtnleibiniajbnaaHeldB
set_option linter.unusedVariables false
set_option linter.unusedSimpArgs false
namespace Go.Proofs.Ytnleibiniajbnaa
open Go.Ab
set_option maxRecDepth 100000
set_option maxHeartbeats 1000000
attribute [local irreducible] Res
open Classical in
noncomputable def emptyG (w h : Int) : Int × Int × List (List AV) × Int :=
  if 1 ≤ w ∧ w ≤ 24 ∧ 1 ≤ h ∧ h ≤ 24 then (w, h, List.replicate (w * h).toNat [.int .u8 0], 0) else (0, 0, [], 2)
theorem k_eqByteS (H : AHeap) (ms : List (List AV)) (hr : Recs KB ms) (S S' : AV) (hS : SlL H 1 ms S) (hS' : SlL H 1 ms S') (hmx : ms.length < 2 ^ 40) : APure Try.prog 36 [S, S'] H (.bool true) := by
  refine res_start h_laws_eqByteS (by simp) ?_
  refine run_mn (φ := φ0) (pm := pmR 0 [(.len (.nd 0 .one), .nd 2 (.int .i64)), (.len (.nd 1 .one), .nd 3 (.int .i64))] 0) 20 (nk := [(.atom 0, .one), (.atom 1, .one), (.atom 2, .int .i64), (.atom 3, .int .i64)]) (fs := []) (xs := [S, S', .int .i64 (ms.length : Int), .int .i64 (ms.length : Int)]) (ws := []) (env := [(0, .nd 0 .one), (1, .nd 1 .one)]) ?_ ?_ tb_ok ap_ok ?_
  · refine midN_in ?_ .nil _ ?_ ?_ ?_
    · exact (.cons rfl (slOne hS) (.cons rfl (slOne hS') (.cons rfl ⟨_, rfl⟩ (.cons rfl ⟨_, rfl⟩ .nil))))
    · exact .nil
    · exact sepOk_ro rfl
    · exact (.cons (⟨_, _, (dNd rfl (slOne hS)), (dNd rfl ⟨_, rfl⟩), slLen hS⟩) (.cons (⟨_, _, (dNd rfl (slOne hS')), (dNd rfl ⟨_, rfl⟩), slLen hS'⟩) .nil))
  · exact (envEq rfl (dNd rfl (slOne hS)) (envEq rfl (dNd rfl (slOne hS')) envNil))
  refine all2 (by kernel_rfl) ?_ ?_
  ·
    intro vs ls H1 E1 st hE
    have f2 : ¬ ((ms.length : Int) = (ms.length : Int)) := of_decide_eq_false (bfact (x := decide ((ms.length : Int) = (ms.length : Int))) st.inn 0 (by kernel_rfl))
    exact absurd rfl f2
  ·
    intro vs ls H3 E3 st hE
    have f4 : (ms.length : Int) = (ms.length : Int) := of_decide_eq_true (bfact (x := decide ((ms.length : Int) = (ms.length : Int))) st.inn 0 (by kernel_rfl))
    have b5 : E3 5 = .int .i64 0 := env_of st.inn hE 5 (by kernel_rfl)
    have b6 : E3 0 = S := env_of st.inn hE 0 (by kernel_rfl)
    have b7 : E3 1 = S' := env_of st.inn hE 1 (by kernel_rfl)
    have g8 : Grew H H3 := (st.kept.grew (Nat.le_of_ble_eq_true (by kernel_rfl)))
    have g9 : Grew H H3 := Grew.trans (Grew.refl _) g8
    clear st hE vs ls
    refine res_scan (by kernel_rfl) [(0, S), (1, S')] 5 ms.length (fun i => True) (.cons b6 (.cons b7 .nil)) b5 (Grew.refl _) trivial ?_
    intro i10 hli10 hIi10 Ei10 Hi10 hsi10 hci10 hgi10
    have g11 : Grew H Hi10 := Grew.trans g9 hgi10
    refine run_mn (φ := φ0) (pm := pmR 0 [(.len (.nd 0 .one), .nd 5 (.int .i64))] 0) 20 (nk := [(.atom 0, .one), (.atom 1, .one), (.atom 2, .int .i64), (.atom 3, .int .i64), (.atom 4, .int .i64), (.atom 5, .int .i64)]) (fs := []) (xs := [S, S', .int .i64 (ms.length : Int), .int .i64 (ms.length : Int), .int .i64 (i10 : Int), .int .i64 (ms.length : Int)]) (ws := []) (env := [(0, .nd 0 .one), (1, .nd 1 .one), (5, .nd 4 (.int .i64))]) ?_ ?_ tb_ok ap_ok ?_
    · refine midN_in ?_ .nil _ ?_ ?_ ?_
      · exact (.cons rfl (slOne hS) (.cons rfl (slOne hS') (.cons rfl ⟨_, rfl⟩ (.cons rfl ⟨_, rfl⟩ (.cons rfl ⟨_, rfl⟩ (.cons rfl ⟨_, rfl⟩ .nil))))))
      · exact .nil
      · exact sepOk_ro rfl
      · exact (.cons (⟨_, _, (dNd rfl (slOne hS)), (dNd rfl ⟨_, rfl⟩), slLen hS⟩) .nil)
    · exact (envEq (hsi10.at 0 rfl) (dNd rfl (slOne hS)) (envEq (hsi10.at 1 rfl) (dNd rfl (slOne hS')) (envEq hci10 (dNd rfl ⟨_, rfl⟩) envNil)))
    refine all2 (by kernel_rfl) ?_ ?_
    ·
      intro vs ls H12 E12 st hE
      have f13 : (i10 : Int) < (ms.length : Int) := of_decide_eq_true (bfact (x := decide ((i10 : Int) < (ms.length : Int))) st.inn 0 (by kernel_rfl))
      have b14 : E12 17 = S := env_of st.inn hE 17 (by kernel_rfl)
      have b15 : E12 18 = .int .i64 (i10 : Int) := env_of st.inn hE 18 (by kernel_rfl)
      have b16 : E12 1 = S' := env_of st.inn hE 1 (by kernel_rfl)
      have b17 : E12 5 = .int .i64 (i10 : Int) := env_of st.inn hE 5 (by kernel_rfl)
      have b18 : E12 0 = S := env_of st.inn hE 0 (by kernel_rfl)
      have g19 : Grew Hi10 H12 := (st.kept.grew (Nat.le_of_ble_eq_true (by kernel_rfl)))
      have g20 : Grew H H12 := Grew.trans g11 g19
      have g21 : Grew H3 H12 := Grew.trans hgi10 g19
      clear st hE vs ls
      have hlt22 : i10 < ms.length := by omega
      obtain ⟨lS22, cap22, rest22, wr22, eS22, gB22⟩ := hS.isSl hlt22
      have gS22 := g20.at gB22
      obtain ⟨v22_0, hm22⟩ := partsByte (hr.get hlt22)
      have he22 : ms.getD i10 [] = [.int .u8 v22_0] := by rw [← hm22]; simp [List.getD_eq_getElem?_getD, hlt22]
      refine run_mn (φ := φ0) (pm := pmR 1 [(.ia 1 (.nd 0 .one) (.nd 4 (.int .i64)), .ptr 0 0)] 0) 20 (nk := [(.atom 0, .one), (.atom 1, .one), (.atom 2, .int .i64), (.atom 3, .int .i64), (.atom 4, .int .i64), (.atom 5, .int .i64), (.atom 6, .int .u8)]) (fs := []) (xs := [S, S', .int .i64 (ms.length : Int), .int .i64 (ms.length : Int), .int .i64 (i10 : Int), .int .i64 (ms.length : Int), .int .u8 v22_0]) (ws := [⟨lS22, (i10 * 1), [.nd 6 (.int .u8)], false⟩]) (env := [(17, .nd 0 .one), (18, .nd 4 (.int .i64)), (1, .nd 1 .one), (5, .nd 4 (.int .i64)), (0, .nd 0 .one)]) ?_ ?_ tb_ok ap_ok ?_
      · refine midN_in ?_ .nil _ ?_ ?_ ?_
        · exact (.cons rfl (slOne hS) (.cons rfl (slOne hS') (.cons rfl ⟨_, rfl⟩ (.cons rfl ⟨_, rfl⟩ (.cons rfl ⟨_, rfl⟩ (.cons rfl ⟨_, rfl⟩ (.cons rfl ⟨_, rfl⟩ .nil)))))))
        · exact (.cons (win_elem hr gS22 hlt22 rfl (by rw [hm22]; exact (dlCons (dNd rfl ⟨_, rfl⟩) dlNil))) .nil)
        · exact sepOk_ro rfl
        · exact (.cons (rule_iaS (k := i10) (dNd rfl (slOne hS)) eS22 (dNd rfl ⟨_, rfl⟩) hlt22 rfl) .nil)
      · exact (envEq b14 (dNd rfl (slOne hS)) (envEq b15 (dNd rfl ⟨_, rfl⟩) (envEq b16 (dNd rfl (slOne hS')) (envEq b17 (dNd rfl ⟨_, rfl⟩) (envEq b18 (dNd rfl (slOne hS)) envNil)))))
      refine all1 (by kernel_rfl) ?_
      intro vs ls H23 E23 st hE
      have b24 : E23 21 = S' := env_of st.inn hE 21 (by kernel_rfl)
      have b25 : E23 22 = .int .i64 (i10 : Int) := env_of st.inn hE 22 (by kernel_rfl)
      have b26 : E23 20 = .int .u8 v22_0 := env_of st.inn hE 20 (by kernel_rfl)
      have b27 : E23 5 = .int .i64 (i10 : Int) := env_of st.inn hE 5 (by kernel_rfl)
      have b28 : E23 0 = S := env_of st.inn hE 0 (by kernel_rfl)
      have b29 : E23 1 = S' := env_of st.inn hE 1 (by kernel_rfl)
      have g30 : Grew H12 H23 := (st.kept.grew (Nat.le_of_ble_eq_true (by kernel_rfl)))
      have g31 : Grew H H23 := Grew.trans g20 g30
      have g32 : Grew H3 H23 := Grew.trans g21 g30
      clear st hE vs ls
      have hlt34 : i10 < ms.length := by omega
      obtain ⟨lS34, cap34, rest34, wr34, eS34, gB34⟩ := hS'.isSl hlt34
      have gS34 := g31.at gB34
      obtain ⟨v34_0, hm34⟩ := partsByte (hr.get hlt34)
      have he34 : ms.getD i10 [] = [.int .u8 v34_0] := by rw [← hm34]; simp [List.getD_eq_getElem?_getD, hlt34]
      refine run_mn (φ := φ0) (pm := pmR 1 [(.ia 1 (.nd 1 .one) (.nd 4 (.int .i64)), .ptr 0 0)] 0) 20 (nk := [(.atom 0, .one), (.atom 1, .one), (.atom 2, .int .i64), (.atom 3, .int .i64), (.atom 4, .int .i64), (.atom 5, .int .i64), (.atom 6, .int .u8), (.atom 7, .int .u8)]) (fs := []) (xs := [S, S', .int .i64 (ms.length : Int), .int .i64 (ms.length : Int), .int .i64 (i10 : Int), .int .i64 (ms.length : Int), .int .u8 v22_0, .int .u8 v34_0]) (ws := [⟨lS34, (i10 * 1), [.nd 7 (.int .u8)], false⟩]) (env := [(21, .nd 1 .one), (22, .nd 4 (.int .i64)), (20, .nd 6 (.int .u8)), (5, .nd 4 (.int .i64)), (0, .nd 0 .one), (1, .nd 1 .one)]) ?_ ?_ tb_ok ap_ok ?_
      · refine midN_in ?_ .nil _ ?_ ?_ ?_
        · exact (.cons rfl (slOne hS) (.cons rfl (slOne hS') (.cons rfl ⟨_, rfl⟩ (.cons rfl ⟨_, rfl⟩ (.cons rfl ⟨_, rfl⟩ (.cons rfl ⟨_, rfl⟩ (.cons rfl ⟨_, rfl⟩ (.cons rfl ⟨_, rfl⟩ .nil))))))))
        · exact (.cons (win_elem hr gS34 hlt34 rfl (by rw [hm34]; exact (dlCons (dNd rfl ⟨_, rfl⟩) dlNil))) .nil)
        · exact sepOk_ro rfl
        · exact (.cons (rule_iaS (k := i10) (dNd rfl (slOne hS')) eS34 (dNd rfl ⟨_, rfl⟩) hlt34 rfl) .nil)
      · exact (envEq b24 (dNd rfl (slOne hS')) (envEq b25 (dNd rfl ⟨_, rfl⟩) (envEq b26 (dNd rfl ⟨_, rfl⟩) (envEq b27 (dNd rfl ⟨_, rfl⟩) (envEq b28 (dNd rfl (slOne hS)) (envEq b29 (dNd rfl (slOne hS')) envNil))))))
      refine all2 (by kernel_rfl) ?_ ?_
      ·
        intro vs ls H35 E35 st hE
        have f36 : ¬ (v22_0 = v34_0) := of_decide_eq_false (bfact (x := decide (v22_0 = v34_0)) st.inn 0 (by kernel_rfl))
        exact absurd (show v22_0 = v34_0 by have := he22.symm.trans he34; simpa using this) f36
      ·
        intro vs ls H37 E37 st hE
        have f38 : v22_0 = v34_0 := of_decide_eq_true (bfact (x := decide (v22_0 = v34_0)) st.inn 0 (by kernel_rfl))
        have hlti10 : i10 < ms.length := by omega
        refine res_next (sl := [(0, S), (1, S')]) (ti := 5) (i := i10) (Inv := fun i => True) (by kernel_rfl) st.inn hE hlti10 (by kernel_rfl) (w := (IntKind.wrap .i64 ((i10 : Int) + 1))) (by kernel_rfl) (wrap64 (by omega)) (Grew.trans g32 (st.kept.grew (Nat.le_of_ble_eq_true (by kernel_rfl)))) ?_
        trivial
    ·
      intro vs ls H39 E39 st hE
      have f40 : ¬ ((i10 : Int) < (ms.length : Int)) := of_decide_eq_false (bfact (x := decide ((i10 : Int) < (ms.length : Int))) st.inn 0 (by kernel_rfl))
      have b41 : E39 5 = .int .i64 (i10 : Int) := env_of st.inn hE 5 (by kernel_rfl)
      have b42 : E39 0 = S := env_of st.inn hE 0 (by kernel_rfl)
      have b43 : E39 12 = S := env_of st.inn hE 12 (by kernel_rfl)
      have b44 : E39 11 = .int .i64 (i10 : Int) := env_of st.inn hE 11 (by kernel_rfl)
      have b45 : E39 13 = .int .i64 (ms.length : Int) := env_of st.inn hE 13 (by kernel_rfl)
      obtain ⟨w46, hw46⟩ : ∃ z, z = (decide ((i10 : Int) < (ms.length : Int))) := ⟨_, rfl⟩
      have b47 : E39 14 = .bool w46 := by rw [hw46]; exact env_of st.inn hE 14 (by kernel_rfl)
      have b48 : E39 1 = S' := env_of st.inn hE 1 (by kernel_rfl)
      have g49 : Grew Hi10 H39 := (st.kept.grew (Nat.le_of_ble_eq_true (by kernel_rfl)))
      have g50 : Grew H H39 := Grew.trans g11 g49
      have g51 : Grew H3 H39 := Grew.trans hgi10 g49
      clear st hE vs ls
      refine res_exit (id := 0) (by kernel_rfl) ?_
      refine run_mn (φ := φ0) (pm := pmR 0 [] 0) 20 (nk := [(.atom 0, .one), (.atom 1, .one), (.atom 2, .int .i64), (.atom 3, .int .i64), (.atom 4, .int .i64), (.atom 5, .int .i64), (.atom 6, .bool)]) (fs := []) (xs := [S, S', .int .i64 (ms.length : Int), .int .i64 (ms.length : Int), .int .i64 (i10 : Int), .int .i64 (ms.length : Int), .bool w46]) (ws := []) (env := [(5, .nd 4 (.int .i64)), (0, .nd 0 .one), (12, .nd 0 .one), (11, .nd 4 (.int .i64)), (13, .nd 5 (.int .i64)), (14, .nd 6 .bool), (1, .nd 1 .one)]) ?_ ?_ tb_ok ap_ok ?_
      · refine midN_in ?_ .nil _ ?_ ?_ ?_
        · exact (.cons rfl (slOne hS) (.cons rfl (slOne hS') (.cons rfl ⟨_, rfl⟩ (.cons rfl ⟨_, rfl⟩ (.cons rfl ⟨_, rfl⟩ (.cons rfl ⟨_, rfl⟩ (.cons rfl ⟨_, rfl⟩ .nil)))))))
        · exact .nil
        · exact sepOk_ro rfl
        · exact .nil
      · exact (envEq b41 (dNd rfl ⟨_, rfl⟩) (envEq b42 (dNd rfl (slOne hS)) (envEq b43 (dNd rfl (slOne hS)) (envEq b44 (dNd rfl ⟨_, rfl⟩) (envEq b45 (dNd rfl ⟨_, rfl⟩) (envEq b47 (dNd rfl ⟨_, rfl⟩) (envEq b48 (dNd rfl (slOne hS')) envNil)))))))
      refine all1 (by kernel_rfl) ?_
      intro vs ls H52 E52 st hE
      refine res_ex (by kernel_rfl) (end_flat st.inn hE (.inr rfl) (a := .bool true) (by kernel_rfl) (Grew.trans g50 (st.kept.grew (Nat.le_of_ble_eq_true (by kernel_rfl)))) rfl ⟨?_, rfl⟩)
      rfl
theorem k_eqGrid (H : AHeap) (x y : Int) (ms : List (List AV)) (hr : Recs KB ms) (S S' : AV) (hS : SlL H 1 ms S) (hS' : SlL H 1 ms S') (hmx : ms.length < 2 ^ 40) : APure Try.prog 17 [.agg [.int .i64 x, .int .i64 y, S], .agg [.int .i64 x, .int .i64 y, S']] H (.bool true) := by
  refine res_start h_laws_eqGrid (by simp) ?_
  refine run_mn (φ := φ0) (pm := pmR 0 [(.call 36 [.nd 0 .one, .nd 1 .one], .lit (.bool true))] 0) 20 (nk := [(.atom 0, .one), (.atom 1, .one), (.atom 2, .int .i64), (.atom 3, .int .i64)]) (fs := []) (xs := [S, S', .int .i64 x, .int .i64 y]) (ws := []) (env := [(0, .agg [.nd 2 (.int .i64), .nd 3 (.int .i64), .nd 0 .one]), (1, .agg [.nd 2 (.int .i64), .nd 3 (.int .i64), .nd 1 .one])]) ?_ ?_ tb_ok ap_ok ?_
  · refine midN_in ?_ .nil _ ?_ ?_ ?_
    · exact (.cons rfl (slOne hS) (.cons rfl (slOne hS') (.cons rfl ⟨_, rfl⟩ (.cons rfl ⟨_, rfl⟩ .nil))))
    · exact .nil
    · exact sepOk_ro rfl
    · exact (.cons (rule_call (args := [S, S']) (dlCons (dNd rfl (slOne hS)) (dlCons (dNd rfl (slOne hS')) dlNil)) (dLit rfl) (fun H9 hk => k_eqByteS H9 ms hr S S' (hS.grew (Grew.trans (Grew.refl _) (hk.grew (Nat.le_refl _)))) (hS'.grew (Grew.trans (Grew.refl _) (hk.grew (Nat.le_refl _)))) hmx)) .nil)
  · exact (envEq rfl (dAgg (dlCons (dNd rfl ⟨_, rfl⟩) (dlCons (dNd rfl ⟨_, rfl⟩) (dlCons (dNd rfl (slOne hS)) dlNil)))) (envEq rfl (dAgg (dlCons (dNd rfl ⟨_, rfl⟩) (dlCons (dNd rfl ⟨_, rfl⟩) (dlCons (dNd rfl (slOne hS')) dlNil)))) envNil))
  refine all1 (by kernel_rfl) ?_
  intro vs ls H1 E1 st hE
  refine res_ex (by kernel_rfl) (end_flat st.inn hE (.inr rfl) (a := .bool true) (by kernel_rfl) (Grew.trans (Grew.refl _) (st.kept.grew (Nat.le_of_ble_eq_true (by kernel_rfl)))) rfl ⟨?_, rfl⟩)
  rfl
theorem w_markByteS (H : AHeap) (ms : List (List AV)) (hr : Recs KB ms) (S : AV) (hS : SlW H 1 ms S) (k : Int) (h0 : 0 ≤ k) (h1 : k ≤ 1152921504606846976) (hmax : ms.length ≤ 1048576) : ACalls Try.prog 37 [S, .int .i64 k] H fun r H' => r = .int .i64 (k + 1 * (ms.length : Int)) ∧ OnlyS S H H' ∧ SlW H' 1 (mksByte k ms.length) S := by
  cases hS with
  | @sl l n cap rest hg hn hc =>
    subst hn
    refine (k_markByteS H ms hr l cap rest hg k h0 h1 hmax).mono ?_
    rintro r H' ⟨rfl, ho, row⟩
    exact ⟨rfl, .of_only ho, .sl row (mksByte_len _ _) hc⟩
  | nil h =>
    subst h
    refine res_start h_laws_markByteS (by simp) ?_
    refine run_mn (φ := φ0) (pm := pmR 0 [] 2) 20 (nk := [(.atom 0, .int .i64)]) (fs := []) (xs := [.int .i64 k]) (ws := []) (env := [(0, .lit .nilslice), (1, .nd 0 (.int .i64))]) ?_ ?_ tb_ok ap_ok ?_
    · refine midN_in ?_ .nil _ ?_ ?_ ?_
      · exact (.cons rfl ⟨_, rfl⟩ .nil)
      · exact .nil
      · exact sepOk_ro rfl
      · exact .nil
    · exact (envEq rfl (dLit rfl) (envEq rfl (dNd rfl ⟨_, rfl⟩) envNil))
    refine all1 (by kernel_rfl) ?_
    intro vs ls H9 E9 st hE
    have g9 : Grew H H9 := (st.kept.grew (Nat.le_of_ble_eq_true (by kernel_rfl)))
    exact res_ex (by kernel_rfl) (end_same st.inn hE (.inr rfl) (a := .int .i64 k) (by kernel_rfl) g9.next ⟨by simp, .of_grew g9, .nil rfl⟩)
theorem w_markGrid (H : AHeap) (x y : Int) (ms : List (List AV)) (hr : Recs KB ms) (S : AV) (hS : SlW H 1 ms S) (k : Int) (h0 : 0 ≤ k) (h1 : k ≤ 1152921504606846976) (hmax : ms.length ≤ 1048576) : ACalls Try.prog 20 [.agg [.int .i64 x, .int .i64 y, S], .int .i64 k] H fun r H' => r = .int .i64 (k + 1 * (ms.length : Int)) ∧ OnlyS S H H' ∧ SlW H' 1 (mksByte k ms.length) S := by
  refine res_start h_laws_markGrid (by simp) ?_
  refine run_mn (φ := φ0) (pm := pmR 0 [] 0) 20 (nk := [(.atom 0, .one), (.atom 1, .int .i64), (.atom 2, .int .i64), (.atom 3, .int .i64)]) (fs := []) (xs := [S, .int .i64 x, .int .i64 y, .int .i64 k]) (ws := []) (env := [(0, .agg [.nd 1 (.int .i64), .nd 2 (.int .i64), .nd 0 .one]), (1, .nd 3 (.int .i64))]) ?_ ?_ tb_ok ap_ok ?_
  · refine midN_in ?_ .nil _ ?_ ?_ ?_
    · exact (.cons rfl hS.one (.cons rfl ⟨_, rfl⟩ (.cons rfl ⟨_, rfl⟩ (.cons rfl ⟨_, rfl⟩ .nil))))
    · exact .nil
    · exact sepOk_ro rfl
    · exact .nil
  · exact (envEq rfl (dAgg (dlCons (dNd rfl ⟨_, rfl⟩) (dlCons (dNd rfl ⟨_, rfl⟩) (dlCons (dNd rfl hS.one) dlNil)))) (envEq rfl (dNd rfl ⟨_, rfl⟩) envNil))
  refine all1 (by kernel_rfl) ?_
  intro vs ls H1 E1 st hE
  have b2 : E1 6 = S := env_of st.inn hE 6 (by kernel_rfl)
  have b3 : E1 7 = .int .i64 k := env_of st.inn hE 7 (by kernel_rfl)
  have b4 : E1 1 = .int .i64 k := env_of st.inn hE 1 (by kernel_rfl)
  have g5 : Grew H H1 := (st.kept.grew (Nat.le_of_ble_eq_true (by kernel_rfl)))
  have g6 : Grew H H1 := Grew.trans (Grew.refl _) g5
  have s7 := hS.grew g5
  clear st hE vs ls
  refine res_call (d := (some 8)) (f := 37) (args := [.tmp 6, .tmp 7]) (by kernel_rfl) (R := fun z H' => z = .int .i64 (k + 1 * (ms.length : Int)) ∧ OnlyS S H1 H' ∧ SlW H' 1 (mksByte k ms.length) S) ?_ ?_
  · show ACalls _ _ [E1 6, E1 7] _ _
    rw [b2, b3]
    exact w_markByteS H1 ms hr S s7 k h0 h1 hmax
  rintro z H8 ⟨rfl, oo, nn⟩
  have oz : OnlyS S H H8 := OnlyS.grewL g6 oo
  refine run_mn (φ := φ0) (pm := pmR 0 [] 0) 20 (nk := [(.atom 0, .one), (.atom 1, .int .i64), (.atom 2, .int .i64), (.atom 3, .int .i64), (.atom 4, .int .i64)]) (fs := []) (xs := [S, .int .i64 x, .int .i64 y, .int .i64 k, .int .i64 (k + 1 * (ms.length : Int))]) (ws := []) (env := [(6, .nd 0 .one), (7, .nd 3 (.int .i64)), (1, .nd 3 (.int .i64)), (8, .nd 4 (.int .i64))]) ?_ ?_ tb_ok ap_ok ?_
  · refine midN_in ?_ .nil _ ?_ ?_ ?_
    · exact (.cons rfl hS.one (.cons rfl ⟨_, rfl⟩ (.cons rfl ⟨_, rfl⟩ (.cons rfl ⟨_, rfl⟩ (.cons rfl ⟨_, rfl⟩ .nil)))))
    · exact .nil
    · exact sepOk_ro rfl
    · exact .nil
  · exact (envEq (put_ne rfl b2) (dNd rfl hS.one) (envEq (put_ne rfl b3) (dNd rfl ⟨_, rfl⟩) (envEq (put_ne rfl b4) (dNd rfl ⟨_, rfl⟩) (envEq put_same (dNd rfl ⟨_, rfl⟩) envNil))))
  refine all1 (by kernel_rfl) ?_
  intro vs ls H9 E9 st hE
  have g9 : Grew H8 H9 := (st.kept.grew (Nat.le_of_ble_eq_true (by kernel_rfl)))
  exact res_ex (by kernel_rfl) (end_same st.inn hE (.inr rfl) (a := .int .i64 (k + 1 * (ms.length : Int))) (by kernel_rfl) (Nat.le_trans oz.next g9.next) ⟨rfl, oz.grewR g9, nn.grew g9⟩)
theorem w_heldGrid (H : AHeap) (x y : Int) (k : Int) (n : Nat) (S : AV) (hS : SlL H 1 (mksByte k n) S) (h0 : 0 ≤ k) (h1 : k ≤ 1152921504606846976) (hn : n ≤ 1048576) : APure Try.prog 21 [.agg [.int .i64 x, .int .i64 y, S], .int .i64 k] H (.int .i64 (k + 1 * (n : Int))) := by
  refine res_start h_laws_heldGrid (by simp) ?_
  refine run_mn (φ := φ0) (pm := pmR 0 [(.call 71 [.nd 0 .one, .nd 3 (.int .i64)], .nd 4 (.int .i64))] 0) 20 (nk := [(.atom 0, .one), (.atom 1, .int .i64), (.atom 2, .int .i64), (.atom 3, .int .i64), (.atom 4, .int .i64)]) (fs := []) (xs := [S, .int .i64 x, .int .i64 y, .int .i64 k, .int .i64 (k + 1 * (n : Int))]) (ws := []) (env := [(0, .agg [.nd 1 (.int .i64), .nd 2 (.int .i64), .nd 0 .one]), (1, .nd 3 (.int .i64))]) ?_ ?_ tb_ok ap_ok ?_
  · refine midN_in ?_ .nil _ ?_ ?_ ?_
    · exact (.cons rfl (slOne hS) (.cons rfl ⟨_, rfl⟩ (.cons rfl ⟨_, rfl⟩ (.cons rfl ⟨_, rfl⟩ (.cons rfl ⟨_, rfl⟩ .nil)))))
    · exact .nil
    · exact sepOk_ro rfl
    · exact (.cons (rule_call (args := [S, .int .i64 k]) (dlCons (dNd rfl (slOne hS)) (dlCons (dNd rfl ⟨_, rfl⟩) dlNil)) (dNd rfl ⟨_, rfl⟩) (fun H9 hk => k_heldByteS H9 k n S (hS.grew (Grew.trans (Grew.refl _) (hk.grew (Nat.le_refl _)))) h0 h1 hn)) .nil)
  · exact (envEq rfl (dAgg (dlCons (dNd rfl ⟨_, rfl⟩) (dlCons (dNd rfl ⟨_, rfl⟩) (dlCons (dNd rfl (slOne hS)) dlNil)))) (envEq rfl (dNd rfl ⟨_, rfl⟩) envNil))
  refine all2 (by kernel_rfl) ?_ ?_
  ·
    intro vs ls H1 E1 st hE
    have f2 : (k + 1 * (n : Int)) < 0 := of_decide_eq_true (bfact (x := decide ((k + 1 * (n : Int)) < 0)) st.inn 0 (by kernel_rfl))
    exact absurd f2 (by omega)
  ·
    intro vs ls H3 E3 st hE
    have f4 : ¬ ((k + 1 * (n : Int)) < 0) := of_decide_eq_false (bfact (x := decide ((k + 1 * (n : Int)) < 0)) st.inn 0 (by kernel_rfl))
    refine res_ex (by kernel_rfl) (end_flat st.inn hE (.inr rfl) (a := .int .i64 (k + 1 * (n : Int))) (by kernel_rfl) (Grew.trans (Grew.refl _) (st.kept.grew (Nat.le_of_ble_eq_true (by kernel_rfl)))) rfl ⟨?_, rfl⟩)
    rfl
theorem k_impl_EmptyGrid (H : AHeap) (w h : Int) : ACalls Try.prog 19 [.int .i64 w, .int .i64 h] H fun r H' => Grew H H' ∧ ∃ S', r = .tuple [.agg [.int .i64 (emptyG w h).1, .int .i64 (emptyG w h).2.1, S'], .int .i64 (emptyG w h).2.2.2] ∧ SlW H' 1 (emptyG w h).2.2.1 S' ∧ FreshS H.next S' := by
  refine res_start h_impl_EmptyGrid (by simp) ?_
  refine run_mn (φ := φ0) (pm := pmR 0 [] 0) 20 (nk := [(.atom 0, .int .i64), (.atom 1, .int .i64)]) (fs := []) (xs := [.int .i64 w, .int .i64 h]) (ws := []) (env := [(0, .nd 0 (.int .i64)), (1, .nd 1 (.int .i64))]) ?_ ?_ tb_ok ap_ok ?_
  · refine midN_in ?_ .nil _ ?_ ?_ ?_
    · exact (.cons rfl ⟨_, rfl⟩ (.cons rfl ⟨_, rfl⟩ .nil))
    · exact .nil
    · exact sepOk_ro rfl
    · exact .nil
  · exact (envEq rfl (dNd rfl ⟨_, rfl⟩) (envEq rfl (dNd rfl ⟨_, rfl⟩) envNil))
  refine all5 (by kernel_rfl) ?_ ?_ ?_ ?_ ?_
  ·
    intro vs ls H1 E1 st hE
    have f2 : 24 < w := of_decide_eq_true (bfact (x := decide (24 < w)) st.inn 0 (by kernel_rfl))
    have f3 : ¬ (w < 1) := of_decide_eq_false (bfact (x := decide (w < 1)) st.inn 1 (by kernel_rfl))
    have gz : Grew H H1 := (Grew.trans (Grew.refl _) (st.kept.grew (Nat.le_of_ble_eq_true (by kernel_rfl))))
    have hc : emptyG w h = (0, 0, [], 2) := by unfold emptyG; rw [if_neg (by omega)]
    exact res_ex (by kernel_rfl) (end_same st.inn hE (.inr rfl) (a := .tuple [.agg [.int .i64 0, .int .i64 0, .nilslice], .int .i64 2]) (by kernel_rfl) gz.next (by rw [hc]; exact ⟨gz, _, rfl, (.nil rfl), FreshS.nil⟩))
  ·
    intro vs ls H4 E4 st hE
    have f5 : 24 < h := of_decide_eq_true (bfact (x := decide (24 < h)) st.inn 0 (by kernel_rfl))
    have f6 : ¬ (h < 1) := of_decide_eq_false (bfact (x := decide (h < 1)) st.inn 1 (by kernel_rfl))
    have f7 : ¬ (24 < w) := of_decide_eq_false (bfact (x := decide (24 < w)) st.inn 2 (by kernel_rfl))
    have f8 : ¬ (w < 1) := of_decide_eq_false (bfact (x := decide (w < 1)) st.inn 3 (by kernel_rfl))
    have gz : Grew H H4 := (Grew.trans (Grew.refl _) (st.kept.grew (Nat.le_of_ble_eq_true (by kernel_rfl))))
    have hc : emptyG w h = (0, 0, [], 2) := by unfold emptyG; rw [if_neg (by omega)]
    exact res_ex (by kernel_rfl) (end_same st.inn hE (.inr rfl) (a := .tuple [.agg [.int .i64 0, .int .i64 0, .nilslice], .int .i64 2]) (by kernel_rfl) gz.next (by rw [hc]; exact ⟨gz, _, rfl, (.nil rfl), FreshS.nil⟩))
  ·
    intro vs ls H9 E9 st hE
    have f10 : ¬ (24 < h) := of_decide_eq_false (bfact (x := decide (24 < h)) st.inn 0 (by kernel_rfl))
    have f11 : ¬ (h < 1) := of_decide_eq_false (bfact (x := decide (h < 1)) st.inn 1 (by kernel_rfl))
    have f12 : ¬ (24 < w) := of_decide_eq_false (bfact (x := decide (24 < w)) st.inn 2 (by kernel_rfl))
    have f13 : ¬ (w < 1) := of_decide_eq_false (bfact (x := decide (w < 1)) st.inn 3 (by kernel_rfl))
    obtain ⟨p14, e15, r16, n17⟩ := ptr_of st.inn hE 4 0 (by kernel_rfl) (ds := [.int .i64 0, .int .i64 0, .nilslice]) (by kernel_rfl)
    have op14 : H.next ≤ p14 := Nat.le_trans (Nat.le_refl _) (n17 (Nat.le_of_ble_eq_true rfl))
    obtain ⟨w18, hw18⟩ : ∃ z, z = (IntKind.wrap .i64 (w * h)) := ⟨_, rfl⟩
    have b19 : E9 19 = .int .i64 w18 := by rw [hw18]; exact env_of st.inn hE 19 (by kernel_rfl)
    have b20 : E9 15 = .int .i64 w := env_of st.inn hE 15 (by kernel_rfl)
    have b21 : E9 16 = .int .i64 h := env_of st.inn hE 16 (by kernel_rfl)
    have g22 : Grew H H9 := (st.kept.grew (Nat.le_of_ble_eq_true (by kernel_rfl)))
    have g23 : Grew H H9 := Grew.trans (Grew.refl _) g22
    clear st hE vs ls
    have hb1 : 0 ≤ w * h := Int.mul_nonneg (by omega) (by omega)
    have hb2 : w * h ≤ 24 * 24 := Int.mul_le_mul (by omega) (by omega) (by omega) (by omega)
    have hz : w18 = ((w * h).toNat : Int) := by rw [hw18, wrap_i64 (by omega) (by omega)]; omega
    have e26 : E9 19 = .int .i64 (((w * h).toNat : Nat) : Int) := by rw [b19, hz]
    refine res_mkF (d := some 20) (sz := 1) (bytes := 1) (zs := [.int .u8 0]) (x := .tmp 19) (y := .tmp 19) (by kernel_rfl) (n := (w * h).toNat) e26 e26 (by omega) (by omega) ?_
    intro S24 H25 sS24 fS24 gS24
    have ne27 : ApartL (S24) p14 := fS24.apartL (H9.lt_of_get r16)
    have fr28 : FreshS H.next (S24) := fS24.mono g23.next
    have g29 : Grew H H25 := Grew.trans g23 gS24
    have r30 := gS24.at r16
    refine run_mn (φ := φ0) (pm := pmR 0 [] 0) 20 (nk := [(.atom 0, .int .i64), (.atom 1, .int .i64), (.atom 2, .int .i64), (.atom 3, .one)]) (fs := []) (xs := [.int .i64 w, .int .i64 h, .int .i64 w18, S24]) (ws := [⟨p14, 0, [.lit (.int .i64 0), .lit (.int .i64 0), .lit .nilslice], true⟩]) (env := [(19, .nd 2 (.int .i64)), (15, .nd 0 (.int .i64)), (16, .nd 1 (.int .i64)), (4, .ptr 0 0), (20, .nd 3 .one)]) ?_ ?_ tb_ok ap_ok ?_
    · refine midN_in ?_ .nil _ ?_ ?_ ?_
      · exact (.cons rfl ⟨_, rfl⟩ (.cons rfl ⟨_, rfl⟩ (.cons rfl ⟨_, rfl⟩ (.cons rfl sS24.one .nil))))
      · exact (.cons (win_own r30 (dlCons (dLit rfl) (dlCons (dLit rfl) (dlCons (dLit rfl) dlNil)))) .nil)
      · exact ⟨(fun v hv => (by cases hv)), trivial⟩
      · exact .nil
    · exact (envEq (put_ne rfl b19) (dNd rfl ⟨_, rfl⟩) (envEq (put_ne rfl b20) (dNd rfl ⟨_, rfl⟩) (envEq (put_ne rfl b21) (dNd rfl ⟨_, rfl⟩) (envEq (put_ne rfl e15) (dPtr (l := p14) (o := 0) rfl) (envEq put_same (dNd rfl sS24.one) envNil)))))
    refine all1 (by kernel_rfl) ?_
    intro vs ls H31 E31 st hE
    have gz : Grew H H31 := (grew_own g29 (st.inn.kept) ⟨op14, trivial⟩)
    have hc : emptyG w h = (w, h, List.replicate (w * h).toNat [.int .u8 0], 0) := by unfold emptyG; rw [if_pos (by omega)]
    exact res_ex (by kernel_rfl) (end_same st.inn hE (.inr rfl) (a := .tuple [.agg [.int .i64 w, .int .i64 h, S24], .int .i64 0]) (by kernel_rfl) gz.next (by rw [hc]; exact ⟨gz, _, rfl, ((sS24.keep st.inn.kept ⟨by assumption, trivial⟩)).toW, fr28⟩))
  ·
    intro vs ls H32 E32 st hE
    have f33 : h < 1 := of_decide_eq_true (bfact (x := decide (h < 1)) st.inn 0 (by kernel_rfl))
    have f34 : ¬ (24 < w) := of_decide_eq_false (bfact (x := decide (24 < w)) st.inn 1 (by kernel_rfl))
    have f35 : ¬ (w < 1) := of_decide_eq_false (bfact (x := decide (w < 1)) st.inn 2 (by kernel_rfl))
    have gz : Grew H H32 := (Grew.trans (Grew.refl _) (st.kept.grew (Nat.le_of_ble_eq_true (by kernel_rfl))))
    have hc : emptyG w h = (0, 0, [], 2) := by unfold emptyG; rw [if_neg (by omega)]
    exact res_ex (by kernel_rfl) (end_same st.inn hE (.inr rfl) (a := .tuple [.agg [.int .i64 0, .int .i64 0, .nilslice], .int .i64 2]) (by kernel_rfl) gz.next (by rw [hc]; exact ⟨gz, _, rfl, (.nil rfl), FreshS.nil⟩))
  ·
    intro vs ls H36 E36 st hE
    have f37 : w < 1 := of_decide_eq_true (bfact (x := decide (w < 1)) st.inn 0 (by kernel_rfl))
    have gz : Grew H H36 := (Grew.trans (Grew.refl _) (st.kept.grew (Nat.le_of_ble_eq_true (by kernel_rfl))))
    have hc : emptyG w h = (0, 0, [], 2) := by unfold emptyG; rw [if_neg (by omega)]
    exact res_ex (by kernel_rfl) (end_same st.inn hE (.inr rfl) (a := .tuple [.agg [.int .i64 0, .int .i64 0, .nilslice], .int .i64 2]) (by kernel_rfl) gz.next (by rw [hc]; exact ⟨gz, _, rfl, (.nil rfl), FreshS.nil⟩))
theorem k_spec_EmptyGrid (H : AHeap) (w h : Int) : ACalls Try.prog 18 [.int .i64 w, .int .i64 h] H fun r H' => Grew H H' ∧ ∃ S', r = .tuple [.agg [.int .i64 (emptyG w h).1, .int .i64 (emptyG w h).2.1, S'], .int .i64 (emptyG w h).2.2.2] ∧ SlW H' 1 (emptyG w h).2.2.1 S' ∧ FreshS H.next S' := by
  refine res_start h_spec_EmptyGrid (by simp) ?_
  refine run_mn (φ := φ0) (pm := pmR 0 [] 0) 20 (nk := [(.atom 0, .int .i64), (.atom 1, .int .i64)]) (fs := []) (xs := [.int .i64 w, .int .i64 h]) (ws := []) (env := [(0, .nd 0 (.int .i64)), (1, .nd 1 (.int .i64))]) ?_ ?_ tb_ok ap_ok ?_
  · refine midN_in ?_ .nil _ ?_ ?_ ?_
    · exact (.cons rfl ⟨_, rfl⟩ (.cons rfl ⟨_, rfl⟩ .nil))
    · exact .nil
    · exact sepOk_ro rfl
    · exact .nil
  · exact (envEq rfl (dNd rfl ⟨_, rfl⟩) (envEq rfl (dNd rfl ⟨_, rfl⟩) envNil))
  refine all5 (by kernel_rfl) ?_ ?_ ?_ ?_ ?_
  ·
    intro vs ls H1 E1 st hE
    have f2 : 24 < w := of_decide_eq_true (bfact (x := decide (24 < w)) st.inn 0 (by kernel_rfl))
    have f3 : ¬ (w < 1) := of_decide_eq_false (bfact (x := decide (w < 1)) st.inn 1 (by kernel_rfl))
    have gz : Grew H H1 := (Grew.trans (Grew.refl _) (st.kept.grew (Nat.le_of_ble_eq_true (by kernel_rfl))))
    have hc : emptyG w h = (0, 0, [], 2) := by unfold emptyG; rw [if_neg (by omega)]
    exact res_ex (by kernel_rfl) (end_same st.inn hE (.inr rfl) (a := .tuple [.agg [.int .i64 0, .int .i64 0, .nilslice], .int .i64 2]) (by kernel_rfl) gz.next (by rw [hc]; exact ⟨gz, _, rfl, (.nil rfl), FreshS.nil⟩))
  ·
    intro vs ls H4 E4 st hE
    have f5 : 24 < h := of_decide_eq_true (bfact (x := decide (24 < h)) st.inn 0 (by kernel_rfl))
    have f6 : ¬ (h < 1) := of_decide_eq_false (bfact (x := decide (h < 1)) st.inn 1 (by kernel_rfl))
    have f7 : ¬ (24 < w) := of_decide_eq_false (bfact (x := decide (24 < w)) st.inn 2 (by kernel_rfl))
    have f8 : ¬ (w < 1) := of_decide_eq_false (bfact (x := decide (w < 1)) st.inn 3 (by kernel_rfl))
    have gz : Grew H H4 := (Grew.trans (Grew.refl _) (st.kept.grew (Nat.le_of_ble_eq_true (by kernel_rfl))))
    have hc : emptyG w h = (0, 0, [], 2) := by unfold emptyG; rw [if_neg (by omega)]
    exact res_ex (by kernel_rfl) (end_same st.inn hE (.inr rfl) (a := .tuple [.agg [.int .i64 0, .int .i64 0, .nilslice], .int .i64 2]) (by kernel_rfl) gz.next (by rw [hc]; exact ⟨gz, _, rfl, (.nil rfl), FreshS.nil⟩))
  ·
    intro vs ls H9 E9 st hE
    have f10 : ¬ (24 < h) := of_decide_eq_false (bfact (x := decide (24 < h)) st.inn 0 (by kernel_rfl))
    have f11 : ¬ (h < 1) := of_decide_eq_false (bfact (x := decide (h < 1)) st.inn 1 (by kernel_rfl))
    have f12 : ¬ (24 < w) := of_decide_eq_false (bfact (x := decide (24 < w)) st.inn 2 (by kernel_rfl))
    have f13 : ¬ (w < 1) := of_decide_eq_false (bfact (x := decide (w < 1)) st.inn 3 (by kernel_rfl))
    obtain ⟨p14, e15, r16, n17⟩ := ptr_of st.inn hE 4 0 (by kernel_rfl) (ds := [.int .i64 0, .int .i64 0, .nilslice]) (by kernel_rfl)
    have op14 : H.next ≤ p14 := Nat.le_trans (Nat.le_refl _) (n17 (Nat.le_of_ble_eq_true rfl))
    obtain ⟨w18, hw18⟩ : ∃ z, z = (IntKind.wrap .i64 (w * h)) := ⟨_, rfl⟩
    have b19 : E9 19 = .int .i64 w18 := by rw [hw18]; exact env_of st.inn hE 19 (by kernel_rfl)
    have b20 : E9 15 = .int .i64 w := env_of st.inn hE 15 (by kernel_rfl)
    have b21 : E9 16 = .int .i64 h := env_of st.inn hE 16 (by kernel_rfl)
    have g22 : Grew H H9 := (st.kept.grew (Nat.le_of_ble_eq_true (by kernel_rfl)))
    have g23 : Grew H H9 := Grew.trans (Grew.refl _) g22
    clear st hE vs ls
    have hb1 : 0 ≤ w * h := Int.mul_nonneg (by omega) (by omega)
    have hb2 : w * h ≤ 24 * 24 := Int.mul_le_mul (by omega) (by omega) (by omega) (by omega)
    have hz : w18 = ((w * h).toNat : Int) := by rw [hw18, wrap_i64 (by omega) (by omega)]; omega
    have e26 : E9 19 = .int .i64 (((w * h).toNat : Nat) : Int) := by rw [b19, hz]
    refine res_mkF (d := some 20) (sz := 1) (bytes := 1) (zs := [.int .u8 0]) (x := .tmp 19) (y := .tmp 19) (by kernel_rfl) (n := (w * h).toNat) e26 e26 (by omega) (by omega) ?_
    intro S24 H25 sS24 fS24 gS24
    have ne27 : ApartL (S24) p14 := fS24.apartL (H9.lt_of_get r16)
    have fr28 : FreshS H.next (S24) := fS24.mono g23.next
    have g29 : Grew H H25 := Grew.trans g23 gS24
    have r30 := gS24.at r16
    refine run_mn (φ := φ0) (pm := pmR 0 [] 0) 20 (nk := [(.atom 0, .int .i64), (.atom 1, .int .i64), (.atom 2, .int .i64), (.atom 3, .one)]) (fs := []) (xs := [.int .i64 w, .int .i64 h, .int .i64 w18, S24]) (ws := [⟨p14, 0, [.lit (.int .i64 0), .lit (.int .i64 0), .lit .nilslice], true⟩]) (env := [(19, .nd 2 (.int .i64)), (15, .nd 0 (.int .i64)), (16, .nd 1 (.int .i64)), (4, .ptr 0 0), (20, .nd 3 .one)]) ?_ ?_ tb_ok ap_ok ?_
    · refine midN_in ?_ .nil _ ?_ ?_ ?_
      · exact (.cons rfl ⟨_, rfl⟩ (.cons rfl ⟨_, rfl⟩ (.cons rfl ⟨_, rfl⟩ (.cons rfl sS24.one .nil))))
      · exact (.cons (win_own r30 (dlCons (dLit rfl) (dlCons (dLit rfl) (dlCons (dLit rfl) dlNil)))) .nil)
      · exact ⟨(fun v hv => (by cases hv)), trivial⟩
      · exact .nil
    · exact (envEq (put_ne rfl b19) (dNd rfl ⟨_, rfl⟩) (envEq (put_ne rfl b20) (dNd rfl ⟨_, rfl⟩) (envEq (put_ne rfl b21) (dNd rfl ⟨_, rfl⟩) (envEq (put_ne rfl e15) (dPtr (l := p14) (o := 0) rfl) (envEq put_same (dNd rfl sS24.one) envNil)))))
    refine all1 (by kernel_rfl) ?_
    intro vs ls H31 E31 st hE
    have gz : Grew H H31 := (grew_own g29 (st.inn.kept) ⟨op14, trivial⟩)
    have hc : emptyG w h = (w, h, List.replicate (w * h).toNat [.int .u8 0], 0) := by unfold emptyG; rw [if_pos (by omega)]
    exact res_ex (by kernel_rfl) (end_same st.inn hE (.inr rfl) (a := .tuple [.agg [.int .i64 w, .int .i64 h, S24], .int .i64 0]) (by kernel_rfl) gz.next (by rw [hc]; exact ⟨gz, _, rfl, ((sS24.keep st.inn.kept ⟨by assumption, trivial⟩)).toW, fr28⟩))
  ·
    intro vs ls H32 E32 st hE
    have f33 : h < 1 := of_decide_eq_true (bfact (x := decide (h < 1)) st.inn 0 (by kernel_rfl))
    have f34 : ¬ (24 < w) := of_decide_eq_false (bfact (x := decide (24 < w)) st.inn 1 (by kernel_rfl))
    have f35 : ¬ (w < 1) := of_decide_eq_false (bfact (x := decide (w < 1)) st.inn 2 (by kernel_rfl))
    have gz : Grew H H32 := (Grew.trans (Grew.refl _) (st.kept.grew (Nat.le_of_ble_eq_true (by kernel_rfl))))
    have hc : emptyG w h = (0, 0, [], 2) := by unfold emptyG; rw [if_neg (by omega)]
    exact res_ex (by kernel_rfl) (end_same st.inn hE (.inr rfl) (a := .tuple [.agg [.int .i64 0, .int .i64 0, .nilslice], .int .i64 2]) (by kernel_rfl) gz.next (by rw [hc]; exact ⟨gz, _, rfl, (.nil rfl), FreshS.nil⟩))
  ·
    intro vs ls H36 E36 st hE
    have f37 : w < 1 := of_decide_eq_true (bfact (x := decide (w < 1)) st.inn 0 (by kernel_rfl))
    have gz : Grew H H36 := (Grew.trans (Grew.refl _) (st.kept.grew (Nat.le_of_ble_eq_true (by kernel_rfl))))
    have hc : emptyG w h = (0, 0, [], 2) := by unfold emptyG; rw [if_neg (by omega)]
    exact res_ex (by kernel_rfl) (end_same st.inn hE (.inr rfl) (a := .tuple [.agg [.int .i64 0, .int .i64 0, .nilslice], .int .i64 2]) (by kernel_rfl) gz.next (by rw [hc]; exact ⟨gz, _, rfl, (.nil rfl), FreshS.nil⟩))
theorem emptyG_ok {w h x y : Int} {L : List (List AV)} {c : Int} (e : emptyG w h = (x, y, L, c)) : Recs KB L ∧ L.length ≤ 1048576 := by
  unfold emptyG at e
  split at e
  · rename_i hb
    cases e
    have hb2 : w * h ≤ 24 * 24 := Int.mul_le_mul (by omega) (by omega) (by omega) (by omega)
    exact ⟨recs_rep (ks := KB) (.cons ⟨_, rfl⟩ .nil) _, by rw [List.length_replicate]; omega⟩
  · cases e; exact ⟨.nil, by decide⟩
theorem lawExactEmptyGrid (H : AHeap) (vs : List AV) (h : FitArgs H [(false, [.int .i64]), (false, [.int .i64])] vs) : ACalls Try.prog 4 vs H fun r _ => r = .bool true := by
  match vs, h with
  | [a, b], h =>
  obtain ⟨⟨sa, ea, fa⟩, ⟨sb, eb, fb⟩, _⟩ := h
  cases ea; cases eb
  cases fa; cases fb
  rename_i w hw h hh
  obtain ⟨x, y, L, c, hadd⟩ : ∃ x y L c, emptyG w h = (x, y, L, c) := ⟨_, _, _, _, rfl⟩
  obtain ⟨hL, mxL⟩ := emptyG_ok hadd
  refine res_start h_laws_FnExactEmptyGrid (by simp) ?_
  refine run_mn (φ := φ0) (pm := pmR 0 [] 0) 20 (nk := [(.atom 0, .int .i64), (.atom 1, .int .i64), (.atom 2, .int .i64), (.atom 3, .int .i64), (.atom 4, .int .i64)]) (fs := []) (xs := [.int .i64 w, .int .i64 h, .int .i64 x, .int .i64 y, .int .i64 c]) (ws := []) (env := [(0, .nd 0 (.int .i64)), (1, .nd 1 (.int .i64))]) ?_ ?_ tb_ok ap_ok ?_
  · refine midN_in ?_ .nil _ ?_ ?_ ?_
    · exact (.cons rfl ⟨_, rfl⟩ (.cons rfl ⟨_, rfl⟩ (.cons rfl ⟨_, rfl⟩ (.cons rfl ⟨_, rfl⟩ (.cons rfl ⟨_, rfl⟩ .nil)))))
    · exact .nil
    · exact sepOk_ro rfl
    · exact .nil
  · exact (envEq rfl (dNd rfl ⟨_, rfl⟩) (envEq rfl (dNd rfl ⟨_, rfl⟩) envNil))
  refine all1 (by kernel_rfl) ?_
  intro vs ls H1 E1 st hE
  have b2 : E1 14 = .int .i64 w := env_of st.inn hE 14 (by kernel_rfl)
  have b3 : E1 15 = .int .i64 h := env_of st.inn hE 15 (by kernel_rfl)
  have b4 : E1 0 = .int .i64 w := env_of st.inn hE 0 (by kernel_rfl)
  have b5 : E1 1 = .int .i64 h := env_of st.inn hE 1 (by kernel_rfl)
  have g6 : Grew H H1 := (st.kept.grew (Nat.le_of_ble_eq_true (by kernel_rfl)))
  have g7 : Grew H H1 := Grew.trans (Grew.refl _) g6
  clear st hE vs ls
  refine res_call (d := (some 16)) (f := 18) (args := [.tmp 14, .tmp 15]) (by kernel_rfl) (R := fun z H' => Grew H1 H' ∧ ∃ S', z = .tuple [.agg [.int .i64 x, .int .i64 y, S'], .int .i64 c] ∧ SlW H' 1 L S' ∧ FreshS H1.next S') ?_ ?_
  · show ACalls _ _ [E1 14, E1 15] _ _
    rw [b2, b3]
    exact (by have h9 := k_spec_EmptyGrid H1 w h; rw [hadd] at h9; exact h9)
  rintro z H8 ⟨gH8, S9, rfl, sS9, fS9⟩
  have fr10 : FreshS H.next (S9) := fS9.mono g7.next
  have g11 : Grew H H8 := Grew.trans g7 gH8
  refine run_mn (φ := φ0) (pm := pmR 0 [] 0) 20 (nk := [(.atom 0, .int .i64), (.atom 1, .int .i64), (.atom 2, .int .i64), (.atom 3, .int .i64), (.atom 4, .int .i64), (.atom 5, .one)]) (fs := []) (xs := [.int .i64 w, .int .i64 h, .int .i64 x, .int .i64 y, .int .i64 c, S9]) (ws := []) (env := [(14, .nd 0 (.int .i64)), (15, .nd 1 (.int .i64)), (0, .nd 0 (.int .i64)), (1, .nd 1 (.int .i64)), (16, .tup [.agg [.nd 2 (.int .i64), .nd 3 (.int .i64), .nd 5 .one], .nd 4 (.int .i64)])]) ?_ ?_ tb_ok ap_ok ?_
  · refine midN_in ?_ .nil _ ?_ ?_ ?_
    · exact (.cons rfl ⟨_, rfl⟩ (.cons rfl ⟨_, rfl⟩ (.cons rfl ⟨_, rfl⟩ (.cons rfl ⟨_, rfl⟩ (.cons rfl ⟨_, rfl⟩ (.cons rfl sS9.one .nil))))))
    · exact .nil
    · exact sepOk_ro rfl
    · exact .nil
  · exact (envEq (put_ne rfl b2) (dNd rfl ⟨_, rfl⟩) (envEq (put_ne rfl b3) (dNd rfl ⟨_, rfl⟩) (envEq (put_ne rfl b4) (dNd rfl ⟨_, rfl⟩) (envEq (put_ne rfl b5) (dNd rfl ⟨_, rfl⟩) (envEq put_same (dTup' (dlCons (dAgg (dlCons (dNd rfl ⟨_, rfl⟩) (dlCons (dNd rfl ⟨_, rfl⟩) (dlCons (dNd rfl sS9.one) dlNil)))) (dlCons (dNd rfl ⟨_, rfl⟩) dlNil))) envNil)))))
  refine all1 (by kernel_rfl) ?_
  intro vs ls H12 E12 st hE
  obtain ⟨p13, e14, r15, n16⟩ := ptr_of st.inn hE 5 0 (by kernel_rfl) (ds := [.int .i64 x, .int .i64 y, S9]) (by kernel_rfl)
  have op13 : H.next ≤ p13 := Nat.le_trans g11.next (n16 (Nat.le_of_ble_eq_true rfl))
  have ne17 : ApartL (S9) p13 := sS9.apart_new (n16 (Nat.le_of_ble_eq_true rfl))
  have b18 : E12 20 = .int .i64 w := env_of st.inn hE 20 (by kernel_rfl)
  have b19 : E12 21 = .int .i64 h := env_of st.inn hE 21 (by kernel_rfl)
  have b20 : E12 6 = .int .i64 c := env_of st.inn hE 6 (by kernel_rfl)
  have b21 : E12 0 = .int .i64 w := env_of st.inn hE 0 (by kernel_rfl)
  have b22 : E12 1 = .int .i64 h := env_of st.inn hE 1 (by kernel_rfl)
  have g23 : Grew H8 H12 := (st.kept.grew (Nat.le_of_ble_eq_true (by kernel_rfl)))
  have g24 : Grew H H12 := Grew.trans g11 g23
  have s25 := sS9.grew g23
  clear st hE vs ls
  refine res_call (d := (some 22)) (f := 19) (args := [.tmp 20, .tmp 21]) (by kernel_rfl) (R := fun z H' => Grew H12 H' ∧ ∃ S', z = .tuple [.agg [.int .i64 x, .int .i64 y, S'], .int .i64 c] ∧ SlW H' 1 L S' ∧ FreshS H12.next S') ?_ ?_
  · show ACalls _ _ [E12 20, E12 21] _ _
    rw [b18, b19]
    exact (by have h9 := k_impl_EmptyGrid H12 w h; rw [hadd] at h9; exact h9)
  rintro z H26 ⟨gH26, S27, rfl, sS27, fS27⟩
  have ne28 : ApartL (S27) p13 := fS27.apartL (H12.lt_of_get r15)
  have ne29 : ApartS (S27) (S9) := fS27.apartS s25.lt
  have fr30 : FreshS H.next (S27) := fS27.mono g24.next
  have g31 : Grew H H26 := Grew.trans g24 gH26
  have r32 := gH26.at r15
  have s33 := s25.grew gH26
  refine run_mn (φ := φ0) (pm := pmR 1 [(.call 17 [.agg [.nd 2 (.int .i64), .nd 3 (.int .i64), .nd 6 .one], .agg [.nd 2 (.int .i64), .nd 3 (.int .i64), .nd 5 .one]], .lit (.bool true))] 0) 20 (nk := [(.atom 0, .int .i64), (.atom 1, .int .i64), (.atom 2, .int .i64), (.atom 3, .int .i64), (.atom 4, .int .i64), (.atom 5, .one), (.atom 6, .one)]) (fs := []) (xs := [.int .i64 w, .int .i64 h, .int .i64 x, .int .i64 y, .int .i64 c, S9, S27]) (ws := [⟨p13, 0, [.nd 2 (.int .i64), .nd 3 (.int .i64), .nd 5 .one], false⟩]) (env := [(20, .nd 0 (.int .i64)), (21, .nd 1 (.int .i64)), (5, .ptr 0 0), (6, .nd 4 (.int .i64)), (0, .nd 0 (.int .i64)), (1, .nd 1 (.int .i64)), (22, .tup [.agg [.nd 2 (.int .i64), .nd 3 (.int .i64), .nd 6 .one], .nd 4 (.int .i64)])]) ?_ ?_ tb_ok ap_ok ?_
  · refine midN_in ?_ .nil _ ?_ ?_ ?_
    · exact (.cons rfl ⟨_, rfl⟩ (.cons rfl ⟨_, rfl⟩ (.cons rfl ⟨_, rfl⟩ (.cons rfl ⟨_, rfl⟩ (.cons rfl ⟨_, rfl⟩ (.cons rfl sS9.one (.cons rfl sS27.one .nil)))))))
    · exact (.cons (win_row r32 (dlCons (dNd rfl ⟨_, rfl⟩) (dlCons (dNd rfl ⟨_, rfl⟩) (dlCons (dNd rfl sS9.one) dlNil)))) .nil)
    · exact sepOk_ro rfl
    · exact (.cons (rule_call (args := [.agg [.int .i64 x, .int .i64 y, S27], .agg [.int .i64 x, .int .i64 y, S9]]) (dlCons (dAgg (dlCons (dNd rfl ⟨_, rfl⟩) (dlCons (dNd rfl ⟨_, rfl⟩) (dlCons (dNd rfl sS27.one) dlNil)))) (dlCons (dAgg (dlCons (dNd rfl ⟨_, rfl⟩) (dlCons (dNd rfl ⟨_, rfl⟩) (dlCons (dNd rfl sS9.one) dlNil)))) dlNil)) (dLit rfl) (fun H9 hk => k_eqGrid H9 x y L hL _ _ ((sS27.grew (hk.grew (Nat.le_refl _)))).toL ((s33.grew (hk.grew (Nat.le_refl _)))).toL (mx40 mxL))) .nil)
  · exact (envEq (put_ne rfl b18) (dNd rfl ⟨_, rfl⟩) (envEq (put_ne rfl b19) (dNd rfl ⟨_, rfl⟩) (envEq (put_ne rfl e14) (dPtr (l := p13) (o := 0) rfl) (envEq (put_ne rfl b20) (dNd rfl ⟨_, rfl⟩) (envEq (put_ne rfl b21) (dNd rfl ⟨_, rfl⟩) (envEq (put_ne rfl b22) (dNd rfl ⟨_, rfl⟩) (envEq put_same (dTup' (dlCons (dAgg (dlCons (dNd rfl ⟨_, rfl⟩) (dlCons (dNd rfl ⟨_, rfl⟩) (dlCons (dNd rfl sS27.one) dlNil)))) (dlCons (dNd rfl ⟨_, rfl⟩) dlNil))) envNil)))))))
  refine all1 (by kernel_rfl) ?_
  intro vs ls H34 E34 st hE
  obtain ⟨p35, e36, r37, n38⟩ := ptr_of st.inn hE 7 1 (by kernel_rfl) (ds := [.int .i64 x, .int .i64 y, S27]) (by kernel_rfl)
  have op35 : H.next ≤ p35 := Nat.le_trans g31.next (n38 (Nat.le_of_ble_eq_true rfl))
  have ne39 : Apart p35 p13 := ⟨Nat.ne_of_gt (Nat.lt_of_lt_of_le (H26.lt_of_get r32) (n38 (Nat.le_of_ble_eq_true rfl)))⟩
  have ne40 : ApartL (S9) p35 := s33.apart_new (n38 (Nat.le_of_ble_eq_true rfl))
  have ne41 : ApartL (S27) p35 := sS27.apart_new (n38 (Nat.le_of_ble_eq_true rfl))
  have b42 : E34 34 = .agg [.int .i64 x, .int .i64 y, S27] := env_of st.inn hE 34 (by kernel_rfl)
  have b43 : E34 35 = .int .i64 1 := env_of st.inn hE 35 (by kernel_rfl)
  have b44 : E34 9 = .int .i64 1 := env_of st.inn hE 9 (by kernel_rfl)
  have b45 : E34 0 = .int .i64 w := env_of st.inn hE 0 (by kernel_rfl)
  have b46 : E34 1 = .int .i64 h := env_of st.inn hE 1 (by kernel_rfl)
  have b47 : E34 5 = .ptr p13 0 := env_of st.inn hE 5 (by kernel_rfl)
  have b48 : E34 6 = .int .i64 c := env_of st.inn hE 6 (by kernel_rfl)
  have g49 : Grew H26 H34 := (st.kept.grew (Nat.le_of_ble_eq_true (by kernel_rfl)))
  have g50 : Grew H H34 := Grew.trans g31 g49
  have r51 := g49.at r32
  have s52 := s33.grew g49
  have s53 := sS27.grew g49
  clear st hE vs ls
  refine res_call (d := (some 36)) (f := 20) (args := [.tmp 34, .tmp 35]) (by kernel_rfl) (R := fun z H' => z = .int .i64 (1 + 1 * (L.length : Int)) ∧ OnlyS S27 H34 H' ∧ SlW H' 1 (mksByte 1 L.length) S27) ?_ ?_
  · show ACalls _ _ [E34 34, E34 35] _ _
    rw [b42, b43]
    exact w_markGrid H34 x y L hL S27 s53 1 (by decide) (by decide) mxL
  rintro z H54 ⟨rfl, oH54, nH54⟩
  have g55 : Grew H H54 := OnlyS.own g50 fr30 oH54
  have r56 := oH54.at r51 (by assumption)
  have r57 := oH54.at r37 (by assumption)
  have s58 := s52.only oH54 (by first | assumption | exact ApartS.symm (by assumption))
  refine run_mn (φ := φ0) (pm := pmR 2 [(.call 21 [.agg [.nd 2 (.int .i64), .nd 3 (.int .i64), .nd 6 .one], .lit (.int .i64 1)], .nd 7 (.int .i64))] 0) 20 (nk := [(.atom 0, .int .i64), (.atom 1, .int .i64), (.atom 2, .int .i64), (.atom 3, .int .i64), (.atom 4, .int .i64), (.atom 5, .one), (.atom 6, .one), (.atom 7, .int .i64)]) (fs := []) (xs := [.int .i64 w, .int .i64 h, .int .i64 x, .int .i64 y, .int .i64 c, S9, S27, .int .i64 (1 + 1 * (L.length : Int))]) (ws := [⟨p13, 0, [.nd 2 (.int .i64), .nd 3 (.int .i64), .nd 5 .one], false⟩, ⟨p35, 0, [.nd 2 (.int .i64), .nd 3 (.int .i64), .nd 6 .one], false⟩]) (env := [(34, .agg [.nd 2 (.int .i64), .nd 3 (.int .i64), .nd 6 .one]), (35, .lit (.int .i64 1)), (7, .ptr 1 0), (9, .lit (.int .i64 1)), (0, .nd 0 (.int .i64)), (1, .nd 1 (.int .i64)), (5, .ptr 0 0), (6, .nd 4 (.int .i64)), (36, .nd 7 (.int .i64))]) ?_ ?_ tb_ok ap_ok ?_
  · refine midN_in ?_ .nil _ ?_ ?_ ?_
    · exact (.cons rfl ⟨_, rfl⟩ (.cons rfl ⟨_, rfl⟩ (.cons rfl ⟨_, rfl⟩ (.cons rfl ⟨_, rfl⟩ (.cons rfl ⟨_, rfl⟩ (.cons rfl sS9.one (.cons rfl sS27.one (.cons rfl ⟨_, rfl⟩ .nil))))))))
    · exact (.cons (win_row r56 (dlCons (dNd rfl ⟨_, rfl⟩) (dlCons (dNd rfl ⟨_, rfl⟩) (dlCons (dNd rfl sS9.one) dlNil)))) (.cons (win_row r57 (dlCons (dNd rfl ⟨_, rfl⟩) (dlCons (dNd rfl ⟨_, rfl⟩) (dlCons (dNd rfl sS27.one) dlNil)))) .nil))
    · exact sepOk_ro rfl
    · exact (.cons (rule_call (args := [.agg [.int .i64 x, .int .i64 y, S27], .int .i64 1]) (dlCons (dAgg (dlCons (dNd rfl ⟨_, rfl⟩) (dlCons (dNd rfl ⟨_, rfl⟩) (dlCons (dNd rfl sS27.one) dlNil)))) (dlCons (dLit rfl) dlNil)) (dNd rfl ⟨_, rfl⟩) (fun H9 hk => w_heldGrid H9 x y 1 L.length S27 ((nH54.grew (hk.grew (Nat.le_refl _)))).toL (by decide) (by decide) mxL)) .nil)
  · exact (envEq (put_ne rfl b42) (dAgg (dlCons (dNd rfl ⟨_, rfl⟩) (dlCons (dNd rfl ⟨_, rfl⟩) (dlCons (dNd rfl sS27.one) dlNil)))) (envEq (put_ne rfl b43) (dLit rfl) (envEq (put_ne rfl e36) (dPtr (l := p35) (o := 0) rfl) (envEq (put_ne rfl b44) (dLit rfl) (envEq (put_ne rfl b45) (dNd rfl ⟨_, rfl⟩) (envEq (put_ne rfl b46) (dNd rfl ⟨_, rfl⟩) (envEq (put_ne rfl b47) (dPtr (l := p13) (o := 0) rfl) (envEq (put_ne rfl b48) (dNd rfl ⟨_, rfl⟩) (envEq put_same (dNd rfl ⟨_, rfl⟩) envNil)))))))))
  refine all2 (by kernel_rfl) ?_ ?_
  ·
    intro vs ls H59 E59 st hE
    have f60 : (1 + 1 * (L.length : Int)) < 0 := of_decide_eq_true (bfact (x := decide ((1 + 1 * (L.length : Int)) < 0)) st.inn 0 (by kernel_rfl))
    exact absurd f60 (by omega)
  ·
    intro vs ls H61 E61 st hE
    have f62 : ¬ ((1 + 1 * (L.length : Int)) < 0) := of_decide_eq_false (bfact (x := decide ((1 + 1 * (L.length : Int)) < 0)) st.inn 0 (by kernel_rfl))
    have b63 : E61 46 = .int .i64 w := env_of st.inn hE 46 (by kernel_rfl)
    have b64 : E61 47 = .int .i64 h := env_of st.inn hE 47 (by kernel_rfl)
    have b65 : E61 5 = .ptr p13 0 := env_of st.inn hE 5 (by kernel_rfl)
    have b66 : E61 6 = .int .i64 c := env_of st.inn hE 6 (by kernel_rfl)
    have b67 : E61 7 = .ptr p35 0 := env_of st.inn hE 7 (by kernel_rfl)
    have b68 : E61 10 = .int .i64 (1 + 1 * (L.length : Int)) := env_of st.inn hE 10 (by kernel_rfl)
    have b69 : E61 9 = .int .i64 (1 + 1 * (L.length : Int)) := env_of st.inn hE 9 (by kernel_rfl)
    have g70 : Grew H54 H61 := (st.kept.grew (Nat.le_of_ble_eq_true (by kernel_rfl)))
    have g71 : Grew H H61 := Grew.trans g55 g70
    have r72 := g70.at r56
    have r73 := g70.at r57
    have s74 := s58.grew g70
    have s75 := nH54.grew g70
    clear st hE vs ls
    refine res_call (d := (some 48)) (f := 19) (args := [.tmp 46, .tmp 47]) (by kernel_rfl) (R := fun z H' => Grew H61 H' ∧ ∃ S', z = .tuple [.agg [.int .i64 x, .int .i64 y, S'], .int .i64 c] ∧ SlW H' 1 L S' ∧ FreshS H61.next S') ?_ ?_
    · show ACalls _ _ [E61 46, E61 47] _ _
      rw [b63, b64]
      exact (by have h9 := k_impl_EmptyGrid H61 w h; rw [hadd] at h9; exact h9)
    rintro z H76 ⟨gH76, S77, rfl, sS77, fS77⟩
    have ne78 : ApartL (S77) p13 := fS77.apartL (H61.lt_of_get r72)
    have ne79 : ApartL (S77) p35 := fS77.apartL (H61.lt_of_get r73)
    have ne80 : ApartS (S77) (S9) := fS77.apartS s74.lt
    have ne81 : ApartS (S77) (S27) := fS77.apartS s75.lt
    have fr82 : FreshS H.next (S77) := fS77.mono g71.next
    have g83 : Grew H H76 := Grew.trans g71 gH76
    have r84 := gH76.at r72
    have r85 := gH76.at r73
    have s86 := s74.grew gH76
    have s87 := s75.grew gH76
    refine run_mn (φ := φ0) (pm := pmR 2 [(.call 17 [.agg [.nd 2 (.int .i64), .nd 3 (.int .i64), .nd 8 .one], .agg [.nd 2 (.int .i64), .nd 3 (.int .i64), .nd 5 .one]], .lit (.bool true)), (.call 21 [.agg [.nd 2 (.int .i64), .nd 3 (.int .i64), .nd 6 .one], .lit (.int .i64 1)], .nd 7 (.int .i64))] 0) 20 (nk := [(.atom 0, .int .i64), (.atom 1, .int .i64), (.atom 2, .int .i64), (.atom 3, .int .i64), (.atom 4, .int .i64), (.atom 5, .one), (.atom 6, .one), (.atom 7, .int .i64), (.atom 8, .one)]) (fs := []) (xs := [.int .i64 w, .int .i64 h, .int .i64 x, .int .i64 y, .int .i64 c, S9, S27, .int .i64 (1 + 1 * (L.length : Int)), S77]) (ws := [⟨p13, 0, [.nd 2 (.int .i64), .nd 3 (.int .i64), .nd 5 .one], false⟩, ⟨p35, 0, [.nd 2 (.int .i64), .nd 3 (.int .i64), .nd 6 .one], false⟩]) (env := [(46, .nd 0 (.int .i64)), (47, .nd 1 (.int .i64)), (5, .ptr 0 0), (6, .nd 4 (.int .i64)), (7, .ptr 1 0), (10, .nd 7 (.int .i64)), (9, .nd 7 (.int .i64)), (48, .tup [.agg [.nd 2 (.int .i64), .nd 3 (.int .i64), .nd 8 .one], .nd 4 (.int .i64)])]) ?_ ?_ tb_ok ap_ok ?_
    · refine midN_in ?_ .nil _ ?_ ?_ ?_
      · exact (.cons rfl ⟨_, rfl⟩ (.cons rfl ⟨_, rfl⟩ (.cons rfl ⟨_, rfl⟩ (.cons rfl ⟨_, rfl⟩ (.cons rfl ⟨_, rfl⟩ (.cons rfl sS9.one (.cons rfl sS27.one (.cons rfl ⟨_, rfl⟩ (.cons rfl sS77.one .nil)))))))))
      · exact (.cons (win_row r84 (dlCons (dNd rfl ⟨_, rfl⟩) (dlCons (dNd rfl ⟨_, rfl⟩) (dlCons (dNd rfl sS9.one) dlNil)))) (.cons (win_row r85 (dlCons (dNd rfl ⟨_, rfl⟩) (dlCons (dNd rfl ⟨_, rfl⟩) (dlCons (dNd rfl sS27.one) dlNil)))) .nil))
      · exact sepOk_ro rfl
      · exact (.cons (rule_call (args := [.agg [.int .i64 x, .int .i64 y, S77], .agg [.int .i64 x, .int .i64 y, S9]]) (dlCons (dAgg (dlCons (dNd rfl ⟨_, rfl⟩) (dlCons (dNd rfl ⟨_, rfl⟩) (dlCons (dNd rfl sS77.one) dlNil)))) (dlCons (dAgg (dlCons (dNd rfl ⟨_, rfl⟩) (dlCons (dNd rfl ⟨_, rfl⟩) (dlCons (dNd rfl sS9.one) dlNil)))) dlNil)) (dLit rfl) (fun H9 hk => k_eqGrid H9 x y L hL _ _ ((sS77.grew (hk.grew (Nat.le_refl _)))).toL ((s86.grew (hk.grew (Nat.le_refl _)))).toL (mx40 mxL))) (.cons (rule_call (args := [.agg [.int .i64 x, .int .i64 y, S27], .int .i64 1]) (dlCons (dAgg (dlCons (dNd rfl ⟨_, rfl⟩) (dlCons (dNd rfl ⟨_, rfl⟩) (dlCons (dNd rfl sS27.one) dlNil)))) (dlCons (dLit rfl) dlNil)) (dNd rfl ⟨_, rfl⟩) (fun H9 hk => w_heldGrid H9 x y 1 L.length S27 ((s87.grew (hk.grew (Nat.le_refl _)))).toL (by decide) (by decide) mxL)) .nil))
    · exact (envEq (put_ne rfl b63) (dNd rfl ⟨_, rfl⟩) (envEq (put_ne rfl b64) (dNd rfl ⟨_, rfl⟩) (envEq (put_ne rfl b65) (dPtr (l := p13) (o := 0) rfl) (envEq (put_ne rfl b66) (dNd rfl ⟨_, rfl⟩) (envEq (put_ne rfl b67) (dPtr (l := p35) (o := 0) rfl) (envEq (put_ne rfl b68) (dNd rfl ⟨_, rfl⟩) (envEq (put_ne rfl b69) (dNd rfl ⟨_, rfl⟩) (envEq put_same (dTup' (dlCons (dAgg (dlCons (dNd rfl ⟨_, rfl⟩) (dlCons (dNd rfl ⟨_, rfl⟩) (dlCons (dNd rfl sS77.one) dlNil)))) (dlCons (dNd rfl ⟨_, rfl⟩) dlNil))) envNil))))))))
    refine all2 (by kernel_rfl) ?_ ?_
    ·
      intro vs ls H88 E88 st hE
      have f89 : (1 + 1 * (L.length : Int)) < 0 := of_decide_eq_true (bfact (x := decide ((1 + 1 * (L.length : Int)) < 0)) st.inn 0 (by kernel_rfl))
      exact absurd f89 (by omega)
    ·
      intro vs ls H90 E90 st hE
      have f91 : ¬ ((1 + 1 * (L.length : Int)) < 0) := of_decide_eq_false (bfact (x := decide ((1 + 1 * (L.length : Int)) < 0)) st.inn 0 (by kernel_rfl))
      exact res_ex (by kernel_rfl) (end_same st.inn hE (.inr rfl) (a := .bool true) (by kernel_rfl) (Nat.le_trans g83.next st.kept.1) rfl)
end Go.Proofs.Ytnleibiniajbnaa
