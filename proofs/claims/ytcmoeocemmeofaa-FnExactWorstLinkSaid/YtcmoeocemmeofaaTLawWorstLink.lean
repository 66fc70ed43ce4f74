/- The law of WorstLink, walked. -/
import Derived.Test.YtcmoeocemmeofaaTWorst
import Derived.Test.YtcmoeocemmeofaaTGraphW
set_option linter.unusedVariables false
set_option linter.unusedSimpArgs false
namespace Go.Proofs.Ytcmoeocemmeofaa
open Go.Ab
set_option maxRecDepth 100000
set_option maxHeartbeats 1000000
attribute [local irreducible] Res
theorem lawExactWorstLink (H : AHeap) (vs : List AV) (h : FitArgs H [(true, [.sl [.flt .f32, .flt .f32, .flt .f32], .sl [.int .i64, .int .i64, .flt .f32, .flt .f32, .flt .f32, .flt .f32]])] vs) : ACalls Try.prog 8 vs H fun r _ => r = .bool true := by
  match vs, h with
  | [a], h =>
  obtain ⟨ms, S, ks, Sk, rfl, hr, hS, hmx, hrk, hSk, hmxk⟩ := graphArg h.1
  clear h
  refine res_start h_laws_FnExactWorstLink (by simp) ?_
  obtain ⟨q1, kq1, hq1⟩ : ∃ r : Int, (∀ H9, Grew H H9 → APure Try.prog 13 [.agg [S, Sk], .int .i64 1048576] H9 (.int .i64 r)) ∧ (r = -1 ∨ (0 ≤ r ∧ r = 1048576 - (ms.length : Int) - (ks.length : Int))) := ⟨_, fun H9 hk => k_szPoseGraph H9 ms S (hS.grew (Grew.trans (Grew.refl _) hk)) hmx ks Sk (hSk.grew (Grew.trans (Grew.refl _) hk)) hmxk 1048576 (by omega) (by omega), by split <;> (try split) <;> omega⟩
  refine run_mn (φ := φ0) (pm := pmR 0 [(.call 13 [.agg [.nd 0 .one, .nd 1 .one], .lit (.int .i64 1048576)], .nd 2 (.int .i64))] 0) 20 (nk := [(.atom 0, .one), (.atom 1, .one), (.atom 2, .int .i64)]) (fs := []) (xs := [S, Sk, .int .i64 q1]) (ws := []) (env := [(0, .agg [.nd 0 .one, .nd 1 .one])]) ?_ ?_ tb_ok ap_ok ?_
  · refine midN_in ?_ .nil _ ?_ ?_ ?_
    · exact (.cons rfl (slOne hS) (.cons rfl (slOne hSk) (.cons rfl ⟨_, rfl⟩ .nil)))
    · exact .nil
    · exact sepOk_ro rfl
    · exact (.cons (rule_call (args := [.agg [S, Sk], .int .i64 1048576]) (dlCons (dAgg (dlCons (dNd rfl (slOne hS)) (dlCons (dNd rfl (slOne hSk)) dlNil))) (dlCons (dLit rfl) dlNil)) (dNd rfl ⟨_, rfl⟩) (fun H9 hk => kq1 H9 (hk.grew (Nat.le_refl _)))) .nil)
  · exact (envEq rfl (dAgg (dlCons (dNd rfl (slOne hS)) (dlCons (dNd rfl (slOne hSk)) dlNil))) envNil)
  refine all2 (by kernel_rfl) ?_ ?_
  ·
    intro vs ls H2 E2 st hE
    have f3 : q1 < 0 := of_decide_eq_true (bfact (x := decide (q1 < 0)) st.inn 0 (by kernel_rfl))
    exact res_ex (by kernel_rfl) (end_same st.inn hE (.inr rfl) (a := .bool true) (by kernel_rfl) (Nat.le_trans (Nat.le_refl _) st.kept.1) rfl)
  ·
    intro vs ls H4 E4 st hE
    have f5 : ¬ (q1 < 0) := of_decide_eq_false (bfact (x := decide (q1 < 0)) st.inn 0 (by kernel_rfl))
    have mxms : ms.length ≤ 1048576 := by omega
    have mxks : ks.length ≤ 1048576 := by omega
    obtain ⟨p6, e7, r8, n9⟩ := ptr_of st.inn hE 1 0 (by kernel_rfl) (ds := [S, Sk]) (by kernel_rfl)
    have op6 : H.next ≤ p6 := Nat.le_trans (Nat.le_refl _) (n9 (Nat.le_of_ble_eq_true rfl))
    have b10 : E4 15 = .agg [S, Sk] := env_of st.inn hE 15 (by kernel_rfl)
    have g11 : Grew H H4 := (st.kept.grew (Nat.le_of_ble_eq_true (by kernel_rfl)))
    have g12 : Grew H H4 := Grew.trans (Grew.refl _) g11
    clear st hE vs ls
    refine res_call (d := (some 16)) (f := 15) (args := [.tmp 15]) (by kernel_rfl) (R := fun z H' => Grew H4 H' ∧ ∃ S0' S1', z = .agg [S0', S1'] ∧ SlW H' 3 ms S0' ∧ FreshS H4.next S0' ∧ SlW H' 6 ks S1' ∧ FreshS H4.next S1' ∧ ApartS S0' S1') ?_ ?_
    · show ACalls _ _ [E4 15] _ _
      rw [b10]
      exact k_toPoseGraph H4 ms hr S (hS.grew g12) mxms ks hrk Sk (hSk.grew g12) mxks
    rintro z H13 ⟨gH13, S14, S15, rfl, sS14, fS14, sS15, fS15, ap16⟩
    have ne17 : ApartL (S14) p6 := fS14.apartL (H4.lt_of_get r8)
    have fr18 : FreshS H.next (S14) := fS14.mono g12.next
    have ne19 : ApartL (S15) p6 := fS15.apartL (H4.lt_of_get r8)
    have fr20 : FreshS H.next (S15) := fS15.mono g12.next
    have g21 : Grew H H13 := Grew.trans g12 gH13
    have r22 := gH13.at r8
    refine run_mn (φ := φ0) (pm := pmR 1 [(.call 34 [.agg [.nd 3 .one, .nd 4 .one]], .tup [.nd 5 (.int .i64), .nd 6 (.int .i64)])] 0) 20 (nk := [(.atom 0, .one), (.atom 1, .one), (.atom 2, .int .i64), (.atom 3, .one), (.atom 4, .one), (.atom 5, .int .i64), (.atom 6, .int .i64)]) (fs := []) (xs := [S, Sk, .int .i64 q1, S14, S15, .int .i64 (worstG ms ks).1, .int .i64 (worstG ms ks).2]) (ws := [⟨p6, 0, [.nd 0 .one, .nd 1 .one], false⟩]) (env := [(15, .agg [.nd 0 .one, .nd 1 .one]), (1, .ptr 0 0), (16, .agg [.nd 3 .one, .nd 4 .one])]) ?_ ?_ tb_ok ap_ok ?_
    · refine midN_in ?_ .nil _ ?_ ?_ ?_
      · exact (.cons rfl (slOne hS) (.cons rfl (slOne hSk) (.cons rfl ⟨_, rfl⟩ (.cons rfl sS14.one (.cons rfl sS15.one (.cons rfl ⟨_, rfl⟩ (.cons rfl ⟨_, rfl⟩ .nil)))))))
      · exact (.cons (win_row r22 (dlCons (dNd rfl (slOne hS)) (dlCons (dNd rfl (slOne hSk)) dlNil))) .nil)
      · exact sepOk_ro rfl
      · exact (.cons (rule_call (args := [.agg [S14, S15]]) (dlCons (dAgg (dlCons (dNd rfl sS14.one) (dlCons (dNd rfl sS15.one) dlNil))) dlNil) (dTup' (dlCons (dNd rfl ⟨_, rfl⟩) (dlCons (dNd rfl ⟨_, rfl⟩) dlNil))) (fun H9 hk => k_spec_WorstLink H9 ms hr S14 ((sS14.grew (hk.grew (Nat.le_refl _)))).toL (mx40 mxms) ks hrk S15 ((sS15.grew (hk.grew (Nat.le_refl _)))).toL (mx40 mxks))) .nil)
    · exact (envEq (put_ne rfl b10) (dAgg (dlCons (dNd rfl (slOne hS)) (dlCons (dNd rfl (slOne hSk)) dlNil))) (envEq (put_ne rfl e7) (dPtr (l := p6) (o := 0) rfl) (envEq put_same (dAgg (dlCons (dNd rfl sS14.one) (dlCons (dNd rfl sS15.one) dlNil))) envNil)))
    refine all1 (by kernel_rfl) ?_
    intro vs ls H23 E23 st hE
    have b24 : E23 20 = .agg [S, Sk] := env_of st.inn hE 20 (by kernel_rfl)
    have b25 : E23 4 = .int .i64 (worstG ms ks).1 := env_of st.inn hE 4 (by kernel_rfl)
    have b26 : E23 5 = .int .i64 (worstG ms ks).2 := env_of st.inn hE 5 (by kernel_rfl)
    have b27 : E23 1 = .ptr p6 0 := env_of st.inn hE 1 (by kernel_rfl)
    have g28 : Grew H13 H23 := (st.kept.grew (Nat.le_of_ble_eq_true (by kernel_rfl)))
    have g29 : Grew H H23 := Grew.trans g21 g28
    have r30 := g28.at r22
    have s31 := sS14.grew g28
    have s32 := sS15.grew g28
    clear st hE vs ls
    refine res_call (d := (some 21)) (f := 15) (args := [.tmp 20]) (by kernel_rfl) (R := fun z H' => Grew H23 H' ∧ ∃ S0' S1', z = .agg [S0', S1'] ∧ SlW H' 3 ms S0' ∧ FreshS H23.next S0' ∧ SlW H' 6 ks S1' ∧ FreshS H23.next S1' ∧ ApartS S0' S1') ?_ ?_
    · show ACalls _ _ [E23 20] _ _
      rw [b24]
      exact k_toPoseGraph H23 ms hr S (hS.grew g29) mxms ks hrk Sk (hSk.grew g29) mxks
    rintro z H33 ⟨gH33, S34, S35, rfl, sS34, fS34, sS35, fS35, ap36⟩
    have ne37 : ApartL (S34) p6 := fS34.apartL (H23.lt_of_get r30)
    have ne38 : ApartS (S34) (S14) := fS34.apartS s31.lt
    have ne39 : ApartS (S34) (S15) := fS34.apartS s32.lt
    have fr40 : FreshS H.next (S34) := fS34.mono g29.next
    have ne41 : ApartL (S35) p6 := fS35.apartL (H23.lt_of_get r30)
    have ne42 : ApartS (S35) (S14) := fS35.apartS s31.lt
    have ne43 : ApartS (S35) (S15) := fS35.apartS s32.lt
    have fr44 : FreshS H.next (S35) := fS35.mono g29.next
    have g45 : Grew H H33 := Grew.trans g29 gH33
    have r46 := gH33.at r30
    have s47 := s31.grew gH33
    have s48 := s32.grew gH33
    refine run_mn (φ := φ0) (pm := pmR 1 [(.call 35 [.agg [.nd 7 .one, .nd 8 .one]], .tup [.nd 5 (.int .i64), .nd 6 (.int .i64)])] 0) 20 (nk := [(.atom 0, .one), (.atom 1, .one), (.atom 2, .int .i64), (.atom 3, .one), (.atom 4, .one), (.atom 5, .int .i64), (.atom 6, .int .i64), (.atom 7, .one), (.atom 8, .one)]) (fs := []) (xs := [S, Sk, .int .i64 q1, S14, S15, .int .i64 (worstG ms ks).1, .int .i64 (worstG ms ks).2, S34, S35]) (ws := [⟨p6, 0, [.nd 0 .one, .nd 1 .one], false⟩]) (env := [(20, .agg [.nd 0 .one, .nd 1 .one]), (4, .nd 5 (.int .i64)), (5, .nd 6 (.int .i64)), (1, .ptr 0 0), (21, .agg [.nd 7 .one, .nd 8 .one])]) ?_ ?_ tb_ok ap_ok ?_
    · refine midN_in ?_ .nil _ ?_ ?_ ?_
      · exact (.cons rfl (slOne hS) (.cons rfl (slOne hSk) (.cons rfl ⟨_, rfl⟩ (.cons rfl sS14.one (.cons rfl sS15.one (.cons rfl ⟨_, rfl⟩ (.cons rfl ⟨_, rfl⟩ (.cons rfl sS34.one (.cons rfl sS35.one .nil)))))))))
      · exact (.cons (win_row r46 (dlCons (dNd rfl (slOne hS)) (dlCons (dNd rfl (slOne hSk)) dlNil))) .nil)
      · exact sepOk_ro rfl
      · exact (.cons (rule_call (args := [.agg [S34, S35]]) (dlCons (dAgg (dlCons (dNd rfl sS34.one) (dlCons (dNd rfl sS35.one) dlNil))) dlNil) (dTup' (dlCons (dNd rfl ⟨_, rfl⟩) (dlCons (dNd rfl ⟨_, rfl⟩) dlNil))) (fun H9 hk => k_impl_WorstLink H9 ms hr S34 ((sS34.grew (hk.grew (Nat.le_refl _)))).toL (mx40 mxms) ks hrk S35 ((sS35.grew (hk.grew (Nat.le_refl _)))).toL (mx40 mxks))) .nil)
    · exact (envEq (put_ne rfl b24) (dAgg (dlCons (dNd rfl (slOne hS)) (dlCons (dNd rfl (slOne hSk)) dlNil))) (envEq (put_ne rfl b25) (dNd rfl ⟨_, rfl⟩) (envEq (put_ne rfl b26) (dNd rfl ⟨_, rfl⟩) (envEq (put_ne rfl b27) (dPtr (l := p6) (o := 0) rfl) (envEq put_same (dAgg (dlCons (dNd rfl sS34.one) (dlCons (dNd rfl sS35.one) dlNil))) envNil)))))
    refine all1 (by kernel_rfl) ?_
    intro vs ls H49 E49 st hE
    have b50 : E49 36 = .agg [S, Sk] := env_of st.inn hE 36 (by kernel_rfl)
    have b51 : E49 35 = .agg [S34, S35] := env_of st.inn hE 35 (by kernel_rfl)
    have g52 : Grew H33 H49 := (st.kept.grew (Nat.le_of_ble_eq_true (by kernel_rfl)))
    have g53 : Grew H H49 := Grew.trans g45 g52
    have r54 := g52.at r46
    have s55 := s47.grew g52
    have s56 := s48.grew g52
    have s57 := sS34.grew g52
    have s58 := sS35.grew g52
    clear st hE vs ls
    refine res_kid (free := false) (d := (some 37)) (f := 15) (args := [.tmp 36]) (by kernel_rfl) (R := fun z H' => Grew H49 H' ∧ ∃ S0' S1', z = .agg [S0', S1'] ∧ SlW H' 3 ms S0' ∧ FreshS H49.next S0' ∧ SlW H' 6 ks S1' ∧ FreshS H49.next S1' ∧ ApartS S0' S1') ?_ ?_
    · show ACalls _ _ [E49 36] _ _
      rw [b50]
      exact k_toPoseGraph H49 ms hr S (hS.grew g53) mxms ks hrk Sk (hSk.grew g53) mxks
    rintro z H59 ⟨gH59, S60, S61, rfl, sS60, fS60, sS61, fS61, ap62⟩
    refine ⟨gH59, ?_⟩
    have ne63 : ApartS (S60) (S14) := fS60.apartS s55.lt
    have ne64 : ApartS (S60) (S15) := fS60.apartS s56.lt
    have ne65 : ApartS (S60) (S34) := fS60.apartS s57.lt
    have ne66 : ApartS (S60) (S35) := fS60.apartS s58.lt
    have fr67 : FreshS H.next (S60) := fS60.mono g53.next
    have ne68 : ApartS (S61) (S14) := fS61.apartS s55.lt
    have ne69 : ApartS (S61) (S15) := fS61.apartS s56.lt
    have ne70 : ApartS (S61) (S34) := fS61.apartS s57.lt
    have ne71 : ApartS (S61) (S35) := fS61.apartS s58.lt
    have fr72 : FreshS H.next (S61) := fS61.mono g53.next
    have g73 : Grew H H59 := Grew.trans g53 gH59
    have s74 := s55.grew gH59
    have s75 := s56.grew gH59
    have s76 := s57.grew gH59
    have s77 := s58.grew gH59
    refine run_mn (φ := φ0) (pm := pmR 0 [(.call 17 [.agg [.nd 7 .one, .nd 8 .one], .agg [.nd 9 .one, .nd 10 .one]], .lit (.bool true))] 0) 20 (nk := [(.atom 0, .one), (.atom 1, .one), (.atom 2, .int .i64), (.atom 3, .one), (.atom 4, .one), (.atom 5, .int .i64), (.atom 6, .int .i64), (.atom 7, .one), (.atom 8, .one), (.atom 9, .one), (.atom 10, .one)]) (fs := []) (xs := [S, Sk, .int .i64 q1, S14, S15, .int .i64 (worstG ms ks).1, .int .i64 (worstG ms ks).2, S34, S35, S60, S61]) (ws := []) (env := [(36, .agg [.nd 0 .one, .nd 1 .one]), (35, .agg [.nd 7 .one, .nd 8 .one]), (37, .agg [.nd 9 .one, .nd 10 .one])]) ?_ ?_ tb_ok ap_ok ?_
    · refine midN_in ?_ .nil _ ?_ ?_ ?_
      · exact (.cons rfl (slOne hS) (.cons rfl (slOne hSk) (.cons rfl ⟨_, rfl⟩ (.cons rfl sS14.one (.cons rfl sS15.one (.cons rfl ⟨_, rfl⟩ (.cons rfl ⟨_, rfl⟩ (.cons rfl sS34.one (.cons rfl sS35.one (.cons rfl sS60.one (.cons rfl sS61.one .nil)))))))))))
      · exact .nil
      · exact sepOk_ro rfl
      · exact (.cons (rule_call (args := [.agg [S34, S35], .agg [S60, S61]]) (dlCons (dAgg (dlCons (dNd rfl sS34.one) (dlCons (dNd rfl sS35.one) dlNil))) (dlCons (dAgg (dlCons (dNd rfl sS60.one) (dlCons (dNd rfl sS61.one) dlNil))) dlNil)) (dLit rfl) (fun H9 hk => k_eqPoseGraph H9 ms hr S34 S60 ((s76.grew (hk.grew (Nat.le_refl _)))).toL ((sS60.grew (hk.grew (Nat.le_refl _)))).toL (mx40 mxms) ks hrk S35 S61 ((s77.grew (hk.grew (Nat.le_refl _)))).toL ((sS61.grew (hk.grew (Nat.le_refl _)))).toL (mx40 mxks))) .nil)
    · exact (envEq (put_ne rfl b50) (dAgg (dlCons (dNd rfl (slOne hS)) (dlCons (dNd rfl (slOne hSk)) dlNil))) (envEq (put_ne rfl b51) (dAgg (dlCons (dNd rfl sS34.one) (dlCons (dNd rfl sS35.one) dlNil))) (envEq put_same (dAgg (dlCons (dNd rfl sS60.one) (dlCons (dNd rfl sS61.one) dlNil))) envNil)))
    refine all1 (by kernel_rfl) ?_
    intro vs ls H78 E78 st hE
    exact res_ex (by kernel_rfl) (end_same st.inn hE (.inr rfl) (a := .bool true) (by kernel_rfl) (Nat.le_trans g73.next st.kept.1) rfl)
end Go.Proofs.Ytcmoeocemmeofaa
