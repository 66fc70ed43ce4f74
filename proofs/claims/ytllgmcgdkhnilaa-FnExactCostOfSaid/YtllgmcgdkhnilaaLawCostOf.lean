/- The law of CostOf, walked. -/
import Derived.Test.YtllgmcgdkhnilaaResC
import Derived.Test.YtllgmcgdkhnilaaGraphW
set_option linter.unusedVariables false
set_option linter.unusedSimpArgs false
namespace Go.Proofs.Ytllgmcgdkhnilaa
open Go.Ab
set_option maxRecDepth 100000
set_option maxHeartbeats 1000000
attribute [local irreducible] Res
theorem lawExactCostOf (H : AHeap) (vs : List AV) (h : FitArgs H [(true, [.sl [.flt .f32, .flt .f32, .flt .f32], .sl [.int .i64, .int .i64, .flt .f32, .flt .f32, .flt .f32, .flt .f32]])] vs) : ACalls Try.prog 14 vs H fun r _ => r = .bool true := by
  match vs, h with
  | [a], h =>
  obtain ⟨ms, S, ks, Sk, rfl, hr, hS, hmx, hrk, hSk, hmxk⟩ := graphArg h.1
  clear h
  refine res_start h_laws_FnExactCostOf (by simp) ?_
  obtain ⟨q1, kq1, hq1⟩ : ∃ r : Int, (∀ H9, Grew H H9 → APure Try.prog 20 [.agg [S, Sk], .int .i64 1048576] H9 (.int .i64 r)) ∧ (r = -1 ∨ (0 ≤ r ∧ r = 1048576 - (ms.length : Int) - (ks.length : Int))) := ⟨_, fun H9 hk => k_szPoseGraph H9 ms S (hS.grew (Grew.trans (Grew.refl _) hk)) hmx ks Sk (hSk.grew (Grew.trans (Grew.refl _) hk)) hmxk 1048576 (by omega) (by omega), by split <;> (try split) <;> omega⟩
  refine run_mn (φ := φ0) (pm := pmR 0 [(.call 20 [.agg [.nd 0 .one, .nd 1 .one], .lit (.int .i64 1048576)], .nd 2 (.int .i64))] 0) 20 (nk := [(.atom 0, .one), (.atom 1, .one), (.atom 2, .int .i64)]) (fs := []) (xs := [S, Sk, .int .i64 q1]) (ws := []) (env := [(0, .agg [.nd 0 .one, .nd 1 .one])]) ?_ ?_ tb_ok ap_ok ?_
  · refine midN_in ?_ .nil _ ?_ ?_ ?_
    · exact (.cons rfl (slOne hS) (.cons rfl (slOne hSk) (.cons rfl ⟨_, rfl⟩ .nil)))
    · exact .nil
    · exact sepOk_ro rfl
    · exact (.cons (rule_call (args := [.agg [S, Sk], .int .i64 1048576]) (dlCons (dAgg (dlCons (dNd rfl (slOne hS)) (dlCons (dNd rfl (slOne hSk)) dlNil))) (dlCons (dLit rfl) dlNil)) (dNd rfl ⟨_, rfl⟩) (fun H9 hk => kq1 H9 (hk.grew (Nat.le_refl _)))) .nil)
  · exact (envEq rfl (dAgg (dlCons (dNd rfl (slOne hS)) (dlCons (dNd rfl (slOne hSk)) dlNil))) envNil)
  refine all2 (by kernel_rfl) ?_ ?_
  ·
    intro vs ls H2 E2 st hE
    have f3 : q1 < 0 := of_decide_eq_true (bfact (x := decide (q1 < 0)) st.inn 0 (by kernel_rfl))
    exact res_ex (by kernel_rfl) (end_same st.inn hE (.inr rfl) (a := .bool true) (by kernel_rfl) (Nat.le_trans (Nat.le_refl _) st.kept.1) rfl)
  ·
    intro vs ls H4 E4 st hE
    have f5 : ¬ (q1 < 0) := of_decide_eq_false (bfact (x := decide (q1 < 0)) st.inn 0 (by kernel_rfl))
    have mxms : ms.length ≤ 1048576 := by omega
    have mxks : ks.length ≤ 1048576 := by omega
    obtain ⟨p6, e7, r8, n9⟩ := ptr_of st.inn hE 1 0 (by kernel_rfl) (ds := [S, Sk]) (by kernel_rfl)
    have op6 : H.next ≤ p6 := Nat.le_trans (Nat.le_refl _) (n9 (Nat.le_of_ble_eq_true rfl))
    have b10 : E4 15 = .agg [S, Sk] := env_of st.inn hE 15 (by kernel_rfl)
    have g11 : Grew H H4 := (st.kept.grew (Nat.le_of_ble_eq_true (by kernel_rfl)))
    have g12 : Grew H H4 := Grew.trans (Grew.refl _) g11
    clear st hE vs ls
    refine res_call (d := (some 16)) (f := 22) (args := [.tmp 15]) (by kernel_rfl) (R := fun z H' => Grew H4 H' ∧ ∃ S0' S1', z = .agg [S0', S1'] ∧ SlW H' 3 ms S0' ∧ FreshS H4.next S0' ∧ SlW H' 6 ks S1' ∧ FreshS H4.next S1' ∧ ApartS S0' S1') ?_ ?_
    · show ACalls _ _ [E4 15] _ _
      rw [b10]
      exact k_toPoseGraph H4 ms hr S (hS.grew g12) mxms ks hrk Sk (hSk.grew g12) mxks
    rintro z H13 ⟨gH13, S14, S15, rfl, sS14, fS14, sS15, fS15, ap16⟩
    have ne17 : ApartL (S14) p6 := fS14.apartL (H4.lt_of_get r8)
    have fr18 : FreshS H.next (S14) := fS14.mono g12.next
    have ne19 : ApartL (S15) p6 := fS15.apartL (H4.lt_of_get r8)
    have fr20 : FreshS H.next (S15) := fS15.mono g12.next
    have g21 : Grew H H13 := Grew.trans g12 gH13
    have r22 := gH13.at r8
    refine run_mn (φ := φ0) (pm := pmR 1 [(.call 52 [.agg [.nd 3 .one, .nd 4 .one]], .tup [.nd 5 (.flt .f32), .nd 6 (.int .i64)])] 0) 20 (nk := [(.atom 0, .one), (.atom 1, .one), (.atom 2, .int .i64), (.atom 3, .one), (.atom 4, .one), (.atom 5, .flt .f32), (.atom 6, .int .i64)]) (fs := []) (xs := [S, Sk, .int .i64 q1, S14, S15, .flt .f32 (costG ms ks).1, .int .i64 (costG ms ks).2]) (ws := [⟨p6, 0, [.nd 0 .one, .nd 1 .one], false⟩]) (env := [(15, .agg [.nd 0 .one, .nd 1 .one]), (1, .ptr 0 0), (16, .agg [.nd 3 .one, .nd 4 .one])]) ?_ ?_ tb_ok ap_ok ?_
    · refine midN_in ?_ .nil _ ?_ ?_ ?_
      · exact (.cons rfl (slOne hS) (.cons rfl (slOne hSk) (.cons rfl ⟨_, rfl⟩ (.cons rfl sS14.one (.cons rfl sS15.one (.cons rfl ⟨_, rfl, costG_ok ms ks⟩ (.cons rfl ⟨_, rfl⟩ .nil)))))))
      · exact (.cons (win_row r22 (dlCons (dNd rfl (slOne hS)) (dlCons (dNd rfl (slOne hSk)) dlNil))) .nil)
      · exact sepOk_ro rfl
      · exact (.cons (rule_call (args := [.agg [S14, S15]]) (dlCons (dAgg (dlCons (dNd rfl sS14.one) (dlCons (dNd rfl sS15.one) dlNil))) dlNil) (dTup' (dlCons (dNd rfl ⟨_, rfl, costG_ok ms ks⟩) (dlCons (dNd rfl ⟨_, rfl⟩) dlNil))) (fun H9 hk => k_spec_CostOf H9 ms hr S14 ((sS14.grew (hk.grew (Nat.le_refl _)))).toL (mx40 mxms) ks hrk S15 ((sS15.grew (hk.grew (Nat.le_refl _)))).toL (mx40 mxks))) .nil)
    · exact (envEq (put_ne rfl b10) (dAgg (dlCons (dNd rfl (slOne hS)) (dlCons (dNd rfl (slOne hSk)) dlNil))) (envEq (put_ne rfl e7) (dPtr (l := p6) (o := 0) rfl) (envEq put_same (dAgg (dlCons (dNd rfl sS14.one) (dlCons (dNd rfl sS15.one) dlNil))) envNil)))
    refine all1 (by kernel_rfl) ?_
    intro vs ls H23 E23 st hE
    have b24 : E23 20 = .agg [S, Sk] := env_of st.inn hE 20 (by kernel_rfl)
    have b25 : E23 4 = .flt .f32 (costG ms ks).1 := env_of st.inn hE 4 (by kernel_rfl)
    have b26 : E23 5 = .int .i64 (costG ms ks).2 := env_of st.inn hE 5 (by kernel_rfl)
    have b27 : E23 1 = .ptr p6 0 := env_of st.inn hE 1 (by kernel_rfl)
    have g28 : Grew H13 H23 := (st.kept.grew (Nat.le_of_ble_eq_true (by kernel_rfl)))
    have g29 : Grew H H23 := Grew.trans g21 g28
    have r30 := g28.at r22
    have s31 := sS14.grew g28
    have s32 := sS15.grew g28
    clear st hE vs ls
    refine res_call (d := (some 21)) (f := 22) (args := [.tmp 20]) (by kernel_rfl) (R := fun z H' => Grew H23 H' ∧ ∃ S0' S1', z = .agg [S0', S1'] ∧ SlW H' 3 ms S0' ∧ FreshS H23.next S0' ∧ SlW H' 6 ks S1' ∧ FreshS H23.next S1' ∧ ApartS S0' S1') ?_ ?_
    · show ACalls _ _ [E23 20] _ _
      rw [b24]
      exact k_toPoseGraph H23 ms hr S (hS.grew g29) mxms ks hrk Sk (hSk.grew g29) mxks
    rintro z H33 ⟨gH33, S34, S35, rfl, sS34, fS34, sS35, fS35, ap36⟩
    have ne37 : ApartL (S34) p6 := fS34.apartL (H23.lt_of_get r30)
    have ne38 : ApartS (S34) (S14) := fS34.apartS s31.lt
    have ne39 : ApartS (S34) (S15) := fS34.apartS s32.lt
    have fr40 : FreshS H.next (S34) := fS34.mono g29.next
    have ne41 : ApartL (S35) p6 := fS35.apartL (H23.lt_of_get r30)
    have ne42 : ApartS (S35) (S14) := fS35.apartS s31.lt
    have ne43 : ApartS (S35) (S15) := fS35.apartS s32.lt
    have fr44 : FreshS H.next (S35) := fS35.mono g29.next
    have g45 : Grew H H33 := Grew.trans g29 gH33
    have r46 := gH33.at r30
    have s47 := s31.grew gH33
    have s48 := s32.grew gH33
    refine run_mn (φ := φ0) (pm := pmR 1 [(.call 53 [.agg [.nd 7 .one, .nd 8 .one]], .tup [.nd 5 (.flt .f32), .nd 6 (.int .i64)])] 0) 20 (nk := [(.atom 0, .one), (.atom 1, .one), (.atom 2, .int .i64), (.atom 3, .one), (.atom 4, .one), (.atom 5, .flt .f32), (.atom 6, .int .i64), (.atom 7, .one), (.atom 8, .one)]) (fs := []) (xs := [S, Sk, .int .i64 q1, S14, S15, .flt .f32 (costG ms ks).1, .int .i64 (costG ms ks).2, S34, S35]) (ws := [⟨p6, 0, [.nd 0 .one, .nd 1 .one], false⟩]) (env := [(20, .agg [.nd 0 .one, .nd 1 .one]), (4, .nd 5 (.flt .f32)), (5, .nd 6 (.int .i64)), (1, .ptr 0 0), (21, .agg [.nd 7 .one, .nd 8 .one])]) ?_ ?_ tb_ok ap_ok ?_
    · refine midN_in ?_ .nil _ ?_ ?_ ?_
      · exact (.cons rfl (slOne hS) (.cons rfl (slOne hSk) (.cons rfl ⟨_, rfl⟩ (.cons rfl sS14.one (.cons rfl sS15.one (.cons rfl ⟨_, rfl, costG_ok ms ks⟩ (.cons rfl ⟨_, rfl⟩ (.cons rfl sS34.one (.cons rfl sS35.one .nil)))))))))
      · exact (.cons (win_row r46 (dlCons (dNd rfl (slOne hS)) (dlCons (dNd rfl (slOne hSk)) dlNil))) .nil)
      · exact sepOk_ro rfl
      · exact (.cons (rule_call (args := [.agg [S34, S35]]) (dlCons (dAgg (dlCons (dNd rfl sS34.one) (dlCons (dNd rfl sS35.one) dlNil))) dlNil) (dTup' (dlCons (dNd rfl ⟨_, rfl, costG_ok ms ks⟩) (dlCons (dNd rfl ⟨_, rfl⟩) dlNil))) (fun H9 hk => k_impl_CostOf H9 ms hr S34 ((sS34.grew (hk.grew (Nat.le_refl _)))).toL (mx40 mxms) ks hrk S35 ((sS35.grew (hk.grew (Nat.le_refl _)))).toL (mx40 mxks))) .nil)
    · exact (envEq (put_ne rfl b24) (dAgg (dlCons (dNd rfl (slOne hS)) (dlCons (dNd rfl (slOne hSk)) dlNil))) (envEq (put_ne rfl b25) (dNd rfl ⟨_, rfl, costG_ok ms ks⟩) (envEq (put_ne rfl b26) (dNd rfl ⟨_, rfl⟩) (envEq (put_ne rfl b27) (dPtr (l := p6) (o := 0) rfl) (envEq put_same (dAgg (dlCons (dNd rfl sS34.one) (dlCons (dNd rfl sS35.one) dlNil))) envNil)))))
    refine all3 (by kernel_rfl) ?_ ?_ ?_
    ·
      intro vs ls H49 E49 st hE
      have f50 : (ford .f64 (wid (costG ms ks).1) (wid (costG ms ks).1) == some .eq) = false := bfact st.inn 0 (by kernel_rfl)
      have b51 : E49 39 = .agg [S, Sk] := env_of st.inn hE 39 (by kernel_rfl)
      have b52 : E49 38 = .agg [S34, S35] := env_of st.inn hE 38 (by kernel_rfl)
      have g53 : Grew H33 H49 := (st.kept.grew (Nat.le_of_ble_eq_true (by kernel_rfl)))
      have g54 : Grew H H49 := Grew.trans g45 g53
      have r55 := g53.at r46
      have s56 := s47.grew g53
      have s57 := s48.grew g53
      have s58 := sS34.grew g53
      have s59 := sS35.grew g53
      clear st hE vs ls
      refine res_kid (free := false) (d := (some 40)) (f := 22) (args := [.tmp 39]) (by kernel_rfl) (R := fun z H' => Grew H49 H' ∧ ∃ S0' S1', z = .agg [S0', S1'] ∧ SlW H' 3 ms S0' ∧ FreshS H49.next S0' ∧ SlW H' 6 ks S1' ∧ FreshS H49.next S1' ∧ ApartS S0' S1') ?_ ?_
      · show ACalls _ _ [E49 39] _ _
        rw [b51]
        exact k_toPoseGraph H49 ms hr S (hS.grew g54) mxms ks hrk Sk (hSk.grew g54) mxks
      rintro z H60 ⟨gH60, S61, S62, rfl, sS61, fS61, sS62, fS62, ap63⟩
      refine ⟨gH60, ?_⟩
      have ne64 : ApartS (S61) (S14) := fS61.apartS s56.lt
      have ne65 : ApartS (S61) (S15) := fS61.apartS s57.lt
      have ne66 : ApartS (S61) (S34) := fS61.apartS s58.lt
      have ne67 : ApartS (S61) (S35) := fS61.apartS s59.lt
      have fr68 : FreshS H.next (S61) := fS61.mono g54.next
      have ne69 : ApartS (S62) (S14) := fS62.apartS s56.lt
      have ne70 : ApartS (S62) (S15) := fS62.apartS s57.lt
      have ne71 : ApartS (S62) (S34) := fS62.apartS s58.lt
      have ne72 : ApartS (S62) (S35) := fS62.apartS s59.lt
      have fr73 : FreshS H.next (S62) := fS62.mono g54.next
      have g74 : Grew H H60 := Grew.trans g54 gH60
      have s75 := s56.grew gH60
      have s76 := s57.grew gH60
      have s77 := s58.grew gH60
      have s78 := s59.grew gH60
      refine run_mn (φ := φ0) (pm := pmR 0 [(.call 24 [.agg [.nd 7 .one, .nd 8 .one], .agg [.nd 9 .one, .nd 10 .one]], .lit (.bool true))] 0) 20 (nk := [(.atom 0, .one), (.atom 1, .one), (.atom 2, .int .i64), (.atom 3, .one), (.atom 4, .one), (.atom 5, .flt .f32), (.atom 6, .int .i64), (.atom 7, .one), (.atom 8, .one), (.atom 9, .one), (.atom 10, .one)]) (fs := []) (xs := [S, Sk, .int .i64 q1, S14, S15, .flt .f32 (costG ms ks).1, .int .i64 (costG ms ks).2, S34, S35, S61, S62]) (ws := []) (env := [(39, .agg [.nd 0 .one, .nd 1 .one]), (38, .agg [.nd 7 .one, .nd 8 .one]), (40, .agg [.nd 9 .one, .nd 10 .one])]) ?_ ?_ tb_ok ap_ok ?_
      · refine midN_in ?_ .nil _ ?_ ?_ ?_
        · exact (.cons rfl (slOne hS) (.cons rfl (slOne hSk) (.cons rfl ⟨_, rfl⟩ (.cons rfl sS14.one (.cons rfl sS15.one (.cons rfl ⟨_, rfl, costG_ok ms ks⟩ (.cons rfl ⟨_, rfl⟩ (.cons rfl sS34.one (.cons rfl sS35.one (.cons rfl sS61.one (.cons rfl sS62.one .nil)))))))))))
        · exact .nil
        · exact sepOk_ro rfl
        · exact (.cons (rule_call (args := [.agg [S34, S35], .agg [S61, S62]]) (dlCons (dAgg (dlCons (dNd rfl sS34.one) (dlCons (dNd rfl sS35.one) dlNil))) (dlCons (dAgg (dlCons (dNd rfl sS61.one) (dlCons (dNd rfl sS62.one) dlNil))) dlNil)) (dLit rfl) (fun H9 hk => k_eqPoseGraph H9 ms hr S34 S61 ((s77.grew (hk.grew (Nat.le_refl _)))).toL ((sS61.grew (hk.grew (Nat.le_refl _)))).toL (mx40 mxms) ks hrk S35 S62 ((s78.grew (hk.grew (Nat.le_refl _)))).toL ((sS62.grew (hk.grew (Nat.le_refl _)))).toL (mx40 mxks))) .nil)
      · exact (envEq (put_ne rfl b51) (dAgg (dlCons (dNd rfl (slOne hS)) (dlCons (dNd rfl (slOne hSk)) dlNil))) (envEq (put_ne rfl b52) (dAgg (dlCons (dNd rfl sS34.one) (dlCons (dNd rfl sS35.one) dlNil))) (envEq put_same (dAgg (dlCons (dNd rfl sS61.one) (dlCons (dNd rfl sS62.one) dlNil))) envNil)))
      refine all1 (by kernel_rfl) ?_
      intro vs ls H79 E79 st hE
      exact res_ex (by kernel_rfl) (end_same st.inn hE (.inr rfl) (a := .bool true) (by kernel_rfl) (Nat.le_trans g74.next st.kept.1) rfl)
    ·
      intro vs ls H80 E80 st hE
      have f81 : (ford .f64 (wid (costG ms ks).1) (some 0) == some .eq) = true := bfact st.inn 0 (by kernel_rfl)
      have f82 : (ford .f64 (wid (costG ms ks).1) (wid (costG ms ks).1) == some .eq) = true := bfact st.inn 1 (by kernel_rfl)
      have b83 : E80 39 = .agg [S, Sk] := env_of st.inn hE 39 (by kernel_rfl)
      have b84 : E80 38 = .agg [S34, S35] := env_of st.inn hE 38 (by kernel_rfl)
      have g85 : Grew H33 H80 := (st.kept.grew (Nat.le_of_ble_eq_true (by kernel_rfl)))
      have g86 : Grew H H80 := Grew.trans g45 g85
      have r87 := g85.at r46
      have s88 := s47.grew g85
      have s89 := s48.grew g85
      have s90 := sS34.grew g85
      have s91 := sS35.grew g85
      clear st hE vs ls
      refine res_kid (free := false) (d := (some 40)) (f := 22) (args := [.tmp 39]) (by kernel_rfl) (R := fun z H' => Grew H80 H' ∧ ∃ S0' S1', z = .agg [S0', S1'] ∧ SlW H' 3 ms S0' ∧ FreshS H80.next S0' ∧ SlW H' 6 ks S1' ∧ FreshS H80.next S1' ∧ ApartS S0' S1') ?_ ?_
      · show ACalls _ _ [E80 39] _ _
        rw [b83]
        exact k_toPoseGraph H80 ms hr S (hS.grew g86) mxms ks hrk Sk (hSk.grew g86) mxks
      rintro z H92 ⟨gH92, S93, S94, rfl, sS93, fS93, sS94, fS94, ap95⟩
      refine ⟨gH92, ?_⟩
      have ne96 : ApartS (S93) (S14) := fS93.apartS s88.lt
      have ne97 : ApartS (S93) (S15) := fS93.apartS s89.lt
      have ne98 : ApartS (S93) (S34) := fS93.apartS s90.lt
      have ne99 : ApartS (S93) (S35) := fS93.apartS s91.lt
      have fr100 : FreshS H.next (S93) := fS93.mono g86.next
      have ne101 : ApartS (S94) (S14) := fS94.apartS s88.lt
      have ne102 : ApartS (S94) (S15) := fS94.apartS s89.lt
      have ne103 : ApartS (S94) (S34) := fS94.apartS s90.lt
      have ne104 : ApartS (S94) (S35) := fS94.apartS s91.lt
      have fr105 : FreshS H.next (S94) := fS94.mono g86.next
      have g106 : Grew H H92 := Grew.trans g86 gH92
      have s107 := s88.grew gH92
      have s108 := s89.grew gH92
      have s109 := s90.grew gH92
      have s110 := s91.grew gH92
      refine run_mn (φ := φ0) (pm := pmR 0 [(.call 24 [.agg [.nd 7 .one, .nd 8 .one], .agg [.nd 9 .one, .nd 10 .one]], .lit (.bool true))] 0) 20 (nk := [(.atom 0, .one), (.atom 1, .one), (.atom 2, .int .i64), (.atom 3, .one), (.atom 4, .one), (.atom 5, .flt .f32), (.atom 6, .int .i64), (.atom 7, .one), (.atom 8, .one), (.atom 9, .one), (.atom 10, .one)]) (fs := []) (xs := [S, Sk, .int .i64 q1, S14, S15, .flt .f32 (costG ms ks).1, .int .i64 (costG ms ks).2, S34, S35, S93, S94]) (ws := []) (env := [(39, .agg [.nd 0 .one, .nd 1 .one]), (38, .agg [.nd 7 .one, .nd 8 .one]), (40, .agg [.nd 9 .one, .nd 10 .one])]) ?_ ?_ tb_ok ap_ok ?_
      · refine midN_in ?_ .nil _ ?_ ?_ ?_
        · exact (.cons rfl (slOne hS) (.cons rfl (slOne hSk) (.cons rfl ⟨_, rfl⟩ (.cons rfl sS14.one (.cons rfl sS15.one (.cons rfl ⟨_, rfl, costG_ok ms ks⟩ (.cons rfl ⟨_, rfl⟩ (.cons rfl sS34.one (.cons rfl sS35.one (.cons rfl sS93.one (.cons rfl sS94.one .nil)))))))))))
        · exact .nil
        · exact sepOk_ro rfl
        · exact (.cons (rule_call (args := [.agg [S34, S35], .agg [S93, S94]]) (dlCons (dAgg (dlCons (dNd rfl sS34.one) (dlCons (dNd rfl sS35.one) dlNil))) (dlCons (dAgg (dlCons (dNd rfl sS93.one) (dlCons (dNd rfl sS94.one) dlNil))) dlNil)) (dLit rfl) (fun H9 hk => k_eqPoseGraph H9 ms hr S34 S93 ((s109.grew (hk.grew (Nat.le_refl _)))).toL ((sS93.grew (hk.grew (Nat.le_refl _)))).toL (mx40 mxms) ks hrk S35 S94 ((s110.grew (hk.grew (Nat.le_refl _)))).toL ((sS94.grew (hk.grew (Nat.le_refl _)))).toL (mx40 mxks))) .nil)
      · exact (envEq (put_ne rfl b83) (dAgg (dlCons (dNd rfl (slOne hS)) (dlCons (dNd rfl (slOne hSk)) dlNil))) (envEq (put_ne rfl b84) (dAgg (dlCons (dNd rfl sS34.one) (dlCons (dNd rfl sS35.one) dlNil))) (envEq put_same (dAgg (dlCons (dNd rfl sS93.one) (dlCons (dNd rfl sS94.one) dlNil))) envNil)))
      refine all1 (by kernel_rfl) ?_
      intro vs ls H111 E111 st hE
      exact res_ex (by kernel_rfl) (end_same st.inn hE (.inr rfl) (a := .bool true) (by kernel_rfl) (Nat.le_trans g106.next st.kept.1) rfl)
    ·
      intro vs ls H112 E112 st hE
      have f113 : (ford .f64 (wid (costG ms ks).1) (some 0) == some .eq) = false := bfact st.inn 0 (by kernel_rfl)
      have f114 : (ford .f64 (wid (costG ms ks).1) (wid (costG ms ks).1) == some .eq) = true := bfact st.inn 1 (by kernel_rfl)
      have b115 : E112 39 = .agg [S, Sk] := env_of st.inn hE 39 (by kernel_rfl)
      have b116 : E112 38 = .agg [S34, S35] := env_of st.inn hE 38 (by kernel_rfl)
      have g117 : Grew H33 H112 := (st.kept.grew (Nat.le_of_ble_eq_true (by kernel_rfl)))
      have g118 : Grew H H112 := Grew.trans g45 g117
      have r119 := g117.at r46
      have s120 := s47.grew g117
      have s121 := s48.grew g117
      have s122 := sS34.grew g117
      have s123 := sS35.grew g117
      clear st hE vs ls
      refine res_kid (free := false) (d := (some 40)) (f := 22) (args := [.tmp 39]) (by kernel_rfl) (R := fun z H' => Grew H112 H' ∧ ∃ S0' S1', z = .agg [S0', S1'] ∧ SlW H' 3 ms S0' ∧ FreshS H112.next S0' ∧ SlW H' 6 ks S1' ∧ FreshS H112.next S1' ∧ ApartS S0' S1') ?_ ?_
      · show ACalls _ _ [E112 39] _ _
        rw [b115]
        exact k_toPoseGraph H112 ms hr S (hS.grew g118) mxms ks hrk Sk (hSk.grew g118) mxks
      rintro z H124 ⟨gH124, S125, S126, rfl, sS125, fS125, sS126, fS126, ap127⟩
      refine ⟨gH124, ?_⟩
      have ne128 : ApartS (S125) (S14) := fS125.apartS s120.lt
      have ne129 : ApartS (S125) (S15) := fS125.apartS s121.lt
      have ne130 : ApartS (S125) (S34) := fS125.apartS s122.lt
      have ne131 : ApartS (S125) (S35) := fS125.apartS s123.lt
      have fr132 : FreshS H.next (S125) := fS125.mono g118.next
      have ne133 : ApartS (S126) (S14) := fS126.apartS s120.lt
      have ne134 : ApartS (S126) (S15) := fS126.apartS s121.lt
      have ne135 : ApartS (S126) (S34) := fS126.apartS s122.lt
      have ne136 : ApartS (S126) (S35) := fS126.apartS s123.lt
      have fr137 : FreshS H.next (S126) := fS126.mono g118.next
      have g138 : Grew H H124 := Grew.trans g118 gH124
      have s139 := s120.grew gH124
      have s140 := s121.grew gH124
      have s141 := s122.grew gH124
      have s142 := s123.grew gH124
      refine run_mn (φ := φ0) (pm := pmR 0 [(.call 24 [.agg [.nd 7 .one, .nd 8 .one], .agg [.nd 9 .one, .nd 10 .one]], .lit (.bool true))] 0) 20 (nk := [(.atom 0, .one), (.atom 1, .one), (.atom 2, .int .i64), (.atom 3, .one), (.atom 4, .one), (.atom 5, .flt .f32), (.atom 6, .int .i64), (.atom 7, .one), (.atom 8, .one), (.atom 9, .one), (.atom 10, .one)]) (fs := []) (xs := [S, Sk, .int .i64 q1, S14, S15, .flt .f32 (costG ms ks).1, .int .i64 (costG ms ks).2, S34, S35, S125, S126]) (ws := []) (env := [(39, .agg [.nd 0 .one, .nd 1 .one]), (38, .agg [.nd 7 .one, .nd 8 .one]), (40, .agg [.nd 9 .one, .nd 10 .one])]) ?_ ?_ tb_ok ap_ok ?_
      · refine midN_in ?_ .nil _ ?_ ?_ ?_
        · exact (.cons rfl (slOne hS) (.cons rfl (slOne hSk) (.cons rfl ⟨_, rfl⟩ (.cons rfl sS14.one (.cons rfl sS15.one (.cons rfl ⟨_, rfl, costG_ok ms ks⟩ (.cons rfl ⟨_, rfl⟩ (.cons rfl sS34.one (.cons rfl sS35.one (.cons rfl sS125.one (.cons rfl sS126.one .nil)))))))))))
        · exact .nil
        · exact sepOk_ro rfl
        · exact (.cons (rule_call (args := [.agg [S34, S35], .agg [S125, S126]]) (dlCons (dAgg (dlCons (dNd rfl sS34.one) (dlCons (dNd rfl sS35.one) dlNil))) (dlCons (dAgg (dlCons (dNd rfl sS125.one) (dlCons (dNd rfl sS126.one) dlNil))) dlNil)) (dLit rfl) (fun H9 hk => k_eqPoseGraph H9 ms hr S34 S125 ((s141.grew (hk.grew (Nat.le_refl _)))).toL ((sS125.grew (hk.grew (Nat.le_refl _)))).toL (mx40 mxms) ks hrk S35 S126 ((s142.grew (hk.grew (Nat.le_refl _)))).toL ((sS126.grew (hk.grew (Nat.le_refl _)))).toL (mx40 mxks))) .nil)
      · exact (envEq (put_ne rfl b115) (dAgg (dlCons (dNd rfl (slOne hS)) (dlCons (dNd rfl (slOne hSk)) dlNil))) (envEq (put_ne rfl b116) (dAgg (dlCons (dNd rfl sS34.one) (dlCons (dNd rfl sS35.one) dlNil))) (envEq put_same (dAgg (dlCons (dNd rfl sS125.one) (dlCons (dNd rfl sS126.one) dlNil))) envNil)))
      refine all1 (by kernel_rfl) ?_
      intro vs ls H143 E143 st hE
      exact res_ex (by kernel_rfl) (end_same st.inn hE (.inr rfl) (a := .bool true) (by kernel_rfl) (Nat.le_trans g138.next st.kept.1) rfl)
end Go.Proofs.Ytllgmcgdkhnilaa
