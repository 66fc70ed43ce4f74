/- The law of ResidualOf, walked. -/
import Derived.Test.YtllgmcgdkhnilaaResC
import Derived.Test.YtllgmcgdkhnilaaGraphW
set_option linter.unusedVariables false
set_option linter.unusedSimpArgs false
namespace Go.Proofs.Ytllgmcgdkhnilaa
open Go.Ab
set_option maxRecDepth 100000
set_option maxHeartbeats 1000000
attribute [local irreducible] Res
theorem lawExactResidualOf (H : AHeap) (vs : List AV) (h : FitArgs H [(true, [.sl [.flt .f32, .flt .f32, .flt .f32], .sl [.int .i64, .int .i64, .flt .f32, .flt .f32, .flt .f32, .flt .f32]]), (false, [.int .i64])] vs) : ACalls Try.prog 13 vs H fun r _ => r = .bool true := by
  match vs, h with
  | [a, b], h =>
  obtain ⟨ms, S, ks, Sk, rfl, hr, hS, hmx, hrk, hSk, hmxk⟩ := graphArg h.1
  obtain ⟨sb, eb, fb⟩ := h.2.1
  cases eb; cases fb
  rename_i i _
  clear h
  refine res_start h_laws_FnExactResidualOf (by simp) ?_
  obtain ⟨q1, kq1, hq1⟩ : ∃ r : Int, (∀ H9, Grew H H9 → APure Try.prog 20 [.agg [S, Sk], .int .i64 1048576] H9 (.int .i64 r)) ∧ (r = -1 ∨ (0 ≤ r ∧ r = 1048576 - (ms.length : Int) - (ks.length : Int))) := ⟨_, fun H9 hk => k_szPoseGraph H9 ms S (hS.grew (Grew.trans (Grew.refl _) hk)) hmx ks Sk (hSk.grew (Grew.trans (Grew.refl _) hk)) hmxk 1048576 (by omega) (by omega), by split <;> (try split) <;> omega⟩
  refine run_mn (φ := φ0) (pm := pmR 0 [(.call 20 [.agg [.nd 0 .one, .nd 1 .one], .lit (.int .i64 1048576)], .nd 3 (.int .i64))] 0) 20 (nk := [(.atom 0, .one), (.atom 1, .one), (.atom 2, .int .i64), (.atom 3, .int .i64)]) (fs := []) (xs := [S, Sk, .int .i64 i, .int .i64 q1]) (ws := []) (env := [(0, .agg [.nd 0 .one, .nd 1 .one]), (1, .nd 2 (.int .i64))]) ?_ ?_ tb_ok ap_ok ?_
  · refine midN_in ?_ .nil _ ?_ ?_ ?_
    · exact (.cons rfl (slOne hS) (.cons rfl (slOne hSk) (.cons rfl ⟨_, rfl⟩ (.cons rfl ⟨_, rfl⟩ .nil))))
    · exact .nil
    · exact sepOk_ro rfl
    · exact (.cons (rule_call (args := [.agg [S, Sk], .int .i64 1048576]) (dlCons (dAgg (dlCons (dNd rfl (slOne hS)) (dlCons (dNd rfl (slOne hSk)) dlNil))) (dlCons (dLit rfl) dlNil)) (dNd rfl ⟨_, rfl⟩) (fun H9 hk => kq1 H9 (hk.grew (Nat.le_refl _)))) .nil)
  · exact (envEq rfl (dAgg (dlCons (dNd rfl (slOne hS)) (dlCons (dNd rfl (slOne hSk)) dlNil))) (envEq rfl (dNd rfl ⟨_, rfl⟩) envNil))
  refine all2 (by kernel_rfl) ?_ ?_
  ·
    intro vs ls H2 E2 st hE
    have f3 : q1 < 0 := of_decide_eq_true (bfact (x := decide (q1 < 0)) st.inn 0 (by kernel_rfl))
    exact res_ex (by kernel_rfl) (end_same st.inn hE (.inr rfl) (a := .bool true) (by kernel_rfl) (Nat.le_trans (Nat.le_refl _) st.kept.1) rfl)
  ·
    intro vs ls H4 E4 st hE
    have f5 : ¬ (q1 < 0) := of_decide_eq_false (bfact (x := decide (q1 < 0)) st.inn 0 (by kernel_rfl))
    have mxms : ms.length ≤ 1048576 := by omega
    have mxks : ks.length ≤ 1048576 := by omega
    obtain ⟨p6, e7, r8, n9⟩ := ptr_of st.inn hE 2 0 (by kernel_rfl) (ds := [S, Sk]) (by kernel_rfl)
    have op6 : H.next ≤ p6 := Nat.le_trans (Nat.le_refl _) (n9 (Nat.le_of_ble_eq_true rfl))
    have b10 : E4 17 = .agg [S, Sk] := env_of st.inn hE 17 (by kernel_rfl)
    have b11 : E4 1 = .int .i64 i := env_of st.inn hE 1 (by kernel_rfl)
    have g12 : Grew H H4 := (st.kept.grew (Nat.le_of_ble_eq_true (by kernel_rfl)))
    have g13 : Grew H H4 := Grew.trans (Grew.refl _) g12
    clear st hE vs ls
    refine res_call (d := (some 18)) (f := 22) (args := [.tmp 17]) (by kernel_rfl) (R := fun z H' => Grew H4 H' ∧ ∃ S0' S1', z = .agg [S0', S1'] ∧ SlW H' 3 ms S0' ∧ FreshS H4.next S0' ∧ SlW H' 6 ks S1' ∧ FreshS H4.next S1' ∧ ApartS S0' S1') ?_ ?_
    · show ACalls _ _ [E4 17] _ _
      rw [b10]
      exact k_toPoseGraph H4 ms hr S (hS.grew g13) mxms ks hrk Sk (hSk.grew g13) mxks
    rintro z H14 ⟨gH14, S15, S16, rfl, sS15, fS15, sS16, fS16, ap17⟩
    have ne18 : ApartL (S15) p6 := fS15.apartL (H4.lt_of_get r8)
    have fr19 : FreshS H.next (S15) := fS15.mono g13.next
    have ne20 : ApartL (S16) p6 := fS16.apartL (H4.lt_of_get r8)
    have fr21 : FreshS H.next (S16) := fS16.mono g13.next
    have g22 : Grew H H14 := Grew.trans g13 gH14
    have r23 := gH14.at r8
    obtain ⟨r24_0, r24_1, r24_2, hmr24, or24_0, or24_1, or24_2⟩ := partsPose (resF_ok ms ks i)
    refine run_mn (φ := φ0) (pm := pmR 1 [(.call 50 [.agg [.nd 4 .one, .nd 5 .one], .nd 2 (.int .i64)], .tup [.agg [.nd 6 (.flt .f32), .nd 7 (.flt .f32), .nd 8 (.flt .f32)], .nd 9 (.int .i64)])] 0) 20 (nk := [(.atom 0, .one), (.atom 1, .one), (.atom 2, .int .i64), (.atom 3, .int .i64), (.atom 4, .one), (.atom 5, .one), (.atom 6, .flt .f32), (.atom 7, .flt .f32), (.atom 8, .flt .f32), (.atom 9, .int .i64)]) (fs := []) (xs := [S, Sk, .int .i64 i, .int .i64 q1, S15, S16, .flt .f32 r24_0, .flt .f32 r24_1, .flt .f32 r24_2, .int .i64 (resF ms ks i).2]) (ws := [⟨p6, 0, [.nd 0 .one, .nd 1 .one], false⟩]) (env := [(17, .agg [.nd 0 .one, .nd 1 .one]), (1, .nd 2 (.int .i64)), (2, .ptr 0 0), (18, .agg [.nd 4 .one, .nd 5 .one])]) ?_ ?_ tb_ok ap_ok ?_
    · refine midN_in ?_ .nil _ ?_ ?_ ?_
      · exact (.cons rfl (slOne hS) (.cons rfl (slOne hSk) (.cons rfl ⟨_, rfl⟩ (.cons rfl ⟨_, rfl⟩ (.cons rfl sS15.one (.cons rfl sS16.one (.cons rfl ⟨_, rfl, or24_0⟩ (.cons rfl ⟨_, rfl, or24_1⟩ (.cons rfl ⟨_, rfl, or24_2⟩ (.cons rfl ⟨_, rfl⟩ .nil))))))))))
      · exact (.cons (win_row r23 (dlCons (dNd rfl (slOne hS)) (dlCons (dNd rfl (slOne hSk)) dlNil))) .nil)
      · exact sepOk_ro rfl
      · exact (.cons (rule_call (args := [.agg [S15, S16], .int .i64 i]) (dlCons (dAgg (dlCons (dNd rfl sS15.one) (dlCons (dNd rfl sS16.one) dlNil))) (dlCons (dNd rfl ⟨_, rfl⟩) dlNil)) (dTup' (dlCons (dAgg (dlCons (dNd rfl ⟨_, rfl, or24_0⟩) (dlCons (dNd rfl ⟨_, rfl, or24_1⟩) (dlCons (dNd rfl ⟨_, rfl, or24_2⟩) dlNil)))) (dlCons (dNd rfl ⟨_, rfl⟩) dlNil))) (fun H9 hk => (by rw [← hmr24]; exact k_spec_ResidualOf H9 ms hr S15 ((sS15.grew (hk.grew (Nat.le_refl _)))).toL (mx40 mxms) ks hrk S16 ((sS16.grew (hk.grew (Nat.le_refl _)))).toL (mx40 mxks) i))) .nil)
    · exact (envEq (put_ne rfl b10) (dAgg (dlCons (dNd rfl (slOne hS)) (dlCons (dNd rfl (slOne hSk)) dlNil))) (envEq (put_ne rfl b11) (dNd rfl ⟨_, rfl⟩) (envEq (put_ne rfl e7) (dPtr (l := p6) (o := 0) rfl) (envEq put_same (dAgg (dlCons (dNd rfl sS15.one) (dlCons (dNd rfl sS16.one) dlNil))) envNil))))
    refine all1 (by kernel_rfl) ?_
    intro vs ls H25 E25 st hE
    obtain ⟨p26, e27, r28, n29⟩ := ptr_of st.inn hE 6 1 (by kernel_rfl) (ds := [.flt .f32 r24_0, .flt .f32 r24_1, .flt .f32 r24_2]) (by kernel_rfl)
    have op26 : H.next ≤ p26 := Nat.le_trans g22.next (n29 (Nat.le_of_ble_eq_true rfl))
    have ne30 : Apart p26 p6 := ⟨Nat.ne_of_gt (Nat.lt_of_lt_of_le (H14.lt_of_get r23) (n29 (Nat.le_of_ble_eq_true rfl)))⟩
    have ne31 : ApartL (S15) p26 := sS15.apart_new (n29 (Nat.le_of_ble_eq_true rfl))
    have ne32 : ApartL (S16) p26 := sS16.apart_new (n29 (Nat.le_of_ble_eq_true rfl))
    have b33 : E25 23 = .agg [S, Sk] := env_of st.inn hE 23 (by kernel_rfl)
    have b34 : E25 1 = .int .i64 i := env_of st.inn hE 1 (by kernel_rfl)
    have b35 : E25 7 = .int .i64 (resF ms ks i).2 := env_of st.inn hE 7 (by kernel_rfl)
    have b36 : E25 2 = .ptr p6 0 := env_of st.inn hE 2 (by kernel_rfl)
    have g37 : Grew H14 H25 := (st.kept.grew (Nat.le_of_ble_eq_true (by kernel_rfl)))
    have g38 : Grew H H25 := Grew.trans g22 g37
    have r39 := g37.at r23
    have s40 := sS15.grew g37
    have s41 := sS16.grew g37
    clear st hE vs ls
    refine res_call (d := (some 24)) (f := 22) (args := [.tmp 23]) (by kernel_rfl) (R := fun z H' => Grew H25 H' ∧ ∃ S0' S1', z = .agg [S0', S1'] ∧ SlW H' 3 ms S0' ∧ FreshS H25.next S0' ∧ SlW H' 6 ks S1' ∧ FreshS H25.next S1' ∧ ApartS S0' S1') ?_ ?_
    · show ACalls _ _ [E25 23] _ _
      rw [b33]
      exact k_toPoseGraph H25 ms hr S (hS.grew g38) mxms ks hrk Sk (hSk.grew g38) mxks
    rintro z H42 ⟨gH42, S43, S44, rfl, sS43, fS43, sS44, fS44, ap45⟩
    have ne46 : ApartL (S43) p6 := fS43.apartL (H25.lt_of_get r39)
    have ne47 : ApartL (S43) p26 := fS43.apartL (H25.lt_of_get r28)
    have ne48 : ApartS (S43) (S15) := fS43.apartS s40.lt
    have ne49 : ApartS (S43) (S16) := fS43.apartS s41.lt
    have fr50 : FreshS H.next (S43) := fS43.mono g38.next
    have ne51 : ApartL (S44) p6 := fS44.apartL (H25.lt_of_get r39)
    have ne52 : ApartL (S44) p26 := fS44.apartL (H25.lt_of_get r28)
    have ne53 : ApartS (S44) (S15) := fS44.apartS s40.lt
    have ne54 : ApartS (S44) (S16) := fS44.apartS s41.lt
    have fr55 : FreshS H.next (S44) := fS44.mono g38.next
    have g56 : Grew H H42 := Grew.trans g38 gH42
    have r57 := gH42.at r39
    have r58 := gH42.at r28
    have s59 := s40.grew gH42
    have s60 := s41.grew gH42
    refine run_mn (φ := φ0) (pm := pmR 2 [(.call 51 [.agg [.nd 10 .one, .nd 11 .one], .nd 2 (.int .i64)], .tup [.agg [.nd 6 (.flt .f32), .nd 7 (.flt .f32), .nd 8 (.flt .f32)], .nd 9 (.int .i64)]), (.call 29 [.agg [.nd 6 (.flt .f32), .nd 7 (.flt .f32), .nd 8 (.flt .f32)], .agg [.nd 6 (.flt .f32), .nd 7 (.flt .f32), .nd 8 (.flt .f32)]], .lit (.bool true))] 0) 20 (nk := [(.atom 0, .one), (.atom 1, .one), (.atom 2, .int .i64), (.atom 3, .int .i64), (.atom 4, .one), (.atom 5, .one), (.atom 6, .flt .f32), (.atom 7, .flt .f32), (.atom 8, .flt .f32), (.atom 9, .int .i64), (.atom 10, .one), (.atom 11, .one)]) (fs := []) (xs := [S, Sk, .int .i64 i, .int .i64 q1, S15, S16, .flt .f32 r24_0, .flt .f32 r24_1, .flt .f32 r24_2, .int .i64 (resF ms ks i).2, S43, S44]) (ws := [⟨p6, 0, [.nd 0 .one, .nd 1 .one], false⟩, ⟨p26, 0, [.nd 6 (.flt .f32), .nd 7 (.flt .f32), .nd 8 (.flt .f32)], false⟩]) (env := [(23, .agg [.nd 0 .one, .nd 1 .one]), (1, .nd 2 (.int .i64)), (6, .ptr 1 0), (7, .nd 9 (.int .i64)), (2, .ptr 0 0), (24, .agg [.nd 10 .one, .nd 11 .one])]) ?_ ?_ tb_ok ap_ok ?_
    · refine midN_in ?_ .nil _ ?_ ?_ ?_
      · exact (.cons rfl (slOne hS) (.cons rfl (slOne hSk) (.cons rfl ⟨_, rfl⟩ (.cons rfl ⟨_, rfl⟩ (.cons rfl sS15.one (.cons rfl sS16.one (.cons rfl ⟨_, rfl, or24_0⟩ (.cons rfl ⟨_, rfl, or24_1⟩ (.cons rfl ⟨_, rfl, or24_2⟩ (.cons rfl ⟨_, rfl⟩ (.cons rfl sS43.one (.cons rfl sS44.one .nil))))))))))))
      · exact (.cons (win_row r57 (dlCons (dNd rfl (slOne hS)) (dlCons (dNd rfl (slOne hSk)) dlNil))) (.cons (win_row r58 (dlCons (dNd rfl ⟨_, rfl, or24_0⟩) (dlCons (dNd rfl ⟨_, rfl, or24_1⟩) (dlCons (dNd rfl ⟨_, rfl, or24_2⟩) dlNil)))) .nil))
      · exact sepOk_ro rfl
      · exact (.cons (rule_call (args := [.agg [S43, S44], .int .i64 i]) (dlCons (dAgg (dlCons (dNd rfl sS43.one) (dlCons (dNd rfl sS44.one) dlNil))) (dlCons (dNd rfl ⟨_, rfl⟩) dlNil)) (dTup' (dlCons (dAgg (dlCons (dNd rfl ⟨_, rfl, or24_0⟩) (dlCons (dNd rfl ⟨_, rfl, or24_1⟩) (dlCons (dNd rfl ⟨_, rfl, or24_2⟩) dlNil)))) (dlCons (dNd rfl ⟨_, rfl⟩) dlNil))) (fun H9 hk => (by rw [← hmr24]; exact k_impl_ResidualOf H9 ms hr S43 ((sS43.grew (hk.grew (Nat.le_refl _)))).toL (mx40 mxms) ks hrk S44 ((sS44.grew (hk.grew (Nat.le_refl _)))).toL (mx40 mxks) i))) (.cons (rule_call (args := [.agg [.flt .f32 r24_0, .flt .f32 r24_1, .flt .f32 r24_2], .agg [.flt .f32 r24_0, .flt .f32 r24_1, .flt .f32 r24_2]]) (dlCons (dAgg (dlCons (dNd rfl ⟨_, rfl, or24_0⟩) (dlCons (dNd rfl ⟨_, rfl, or24_1⟩) (dlCons (dNd rfl ⟨_, rfl, or24_2⟩) dlNil)))) (dlCons (dAgg (dlCons (dNd rfl ⟨_, rfl, or24_0⟩) (dlCons (dNd rfl ⟨_, rfl, or24_1⟩) (dlCons (dNd rfl ⟨_, rfl, or24_2⟩) dlNil)))) dlNil)) (dLit rfl) (fun H9 hk => k_eqPose [.flt .f32 r24_0, .flt .f32 r24_1, .flt .f32 r24_2] (.cons ⟨_, rfl, or24_0⟩ (.cons ⟨_, rfl, or24_1⟩ (.cons ⟨_, rfl, or24_2⟩ .nil))) H9)) .nil))
    · exact (envEq (put_ne rfl b33) (dAgg (dlCons (dNd rfl (slOne hS)) (dlCons (dNd rfl (slOne hSk)) dlNil))) (envEq (put_ne rfl b34) (dNd rfl ⟨_, rfl⟩) (envEq (put_ne rfl e27) (dPtr (l := p26) (o := 0) rfl) (envEq (put_ne rfl b35) (dNd rfl ⟨_, rfl⟩) (envEq (put_ne rfl b36) (dPtr (l := p6) (o := 0) rfl) (envEq put_same (dAgg (dlCons (dNd rfl sS43.one) (dlCons (dNd rfl sS44.one) dlNil))) envNil))))))
    refine all1 (by kernel_rfl) ?_
    intro vs ls H61 E61 st hE
    have b62 : E61 41 = .agg [S, Sk] := env_of st.inn hE 41 (by kernel_rfl)
    have b63 : E61 40 = .agg [S43, S44] := env_of st.inn hE 40 (by kernel_rfl)
    have g64 : Grew H42 H61 := (st.kept.grew (Nat.le_of_ble_eq_true (by kernel_rfl)))
    have g65 : Grew H H61 := Grew.trans g56 g64
    have r66 := g64.at r57
    have r67 := g64.at r58
    have s68 := s59.grew g64
    have s69 := s60.grew g64
    have s70 := sS43.grew g64
    have s71 := sS44.grew g64
    clear st hE vs ls
    refine res_kid (free := false) (d := (some 42)) (f := 22) (args := [.tmp 41]) (by kernel_rfl) (R := fun z H' => Grew H61 H' ∧ ∃ S0' S1', z = .agg [S0', S1'] ∧ SlW H' 3 ms S0' ∧ FreshS H61.next S0' ∧ SlW H' 6 ks S1' ∧ FreshS H61.next S1' ∧ ApartS S0' S1') ?_ ?_
    · show ACalls _ _ [E61 41] _ _
      rw [b62]
      exact k_toPoseGraph H61 ms hr S (hS.grew g65) mxms ks hrk Sk (hSk.grew g65) mxks
    rintro z H72 ⟨gH72, S73, S74, rfl, sS73, fS73, sS74, fS74, ap75⟩
    refine ⟨gH72, ?_⟩
    have ne76 : ApartS (S73) (S15) := fS73.apartS s68.lt
    have ne77 : ApartS (S73) (S16) := fS73.apartS s69.lt
    have ne78 : ApartS (S73) (S43) := fS73.apartS s70.lt
    have ne79 : ApartS (S73) (S44) := fS73.apartS s71.lt
    have fr80 : FreshS H.next (S73) := fS73.mono g65.next
    have ne81 : ApartS (S74) (S15) := fS74.apartS s68.lt
    have ne82 : ApartS (S74) (S16) := fS74.apartS s69.lt
    have ne83 : ApartS (S74) (S43) := fS74.apartS s70.lt
    have ne84 : ApartS (S74) (S44) := fS74.apartS s71.lt
    have fr85 : FreshS H.next (S74) := fS74.mono g65.next
    have g86 : Grew H H72 := Grew.trans g65 gH72
    have s87 := s68.grew gH72
    have s88 := s69.grew gH72
    have s89 := s70.grew gH72
    have s90 := s71.grew gH72
    refine run_mn (φ := φ0) (pm := pmR 0 [(.call 24 [.agg [.nd 10 .one, .nd 11 .one], .agg [.nd 12 .one, .nd 13 .one]], .lit (.bool true))] 0) 20 (nk := [(.atom 0, .one), (.atom 1, .one), (.atom 2, .int .i64), (.atom 3, .int .i64), (.atom 4, .one), (.atom 5, .one), (.atom 6, .flt .f32), (.atom 7, .flt .f32), (.atom 8, .flt .f32), (.atom 9, .int .i64), (.atom 10, .one), (.atom 11, .one), (.atom 12, .one), (.atom 13, .one)]) (fs := []) (xs := [S, Sk, .int .i64 i, .int .i64 q1, S15, S16, .flt .f32 r24_0, .flt .f32 r24_1, .flt .f32 r24_2, .int .i64 (resF ms ks i).2, S43, S44, S73, S74]) (ws := []) (env := [(41, .agg [.nd 0 .one, .nd 1 .one]), (40, .agg [.nd 10 .one, .nd 11 .one]), (42, .agg [.nd 12 .one, .nd 13 .one])]) ?_ ?_ tb_ok ap_ok ?_
    · refine midN_in ?_ .nil _ ?_ ?_ ?_
      · exact (.cons rfl (slOne hS) (.cons rfl (slOne hSk) (.cons rfl ⟨_, rfl⟩ (.cons rfl ⟨_, rfl⟩ (.cons rfl sS15.one (.cons rfl sS16.one (.cons rfl ⟨_, rfl, or24_0⟩ (.cons rfl ⟨_, rfl, or24_1⟩ (.cons rfl ⟨_, rfl, or24_2⟩ (.cons rfl ⟨_, rfl⟩ (.cons rfl sS43.one (.cons rfl sS44.one (.cons rfl sS73.one (.cons rfl sS74.one .nil))))))))))))))
      · exact .nil
      · exact sepOk_ro rfl
      · exact (.cons (rule_call (args := [.agg [S43, S44], .agg [S73, S74]]) (dlCons (dAgg (dlCons (dNd rfl sS43.one) (dlCons (dNd rfl sS44.one) dlNil))) (dlCons (dAgg (dlCons (dNd rfl sS73.one) (dlCons (dNd rfl sS74.one) dlNil))) dlNil)) (dLit rfl) (fun H9 hk => k_eqPoseGraph H9 ms hr S43 S73 ((s89.grew (hk.grew (Nat.le_refl _)))).toL ((sS73.grew (hk.grew (Nat.le_refl _)))).toL (mx40 mxms) ks hrk S44 S74 ((s90.grew (hk.grew (Nat.le_refl _)))).toL ((sS74.grew (hk.grew (Nat.le_refl _)))).toL (mx40 mxks))) .nil)
    · exact (envEq (put_ne rfl b62) (dAgg (dlCons (dNd rfl (slOne hS)) (dlCons (dNd rfl (slOne hSk)) dlNil))) (envEq (put_ne rfl b63) (dAgg (dlCons (dNd rfl sS43.one) (dlCons (dNd rfl sS44.one) dlNil))) (envEq put_same (dAgg (dlCons (dNd rfl sS73.one) (dlCons (dNd rfl sS74.one) dlNil))) envNil)))
    refine all1 (by kernel_rfl) ?_
    intro vs ls H91 E91 st hE
    exact res_ex (by kernel_rfl) (end_same st.inn hE (.inr rfl) (a := .bool true) (by kernel_rfl) (Nat.le_trans g86.next st.kept.1) rfl)
end Go.Proofs.Ytllgmcgdkhnilaa
