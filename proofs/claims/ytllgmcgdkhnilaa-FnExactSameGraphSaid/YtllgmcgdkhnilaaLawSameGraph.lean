/- The law of SameGraph, walked. -/
import Derived.Test.YtllgmcgdkhnilaaGraphW
import Derived.Test.YtllgmcgdkhnilaaGraphB
set_option linter.unusedVariables false
set_option linter.unusedSimpArgs false
namespace Go.Proofs.Ytllgmcgdkhnilaa
open Go.Ab
set_option maxRecDepth 100000
set_option maxHeartbeats 1000000
attribute [local irreducible] Res
theorem lawExactSameGraph (H : AHeap) (vs : List AV) (h : FitArgs H [(true, [.sl [.flt .f32, .flt .f32, .flt .f32], .sl [.int .i64, .int .i64, .flt .f32, .flt .f32, .flt .f32, .flt .f32]]), (true, [.sl [.flt .f32, .flt .f32, .flt .f32], .sl [.int .i64, .int .i64, .flt .f32, .flt .f32, .flt .f32, .flt .f32]])] vs) : ACalls Try.prog 5 vs H fun r _ => r = .bool true := by
  match vs, h with
  | [a, b], h =>
  obtain ⟨ms, S, ks, Sk, rfl, hr, hS, hmx, hrk, hSk, hmxk⟩ := graphArg h.1
  obtain ⟨ms', S', ks', Sk', rfl, hr', hS', hmx', hrk', hSk', hmxk'⟩ := graphArg h.2.1
  clear h
  refine res_start h_laws_FnExactSameGraph (by simp) ?_
  obtain ⟨q1, kq1, hq1⟩ : ∃ r : Int, (∀ H9, Grew H H9 → APure Try.prog 20 [.agg [S, Sk], .int .i64 1048576] H9 (.int .i64 r)) ∧ (r = -1 ∨ (0 ≤ r ∧ r = 1048576 - (ms.length : Int) - (ks.length : Int))) := ⟨_, fun H9 hk => k_szPoseGraph H9 ms S (hS.grew (Grew.trans (Grew.refl _) hk)) hmx ks Sk (hSk.grew (Grew.trans (Grew.refl _) hk)) hmxk 1048576 (by omega) (by omega), by split <;> (try split) <;> omega⟩
  obtain ⟨q2, kq2, hq2⟩ : ∃ r : Int, (∀ H9, Grew H H9 → APure Try.prog 20 [.agg [S', Sk'], .int .i64 q1] H9 (.int .i64 r)) ∧ (r = -1 ∨ (0 ≤ r ∧ r = q1 - (ms'.length : Int) - (ks'.length : Int))) := ⟨_, fun H9 hk => k_szPoseGraph H9 ms' S' (hS'.grew (Grew.trans (Grew.refl _) hk)) hmx' ks' Sk' (hSk'.grew (Grew.trans (Grew.refl _) hk)) hmxk' q1 (by omega) (by omega), by split <;> (try split) <;> omega⟩
  refine run_mn (φ := φ0) (pm := pmR 0 [(.call 20 [.agg [.nd 0 .one, .nd 1 .one], .lit (.int .i64 1048576)], .nd 4 (.int .i64)), (.call 20 [.agg [.nd 2 .one, .nd 3 .one], .nd 4 (.int .i64)], .nd 5 (.int .i64))] 0) 20 (nk := [(.atom 0, .one), (.atom 1, .one), (.atom 2, .one), (.atom 3, .one), (.atom 4, .int .i64), (.atom 5, .int .i64)]) (fs := []) (xs := [S, Sk, S', Sk', .int .i64 q1, .int .i64 q2]) (ws := []) (env := [(0, .agg [.nd 0 .one, .nd 1 .one]), (1, .agg [.nd 2 .one, .nd 3 .one])]) ?_ ?_ tb_ok ap_ok ?_
  · refine midN_in ?_ .nil _ ?_ ?_ ?_
    · exact (.cons rfl (slOne hS) (.cons rfl (slOne hSk) (.cons rfl (slOne hS') (.cons rfl (slOne hSk') (.cons rfl ⟨_, rfl⟩ (.cons rfl ⟨_, rfl⟩ .nil))))))
    · exact .nil
    · exact sepOk_ro rfl
    · exact (.cons (rule_call (args := [.agg [S, Sk], .int .i64 1048576]) (dlCons (dAgg (dlCons (dNd rfl (slOne hS)) (dlCons (dNd rfl (slOne hSk)) dlNil))) (dlCons (dLit rfl) dlNil)) (dNd rfl ⟨_, rfl⟩) (fun H9 hk => kq1 H9 (hk.grew (Nat.le_refl _)))) (.cons (rule_call (args := [.agg [S', Sk'], .int .i64 q1]) (dlCons (dAgg (dlCons (dNd rfl (slOne hS')) (dlCons (dNd rfl (slOne hSk')) dlNil))) (dlCons (dNd rfl ⟨_, rfl⟩) dlNil)) (dNd rfl ⟨_, rfl⟩) (fun H9 hk => kq2 H9 (hk.grew (Nat.le_refl _)))) .nil))
  · exact (envEq rfl (dAgg (dlCons (dNd rfl (slOne hS)) (dlCons (dNd rfl (slOne hSk)) dlNil))) (envEq rfl (dAgg (dlCons (dNd rfl (slOne hS')) (dlCons (dNd rfl (slOne hSk')) dlNil))) envNil))
  refine all3 (by kernel_rfl) ?_ ?_ ?_
  ·
    intro vs ls H3 E3 st hE
    have f4 : q1 < 0 := of_decide_eq_true (bfact (x := decide (q1 < 0)) st.inn 0 (by kernel_rfl))
    exact res_ex (by kernel_rfl) (end_same st.inn hE (.inr rfl) (a := .bool true) (by kernel_rfl) (Nat.le_trans (Nat.le_refl _) st.kept.1) rfl)
  ·
    intro vs ls H5 E5 st hE
    have f6 : q2 < 0 := of_decide_eq_true (bfact (x := decide (q2 < 0)) st.inn 0 (by kernel_rfl))
    have f7 : ¬ (q1 < 0) := of_decide_eq_false (bfact (x := decide (q1 < 0)) st.inn 1 (by kernel_rfl))
    have mxms : ms.length ≤ 1048576 := by omega
    have mxks : ks.length ≤ 1048576 := by omega
    exact res_ex (by kernel_rfl) (end_same st.inn hE (.inr rfl) (a := .bool true) (by kernel_rfl) (Nat.le_trans (Nat.le_refl _) st.kept.1) rfl)
  ·
    intro vs ls H8 E8 st hE
    have f9 : ¬ (q2 < 0) := of_decide_eq_false (bfact (x := decide (q2 < 0)) st.inn 0 (by kernel_rfl))
    have mxms' : ms'.length ≤ 1048576 := by omega
    have mxks' : ks'.length ≤ 1048576 := by omega
    have f10 : ¬ (q1 < 0) := of_decide_eq_false (bfact (x := decide (q1 < 0)) st.inn 1 (by kernel_rfl))
    have mxms : ms.length ≤ 1048576 := by omega
    have mxks : ks.length ≤ 1048576 := by omega
    obtain ⟨p11, e12, r13, n14⟩ := ptr_of st.inn hE 2 0 (by kernel_rfl) (ds := [S, Sk]) (by kernel_rfl)
    have op11 : H.next ≤ p11 := Nat.le_trans (Nat.le_refl _) (n14 (Nat.le_of_ble_eq_true rfl))
    obtain ⟨p15, e16, r17, n18⟩ := ptr_of st.inn hE 3 1 (by kernel_rfl) (ds := [S', Sk']) (by kernel_rfl)
    have op15 : H.next ≤ p15 := Nat.le_trans (Nat.le_refl _) (n18 (Nat.le_of_ble_eq_true rfl))
    have ne19 : Apart p11 p15 := ⟨ptr_ne st.inn hE 2 0 3 1 (by kernel_rfl) (by kernel_rfl) (cs := [.nd 0 .one, .nd 1 .one]) (by kernel_rfl) (by decide) e12 e16⟩
    have b20 : E8 20 = .agg [S, Sk] := env_of st.inn hE 20 (by kernel_rfl)
    have b21 : E8 22 = .agg [S', Sk'] := env_of st.inn hE 22 (by kernel_rfl)
    have g22 : Grew H H8 := (st.kept.grew (Nat.le_of_ble_eq_true (by kernel_rfl)))
    have g23 : Grew H H8 := Grew.trans (Grew.refl _) g22
    clear st hE vs ls
    refine res_kid (free := false) (d := (some 21)) (f := 22) (args := [.tmp 20]) (by kernel_rfl) (R := fun z H' => Grew H8 H' ∧ ∃ S0' S1', z = .agg [S0', S1'] ∧ SlW H' 3 ms S0' ∧ FreshS H8.next S0' ∧ SlW H' 6 ks S1' ∧ FreshS H8.next S1' ∧ ApartS S0' S1') ?_ ?_
    · show ACalls _ _ [E8 20] _ _
      rw [b20]
      exact k_toPoseGraph H8 ms hr S (hS.grew g23) mxms ks hrk Sk (hSk.grew g23) mxks
    rintro z H24 ⟨gH24, S25, S26, rfl, sS25, fS25, sS26, fS26, ap27⟩
    refine ⟨gH24, ?_⟩
    have ne28 : ApartL (S25) p11 := fS25.apartL (H8.lt_of_get r13)
    have ne29 : ApartL (S25) p15 := fS25.apartL (H8.lt_of_get r17)
    have fr30 : FreshS H.next (S25) := fS25.mono g23.next
    have ne31 : ApartL (S26) p11 := fS26.apartL (H8.lt_of_get r13)
    have ne32 : ApartL (S26) p15 := fS26.apartL (H8.lt_of_get r17)
    have fr33 : FreshS H.next (S26) := fS26.mono g23.next
    have g34 : Grew H H24 := Grew.trans g23 gH24
    have r35 := gH24.at r13
    have r36 := gH24.at r17
    refine run_mn (φ := φ0) (pm := pmR 2 [] 0) 20 (nk := [(.atom 0, .one), (.atom 1, .one), (.atom 2, .one), (.atom 3, .one), (.atom 4, .int .i64), (.atom 5, .int .i64), (.atom 6, .one), (.atom 7, .one)]) (fs := []) (xs := [S, Sk, S', Sk', .int .i64 q1, .int .i64 q2, S25, S26]) (ws := [⟨p11, 0, [.nd 0 .one, .nd 1 .one], false⟩, ⟨p15, 0, [.nd 2 .one, .nd 3 .one], false⟩]) (env := [(20, .agg [.nd 0 .one, .nd 1 .one]), (22, .agg [.nd 2 .one, .nd 3 .one]), (2, .ptr 0 0), (3, .ptr 1 0), (21, .agg [.nd 6 .one, .nd 7 .one])]) ?_ ?_ tb_ok ap_ok ?_
    · refine midN_in ?_ .nil _ ?_ ?_ ?_
      · exact (.cons rfl (slOne hS) (.cons rfl (slOne hSk) (.cons rfl (slOne hS') (.cons rfl (slOne hSk') (.cons rfl ⟨_, rfl⟩ (.cons rfl ⟨_, rfl⟩ (.cons rfl sS25.one (.cons rfl sS26.one .nil))))))))
      · exact (.cons (win_row r35 (dlCons (dNd rfl (slOne hS)) (dlCons (dNd rfl (slOne hSk)) dlNil))) (.cons (win_row r36 (dlCons (dNd rfl (slOne hS')) (dlCons (dNd rfl (slOne hSk')) dlNil))) .nil))
      · exact sepOk_ro rfl
      · exact .nil
    · exact (envEq (put_ne rfl b20) (dAgg (dlCons (dNd rfl (slOne hS)) (dlCons (dNd rfl (slOne hSk)) dlNil))) (envEq (put_ne rfl b21) (dAgg (dlCons (dNd rfl (slOne hS')) (dlCons (dNd rfl (slOne hSk')) dlNil))) (envEq (put_ne rfl e12) (dPtr (l := p11) (o := 0) rfl) (envEq (put_ne rfl e16) (dPtr (l := p15) (o := 0) rfl) (envEq put_same (dAgg (dlCons (dNd rfl sS25.one) (dlCons (dNd rfl sS26.one) dlNil))) envNil)))))
    refine all1 (by kernel_rfl) ?_
    intro vs ls H37 E37 st hE
    have b38 : E37 22 = .agg [S', Sk'] := env_of st.inn hE 22 (by kernel_rfl)
    have b39 : E37 21 = .agg [S25, S26] := env_of st.inn hE 21 (by kernel_rfl)
    have b40 : E37 2 = .ptr p11 0 := env_of st.inn hE 2 (by kernel_rfl)
    have b41 : E37 3 = .ptr p15 0 := env_of st.inn hE 3 (by kernel_rfl)
    have g42 : Grew H24 H37 := (st.kept.grew (Nat.le_of_ble_eq_true (by kernel_rfl)))
    have g43 : Grew H H37 := Grew.trans g34 g42
    have r44 := g42.at r35
    have r45 := g42.at r36
    have s46 := sS25.grew g42
    have s47 := sS26.grew g42
    clear st hE vs ls
    refine res_kid (free := false) (d := (some 23)) (f := 22) (args := [.tmp 22]) (by kernel_rfl) (R := fun z H' => Grew H37 H' ∧ ∃ S0' S1', z = .agg [S0', S1'] ∧ SlW H' 3 ms' S0' ∧ FreshS H37.next S0' ∧ SlW H' 6 ks' S1' ∧ FreshS H37.next S1' ∧ ApartS S0' S1') ?_ ?_
    · show ACalls _ _ [E37 22] _ _
      rw [b38]
      exact k_toPoseGraph H37 ms' hr' S' (hS'.grew g43) mxms' ks' hrk' Sk' (hSk'.grew g43) mxks'
    rintro z H48 ⟨gH48, S49, S50, rfl, sS49, fS49, sS50, fS50, ap51⟩
    refine ⟨gH48, ?_⟩
    have ne52 : ApartL (S49) p11 := fS49.apartL (H37.lt_of_get r44)
    have ne53 : ApartL (S49) p15 := fS49.apartL (H37.lt_of_get r45)
    have ne54 : ApartS (S49) (S25) := fS49.apartS s46.lt
    have ne55 : ApartS (S49) (S26) := fS49.apartS s47.lt
    have fr56 : FreshS H.next (S49) := fS49.mono g43.next
    have ne57 : ApartL (S50) p11 := fS50.apartL (H37.lt_of_get r44)
    have ne58 : ApartL (S50) p15 := fS50.apartL (H37.lt_of_get r45)
    have ne59 : ApartS (S50) (S25) := fS50.apartS s46.lt
    have ne60 : ApartS (S50) (S26) := fS50.apartS s47.lt
    have fr61 : FreshS H.next (S50) := fS50.mono g43.next
    have g62 : Grew H H48 := Grew.trans g43 gH48
    have r63 := gH48.at r44
    have r64 := gH48.at r45
    have s65 := s46.grew gH48
    have s66 := s47.grew gH48
    refine run_mn (φ := φ0) (pm := pmR 2 [(.call 21 [.agg [.nd 6 .one, .nd 7 .one], .agg [.nd 8 .one, .nd 9 .one]], .nd 10 .bool)] 0) 20 (nk := [(.atom 0, .one), (.atom 1, .one), (.atom 2, .one), (.atom 3, .one), (.atom 4, .int .i64), (.atom 5, .int .i64), (.atom 6, .one), (.atom 7, .one), (.atom 8, .one), (.atom 9, .one), (.atom 10, .bool)]) (fs := []) (xs := [S, Sk, S', Sk', .int .i64 q1, .int .i64 q2, S25, S26, S49, S50, .bool (sameL sameP ms ms' && sameL sameK ks ks')]) (ws := [⟨p11, 0, [.nd 0 .one, .nd 1 .one], false⟩, ⟨p15, 0, [.nd 2 .one, .nd 3 .one], false⟩]) (env := [(22, .agg [.nd 2 .one, .nd 3 .one]), (21, .agg [.nd 6 .one, .nd 7 .one]), (2, .ptr 0 0), (3, .ptr 1 0), (23, .agg [.nd 8 .one, .nd 9 .one])]) ?_ ?_ tb_ok ap_ok ?_
    · refine midN_in ?_ .nil _ ?_ ?_ ?_
      · exact (.cons rfl (slOne hS) (.cons rfl (slOne hSk) (.cons rfl (slOne hS') (.cons rfl (slOne hSk') (.cons rfl ⟨_, rfl⟩ (.cons rfl ⟨_, rfl⟩ (.cons rfl sS25.one (.cons rfl sS26.one (.cons rfl sS49.one (.cons rfl sS50.one (.cons rfl ⟨_, rfl⟩ .nil)))))))))))
      · exact (.cons (win_row r63 (dlCons (dNd rfl (slOne hS)) (dlCons (dNd rfl (slOne hSk)) dlNil))) (.cons (win_row r64 (dlCons (dNd rfl (slOne hS')) (dlCons (dNd rfl (slOne hSk')) dlNil))) .nil))
      · exact sepOk_ro rfl
      · exact (.cons (rule_call (args := [.agg [S25, S26], .agg [S49, S50]]) (dlCons (dAgg (dlCons (dNd rfl sS25.one) (dlCons (dNd rfl sS26.one) dlNil))) (dlCons (dAgg (dlCons (dNd rfl sS49.one) (dlCons (dNd rfl sS50.one) dlNil))) dlNil)) (dNd rfl ⟨_, rfl⟩) (fun H9 hk => k_spec_SameGraph H9 ms hr S25 ((s65.grew (hk.grew (Nat.le_refl _)))).toL (mx40 mxms) ks hrk S26 ((s66.grew (hk.grew (Nat.le_refl _)))).toL (mx40 mxks) ms' hr' S49 ((sS49.grew (hk.grew (Nat.le_refl _)))).toL (mx40 mxms') ks' hrk' S50 ((sS50.grew (hk.grew (Nat.le_refl _)))).toL (mx40 mxks'))) .nil)
    · exact (envEq (put_ne rfl b38) (dAgg (dlCons (dNd rfl (slOne hS')) (dlCons (dNd rfl (slOne hSk')) dlNil))) (envEq (put_ne rfl b39) (dAgg (dlCons (dNd rfl sS25.one) (dlCons (dNd rfl sS26.one) dlNil))) (envEq (put_ne rfl b40) (dPtr (l := p11) (o := 0) rfl) (envEq (put_ne rfl b41) (dPtr (l := p15) (o := 0) rfl) (envEq put_same (dAgg (dlCons (dNd rfl sS49.one) (dlCons (dNd rfl sS50.one) dlNil))) envNil)))))
    refine all1 (by kernel_rfl) ?_
    intro vs ls H67 E67 st hE
    have b68 : E67 25 = .agg [S, Sk] := env_of st.inn hE 25 (by kernel_rfl)
    have b69 : E67 3 = .ptr p15 0 := env_of st.inn hE 3 (by kernel_rfl)
    have b70 : E67 6 = .bool (sameL sameP ms ms' && sameL sameK ks ks') := env_of st.inn hE 6 (by kernel_rfl)
    have b71 : E67 2 = .ptr p11 0 := env_of st.inn hE 2 (by kernel_rfl)
    have g72 : Grew H48 H67 := (st.kept.grew (Nat.le_of_ble_eq_true (by kernel_rfl)))
    have g73 : Grew H H67 := Grew.trans g62 g72
    have r74 := g72.at r63
    have r75 := g72.at r64
    have s76 := s65.grew g72
    have s77 := s66.grew g72
    have s78 := sS49.grew g72
    have s79 := sS50.grew g72
    clear st hE vs ls
    refine res_call (d := (some 26)) (f := 22) (args := [.tmp 25]) (by kernel_rfl) (R := fun z H' => Grew H67 H' ∧ ∃ S0' S1', z = .agg [S0', S1'] ∧ SlW H' 3 ms S0' ∧ FreshS H67.next S0' ∧ SlW H' 6 ks S1' ∧ FreshS H67.next S1' ∧ ApartS S0' S1') ?_ ?_
    · show ACalls _ _ [E67 25] _ _
      rw [b68]
      exact k_toPoseGraph H67 ms hr S (hS.grew g73) mxms ks hrk Sk (hSk.grew g73) mxks
    rintro z H80 ⟨gH80, S81, S82, rfl, sS81, fS81, sS82, fS82, ap83⟩
    have ne84 : ApartL (S81) p11 := fS81.apartL (H67.lt_of_get r74)
    have ne85 : ApartL (S81) p15 := fS81.apartL (H67.lt_of_get r75)
    have ne86 : ApartS (S81) (S25) := fS81.apartS s76.lt
    have ne87 : ApartS (S81) (S26) := fS81.apartS s77.lt
    have ne88 : ApartS (S81) (S49) := fS81.apartS s78.lt
    have ne89 : ApartS (S81) (S50) := fS81.apartS s79.lt
    have fr90 : FreshS H.next (S81) := fS81.mono g73.next
    have ne91 : ApartL (S82) p11 := fS82.apartL (H67.lt_of_get r74)
    have ne92 : ApartL (S82) p15 := fS82.apartL (H67.lt_of_get r75)
    have ne93 : ApartS (S82) (S25) := fS82.apartS s76.lt
    have ne94 : ApartS (S82) (S26) := fS82.apartS s77.lt
    have ne95 : ApartS (S82) (S49) := fS82.apartS s78.lt
    have ne96 : ApartS (S82) (S50) := fS82.apartS s79.lt
    have fr97 : FreshS H.next (S82) := fS82.mono g73.next
    have g98 : Grew H H80 := Grew.trans g73 gH80
    have r99 := gH80.at r74
    have r100 := gH80.at r75
    have s101 := s76.grew gH80
    have s102 := s77.grew gH80
    have s103 := s78.grew gH80
    have s104 := s79.grew gH80
    refine run_mn (φ := φ0) (pm := pmR 2 [] 0) 20 (nk := [(.atom 0, .one), (.atom 1, .one), (.atom 2, .one), (.atom 3, .one), (.atom 4, .int .i64), (.atom 5, .int .i64), (.atom 6, .one), (.atom 7, .one), (.atom 8, .one), (.atom 9, .one), (.atom 10, .bool), (.atom 11, .one), (.atom 12, .one)]) (fs := []) (xs := [S, Sk, S', Sk', .int .i64 q1, .int .i64 q2, S25, S26, S49, S50, .bool (sameL sameP ms ms' && sameL sameK ks ks'), S81, S82]) (ws := [⟨p11, 0, [.nd 0 .one, .nd 1 .one], false⟩, ⟨p15, 0, [.nd 2 .one, .nd 3 .one], false⟩]) (env := [(25, .agg [.nd 0 .one, .nd 1 .one]), (3, .ptr 1 0), (6, .nd 10 .bool), (2, .ptr 0 0), (26, .agg [.nd 11 .one, .nd 12 .one])]) ?_ ?_ tb_ok ap_ok ?_
    · refine midN_in ?_ .nil _ ?_ ?_ ?_
      · exact (.cons rfl (slOne hS) (.cons rfl (slOne hSk) (.cons rfl (slOne hS') (.cons rfl (slOne hSk') (.cons rfl ⟨_, rfl⟩ (.cons rfl ⟨_, rfl⟩ (.cons rfl sS25.one (.cons rfl sS26.one (.cons rfl sS49.one (.cons rfl sS50.one (.cons rfl ⟨_, rfl⟩ (.cons rfl sS81.one (.cons rfl sS82.one .nil)))))))))))))
      · exact (.cons (win_row r99 (dlCons (dNd rfl (slOne hS)) (dlCons (dNd rfl (slOne hSk)) dlNil))) (.cons (win_row r100 (dlCons (dNd rfl (slOne hS')) (dlCons (dNd rfl (slOne hSk')) dlNil))) .nil))
      · exact sepOk_ro rfl
      · exact .nil
    · exact (envEq (put_ne rfl b68) (dAgg (dlCons (dNd rfl (slOne hS)) (dlCons (dNd rfl (slOne hSk)) dlNil))) (envEq (put_ne rfl b69) (dPtr (l := p15) (o := 0) rfl) (envEq (put_ne rfl b70) (dNd rfl ⟨_, rfl⟩) (envEq (put_ne rfl b71) (dPtr (l := p11) (o := 0) rfl) (envEq put_same (dAgg (dlCons (dNd rfl sS81.one) (dlCons (dNd rfl sS82.one) dlNil))) envNil)))))
    refine all1 (by kernel_rfl) ?_
    intro vs ls H105 E105 st hE
    obtain ⟨p106, e107, r108, n109⟩ := ptr_of st.inn hE 7 2 (by kernel_rfl) (ds := [S81, S82]) (by kernel_rfl)
    have op106 : H.next ≤ p106 := Nat.le_trans g98.next (n109 (Nat.le_of_ble_eq_true rfl))
    have ne110 : Apart p106 p11 := ⟨Nat.ne_of_gt (Nat.lt_of_lt_of_le (H80.lt_of_get r99) (n109 (Nat.le_of_ble_eq_true rfl)))⟩
    have ne111 : Apart p106 p15 := ⟨Nat.ne_of_gt (Nat.lt_of_lt_of_le (H80.lt_of_get r100) (n109 (Nat.le_of_ble_eq_true rfl)))⟩
    have ne112 : ApartL (S25) p106 := s101.apart_new (n109 (Nat.le_of_ble_eq_true rfl))
    have ne113 : ApartL (S26) p106 := s102.apart_new (n109 (Nat.le_of_ble_eq_true rfl))
    have ne114 : ApartL (S49) p106 := s103.apart_new (n109 (Nat.le_of_ble_eq_true rfl))
    have ne115 : ApartL (S50) p106 := s104.apart_new (n109 (Nat.le_of_ble_eq_true rfl))
    have ne116 : ApartL (S81) p106 := sS81.apart_new (n109 (Nat.le_of_ble_eq_true rfl))
    have ne117 : ApartL (S82) p106 := sS82.apart_new (n109 (Nat.le_of_ble_eq_true rfl))
    have b118 : E105 27 = .agg [S', Sk'] := env_of st.inn hE 27 (by kernel_rfl)
    have b119 : E105 6 = .bool (sameL sameP ms ms' && sameL sameK ks ks') := env_of st.inn hE 6 (by kernel_rfl)
    have b120 : E105 2 = .ptr p11 0 := env_of st.inn hE 2 (by kernel_rfl)
    have b121 : E105 3 = .ptr p15 0 := env_of st.inn hE 3 (by kernel_rfl)
    have g122 : Grew H80 H105 := (st.kept.grew (Nat.le_of_ble_eq_true (by kernel_rfl)))
    have g123 : Grew H H105 := Grew.trans g98 g122
    have r124 := g122.at r99
    have r125 := g122.at r100
    have s126 := s101.grew g122
    have s127 := s102.grew g122
    have s128 := s103.grew g122
    have s129 := s104.grew g122
    have s130 := sS81.grew g122
    have s131 := sS82.grew g122
    clear st hE vs ls
    refine res_call (d := (some 28)) (f := 22) (args := [.tmp 27]) (by kernel_rfl) (R := fun z H' => Grew H105 H' ∧ ∃ S0' S1', z = .agg [S0', S1'] ∧ SlW H' 3 ms' S0' ∧ FreshS H105.next S0' ∧ SlW H' 6 ks' S1' ∧ FreshS H105.next S1' ∧ ApartS S0' S1') ?_ ?_
    · show ACalls _ _ [E105 27] _ _
      rw [b118]
      exact k_toPoseGraph H105 ms' hr' S' (hS'.grew g123) mxms' ks' hrk' Sk' (hSk'.grew g123) mxks'
    rintro z H132 ⟨gH132, S133, S134, rfl, sS133, fS133, sS134, fS134, ap135⟩
    have ne136 : ApartL (S133) p11 := fS133.apartL (H105.lt_of_get r124)
    have ne137 : ApartL (S133) p15 := fS133.apartL (H105.lt_of_get r125)
    have ne138 : ApartL (S133) p106 := fS133.apartL (H105.lt_of_get r108)
    have ne139 : ApartS (S133) (S25) := fS133.apartS s126.lt
    have ne140 : ApartS (S133) (S26) := fS133.apartS s127.lt
    have ne141 : ApartS (S133) (S49) := fS133.apartS s128.lt
    have ne142 : ApartS (S133) (S50) := fS133.apartS s129.lt
    have ne143 : ApartS (S133) (S81) := fS133.apartS s130.lt
    have ne144 : ApartS (S133) (S82) := fS133.apartS s131.lt
    have fr145 : FreshS H.next (S133) := fS133.mono g123.next
    have ne146 : ApartL (S134) p11 := fS134.apartL (H105.lt_of_get r124)
    have ne147 : ApartL (S134) p15 := fS134.apartL (H105.lt_of_get r125)
    have ne148 : ApartL (S134) p106 := fS134.apartL (H105.lt_of_get r108)
    have ne149 : ApartS (S134) (S25) := fS134.apartS s126.lt
    have ne150 : ApartS (S134) (S26) := fS134.apartS s127.lt
    have ne151 : ApartS (S134) (S49) := fS134.apartS s128.lt
    have ne152 : ApartS (S134) (S50) := fS134.apartS s129.lt
    have ne153 : ApartS (S134) (S81) := fS134.apartS s130.lt
    have ne154 : ApartS (S134) (S82) := fS134.apartS s131.lt
    have fr155 : FreshS H.next (S134) := fS134.mono g123.next
    have g156 : Grew H H132 := Grew.trans g123 gH132
    have r157 := gH132.at r124
    have r158 := gH132.at r125
    have r159 := gH132.at r108
    have s160 := s126.grew gH132
    have s161 := s127.grew gH132
    have s162 := s128.grew gH132
    have s163 := s129.grew gH132
    have s164 := s130.grew gH132
    have s165 := s131.grew gH132
    refine run_mn (φ := φ0) (pm := pmR 3 [(.call 23 [.agg [.nd 11 .one, .nd 12 .one], .agg [.nd 13 .one, .nd 14 .one]], .nd 10 .bool)] 0) 20 (nk := [(.atom 0, .one), (.atom 1, .one), (.atom 2, .one), (.atom 3, .one), (.atom 4, .int .i64), (.atom 5, .int .i64), (.atom 6, .one), (.atom 7, .one), (.atom 8, .one), (.atom 9, .one), (.atom 10, .bool), (.atom 11, .one), (.atom 12, .one), (.atom 13, .one), (.atom 14, .one)]) (fs := []) (xs := [S, Sk, S', Sk', .int .i64 q1, .int .i64 q2, S25, S26, S49, S50, .bool (sameL sameP ms ms' && sameL sameK ks ks'), S81, S82, S133, S134]) (ws := [⟨p11, 0, [.nd 0 .one, .nd 1 .one], false⟩, ⟨p15, 0, [.nd 2 .one, .nd 3 .one], false⟩, ⟨p106, 0, [.nd 11 .one, .nd 12 .one], false⟩]) (env := [(27, .agg [.nd 2 .one, .nd 3 .one]), (7, .ptr 2 0), (6, .nd 10 .bool), (2, .ptr 0 0), (3, .ptr 1 0), (28, .agg [.nd 13 .one, .nd 14 .one])]) ?_ ?_ tb_ok ap_ok ?_
    · refine midN_in ?_ .nil _ ?_ ?_ ?_
      · exact (.cons rfl (slOne hS) (.cons rfl (slOne hSk) (.cons rfl (slOne hS') (.cons rfl (slOne hSk') (.cons rfl ⟨_, rfl⟩ (.cons rfl ⟨_, rfl⟩ (.cons rfl sS25.one (.cons rfl sS26.one (.cons rfl sS49.one (.cons rfl sS50.one (.cons rfl ⟨_, rfl⟩ (.cons rfl sS81.one (.cons rfl sS82.one (.cons rfl sS133.one (.cons rfl sS134.one .nil)))))))))))))))
      · exact (.cons (win_row r157 (dlCons (dNd rfl (slOne hS)) (dlCons (dNd rfl (slOne hSk)) dlNil))) (.cons (win_row r158 (dlCons (dNd rfl (slOne hS')) (dlCons (dNd rfl (slOne hSk')) dlNil))) (.cons (win_row r159 (dlCons (dNd rfl sS81.one) (dlCons (dNd rfl sS82.one) dlNil))) .nil)))
      · exact sepOk_ro rfl
      · exact (.cons (rule_call (args := [.agg [S81, S82], .agg [S133, S134]]) (dlCons (dAgg (dlCons (dNd rfl sS81.one) (dlCons (dNd rfl sS82.one) dlNil))) (dlCons (dAgg (dlCons (dNd rfl sS133.one) (dlCons (dNd rfl sS134.one) dlNil))) dlNil)) (dNd rfl ⟨_, rfl⟩) (fun H9 hk => k_impl_SameGraph H9 ms hr S81 ((s164.grew (hk.grew (Nat.le_refl _)))).toL (mx40 mxms) ks hrk S82 ((s165.grew (hk.grew (Nat.le_refl _)))).toL (mx40 mxks) ms' hr' S133 ((sS133.grew (hk.grew (Nat.le_refl _)))).toL (mx40 mxms') ks' hrk' S134 ((sS134.grew (hk.grew (Nat.le_refl _)))).toL (mx40 mxks'))) .nil)
    · exact (envEq (put_ne rfl b118) (dAgg (dlCons (dNd rfl (slOne hS')) (dlCons (dNd rfl (slOne hSk')) dlNil))) (envEq (put_ne rfl e107) (dPtr (l := p106) (o := 0) rfl) (envEq (put_ne rfl b119) (dNd rfl ⟨_, rfl⟩) (envEq (put_ne rfl b120) (dPtr (l := p11) (o := 0) rfl) (envEq (put_ne rfl b121) (dPtr (l := p15) (o := 0) rfl) (envEq put_same (dAgg (dlCons (dNd rfl sS133.one) (dlCons (dNd rfl sS134.one) dlNil))) envNil))))))
    refine all1 (by kernel_rfl) ?_
    intro vs ls H166 E166 st hE
    obtain ⟨p167, e168, r169, n170⟩ := ptr_of st.inn hE 8 3 (by kernel_rfl) (ds := [S133, S134]) (by kernel_rfl)
    have op167 : H.next ≤ p167 := Nat.le_trans g156.next (n170 (Nat.le_of_ble_eq_true rfl))
    have ne171 : Apart p167 p11 := ⟨Nat.ne_of_gt (Nat.lt_of_lt_of_le (H132.lt_of_get r157) (n170 (Nat.le_of_ble_eq_true rfl)))⟩
    have ne172 : Apart p167 p15 := ⟨Nat.ne_of_gt (Nat.lt_of_lt_of_le (H132.lt_of_get r158) (n170 (Nat.le_of_ble_eq_true rfl)))⟩
    have ne173 : Apart p167 p106 := ⟨Nat.ne_of_gt (Nat.lt_of_lt_of_le (H132.lt_of_get r159) (n170 (Nat.le_of_ble_eq_true rfl)))⟩
    have ne174 : ApartL (S25) p167 := s160.apart_new (n170 (Nat.le_of_ble_eq_true rfl))
    have ne175 : ApartL (S26) p167 := s161.apart_new (n170 (Nat.le_of_ble_eq_true rfl))
    have ne176 : ApartL (S49) p167 := s162.apart_new (n170 (Nat.le_of_ble_eq_true rfl))
    have ne177 : ApartL (S50) p167 := s163.apart_new (n170 (Nat.le_of_ble_eq_true rfl))
    have ne178 : ApartL (S81) p167 := s164.apart_new (n170 (Nat.le_of_ble_eq_true rfl))
    have ne179 : ApartL (S82) p167 := s165.apart_new (n170 (Nat.le_of_ble_eq_true rfl))
    have ne180 : ApartL (S133) p167 := sS133.apart_new (n170 (Nat.le_of_ble_eq_true rfl))
    have ne181 : ApartL (S134) p167 := sS134.apart_new (n170 (Nat.le_of_ble_eq_true rfl))
    have b182 : E166 36 = .agg [S, Sk] := env_of st.inn hE 36 (by kernel_rfl)
    have b183 : E166 35 = .agg [S81, S82] := env_of st.inn hE 35 (by kernel_rfl)
    have b184 : E166 3 = .ptr p15 0 := env_of st.inn hE 3 (by kernel_rfl)
    have g185 : Grew H132 H166 := (st.kept.grew (Nat.le_of_ble_eq_true (by kernel_rfl)))
    have g186 : Grew H H166 := Grew.trans g156 g185
    have r187 := g185.at r157
    have r188 := g185.at r158
    have r189 := g185.at r159
    have s190 := s160.grew g185
    have s191 := s161.grew g185
    have s192 := s162.grew g185
    have s193 := s163.grew g185
    have s194 := s164.grew g185
    have s195 := s165.grew g185
    have s196 := sS133.grew g185
    have s197 := sS134.grew g185
    clear st hE vs ls
    refine res_kid (free := false) (d := (some 37)) (f := 22) (args := [.tmp 36]) (by kernel_rfl) (R := fun z H' => Grew H166 H' ∧ ∃ S0' S1', z = .agg [S0', S1'] ∧ SlW H' 3 ms S0' ∧ FreshS H166.next S0' ∧ SlW H' 6 ks S1' ∧ FreshS H166.next S1' ∧ ApartS S0' S1') ?_ ?_
    · show ACalls _ _ [E166 36] _ _
      rw [b182]
      exact k_toPoseGraph H166 ms hr S (hS.grew g186) mxms ks hrk Sk (hSk.grew g186) mxks
    rintro z H198 ⟨gH198, S199, S200, rfl, sS199, fS199, sS200, fS200, ap201⟩
    refine ⟨gH198, ?_⟩
    have ne202 : ApartL (S199) p15 := fS199.apartL (H166.lt_of_get r188)
    have ne203 : ApartL (S199) p167 := fS199.apartL (H166.lt_of_get r169)
    have ne204 : ApartS (S199) (S25) := fS199.apartS s190.lt
    have ne205 : ApartS (S199) (S26) := fS199.apartS s191.lt
    have ne206 : ApartS (S199) (S49) := fS199.apartS s192.lt
    have ne207 : ApartS (S199) (S50) := fS199.apartS s193.lt
    have ne208 : ApartS (S199) (S81) := fS199.apartS s194.lt
    have ne209 : ApartS (S199) (S82) := fS199.apartS s195.lt
    have ne210 : ApartS (S199) (S133) := fS199.apartS s196.lt
    have ne211 : ApartS (S199) (S134) := fS199.apartS s197.lt
    have fr212 : FreshS H.next (S199) := fS199.mono g186.next
    have ne213 : ApartL (S200) p15 := fS200.apartL (H166.lt_of_get r188)
    have ne214 : ApartL (S200) p167 := fS200.apartL (H166.lt_of_get r169)
    have ne215 : ApartS (S200) (S25) := fS200.apartS s190.lt
    have ne216 : ApartS (S200) (S26) := fS200.apartS s191.lt
    have ne217 : ApartS (S200) (S49) := fS200.apartS s192.lt
    have ne218 : ApartS (S200) (S50) := fS200.apartS s193.lt
    have ne219 : ApartS (S200) (S81) := fS200.apartS s194.lt
    have ne220 : ApartS (S200) (S82) := fS200.apartS s195.lt
    have ne221 : ApartS (S200) (S133) := fS200.apartS s196.lt
    have ne222 : ApartS (S200) (S134) := fS200.apartS s197.lt
    have fr223 : FreshS H.next (S200) := fS200.mono g186.next
    have g224 : Grew H H198 := Grew.trans g186 gH198
    have r225 := gH198.at r188
    have r226 := gH198.at r169
    have s227 := s190.grew gH198
    have s228 := s191.grew gH198
    have s229 := s192.grew gH198
    have s230 := s193.grew gH198
    have s231 := s194.grew gH198
    have s232 := s195.grew gH198
    have s233 := s196.grew gH198
    have s234 := s197.grew gH198
    refine run_mn (φ := φ0) (pm := pmR 2 [(.call 24 [.agg [.nd 11 .one, .nd 12 .one], .agg [.nd 15 .one, .nd 16 .one]], .lit (.bool true))] 0) 20 (nk := [(.atom 0, .one), (.atom 1, .one), (.atom 2, .one), (.atom 3, .one), (.atom 4, .int .i64), (.atom 5, .int .i64), (.atom 6, .one), (.atom 7, .one), (.atom 8, .one), (.atom 9, .one), (.atom 10, .bool), (.atom 11, .one), (.atom 12, .one), (.atom 13, .one), (.atom 14, .one), (.atom 15, .one), (.atom 16, .one)]) (fs := []) (xs := [S, Sk, S', Sk', .int .i64 q1, .int .i64 q2, S25, S26, S49, S50, .bool (sameL sameP ms ms' && sameL sameK ks ks'), S81, S82, S133, S134, S199, S200]) (ws := [⟨p15, 0, [.nd 2 .one, .nd 3 .one], false⟩, ⟨p167, 0, [.nd 13 .one, .nd 14 .one], false⟩]) (env := [(36, .agg [.nd 0 .one, .nd 1 .one]), (35, .agg [.nd 11 .one, .nd 12 .one]), (8, .ptr 1 0), (3, .ptr 0 0), (37, .agg [.nd 15 .one, .nd 16 .one])]) ?_ ?_ tb_ok ap_ok ?_
    · refine midN_in ?_ .nil _ ?_ ?_ ?_
      · exact (.cons rfl (slOne hS) (.cons rfl (slOne hSk) (.cons rfl (slOne hS') (.cons rfl (slOne hSk') (.cons rfl ⟨_, rfl⟩ (.cons rfl ⟨_, rfl⟩ (.cons rfl sS25.one (.cons rfl sS26.one (.cons rfl sS49.one (.cons rfl sS50.one (.cons rfl ⟨_, rfl⟩ (.cons rfl sS81.one (.cons rfl sS82.one (.cons rfl sS133.one (.cons rfl sS134.one (.cons rfl sS199.one (.cons rfl sS200.one .nil)))))))))))))))))
      · exact (.cons (win_row r225 (dlCons (dNd rfl (slOne hS')) (dlCons (dNd rfl (slOne hSk')) dlNil))) (.cons (win_row r226 (dlCons (dNd rfl sS133.one) (dlCons (dNd rfl sS134.one) dlNil))) .nil))
      · exact sepOk_ro rfl
      · exact (.cons (rule_call (args := [.agg [S81, S82], .agg [S199, S200]]) (dlCons (dAgg (dlCons (dNd rfl sS81.one) (dlCons (dNd rfl sS82.one) dlNil))) (dlCons (dAgg (dlCons (dNd rfl sS199.one) (dlCons (dNd rfl sS200.one) dlNil))) dlNil)) (dLit rfl) (fun H9 hk => k_eqPoseGraph H9 ms hr S81 S199 ((s231.grew (hk.grew (Nat.le_refl _)))).toL ((sS199.grew (hk.grew (Nat.le_refl _)))).toL (mx40 mxms) ks hrk S82 S200 ((s232.grew (hk.grew (Nat.le_refl _)))).toL ((sS200.grew (hk.grew (Nat.le_refl _)))).toL (mx40 mxks))) .nil)
    · exact (envEq (put_ne rfl b182) (dAgg (dlCons (dNd rfl (slOne hS)) (dlCons (dNd rfl (slOne hSk)) dlNil))) (envEq (put_ne rfl b183) (dAgg (dlCons (dNd rfl sS81.one) (dlCons (dNd rfl sS82.one) dlNil))) (envEq (put_ne rfl e168) (dPtr (l := p167) (o := 0) rfl) (envEq (put_ne rfl b184) (dPtr (l := p15) (o := 0) rfl) (envEq put_same (dAgg (dlCons (dNd rfl sS199.one) (dlCons (dNd rfl sS200.one) dlNil))) envNil)))))
    refine all1 (by kernel_rfl) ?_
    intro vs ls H235 E235 st hE
    have b236 : E235 41 = .agg [S', Sk'] := env_of st.inn hE 41 (by kernel_rfl)
    have b237 : E235 40 = .agg [S133, S134] := env_of st.inn hE 40 (by kernel_rfl)
    have g238 : Grew H198 H235 := (st.kept.grew (Nat.le_of_ble_eq_true (by kernel_rfl)))
    have g239 : Grew H H235 := Grew.trans g224 g238
    have r240 := g238.at r225
    have r241 := g238.at r226
    have s242 := s227.grew g238
    have s243 := s228.grew g238
    have s244 := s229.grew g238
    have s245 := s230.grew g238
    have s246 := s231.grew g238
    have s247 := s232.grew g238
    have s248 := s233.grew g238
    have s249 := s234.grew g238
    have s250 := sS199.grew g238
    have s251 := sS200.grew g238
    clear st hE vs ls
    refine res_kid (free := false) (d := (some 42)) (f := 22) (args := [.tmp 41]) (by kernel_rfl) (R := fun z H' => Grew H235 H' ∧ ∃ S0' S1', z = .agg [S0', S1'] ∧ SlW H' 3 ms' S0' ∧ FreshS H235.next S0' ∧ SlW H' 6 ks' S1' ∧ FreshS H235.next S1' ∧ ApartS S0' S1') ?_ ?_
    · show ACalls _ _ [E235 41] _ _
      rw [b236]
      exact k_toPoseGraph H235 ms' hr' S' (hS'.grew g239) mxms' ks' hrk' Sk' (hSk'.grew g239) mxks'
    rintro z H252 ⟨gH252, S253, S254, rfl, sS253, fS253, sS254, fS254, ap255⟩
    refine ⟨gH252, ?_⟩
    have ne256 : ApartS (S253) (S25) := fS253.apartS s242.lt
    have ne257 : ApartS (S253) (S26) := fS253.apartS s243.lt
    have ne258 : ApartS (S253) (S49) := fS253.apartS s244.lt
    have ne259 : ApartS (S253) (S50) := fS253.apartS s245.lt
    have ne260 : ApartS (S253) (S81) := fS253.apartS s246.lt
    have ne261 : ApartS (S253) (S82) := fS253.apartS s247.lt
    have ne262 : ApartS (S253) (S133) := fS253.apartS s248.lt
    have ne263 : ApartS (S253) (S134) := fS253.apartS s249.lt
    have ne264 : ApartS (S253) (S199) := fS253.apartS s250.lt
    have ne265 : ApartS (S253) (S200) := fS253.apartS s251.lt
    have fr266 : FreshS H.next (S253) := fS253.mono g239.next
    have ne267 : ApartS (S254) (S25) := fS254.apartS s242.lt
    have ne268 : ApartS (S254) (S26) := fS254.apartS s243.lt
    have ne269 : ApartS (S254) (S49) := fS254.apartS s244.lt
    have ne270 : ApartS (S254) (S50) := fS254.apartS s245.lt
    have ne271 : ApartS (S254) (S81) := fS254.apartS s246.lt
    have ne272 : ApartS (S254) (S82) := fS254.apartS s247.lt
    have ne273 : ApartS (S254) (S133) := fS254.apartS s248.lt
    have ne274 : ApartS (S254) (S134) := fS254.apartS s249.lt
    have ne275 : ApartS (S254) (S199) := fS254.apartS s250.lt
    have ne276 : ApartS (S254) (S200) := fS254.apartS s251.lt
    have fr277 : FreshS H.next (S254) := fS254.mono g239.next
    have g278 : Grew H H252 := Grew.trans g239 gH252
    have s279 := s242.grew gH252
    have s280 := s243.grew gH252
    have s281 := s244.grew gH252
    have s282 := s245.grew gH252
    have s283 := s246.grew gH252
    have s284 := s247.grew gH252
    have s285 := s248.grew gH252
    have s286 := s249.grew gH252
    have s287 := s250.grew gH252
    have s288 := s251.grew gH252
    refine run_mn (φ := φ0) (pm := pmR 0 [(.call 24 [.agg [.nd 13 .one, .nd 14 .one], .agg [.nd 17 .one, .nd 18 .one]], .lit (.bool true))] 0) 20 (nk := [(.atom 0, .one), (.atom 1, .one), (.atom 2, .one), (.atom 3, .one), (.atom 4, .int .i64), (.atom 5, .int .i64), (.atom 6, .one), (.atom 7, .one), (.atom 8, .one), (.atom 9, .one), (.atom 10, .bool), (.atom 11, .one), (.atom 12, .one), (.atom 13, .one), (.atom 14, .one), (.atom 15, .one), (.atom 16, .one), (.atom 17, .one), (.atom 18, .one)]) (fs := []) (xs := [S, Sk, S', Sk', .int .i64 q1, .int .i64 q2, S25, S26, S49, S50, .bool (sameL sameP ms ms' && sameL sameK ks ks'), S81, S82, S133, S134, S199, S200, S253, S254]) (ws := []) (env := [(41, .agg [.nd 2 .one, .nd 3 .one]), (40, .agg [.nd 13 .one, .nd 14 .one]), (42, .agg [.nd 17 .one, .nd 18 .one])]) ?_ ?_ tb_ok ap_ok ?_
    · refine midN_in ?_ .nil _ ?_ ?_ ?_
      · exact (.cons rfl (slOne hS) (.cons rfl (slOne hSk) (.cons rfl (slOne hS') (.cons rfl (slOne hSk') (.cons rfl ⟨_, rfl⟩ (.cons rfl ⟨_, rfl⟩ (.cons rfl sS25.one (.cons rfl sS26.one (.cons rfl sS49.one (.cons rfl sS50.one (.cons rfl ⟨_, rfl⟩ (.cons rfl sS81.one (.cons rfl sS82.one (.cons rfl sS133.one (.cons rfl sS134.one (.cons rfl sS199.one (.cons rfl sS200.one (.cons rfl sS253.one (.cons rfl sS254.one .nil)))))))))))))))))))
      · exact .nil
      · exact sepOk_ro rfl
      · exact (.cons (rule_call (args := [.agg [S133, S134], .agg [S253, S254]]) (dlCons (dAgg (dlCons (dNd rfl sS133.one) (dlCons (dNd rfl sS134.one) dlNil))) (dlCons (dAgg (dlCons (dNd rfl sS253.one) (dlCons (dNd rfl sS254.one) dlNil))) dlNil)) (dLit rfl) (fun H9 hk => k_eqPoseGraph H9 ms' hr' S133 S253 ((s285.grew (hk.grew (Nat.le_refl _)))).toL ((sS253.grew (hk.grew (Nat.le_refl _)))).toL (mx40 mxms') ks' hrk' S134 S254 ((s286.grew (hk.grew (Nat.le_refl _)))).toL ((sS254.grew (hk.grew (Nat.le_refl _)))).toL (mx40 mxks'))) .nil)
    · exact (envEq (put_ne rfl b236) (dAgg (dlCons (dNd rfl (slOne hS')) (dlCons (dNd rfl (slOne hSk')) dlNil))) (envEq (put_ne rfl b237) (dAgg (dlCons (dNd rfl sS133.one) (dlCons (dNd rfl sS134.one) dlNil))) (envEq put_same (dAgg (dlCons (dNd rfl sS253.one) (dlCons (dNd rfl sS254.one) dlNil))) envNil)))
    refine all1 (by kernel_rfl) ?_
    intro vs ls H289 E289 st hE
    exact res_ex (by kernel_rfl) (end_same st.inn hE (.inr rfl) (a := .bool true) (by kernel_rfl) (Nat.le_trans g278.next st.kept.1) rfl)
end Go.Proofs.Ytllgmcgdkhnilaa
