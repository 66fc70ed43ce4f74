/- The law of SameGrid, walked. -/
import Derived.Test.YtnleibiniajbnaaGridB
set_option linter.unusedVariables false
set_option linter.unusedSimpArgs false
namespace Go.Proofs.Ytnleibiniajbnaa
open Go.Ab
set_option maxRecDepth 100000
set_option maxHeartbeats 1000000
attribute [local irreducible] Res
theorem gridArg {H : AHeap} {a : AV} (h : FitArg H (true, [.int .i64, .int .i64, .sl [.int .u8]]) a) : ∃ (x y : Int) (ms : List (List AV)) (S : AV), a = .agg [.int .i64 x, .int .i64 y, S] ∧ RngB ms ∧ SlL H 1 ms S ∧ ms.length ≤ 9223372036854775807 := by
  obtain ⟨cs, rfl, hl, hc⟩ := h
  match cs, hl with
  | [c0, c1, c2], _ =>
    have h0 := hc 0 _ _ rfl rfl
    have h1 := hc 1 _ _ rfl rfl
    have h2 := hc 2 _ _ rfl rfl
    cases h0; cases h1

    refine ⟨_, _, _, c2, rfl, (slArgB h2).choose_spec.1, (slArgB h2).choose_spec.2.1, (slArgB h2).choose_spec.2.2⟩
open Classical in
theorem lawExactSameGrid (H : AHeap) (vs : List AV) (h : FitArgs H [(true, [.int .i64, .int .i64, .sl [.int .u8]]), (true, [.int .i64, .int .i64, .sl [.int .u8]])] vs) : ACalls Try.prog 5 vs H fun r _ => r = .bool true := by
  match vs, h with
  | [a, b], h =>
  obtain ⟨x, y, ms, S, rfl, hg, hS, hmx⟩ := gridArg h.1
  obtain ⟨x', y', ms', S', rfl, hg', hS', hmx'⟩ := gridArg h.2.1
  clear h
  refine res_start h_laws_FnExactSameGrid (by simp) ?_
  obtain ⟨q1, kq1, hq1⟩ : ∃ r : Int, (∀ H9, Grew H H9 → APure Try.prog 13 [.agg [.int .i64 x, .int .i64 y, S], .int .i64 1048576] H9 (.int .i64 r)) ∧ (r = -1 ∨ (0 ≤ r ∧ r = 1048576 - (ms.length : Int))) := ⟨_, fun H9 hk => k_szGrid H9 x y ms S (hS.grew (Grew.trans (Grew.refl _) hk)) hmx 1048576 (by omega) (by omega), by split <;> omega⟩
  obtain ⟨q2, kq2, hq2⟩ : ∃ r : Int, (∀ H9, Grew H H9 → APure Try.prog 13 [.agg [.int .i64 x', .int .i64 y', S'], .int .i64 q1] H9 (.int .i64 r)) ∧ (r = -1 ∨ (0 ≤ r ∧ r = q1 - (ms'.length : Int))) := ⟨_, fun H9 hk => k_szGrid H9 x' y' ms' S' (hS'.grew (Grew.trans (Grew.refl _) hk)) hmx' q1 (by omega) (by omega), by split <;> omega⟩
  refine run_mn (φ := φ0) (pm := pmR 0 [(.call 13 [.agg [.nd 1 (.int .i64), .nd 2 (.int .i64), .nd 0 .one], .lit (.int .i64 1048576)], .nd 6 (.int .i64)), (.call 13 [.agg [.nd 4 (.int .i64), .nd 5 (.int .i64), .nd 3 .one], .nd 6 (.int .i64)], .nd 7 (.int .i64))] 0) 20 (nk := [(.atom 0, .one), (.atom 1, .int .i64), (.atom 2, .int .i64), (.atom 3, .one), (.atom 4, .int .i64), (.atom 5, .int .i64), (.atom 6, .int .i64), (.atom 7, .int .i64)]) (fs := []) (xs := [S, .int .i64 x, .int .i64 y, S', .int .i64 x', .int .i64 y', .int .i64 q1, .int .i64 q2]) (ws := []) (env := [(0, .agg [.nd 1 (.int .i64), .nd 2 (.int .i64), .nd 0 .one]), (1, .agg [.nd 4 (.int .i64), .nd 5 (.int .i64), .nd 3 .one])]) ?_ ?_ tb_ok ap_ok ?_
  · refine midN_in ?_ .nil _ ?_ ?_ ?_
    · exact (.cons rfl (slOne hS) (.cons rfl ⟨_, rfl⟩ (.cons rfl ⟨_, rfl⟩ (.cons rfl (slOne hS') (.cons rfl ⟨_, rfl⟩ (.cons rfl ⟨_, rfl⟩ (.cons rfl ⟨_, rfl⟩ (.cons rfl ⟨_, rfl⟩ .nil))))))))
    · exact .nil
    · exact sepOk_ro rfl
    · exact (.cons (rule_call (args := [.agg [.int .i64 x, .int .i64 y, S], .int .i64 1048576]) (dlCons (dAgg (dlCons (dNd rfl ⟨_, rfl⟩) (dlCons (dNd rfl ⟨_, rfl⟩) (dlCons (dNd rfl (slOne hS)) dlNil)))) (dlCons (dLit rfl) dlNil)) (dNd rfl ⟨_, rfl⟩) (fun H9 hk => kq1 H9 (hk.grew (Nat.le_refl _)))) (.cons (rule_call (args := [.agg [.int .i64 x', .int .i64 y', S'], .int .i64 q1]) (dlCons (dAgg (dlCons (dNd rfl ⟨_, rfl⟩) (dlCons (dNd rfl ⟨_, rfl⟩) (dlCons (dNd rfl (slOne hS')) dlNil)))) (dlCons (dNd rfl ⟨_, rfl⟩) dlNil)) (dNd rfl ⟨_, rfl⟩) (fun H9 hk => kq2 H9 (hk.grew (Nat.le_refl _)))) .nil))
  · exact (envEq rfl (dAgg (dlCons (dNd rfl ⟨_, rfl⟩) (dlCons (dNd rfl ⟨_, rfl⟩) (dlCons (dNd rfl (slOne hS)) dlNil)))) (envEq rfl (dAgg (dlCons (dNd rfl ⟨_, rfl⟩) (dlCons (dNd rfl ⟨_, rfl⟩) (dlCons (dNd rfl (slOne hS')) dlNil)))) envNil))
  refine all3 (by kernel_rfl) ?_ ?_ ?_
  ·
    intro vs ls H3 E3 st hE
    have f4 : q1 < 0 := of_decide_eq_true (bfact (x := decide (q1 < 0)) st.inn 0 (by kernel_rfl))
    exact res_ex (by kernel_rfl) (end_same st.inn hE (.inr rfl) (a := .bool true) (by kernel_rfl) (Nat.le_trans (Nat.le_refl _) st.kept.1) rfl)
  ·
    intro vs ls H5 E5 st hE
    have f6 : q2 < 0 := of_decide_eq_true (bfact (x := decide (q2 < 0)) st.inn 0 (by kernel_rfl))
    have f7 : ¬ (q1 < 0) := of_decide_eq_false (bfact (x := decide (q1 < 0)) st.inn 1 (by kernel_rfl))
    have mxms : ms.length ≤ 1048576 := by omega
    exact res_ex (by kernel_rfl) (end_same st.inn hE (.inr rfl) (a := .bool true) (by kernel_rfl) (Nat.le_trans (Nat.le_refl _) st.kept.1) rfl)
  ·
    intro vs ls H8 E8 st hE
    have f9 : ¬ (q2 < 0) := of_decide_eq_false (bfact (x := decide (q2 < 0)) st.inn 0 (by kernel_rfl))
    have mxms' : ms'.length ≤ 1048576 := by omega
    have f10 : ¬ (q1 < 0) := of_decide_eq_false (bfact (x := decide (q1 < 0)) st.inn 1 (by kernel_rfl))
    have mxms : ms.length ≤ 1048576 := by omega
    obtain ⟨p11, e12, r13, n14⟩ := ptr_of st.inn hE 2 0 (by kernel_rfl) (ds := [.int .i64 x, .int .i64 y, S]) (by kernel_rfl)
    have op11 : H.next ≤ p11 := Nat.le_trans (Nat.le_refl _) (n14 (Nat.le_of_ble_eq_true rfl))
    obtain ⟨p15, e16, r17, n18⟩ := ptr_of st.inn hE 3 1 (by kernel_rfl) (ds := [.int .i64 x', .int .i64 y', S']) (by kernel_rfl)
    have op15 : H.next ≤ p15 := Nat.le_trans (Nat.le_refl _) (n18 (Nat.le_of_ble_eq_true rfl))
    have ne19 : Apart p11 p15 := ⟨ptr_ne st.inn hE 2 0 3 1 (by kernel_rfl) (by kernel_rfl) (cs := [.nd 1 (.int .i64), .nd 2 (.int .i64), .nd 0 .one]) (by kernel_rfl) (by decide) e12 e16⟩
    have b20 : E8 20 = .agg [.int .i64 x, .int .i64 y, S] := env_of st.inn hE 20 (by kernel_rfl)
    have b21 : E8 22 = .agg [.int .i64 x', .int .i64 y', S'] := env_of st.inn hE 22 (by kernel_rfl)
    have g22 : Grew H H8 := (st.kept.grew (Nat.le_of_ble_eq_true (by kernel_rfl)))
    have g23 : Grew H H8 := Grew.trans (Grew.refl _) g22
    clear st hE vs ls
    refine res_kid (free := false) (d := (some 21)) (f := 15) (args := [.tmp 20]) (by kernel_rfl) (R := fun z H' => Grew H8 H' ∧ ∃ S', z = .agg [.int .i64 x, .int .i64 y, S'] ∧ SlW H' 1 ms S' ∧ FreshS H8.next S') ?_ ?_
    · show ACalls _ _ [E8 20] _ _
      rw [b20]
      exact k_toGrid H8 x y ms hg.recs S (hS.grew g23) mxms
    rintro z H24 ⟨gH24, S25, rfl, sS25, fS25⟩
    refine ⟨gH24, ?_⟩
    have ne26 : ApartL (S25) p11 := fS25.apartL (H8.lt_of_get r13)
    have ne27 : ApartL (S25) p15 := fS25.apartL (H8.lt_of_get r17)
    have fr28 : FreshS H.next (S25) := fS25.mono g23.next
    have g29 : Grew H H24 := Grew.trans g23 gH24
    have r30 := gH24.at r13
    have r31 := gH24.at r17
    refine run_mn (φ := φ0) (pm := pmR 2 [] 0) 20 (nk := [(.atom 0, .one), (.atom 1, .int .i64), (.atom 2, .int .i64), (.atom 3, .one), (.atom 4, .int .i64), (.atom 5, .int .i64), (.atom 6, .int .i64), (.atom 7, .int .i64), (.atom 8, .one)]) (fs := []) (xs := [S, .int .i64 x, .int .i64 y, S', .int .i64 x', .int .i64 y', .int .i64 q1, .int .i64 q2, S25]) (ws := [⟨p11, 0, [.nd 1 (.int .i64), .nd 2 (.int .i64), .nd 0 .one], false⟩, ⟨p15, 0, [.nd 4 (.int .i64), .nd 5 (.int .i64), .nd 3 .one], false⟩]) (env := [(20, .agg [.nd 1 (.int .i64), .nd 2 (.int .i64), .nd 0 .one]), (22, .agg [.nd 4 (.int .i64), .nd 5 (.int .i64), .nd 3 .one]), (2, .ptr 0 0), (3, .ptr 1 0), (21, .agg [.nd 1 (.int .i64), .nd 2 (.int .i64), .nd 8 .one])]) ?_ ?_ tb_ok ap_ok ?_
    · refine midN_in ?_ .nil _ ?_ ?_ ?_
      · exact (.cons rfl (slOne hS) (.cons rfl ⟨_, rfl⟩ (.cons rfl ⟨_, rfl⟩ (.cons rfl (slOne hS') (.cons rfl ⟨_, rfl⟩ (.cons rfl ⟨_, rfl⟩ (.cons rfl ⟨_, rfl⟩ (.cons rfl ⟨_, rfl⟩ (.cons rfl sS25.one .nil)))))))))
      · exact (.cons (win_row r30 (dlCons (dNd rfl ⟨_, rfl⟩) (dlCons (dNd rfl ⟨_, rfl⟩) (dlCons (dNd rfl (slOne hS)) dlNil)))) (.cons (win_row r31 (dlCons (dNd rfl ⟨_, rfl⟩) (dlCons (dNd rfl ⟨_, rfl⟩) (dlCons (dNd rfl (slOne hS')) dlNil)))) .nil))
      · exact sepOk_ro rfl
      · exact .nil
    · exact (envEq (put_ne rfl b20) (dAgg (dlCons (dNd rfl ⟨_, rfl⟩) (dlCons (dNd rfl ⟨_, rfl⟩) (dlCons (dNd rfl (slOne hS)) dlNil)))) (envEq (put_ne rfl b21) (dAgg (dlCons (dNd rfl ⟨_, rfl⟩) (dlCons (dNd rfl ⟨_, rfl⟩) (dlCons (dNd rfl (slOne hS')) dlNil)))) (envEq (put_ne rfl e12) (dPtr (l := p11) (o := 0) rfl) (envEq (put_ne rfl e16) (dPtr (l := p15) (o := 0) rfl) (envEq put_same (dAgg (dlCons (dNd rfl ⟨_, rfl⟩) (dlCons (dNd rfl ⟨_, rfl⟩) (dlCons (dNd rfl sS25.one) dlNil)))) envNil)))))
    refine all1 (by kernel_rfl) ?_
    intro vs ls H32 E32 st hE
    have b33 : E32 22 = .agg [.int .i64 x', .int .i64 y', S'] := env_of st.inn hE 22 (by kernel_rfl)
    have b34 : E32 21 = .agg [.int .i64 x, .int .i64 y, S25] := env_of st.inn hE 21 (by kernel_rfl)
    have b35 : E32 2 = .ptr p11 0 := env_of st.inn hE 2 (by kernel_rfl)
    have b36 : E32 3 = .ptr p15 0 := env_of st.inn hE 3 (by kernel_rfl)
    have g37 : Grew H24 H32 := (st.kept.grew (Nat.le_of_ble_eq_true (by kernel_rfl)))
    have g38 : Grew H H32 := Grew.trans g29 g37
    have r39 := g37.at r30
    have r40 := g37.at r31
    have s41 := sS25.grew g37
    clear st hE vs ls
    refine res_kid (free := false) (d := (some 23)) (f := 15) (args := [.tmp 22]) (by kernel_rfl) (R := fun z H' => Grew H32 H' ∧ ∃ S', z = .agg [.int .i64 x', .int .i64 y', S'] ∧ SlW H' 1 ms' S' ∧ FreshS H32.next S') ?_ ?_
    · show ACalls _ _ [E32 22] _ _
      rw [b33]
      exact k_toGrid H32 x' y' ms' hg'.recs S' (hS'.grew g38) mxms'
    rintro z H42 ⟨gH42, S43, rfl, sS43, fS43⟩
    refine ⟨gH42, ?_⟩
    have ne44 : ApartL (S43) p11 := fS43.apartL (H32.lt_of_get r39)
    have ne45 : ApartL (S43) p15 := fS43.apartL (H32.lt_of_get r40)
    have ne46 : ApartS (S43) (S25) := fS43.apartS s41.lt
    have fr47 : FreshS H.next (S43) := fS43.mono g38.next
    have g48 : Grew H H42 := Grew.trans g38 gH42
    have r49 := gH42.at r39
    have r50 := gH42.at r40
    have s51 := s41.grew gH42
    refine run_mn (φ := φ0) (pm := pmR 2 [(.call 22 [.agg [.nd 1 (.int .i64), .nd 2 (.int .i64), .nd 8 .one], .agg [.nd 4 (.int .i64), .nd 5 (.int .i64), .nd 9 .one]], .nd 10 .bool)] 0) 20 (nk := [(.atom 0, .one), (.atom 1, .int .i64), (.atom 2, .int .i64), (.atom 3, .one), (.atom 4, .int .i64), (.atom 5, .int .i64), (.atom 6, .int .i64), (.atom 7, .int .i64), (.atom 8, .one), (.atom 9, .one), (.atom 10, .bool)]) (fs := []) (xs := [S, .int .i64 x, .int .i64 y, S', .int .i64 x', .int .i64 y', .int .i64 q1, .int .i64 q2, S25, S43, .bool (decide (x = x') && (decide (y = y') && decide (ms = ms')))]) (ws := [⟨p11, 0, [.nd 1 (.int .i64), .nd 2 (.int .i64), .nd 0 .one], false⟩, ⟨p15, 0, [.nd 4 (.int .i64), .nd 5 (.int .i64), .nd 3 .one], false⟩]) (env := [(22, .agg [.nd 4 (.int .i64), .nd 5 (.int .i64), .nd 3 .one]), (21, .agg [.nd 1 (.int .i64), .nd 2 (.int .i64), .nd 8 .one]), (2, .ptr 0 0), (3, .ptr 1 0), (23, .agg [.nd 4 (.int .i64), .nd 5 (.int .i64), .nd 9 .one])]) ?_ ?_ tb_ok ap_ok ?_
    · refine midN_in ?_ .nil _ ?_ ?_ ?_
      · exact (.cons rfl (slOne hS) (.cons rfl ⟨_, rfl⟩ (.cons rfl ⟨_, rfl⟩ (.cons rfl (slOne hS') (.cons rfl ⟨_, rfl⟩ (.cons rfl ⟨_, rfl⟩ (.cons rfl ⟨_, rfl⟩ (.cons rfl ⟨_, rfl⟩ (.cons rfl sS25.one (.cons rfl sS43.one (.cons rfl ⟨_, rfl⟩ .nil)))))))))))
      · exact (.cons (win_row r49 (dlCons (dNd rfl ⟨_, rfl⟩) (dlCons (dNd rfl ⟨_, rfl⟩) (dlCons (dNd rfl (slOne hS)) dlNil)))) (.cons (win_row r50 (dlCons (dNd rfl ⟨_, rfl⟩) (dlCons (dNd rfl ⟨_, rfl⟩) (dlCons (dNd rfl (slOne hS')) dlNil)))) .nil))
      · exact sepOk_ro rfl
      · exact (.cons (rule_call (args := [.agg [.int .i64 x, .int .i64 y, S25], .agg [.int .i64 x', .int .i64 y', S43]]) (dlCons (dAgg (dlCons (dNd rfl ⟨_, rfl⟩) (dlCons (dNd rfl ⟨_, rfl⟩) (dlCons (dNd rfl sS25.one) dlNil)))) (dlCons (dAgg (dlCons (dNd rfl ⟨_, rfl⟩) (dlCons (dNd rfl ⟨_, rfl⟩) (dlCons (dNd rfl sS43.one) dlNil)))) dlNil)) (dNd rfl ⟨_, rfl⟩) (fun H9 hk => k_spec_SameGrid H9 x y x' y' ms ms' hg hg' S25 S43 ((s51.grew (hk.grew (Nat.le_refl _)))).toL ((sS43.grew (hk.grew (Nat.le_refl _)))).toL (mx40 mxms))) .nil)
    · exact (envEq (put_ne rfl b33) (dAgg (dlCons (dNd rfl ⟨_, rfl⟩) (dlCons (dNd rfl ⟨_, rfl⟩) (dlCons (dNd rfl (slOne hS')) dlNil)))) (envEq (put_ne rfl b34) (dAgg (dlCons (dNd rfl ⟨_, rfl⟩) (dlCons (dNd rfl ⟨_, rfl⟩) (dlCons (dNd rfl sS25.one) dlNil)))) (envEq (put_ne rfl b35) (dPtr (l := p11) (o := 0) rfl) (envEq (put_ne rfl b36) (dPtr (l := p15) (o := 0) rfl) (envEq put_same (dAgg (dlCons (dNd rfl ⟨_, rfl⟩) (dlCons (dNd rfl ⟨_, rfl⟩) (dlCons (dNd rfl sS43.one) dlNil)))) envNil)))))
    refine all1 (by kernel_rfl) ?_
    intro vs ls H52 E52 st hE
    have b53 : E52 25 = .agg [.int .i64 x, .int .i64 y, S] := env_of st.inn hE 25 (by kernel_rfl)
    have b54 : E52 3 = .ptr p15 0 := env_of st.inn hE 3 (by kernel_rfl)
    have b55 : E52 6 = .bool (decide (x = x') && (decide (y = y') && decide (ms = ms'))) := env_of st.inn hE 6 (by kernel_rfl)
    have b56 : E52 2 = .ptr p11 0 := env_of st.inn hE 2 (by kernel_rfl)
    have g57 : Grew H42 H52 := (st.kept.grew (Nat.le_of_ble_eq_true (by kernel_rfl)))
    have g58 : Grew H H52 := Grew.trans g48 g57
    have r59 := g57.at r49
    have r60 := g57.at r50
    have s61 := s51.grew g57
    have s62 := sS43.grew g57
    clear st hE vs ls
    refine res_call (d := (some 26)) (f := 15) (args := [.tmp 25]) (by kernel_rfl) (R := fun z H' => Grew H52 H' ∧ ∃ S', z = .agg [.int .i64 x, .int .i64 y, S'] ∧ SlW H' 1 ms S' ∧ FreshS H52.next S') ?_ ?_
    · show ACalls _ _ [E52 25] _ _
      rw [b53]
      exact k_toGrid H52 x y ms hg.recs S (hS.grew g58) mxms
    rintro z H63 ⟨gH63, S64, rfl, sS64, fS64⟩
    have ne65 : ApartL (S64) p11 := fS64.apartL (H52.lt_of_get r59)
    have ne66 : ApartL (S64) p15 := fS64.apartL (H52.lt_of_get r60)
    have ne67 : ApartS (S64) (S25) := fS64.apartS s61.lt
    have ne68 : ApartS (S64) (S43) := fS64.apartS s62.lt
    have fr69 : FreshS H.next (S64) := fS64.mono g58.next
    have g70 : Grew H H63 := Grew.trans g58 gH63
    have r71 := gH63.at r59
    have r72 := gH63.at r60
    have s73 := s61.grew gH63
    have s74 := s62.grew gH63
    refine run_mn (φ := φ0) (pm := pmR 2 [] 0) 20 (nk := [(.atom 0, .one), (.atom 1, .int .i64), (.atom 2, .int .i64), (.atom 3, .one), (.atom 4, .int .i64), (.atom 5, .int .i64), (.atom 6, .int .i64), (.atom 7, .int .i64), (.atom 8, .one), (.atom 9, .one), (.atom 10, .bool), (.atom 11, .one)]) (fs := []) (xs := [S, .int .i64 x, .int .i64 y, S', .int .i64 x', .int .i64 y', .int .i64 q1, .int .i64 q2, S25, S43, .bool (decide (x = x') && (decide (y = y') && decide (ms = ms'))), S64]) (ws := [⟨p11, 0, [.nd 1 (.int .i64), .nd 2 (.int .i64), .nd 0 .one], false⟩, ⟨p15, 0, [.nd 4 (.int .i64), .nd 5 (.int .i64), .nd 3 .one], false⟩]) (env := [(25, .agg [.nd 1 (.int .i64), .nd 2 (.int .i64), .nd 0 .one]), (3, .ptr 1 0), (6, .nd 10 .bool), (2, .ptr 0 0), (26, .agg [.nd 1 (.int .i64), .nd 2 (.int .i64), .nd 11 .one])]) ?_ ?_ tb_ok ap_ok ?_
    · refine midN_in ?_ .nil _ ?_ ?_ ?_
      · exact (.cons rfl (slOne hS) (.cons rfl ⟨_, rfl⟩ (.cons rfl ⟨_, rfl⟩ (.cons rfl (slOne hS') (.cons rfl ⟨_, rfl⟩ (.cons rfl ⟨_, rfl⟩ (.cons rfl ⟨_, rfl⟩ (.cons rfl ⟨_, rfl⟩ (.cons rfl sS25.one (.cons rfl sS43.one (.cons rfl ⟨_, rfl⟩ (.cons rfl sS64.one .nil))))))))))))
      · exact (.cons (win_row r71 (dlCons (dNd rfl ⟨_, rfl⟩) (dlCons (dNd rfl ⟨_, rfl⟩) (dlCons (dNd rfl (slOne hS)) dlNil)))) (.cons (win_row r72 (dlCons (dNd rfl ⟨_, rfl⟩) (dlCons (dNd rfl ⟨_, rfl⟩) (dlCons (dNd rfl (slOne hS')) dlNil)))) .nil))
      · exact sepOk_ro rfl
      · exact .nil
    · exact (envEq (put_ne rfl b53) (dAgg (dlCons (dNd rfl ⟨_, rfl⟩) (dlCons (dNd rfl ⟨_, rfl⟩) (dlCons (dNd rfl (slOne hS)) dlNil)))) (envEq (put_ne rfl b54) (dPtr (l := p15) (o := 0) rfl) (envEq (put_ne rfl b55) (dNd rfl ⟨_, rfl⟩) (envEq (put_ne rfl b56) (dPtr (l := p11) (o := 0) rfl) (envEq put_same (dAgg (dlCons (dNd rfl ⟨_, rfl⟩) (dlCons (dNd rfl ⟨_, rfl⟩) (dlCons (dNd rfl sS64.one) dlNil)))) envNil)))))
    refine all1 (by kernel_rfl) ?_
    intro vs ls H75 E75 st hE
    obtain ⟨p76, e77, r78, n79⟩ := ptr_of st.inn hE 7 2 (by kernel_rfl) (ds := [.int .i64 x, .int .i64 y, S64]) (by kernel_rfl)
    have op76 : H.next ≤ p76 := Nat.le_trans g70.next (n79 (Nat.le_of_ble_eq_true rfl))
    have ne80 : Apart p76 p11 := ⟨Nat.ne_of_gt (Nat.lt_of_lt_of_le (H63.lt_of_get r71) (n79 (Nat.le_of_ble_eq_true rfl)))⟩
    have ne81 : Apart p76 p15 := ⟨Nat.ne_of_gt (Nat.lt_of_lt_of_le (H63.lt_of_get r72) (n79 (Nat.le_of_ble_eq_true rfl)))⟩
    have ne82 : ApartL (S25) p76 := s73.apart_new (n79 (Nat.le_of_ble_eq_true rfl))
    have ne83 : ApartL (S43) p76 := s74.apart_new (n79 (Nat.le_of_ble_eq_true rfl))
    have ne84 : ApartL (S64) p76 := sS64.apart_new (n79 (Nat.le_of_ble_eq_true rfl))
    have b85 : E75 27 = .agg [.int .i64 x', .int .i64 y', S'] := env_of st.inn hE 27 (by kernel_rfl)
    have b86 : E75 6 = .bool (decide (x = x') && (decide (y = y') && decide (ms = ms'))) := env_of st.inn hE 6 (by kernel_rfl)
    have b87 : E75 2 = .ptr p11 0 := env_of st.inn hE 2 (by kernel_rfl)
    have b88 : E75 3 = .ptr p15 0 := env_of st.inn hE 3 (by kernel_rfl)
    have g89 : Grew H63 H75 := (st.kept.grew (Nat.le_of_ble_eq_true (by kernel_rfl)))
    have g90 : Grew H H75 := Grew.trans g70 g89
    have r91 := g89.at r71
    have r92 := g89.at r72
    have s93 := s73.grew g89
    have s94 := s74.grew g89
    have s95 := sS64.grew g89
    clear st hE vs ls
    refine res_call (d := (some 28)) (f := 15) (args := [.tmp 27]) (by kernel_rfl) (R := fun z H' => Grew H75 H' ∧ ∃ S', z = .agg [.int .i64 x', .int .i64 y', S'] ∧ SlW H' 1 ms' S' ∧ FreshS H75.next S') ?_ ?_
    · show ACalls _ _ [E75 27] _ _
      rw [b85]
      exact k_toGrid H75 x' y' ms' hg'.recs S' (hS'.grew g90) mxms'
    rintro z H96 ⟨gH96, S97, rfl, sS97, fS97⟩
    have ne98 : ApartL (S97) p11 := fS97.apartL (H75.lt_of_get r91)
    have ne99 : ApartL (S97) p15 := fS97.apartL (H75.lt_of_get r92)
    have ne100 : ApartL (S97) p76 := fS97.apartL (H75.lt_of_get r78)
    have ne101 : ApartS (S97) (S25) := fS97.apartS s93.lt
    have ne102 : ApartS (S97) (S43) := fS97.apartS s94.lt
    have ne103 : ApartS (S97) (S64) := fS97.apartS s95.lt
    have fr104 : FreshS H.next (S97) := fS97.mono g90.next
    have g105 : Grew H H96 := Grew.trans g90 gH96
    have r106 := gH96.at r91
    have r107 := gH96.at r92
    have r108 := gH96.at r78
    have s109 := s93.grew gH96
    have s110 := s94.grew gH96
    have s111 := s95.grew gH96
    refine run_mn (φ := φ0) (pm := pmR 3 [(.call 23 [.agg [.nd 1 (.int .i64), .nd 2 (.int .i64), .nd 11 .one], .agg [.nd 4 (.int .i64), .nd 5 (.int .i64), .nd 12 .one]], .nd 10 .bool)] 0) 20 (nk := [(.atom 0, .one), (.atom 1, .int .i64), (.atom 2, .int .i64), (.atom 3, .one), (.atom 4, .int .i64), (.atom 5, .int .i64), (.atom 6, .int .i64), (.atom 7, .int .i64), (.atom 8, .one), (.atom 9, .one), (.atom 10, .bool), (.atom 11, .one), (.atom 12, .one)]) (fs := []) (xs := [S, .int .i64 x, .int .i64 y, S', .int .i64 x', .int .i64 y', .int .i64 q1, .int .i64 q2, S25, S43, .bool (decide (x = x') && (decide (y = y') && decide (ms = ms'))), S64, S97]) (ws := [⟨p11, 0, [.nd 1 (.int .i64), .nd 2 (.int .i64), .nd 0 .one], false⟩, ⟨p15, 0, [.nd 4 (.int .i64), .nd 5 (.int .i64), .nd 3 .one], false⟩, ⟨p76, 0, [.nd 1 (.int .i64), .nd 2 (.int .i64), .nd 11 .one], false⟩]) (env := [(27, .agg [.nd 4 (.int .i64), .nd 5 (.int .i64), .nd 3 .one]), (7, .ptr 2 0), (6, .nd 10 .bool), (2, .ptr 0 0), (3, .ptr 1 0), (28, .agg [.nd 4 (.int .i64), .nd 5 (.int .i64), .nd 12 .one])]) ?_ ?_ tb_ok ap_ok ?_
    · refine midN_in ?_ .nil _ ?_ ?_ ?_
      · exact (.cons rfl (slOne hS) (.cons rfl ⟨_, rfl⟩ (.cons rfl ⟨_, rfl⟩ (.cons rfl (slOne hS') (.cons rfl ⟨_, rfl⟩ (.cons rfl ⟨_, rfl⟩ (.cons rfl ⟨_, rfl⟩ (.cons rfl ⟨_, rfl⟩ (.cons rfl sS25.one (.cons rfl sS43.one (.cons rfl ⟨_, rfl⟩ (.cons rfl sS64.one (.cons rfl sS97.one .nil)))))))))))))
      · exact (.cons (win_row r106 (dlCons (dNd rfl ⟨_, rfl⟩) (dlCons (dNd rfl ⟨_, rfl⟩) (dlCons (dNd rfl (slOne hS)) dlNil)))) (.cons (win_row r107 (dlCons (dNd rfl ⟨_, rfl⟩) (dlCons (dNd rfl ⟨_, rfl⟩) (dlCons (dNd rfl (slOne hS')) dlNil)))) (.cons (win_row r108 (dlCons (dNd rfl ⟨_, rfl⟩) (dlCons (dNd rfl ⟨_, rfl⟩) (dlCons (dNd rfl sS64.one) dlNil)))) .nil)))
      · exact sepOk_ro rfl
      · exact (.cons (rule_call (args := [.agg [.int .i64 x, .int .i64 y, S64], .agg [.int .i64 x', .int .i64 y', S97]]) (dlCons (dAgg (dlCons (dNd rfl ⟨_, rfl⟩) (dlCons (dNd rfl ⟨_, rfl⟩) (dlCons (dNd rfl sS64.one) dlNil)))) (dlCons (dAgg (dlCons (dNd rfl ⟨_, rfl⟩) (dlCons (dNd rfl ⟨_, rfl⟩) (dlCons (dNd rfl sS97.one) dlNil)))) dlNil)) (dNd rfl ⟨_, rfl⟩) (fun H9 hk => k_impl_SameGrid H9 x y x' y' ms ms' hg.recs hg'.recs S64 S97 ((s111.grew (hk.grew (Nat.le_refl _)))).toL ((sS97.grew (hk.grew (Nat.le_refl _)))).toL (mx40 mxms))) .nil)
    · exact (envEq (put_ne rfl b85) (dAgg (dlCons (dNd rfl ⟨_, rfl⟩) (dlCons (dNd rfl ⟨_, rfl⟩) (dlCons (dNd rfl (slOne hS')) dlNil)))) (envEq (put_ne rfl e77) (dPtr (l := p76) (o := 0) rfl) (envEq (put_ne rfl b86) (dNd rfl ⟨_, rfl⟩) (envEq (put_ne rfl b87) (dPtr (l := p11) (o := 0) rfl) (envEq (put_ne rfl b88) (dPtr (l := p15) (o := 0) rfl) (envEq put_same (dAgg (dlCons (dNd rfl ⟨_, rfl⟩) (dlCons (dNd rfl ⟨_, rfl⟩) (dlCons (dNd rfl sS97.one) dlNil)))) envNil))))))
    refine all1 (by kernel_rfl) ?_
    intro vs ls H112 E112 st hE
    obtain ⟨p113, e114, r115, n116⟩ := ptr_of st.inn hE 8 3 (by kernel_rfl) (ds := [.int .i64 x', .int .i64 y', S97]) (by kernel_rfl)
    have op113 : H.next ≤ p113 := Nat.le_trans g105.next (n116 (Nat.le_of_ble_eq_true rfl))
    have ne117 : Apart p113 p11 := ⟨Nat.ne_of_gt (Nat.lt_of_lt_of_le (H96.lt_of_get r106) (n116 (Nat.le_of_ble_eq_true rfl)))⟩
    have ne118 : Apart p113 p15 := ⟨Nat.ne_of_gt (Nat.lt_of_lt_of_le (H96.lt_of_get r107) (n116 (Nat.le_of_ble_eq_true rfl)))⟩
    have ne119 : Apart p113 p76 := ⟨Nat.ne_of_gt (Nat.lt_of_lt_of_le (H96.lt_of_get r108) (n116 (Nat.le_of_ble_eq_true rfl)))⟩
    have ne120 : ApartL (S25) p113 := s109.apart_new (n116 (Nat.le_of_ble_eq_true rfl))
    have ne121 : ApartL (S43) p113 := s110.apart_new (n116 (Nat.le_of_ble_eq_true rfl))
    have ne122 : ApartL (S64) p113 := s111.apart_new (n116 (Nat.le_of_ble_eq_true rfl))
    have ne123 : ApartL (S97) p113 := sS97.apart_new (n116 (Nat.le_of_ble_eq_true rfl))
    have b124 : E112 36 = .agg [.int .i64 x, .int .i64 y, S] := env_of st.inn hE 36 (by kernel_rfl)
    have b125 : E112 35 = .agg [.int .i64 x, .int .i64 y, S64] := env_of st.inn hE 35 (by kernel_rfl)
    have b126 : E112 3 = .ptr p15 0 := env_of st.inn hE 3 (by kernel_rfl)
    have g127 : Grew H96 H112 := (st.kept.grew (Nat.le_of_ble_eq_true (by kernel_rfl)))
    have g128 : Grew H H112 := Grew.trans g105 g127
    have r129 := g127.at r106
    have r130 := g127.at r107
    have r131 := g127.at r108
    have s132 := s109.grew g127
    have s133 := s110.grew g127
    have s134 := s111.grew g127
    have s135 := sS97.grew g127
    clear st hE vs ls
    refine res_kid (free := false) (d := (some 37)) (f := 15) (args := [.tmp 36]) (by kernel_rfl) (R := fun z H' => Grew H112 H' ∧ ∃ S', z = .agg [.int .i64 x, .int .i64 y, S'] ∧ SlW H' 1 ms S' ∧ FreshS H112.next S') ?_ ?_
    · show ACalls _ _ [E112 36] _ _
      rw [b124]
      exact k_toGrid H112 x y ms hg.recs S (hS.grew g128) mxms
    rintro z H136 ⟨gH136, S137, rfl, sS137, fS137⟩
    refine ⟨gH136, ?_⟩
    have ne138 : ApartL (S137) p15 := fS137.apartL (H112.lt_of_get r130)
    have ne139 : ApartL (S137) p113 := fS137.apartL (H112.lt_of_get r115)
    have ne140 : ApartS (S137) (S25) := fS137.apartS s132.lt
    have ne141 : ApartS (S137) (S43) := fS137.apartS s133.lt
    have ne142 : ApartS (S137) (S64) := fS137.apartS s134.lt
    have ne143 : ApartS (S137) (S97) := fS137.apartS s135.lt
    have fr144 : FreshS H.next (S137) := fS137.mono g128.next
    have g145 : Grew H H136 := Grew.trans g128 gH136
    have r146 := gH136.at r130
    have r147 := gH136.at r115
    have s148 := s132.grew gH136
    have s149 := s133.grew gH136
    have s150 := s134.grew gH136
    have s151 := s135.grew gH136
    refine run_mn (φ := φ0) (pm := pmR 2 [(.call 17 [.agg [.nd 1 (.int .i64), .nd 2 (.int .i64), .nd 11 .one], .agg [.nd 1 (.int .i64), .nd 2 (.int .i64), .nd 13 .one]], .lit (.bool true))] 0) 20 (nk := [(.atom 0, .one), (.atom 1, .int .i64), (.atom 2, .int .i64), (.atom 3, .one), (.atom 4, .int .i64), (.atom 5, .int .i64), (.atom 6, .int .i64), (.atom 7, .int .i64), (.atom 8, .one), (.atom 9, .one), (.atom 10, .bool), (.atom 11, .one), (.atom 12, .one), (.atom 13, .one)]) (fs := []) (xs := [S, .int .i64 x, .int .i64 y, S', .int .i64 x', .int .i64 y', .int .i64 q1, .int .i64 q2, S25, S43, .bool (decide (x = x') && (decide (y = y') && decide (ms = ms'))), S64, S97, S137]) (ws := [⟨p15, 0, [.nd 4 (.int .i64), .nd 5 (.int .i64), .nd 3 .one], false⟩, ⟨p113, 0, [.nd 4 (.int .i64), .nd 5 (.int .i64), .nd 12 .one], false⟩]) (env := [(36, .agg [.nd 1 (.int .i64), .nd 2 (.int .i64), .nd 0 .one]), (35, .agg [.nd 1 (.int .i64), .nd 2 (.int .i64), .nd 11 .one]), (8, .ptr 1 0), (3, .ptr 0 0), (37, .agg [.nd 1 (.int .i64), .nd 2 (.int .i64), .nd 13 .one])]) ?_ ?_ tb_ok ap_ok ?_
    · refine midN_in ?_ .nil _ ?_ ?_ ?_
      · exact (.cons rfl (slOne hS) (.cons rfl ⟨_, rfl⟩ (.cons rfl ⟨_, rfl⟩ (.cons rfl (slOne hS') (.cons rfl ⟨_, rfl⟩ (.cons rfl ⟨_, rfl⟩ (.cons rfl ⟨_, rfl⟩ (.cons rfl ⟨_, rfl⟩ (.cons rfl sS25.one (.cons rfl sS43.one (.cons rfl ⟨_, rfl⟩ (.cons rfl sS64.one (.cons rfl sS97.one (.cons rfl sS137.one .nil))))))))))))))
      · exact (.cons (win_row r146 (dlCons (dNd rfl ⟨_, rfl⟩) (dlCons (dNd rfl ⟨_, rfl⟩) (dlCons (dNd rfl (slOne hS')) dlNil)))) (.cons (win_row r147 (dlCons (dNd rfl ⟨_, rfl⟩) (dlCons (dNd rfl ⟨_, rfl⟩) (dlCons (dNd rfl sS97.one) dlNil)))) .nil))
      · exact sepOk_ro rfl
      · exact (.cons (rule_call (args := [.agg [.int .i64 x, .int .i64 y, S64], .agg [.int .i64 x, .int .i64 y, S137]]) (dlCons (dAgg (dlCons (dNd rfl ⟨_, rfl⟩) (dlCons (dNd rfl ⟨_, rfl⟩) (dlCons (dNd rfl sS64.one) dlNil)))) (dlCons (dAgg (dlCons (dNd rfl ⟨_, rfl⟩) (dlCons (dNd rfl ⟨_, rfl⟩) (dlCons (dNd rfl sS137.one) dlNil)))) dlNil)) (dLit rfl) (fun H9 hk => k_eqGrid H9 x y ms hg.recs S64 S137 ((s150.grew (hk.grew (Nat.le_refl _)))).toL ((sS137.grew (hk.grew (Nat.le_refl _)))).toL (mx40 mxms))) .nil)
    · exact (envEq (put_ne rfl b124) (dAgg (dlCons (dNd rfl ⟨_, rfl⟩) (dlCons (dNd rfl ⟨_, rfl⟩) (dlCons (dNd rfl (slOne hS)) dlNil)))) (envEq (put_ne rfl b125) (dAgg (dlCons (dNd rfl ⟨_, rfl⟩) (dlCons (dNd rfl ⟨_, rfl⟩) (dlCons (dNd rfl sS64.one) dlNil)))) (envEq (put_ne rfl e114) (dPtr (l := p113) (o := 0) rfl) (envEq (put_ne rfl b126) (dPtr (l := p15) (o := 0) rfl) (envEq put_same (dAgg (dlCons (dNd rfl ⟨_, rfl⟩) (dlCons (dNd rfl ⟨_, rfl⟩) (dlCons (dNd rfl sS137.one) dlNil)))) envNil)))))
    refine all1 (by kernel_rfl) ?_
    intro vs ls H152 E152 st hE
    have b153 : E152 41 = .agg [.int .i64 x', .int .i64 y', S'] := env_of st.inn hE 41 (by kernel_rfl)
    have b154 : E152 40 = .agg [.int .i64 x', .int .i64 y', S97] := env_of st.inn hE 40 (by kernel_rfl)
    have g155 : Grew H136 H152 := (st.kept.grew (Nat.le_of_ble_eq_true (by kernel_rfl)))
    have g156 : Grew H H152 := Grew.trans g145 g155
    have r157 := g155.at r146
    have r158 := g155.at r147
    have s159 := s148.grew g155
    have s160 := s149.grew g155
    have s161 := s150.grew g155
    have s162 := s151.grew g155
    have s163 := sS137.grew g155
    clear st hE vs ls
    refine res_kid (free := false) (d := (some 42)) (f := 15) (args := [.tmp 41]) (by kernel_rfl) (R := fun z H' => Grew H152 H' ∧ ∃ S', z = .agg [.int .i64 x', .int .i64 y', S'] ∧ SlW H' 1 ms' S' ∧ FreshS H152.next S') ?_ ?_
    · show ACalls _ _ [E152 41] _ _
      rw [b153]
      exact k_toGrid H152 x' y' ms' hg'.recs S' (hS'.grew g156) mxms'
    rintro z H164 ⟨gH164, S165, rfl, sS165, fS165⟩
    refine ⟨gH164, ?_⟩
    have ne166 : ApartS (S165) (S25) := fS165.apartS s159.lt
    have ne167 : ApartS (S165) (S43) := fS165.apartS s160.lt
    have ne168 : ApartS (S165) (S64) := fS165.apartS s161.lt
    have ne169 : ApartS (S165) (S97) := fS165.apartS s162.lt
    have ne170 : ApartS (S165) (S137) := fS165.apartS s163.lt
    have fr171 : FreshS H.next (S165) := fS165.mono g156.next
    have g172 : Grew H H164 := Grew.trans g156 gH164
    have s173 := s159.grew gH164
    have s174 := s160.grew gH164
    have s175 := s161.grew gH164
    have s176 := s162.grew gH164
    have s177 := s163.grew gH164
    refine run_mn (φ := φ0) (pm := pmR 0 [(.call 17 [.agg [.nd 4 (.int .i64), .nd 5 (.int .i64), .nd 12 .one], .agg [.nd 4 (.int .i64), .nd 5 (.int .i64), .nd 14 .one]], .lit (.bool true))] 0) 20 (nk := [(.atom 0, .one), (.atom 1, .int .i64), (.atom 2, .int .i64), (.atom 3, .one), (.atom 4, .int .i64), (.atom 5, .int .i64), (.atom 6, .int .i64), (.atom 7, .int .i64), (.atom 8, .one), (.atom 9, .one), (.atom 10, .bool), (.atom 11, .one), (.atom 12, .one), (.atom 13, .one), (.atom 14, .one)]) (fs := []) (xs := [S, .int .i64 x, .int .i64 y, S', .int .i64 x', .int .i64 y', .int .i64 q1, .int .i64 q2, S25, S43, .bool (decide (x = x') && (decide (y = y') && decide (ms = ms'))), S64, S97, S137, S165]) (ws := []) (env := [(41, .agg [.nd 4 (.int .i64), .nd 5 (.int .i64), .nd 3 .one]), (40, .agg [.nd 4 (.int .i64), .nd 5 (.int .i64), .nd 12 .one]), (42, .agg [.nd 4 (.int .i64), .nd 5 (.int .i64), .nd 14 .one])]) ?_ ?_ tb_ok ap_ok ?_
    · refine midN_in ?_ .nil _ ?_ ?_ ?_
      · exact (.cons rfl (slOne hS) (.cons rfl ⟨_, rfl⟩ (.cons rfl ⟨_, rfl⟩ (.cons rfl (slOne hS') (.cons rfl ⟨_, rfl⟩ (.cons rfl ⟨_, rfl⟩ (.cons rfl ⟨_, rfl⟩ (.cons rfl ⟨_, rfl⟩ (.cons rfl sS25.one (.cons rfl sS43.one (.cons rfl ⟨_, rfl⟩ (.cons rfl sS64.one (.cons rfl sS97.one (.cons rfl sS137.one (.cons rfl sS165.one .nil)))))))))))))))
      · exact .nil
      · exact sepOk_ro rfl
      · exact (.cons (rule_call (args := [.agg [.int .i64 x', .int .i64 y', S97], .agg [.int .i64 x', .int .i64 y', S165]]) (dlCons (dAgg (dlCons (dNd rfl ⟨_, rfl⟩) (dlCons (dNd rfl ⟨_, rfl⟩) (dlCons (dNd rfl sS97.one) dlNil)))) (dlCons (dAgg (dlCons (dNd rfl ⟨_, rfl⟩) (dlCons (dNd rfl ⟨_, rfl⟩) (dlCons (dNd rfl sS165.one) dlNil)))) dlNil)) (dLit rfl) (fun H9 hk => k_eqGrid H9 x' y' ms' hg'.recs S97 S165 ((s176.grew (hk.grew (Nat.le_refl _)))).toL ((sS165.grew (hk.grew (Nat.le_refl _)))).toL (mx40 mxms'))) .nil)
    · exact (envEq (put_ne rfl b153) (dAgg (dlCons (dNd rfl ⟨_, rfl⟩) (dlCons (dNd rfl ⟨_, rfl⟩) (dlCons (dNd rfl (slOne hS')) dlNil)))) (envEq (put_ne rfl b154) (dAgg (dlCons (dNd rfl ⟨_, rfl⟩) (dlCons (dNd rfl ⟨_, rfl⟩) (dlCons (dNd rfl sS97.one) dlNil)))) (envEq put_same (dAgg (dlCons (dNd rfl ⟨_, rfl⟩) (dlCons (dNd rfl ⟨_, rfl⟩) (dlCons (dNd rfl sS165.one) dlNil)))) envNil)))
    refine all1 (by kernel_rfl) ?_
    intro vs ls H178 E178 st hE
    exact res_ex (by kernel_rfl) (end_same st.inn hE (.inr rfl) (a := .bool true) (by kernel_rfl) (Nat.le_trans g172.next st.kept.1) rfl)
end Go.Proofs.Ytnleibiniajbnaa
