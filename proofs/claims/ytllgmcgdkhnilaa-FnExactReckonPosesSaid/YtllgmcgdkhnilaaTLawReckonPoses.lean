/- The law of ReckonPoses, walked. -/
import Derived.Test.YtllgmcgdkhnilaaTReck
import Derived.Test.YtllgmcgdkhnilaaTGraphM
set_option linter.unusedVariables false
set_option linter.unusedSimpArgs false
namespace Go.Proofs.Ytllgmcgdkhnilaa
open Go.Ab
set_option maxRecDepth 100000
set_option maxHeartbeats 1000000
attribute [local irreducible] Res
theorem poseArg {H : AHeap} {a : AV} (h : FitArg H (true, [.flt .f32, .flt .f32, .flt .f32]) a) : ∃ s0 s1 s2 : Option Nat, a = .agg [.flt .f32 s0, .flt .f32 s1, .flt .f32 s2] ∧ fOk .f32 s0 ∧ fOk .f32 s1 ∧ fOk .f32 s2 := by
  obtain ⟨cs, rfl, hl, hc⟩ := h
  match cs, hl with
  | [c0, c1, c2], _ =>
    have h0 := hc 0 _ _ rfl rfl
    have h1 := hc 1 _ _ rfl rfl
    have h2 := hc 2 _ _ rfl rfl
    cases h0 with | flt h0 => cases h1 with | flt h1 => cases h2 with | flt h2 =>
    exact ⟨_, _, _, rfl, h0, h1, h2⟩
theorem k_toPose (s0 s1 s2 : Option Nat) (o0 : fOk .f32 s0) (o1 : fOk .f32 s1) (o2 : fOk .f32 s2) (H : AHeap) : APure Try.prog 16 [.agg [.flt .f32 s0, .flt .f32 s1, .flt .f32 s2]] H (.agg [.flt .f32 s0, .flt .f32 s1, .flt .f32 s2]) := by
  refine res_start h_laws_toPose (by simp) ?_
  refine run_mn (φ := φ0) (pm := pmR 0 [] 10) 20 (nk := [(.atom 0, .flt .f32), (.atom 1, .flt .f32), (.atom 2, .flt .f32)]) (fs := []) (xs := [.flt .f32 s0, .flt .f32 s1, .flt .f32 s2]) (ws := []) (env := [(0, .agg [.nd 0 (.flt .f32), .nd 1 (.flt .f32), .nd 2 (.flt .f32)])]) ?_ ?_ tb_ok ap_ok ?_
  · refine midN_in ?_ .nil _ ?_ ?_ ?_
    · exact (.cons rfl ⟨_, rfl, o0⟩ (.cons rfl ⟨_, rfl, o1⟩ (.cons rfl ⟨_, rfl, o2⟩ .nil)))
    · exact .nil
    · exact sepOk_ro rfl
    · exact .nil
  · exact (envEq rfl (dAgg (dlCons (dNd rfl ⟨_, rfl, o0⟩) (dlCons (dNd rfl ⟨_, rfl, o1⟩) (dlCons (dNd rfl ⟨_, rfl, o2⟩) dlNil)))) envNil)
  refine all1 (by kernel_rfl) ?_
  intro vs ls H1 E1 st hE
  refine res_ex (by kernel_rfl) (end_flat st.inn hE (.inr rfl) (a := .agg [.flt .f32 s0, .flt .f32 s1, .flt .f32 s2]) (by kernel_rfl) (Grew.trans (Grew.refl _) (st.kept.grew (Nat.le_of_ble_eq_true (by kernel_rfl)))) rfl ⟨?_, rfl⟩)
  rfl
theorem lawExactReckonPoses (H : AHeap) (vs : List AV) (h : FitArgs H [(true, [.flt .f32, .flt .f32, .flt .f32]), (false, [.sl [.flt .f32, .flt .f32, .flt .f32]])] vs) : ACalls Try.prog 12 vs H fun r _ => r = .bool true := by
  match vs, h with
  | [a, S], h =>
  obtain ⟨s0, s1, s2, rfl, o0, o1, o2⟩ := poseArg h.1
  obtain ⟨sb, eb, fb⟩ := h.2.1
  cases eb
  obtain ⟨ms, hr, hS, hmx⟩ := slArg (ks := KP) (sz := 3) fb rfl rfl

  clear h
  obtain ⟨L, c, hadd⟩ : ∃ L c, reckF [.flt .f32 s0, .flt .f32 s1, .flt .f32 s2] ms = (L, c) := ⟨_, _, rfl⟩
  have hL : Recs KP L := by have := (reckF_recs (st := [.flt .f32 s0, .flt .f32 s1, .flt .f32 s2]) (.cons ⟨_, rfl, o0⟩ (.cons ⟨_, rfl, o1⟩ (.cons ⟨_, rfl, o2⟩ .nil))) ms).1; rw [hadd] at this; exact this
  have mxL : L.length ≤ 1048576 := by have := (reckF_recs (st := [.flt .f32 s0, .flt .f32 s1, .flt .f32 s2]) (.cons ⟨_, rfl, o0⟩ (.cons ⟨_, rfl, o1⟩ (.cons ⟨_, rfl, o2⟩ .nil))) ms).2; rw [hadd] at this; exact Nat.le_trans this (by decide)
  refine res_start h_laws_FnExactReckonPoses (by simp) ?_
  obtain ⟨q1, kq1, hq1⟩ : ∃ r : Int, (∀ H9, Grew H H9 → APure Try.prog 43 [S, .int .i64 1048576] H9 (.int .i64 r)) ∧ (((1048576 : Int) - (ms.length : Int) < 0 ∧ r = -1) ∨ (0 ≤ (1048576 : Int) - (ms.length : Int) ∧ r = (1048576 : Int) - (ms.length : Int))) := ⟨_, fun H9 hk => k_szPoseS H9 ms S (hS.grew (Grew.trans (Grew.refl _) hk)) 1048576 (by omega) (by omega) hmx, by split <;> omega⟩
  refine run_mn (φ := φ0) (pm := pmR 0 [(.call 43 [.nd 0 .one, .lit (.int .i64 1048576)], .nd 5 (.int .i64)), (.call 16 [.agg [.nd 1 (.flt .f32), .nd 2 (.flt .f32), .nd 3 (.flt .f32)]], .agg [.nd 1 (.flt .f32), .nd 2 (.flt .f32), .nd 3 (.flt .f32)])] 0) 20 (nk := [(.atom 0, .one), (.atom 1, .flt .f32), (.atom 2, .flt .f32), (.atom 3, .flt .f32), (.atom 4, .int .i64), (.atom 5, .int .i64)]) (fs := []) (xs := [S, .flt .f32 s0, .flt .f32 s1, .flt .f32 s2, .int .i64 c, .int .i64 q1]) (ws := []) (env := [(0, .agg [.nd 1 (.flt .f32), .nd 2 (.flt .f32), .nd 3 (.flt .f32)]), (1, .nd 0 .one)]) ?_ ?_ tb_ok ap_ok ?_
  · refine midN_in ?_ .nil _ ?_ ?_ ?_
    · exact (.cons rfl (slOne hS) (.cons rfl ⟨_, rfl, o0⟩ (.cons rfl ⟨_, rfl, o1⟩ (.cons rfl ⟨_, rfl, o2⟩ (.cons rfl ⟨_, rfl⟩ (.cons rfl ⟨_, rfl⟩ .nil))))))
    · exact .nil
    · exact sepOk_ro rfl
    · exact (.cons (rule_call (args := [S, .int .i64 1048576]) (dlCons (dNd rfl (slOne hS)) (dlCons (dLit rfl) dlNil)) (dNd rfl ⟨_, rfl⟩) (fun H9 hk => kq1 H9 (hk.grew (Nat.le_refl _)))) (.cons (rule_call (args := [.agg [.flt .f32 s0, .flt .f32 s1, .flt .f32 s2]]) (dlCons (dAgg (dlCons (dNd rfl ⟨_, rfl, o0⟩) (dlCons (dNd rfl ⟨_, rfl, o1⟩) (dlCons (dNd rfl ⟨_, rfl, o2⟩) dlNil)))) dlNil) (dAgg (dlCons (dNd rfl ⟨_, rfl, o0⟩) (dlCons (dNd rfl ⟨_, rfl, o1⟩) (dlCons (dNd rfl ⟨_, rfl, o2⟩) dlNil)))) (fun H9 hk => k_toPose s0 s1 s2 o0 o1 o2 H9)) .nil))
  · exact (envEq rfl (dAgg (dlCons (dNd rfl ⟨_, rfl, o0⟩) (dlCons (dNd rfl ⟨_, rfl, o1⟩) (dlCons (dNd rfl ⟨_, rfl, o2⟩) dlNil)))) (envEq rfl (dNd rfl (slOne hS)) envNil))
  refine all2 (by kernel_rfl) ?_ ?_
  ·
    intro vs ls H2 E2 st hE
    have f3 : q1 < 0 := of_decide_eq_true (bfact (x := decide (q1 < 0)) st.inn 0 (by kernel_rfl))
    exact res_ex (by kernel_rfl) (end_same st.inn hE (.inr rfl) (a := .bool true) (by kernel_rfl) (Nat.le_trans (Nat.le_refl _) st.kept.1) rfl)
  ·
    intro vs ls H4 E4 st hE
    have f5 : ¬ (q1 < 0) := of_decide_eq_false (bfact (x := decide (q1 < 0)) st.inn 0 (by kernel_rfl))
    have mxms : ms.length ≤ 1048576 := by omega
    obtain ⟨p6, e7, r8, n9⟩ := ptr_of st.inn hE 2 0 (by kernel_rfl) (ds := [.flt .f32 s0, .flt .f32 s1, .flt .f32 s2]) (by kernel_rfl)
    have op6 : H.next ≤ p6 := Nat.le_trans (Nat.le_refl _) (n9 (Nat.le_of_ble_eq_true rfl))
    have b10 : E4 24 = S := env_of st.inn hE 24 (by kernel_rfl)
    have b11 : E4 23 = .agg [.flt .f32 s0, .flt .f32 s1, .flt .f32 s2] := env_of st.inn hE 23 (by kernel_rfl)
    have b12 : E4 1 = S := env_of st.inn hE 1 (by kernel_rfl)
    have g13 : Grew H H4 := (st.kept.grew (Nat.le_of_ble_eq_true (by kernel_rfl)))
    have g14 : Grew H H4 := Grew.trans (Grew.refl _) g13
    clear st hE vs ls
    refine res_call (d := (some 25)) (f := 45) (args := [.tmp 24]) (by kernel_rfl) (R := fun z H' => Grew H4 H' ∧ SlW H' 3 ms z ∧ FreshS H4.next z) ?_ ?_
    · show ACalls _ _ [E4 24] _ _
      rw [b10]
      exact w_toPoseS H4 ms hr S (hS.grew g14) mxms
    rintro S15 H16 ⟨gS15, sS15, fS15⟩
    have ne17 : ApartL (S15) p6 := fS15.apartL (H4.lt_of_get r8)
    have fr18 : FreshS H.next (S15) := fS15.mono g14.next
    have g19 : Grew H H16 := Grew.trans g14 gS15
    have r20 := gS15.at r8
    refine run_mn (φ := φ0) (pm := pmR 1 [] 0) 20 (nk := [(.atom 0, .one), (.atom 1, .flt .f32), (.atom 2, .flt .f32), (.atom 3, .flt .f32), (.atom 4, .int .i64), (.atom 5, .int .i64), (.atom 6, .one)]) (fs := []) (xs := [S, .flt .f32 s0, .flt .f32 s1, .flt .f32 s2, .int .i64 c, .int .i64 q1, S15]) (ws := [⟨p6, 0, [.nd 1 (.flt .f32), .nd 2 (.flt .f32), .nd 3 (.flt .f32)], false⟩]) (env := [(24, .nd 0 .one), (23, .agg [.nd 1 (.flt .f32), .nd 2 (.flt .f32), .nd 3 (.flt .f32)]), (1, .nd 0 .one), (2, .ptr 0 0), (25, .nd 6 .one)]) ?_ ?_ tb_ok ap_ok ?_
    · refine midN_in ?_ .nil _ ?_ ?_ ?_
      · exact (.cons rfl (slOne hS) (.cons rfl ⟨_, rfl, o0⟩ (.cons rfl ⟨_, rfl, o1⟩ (.cons rfl ⟨_, rfl, o2⟩ (.cons rfl ⟨_, rfl⟩ (.cons rfl ⟨_, rfl⟩ (.cons rfl sS15.one .nil)))))))
      · exact (.cons (win_row r20 (dlCons (dNd rfl ⟨_, rfl, o0⟩) (dlCons (dNd rfl ⟨_, rfl, o1⟩) (dlCons (dNd rfl ⟨_, rfl, o2⟩) dlNil)))) .nil)
      · exact sepOk_ro rfl
      · exact .nil
    · exact (envEq (put_ne rfl b10) (dNd rfl (slOne hS)) (envEq (put_ne rfl b11) (dAgg (dlCons (dNd rfl ⟨_, rfl, o0⟩) (dlCons (dNd rfl ⟨_, rfl, o1⟩) (dlCons (dNd rfl ⟨_, rfl, o2⟩) dlNil)))) (envEq (put_ne rfl b12) (dNd rfl (slOne hS)) (envEq (put_ne rfl e7) (dPtr (l := p6) (o := 0) rfl) (envEq put_same (dNd rfl sS15.one) envNil)))))
    refine all1 (by kernel_rfl) ?_
    intro vs ls H21 E21 st hE
    have b22 : E21 23 = .agg [.flt .f32 s0, .flt .f32 s1, .flt .f32 s2] := env_of st.inn hE 23 (by kernel_rfl)
    have b23 : E21 25 = S15 := env_of st.inn hE 25 (by kernel_rfl)
    have b24 : E21 1 = S := env_of st.inn hE 1 (by kernel_rfl)
    have b25 : E21 2 = .ptr p6 0 := env_of st.inn hE 2 (by kernel_rfl)
    have g26 : Grew H16 H21 := (st.kept.grew (Nat.le_of_ble_eq_true (by kernel_rfl)))
    have g27 : Grew H H21 := Grew.trans g19 g26
    have r28 := g26.at r20
    have s29 := sS15.grew g26
    clear st hE vs ls
    refine res_call (d := (some 26)) (f := 44) (args := [.tmp 23, .tmp 25]) (by kernel_rfl) (R := fun z H' => Grew H21 H' ∧ ∃ S', z = .tuple [S', .int .i64 c] ∧ SlW H' 3 L S' ∧ FreshS H21.next S') ?_ ?_
    · show ACalls _ _ [E21 23, E21 25] _ _
      rw [b22, b23]
      exact (by have h := k_spec_ReckonPoses H21 s0 s1 s2 o0 o1 o2 ms hr S15 s29.toL (mx40 mxms); rw [hadd] at h; exact h)
    rintro z H30 ⟨gH30, S31, rfl, sS31, fS31⟩
    have ne32 : ApartL (S31) p6 := fS31.apartL (H21.lt_of_get r28)
    have ne33 : ApartS (S31) (S15) := fS31.apartS s29.lt
    have fr34 : FreshS H.next (S31) := fS31.mono g27.next
    have g35 : Grew H H30 := Grew.trans g27 gH30
    have r36 := gH30.at r28
    have s37 := s29.grew gH30
    refine run_mn (φ := φ0) (pm := pmR 1 [] 0) 20 (nk := [(.atom 0, .one), (.atom 1, .flt .f32), (.atom 2, .flt .f32), (.atom 3, .flt .f32), (.atom 4, .int .i64), (.atom 5, .int .i64), (.atom 6, .one), (.atom 7, .one)]) (fs := []) (xs := [S, .flt .f32 s0, .flt .f32 s1, .flt .f32 s2, .int .i64 c, .int .i64 q1, S15, S31]) (ws := [⟨p6, 0, [.nd 1 (.flt .f32), .nd 2 (.flt .f32), .nd 3 (.flt .f32)], false⟩]) (env := [(23, .agg [.nd 1 (.flt .f32), .nd 2 (.flt .f32), .nd 3 (.flt .f32)]), (25, .nd 6 .one), (1, .nd 0 .one), (2, .ptr 0 0), (26, .tup [.nd 7 .one, .nd 4 (.int .i64)])]) ?_ ?_ tb_ok ap_ok ?_
    · refine midN_in ?_ .nil _ ?_ ?_ ?_
      · exact (.cons rfl (slOne hS) (.cons rfl ⟨_, rfl, o0⟩ (.cons rfl ⟨_, rfl, o1⟩ (.cons rfl ⟨_, rfl, o2⟩ (.cons rfl ⟨_, rfl⟩ (.cons rfl ⟨_, rfl⟩ (.cons rfl sS15.one (.cons rfl sS31.one .nil))))))))
      · exact (.cons (win_row r36 (dlCons (dNd rfl ⟨_, rfl, o0⟩) (dlCons (dNd rfl ⟨_, rfl, o1⟩) (dlCons (dNd rfl ⟨_, rfl, o2⟩) dlNil)))) .nil)
      · exact sepOk_ro rfl
      · exact .nil
    · exact (envEq (put_ne rfl b22) (dAgg (dlCons (dNd rfl ⟨_, rfl, o0⟩) (dlCons (dNd rfl ⟨_, rfl, o1⟩) (dlCons (dNd rfl ⟨_, rfl, o2⟩) dlNil)))) (envEq (put_ne rfl b23) (dNd rfl sS15.one) (envEq (put_ne rfl b24) (dNd rfl (slOne hS)) (envEq (put_ne rfl b25) (dPtr (l := p6) (o := 0) rfl) (envEq put_same (dTup' (dlCons (dNd rfl sS31.one) (dlCons (dNd rfl ⟨_, rfl⟩) dlNil))) envNil)))))
    refine all1 (by kernel_rfl) ?_
    intro vs ls H38 E38 st hE
    have b39 : E38 29 = S := env_of st.inn hE 29 (by kernel_rfl)
    have b40 : E38 2 = .ptr p6 0 := env_of st.inn hE 2 (by kernel_rfl)
    have b41 : E38 6 = S31 := env_of st.inn hE 6 (by kernel_rfl)
    have b42 : E38 7 = .int .i64 c := env_of st.inn hE 7 (by kernel_rfl)
    have b43 : E38 1 = S := env_of st.inn hE 1 (by kernel_rfl)
    have g44 : Grew H30 H38 := (st.kept.grew (Nat.le_of_ble_eq_true (by kernel_rfl)))
    have g45 : Grew H H38 := Grew.trans g35 g44
    have r46 := g44.at r36
    have s47 := s37.grew g44
    have s48 := sS31.grew g44
    clear st hE vs ls
    refine res_call (d := (some 30)) (f := 45) (args := [.tmp 29]) (by kernel_rfl) (R := fun z H' => Grew H38 H' ∧ SlW H' 3 ms z ∧ FreshS H38.next z) ?_ ?_
    · show ACalls _ _ [E38 29] _ _
      rw [b39]
      exact w_toPoseS H38 ms hr S (hS.grew g45) mxms
    rintro S49 H50 ⟨gS49, sS49, fS49⟩
    have ne51 : ApartL (S49) p6 := fS49.apartL (H38.lt_of_get r46)
    have ne52 : ApartS (S49) (S15) := fS49.apartS s47.lt
    have ne53 : ApartS (S49) (S31) := fS49.apartS s48.lt
    have fr54 : FreshS H.next (S49) := fS49.mono g45.next
    have g55 : Grew H H50 := Grew.trans g45 gS49
    have r56 := gS49.at r46
    have s57 := s47.grew gS49
    have s58 := s48.grew gS49
    refine run_mn (φ := φ0) (pm := pmR 1 [(.call 16 [.agg [.nd 1 (.flt .f32), .nd 2 (.flt .f32), .nd 3 (.flt .f32)]], .agg [.nd 1 (.flt .f32), .nd 2 (.flt .f32), .nd 3 (.flt .f32)])] 0) 20 (nk := [(.atom 0, .one), (.atom 1, .flt .f32), (.atom 2, .flt .f32), (.atom 3, .flt .f32), (.atom 4, .int .i64), (.atom 5, .int .i64), (.atom 6, .one), (.atom 7, .one), (.atom 8, .one)]) (fs := []) (xs := [S, .flt .f32 s0, .flt .f32 s1, .flt .f32 s2, .int .i64 c, .int .i64 q1, S15, S31, S49]) (ws := [⟨p6, 0, [.nd 1 (.flt .f32), .nd 2 (.flt .f32), .nd 3 (.flt .f32)], false⟩]) (env := [(29, .nd 0 .one), (2, .ptr 0 0), (6, .nd 7 .one), (7, .nd 4 (.int .i64)), (1, .nd 0 .one), (30, .nd 8 .one)]) ?_ ?_ tb_ok ap_ok ?_
    · refine midN_in ?_ .nil _ ?_ ?_ ?_
      · exact (.cons rfl (slOne hS) (.cons rfl ⟨_, rfl, o0⟩ (.cons rfl ⟨_, rfl, o1⟩ (.cons rfl ⟨_, rfl, o2⟩ (.cons rfl ⟨_, rfl⟩ (.cons rfl ⟨_, rfl⟩ (.cons rfl sS15.one (.cons rfl sS31.one (.cons rfl sS49.one .nil)))))))))
      · exact (.cons (win_row r56 (dlCons (dNd rfl ⟨_, rfl, o0⟩) (dlCons (dNd rfl ⟨_, rfl, o1⟩) (dlCons (dNd rfl ⟨_, rfl, o2⟩) dlNil)))) .nil)
      · exact sepOk_ro rfl
      · exact (.cons (rule_call (args := [.agg [.flt .f32 s0, .flt .f32 s1, .flt .f32 s2]]) (dlCons (dAgg (dlCons (dNd rfl ⟨_, rfl, o0⟩) (dlCons (dNd rfl ⟨_, rfl, o1⟩) (dlCons (dNd rfl ⟨_, rfl, o2⟩) dlNil)))) dlNil) (dAgg (dlCons (dNd rfl ⟨_, rfl, o0⟩) (dlCons (dNd rfl ⟨_, rfl, o1⟩) (dlCons (dNd rfl ⟨_, rfl, o2⟩) dlNil)))) (fun H9 hk => k_toPose s0 s1 s2 o0 o1 o2 H9)) .nil)
    · exact (envEq (put_ne rfl b39) (dNd rfl (slOne hS)) (envEq (put_ne rfl b40) (dPtr (l := p6) (o := 0) rfl) (envEq (put_ne rfl b41) (dNd rfl sS31.one) (envEq (put_ne rfl b42) (dNd rfl ⟨_, rfl⟩) (envEq (put_ne rfl b43) (dNd rfl (slOne hS)) (envEq put_same (dNd rfl sS49.one) envNil))))))
    refine all1 (by kernel_rfl) ?_
    intro vs ls H59 E59 st hE
    have b60 : E59 33 = .agg [.flt .f32 s0, .flt .f32 s1, .flt .f32 s2] := env_of st.inn hE 33 (by kernel_rfl)
    have b61 : E59 34 = S49 := env_of st.inn hE 34 (by kernel_rfl)
    have b62 : E59 6 = S31 := env_of st.inn hE 6 (by kernel_rfl)
    have b63 : E59 7 = .int .i64 c := env_of st.inn hE 7 (by kernel_rfl)
    have b64 : E59 8 = S49 := env_of st.inn hE 8 (by kernel_rfl)
    have b65 : E59 1 = S := env_of st.inn hE 1 (by kernel_rfl)
    have b66 : E59 2 = .ptr p6 0 := env_of st.inn hE 2 (by kernel_rfl)
    have g67 : Grew H50 H59 := (st.kept.grew (Nat.le_of_ble_eq_true (by kernel_rfl)))
    have g68 : Grew H H59 := Grew.trans g55 g67
    have r69 := g67.at r56
    have s70 := s57.grew g67
    have s71 := s58.grew g67
    have s72 := sS49.grew g67
    clear st hE vs ls
    refine res_call (d := (some 35)) (f := 46) (args := [.tmp 33, .tmp 34]) (by kernel_rfl) (R := fun z H' => Grew H59 H' ∧ ∃ S', z = .tuple [S', .int .i64 c] ∧ SlW H' 3 L S' ∧ FreshS H59.next S') ?_ ?_
    · show ACalls _ _ [E59 33, E59 34] _ _
      rw [b60, b61]
      exact (by have h := k_impl_ReckonPoses H59 s0 s1 s2 o0 o1 o2 ms hr S49 s72.toL (mx40 mxms); rw [hadd] at h; exact h)
    rintro z H73 ⟨gH73, S74, rfl, sS74, fS74⟩
    have ne75 : ApartL (S74) p6 := fS74.apartL (H59.lt_of_get r69)
    have ne76 : ApartS (S74) (S15) := fS74.apartS s70.lt
    have ne77 : ApartS (S74) (S31) := fS74.apartS s71.lt
    have ne78 : ApartS (S74) (S49) := fS74.apartS s72.lt
    have fr79 : FreshS H.next (S74) := fS74.mono g68.next
    have g80 : Grew H H73 := Grew.trans g68 gH73
    have r81 := gH73.at r69
    have s82 := s70.grew gH73
    have s83 := s71.grew gH73
    have s84 := s72.grew gH73
    refine run_mn (φ := φ0) (pm := pmR 1 [(.call 47 [.nd 9 .one, .nd 7 .one], .lit (.bool true))] 0) 20 (nk := [(.atom 0, .one), (.atom 1, .flt .f32), (.atom 2, .flt .f32), (.atom 3, .flt .f32), (.atom 4, .int .i64), (.atom 5, .int .i64), (.atom 6, .one), (.atom 7, .one), (.atom 8, .one), (.atom 9, .one)]) (fs := []) (xs := [S, .flt .f32 s0, .flt .f32 s1, .flt .f32 s2, .int .i64 c, .int .i64 q1, S15, S31, S49, S74]) (ws := [⟨p6, 0, [.nd 1 (.flt .f32), .nd 2 (.flt .f32), .nd 3 (.flt .f32)], false⟩]) (env := [(33, .agg [.nd 1 (.flt .f32), .nd 2 (.flt .f32), .nd 3 (.flt .f32)]), (34, .nd 8 .one), (6, .nd 7 .one), (7, .nd 4 (.int .i64)), (8, .nd 8 .one), (1, .nd 0 .one), (2, .ptr 0 0), (35, .tup [.nd 9 .one, .nd 4 (.int .i64)])]) ?_ ?_ tb_ok ap_ok ?_
    · refine midN_in ?_ .nil _ ?_ ?_ ?_
      · exact (.cons rfl (slOne hS) (.cons rfl ⟨_, rfl, o0⟩ (.cons rfl ⟨_, rfl, o1⟩ (.cons rfl ⟨_, rfl, o2⟩ (.cons rfl ⟨_, rfl⟩ (.cons rfl ⟨_, rfl⟩ (.cons rfl sS15.one (.cons rfl sS31.one (.cons rfl sS49.one (.cons rfl sS74.one .nil))))))))))
      · exact (.cons (win_row r81 (dlCons (dNd rfl ⟨_, rfl, o0⟩) (dlCons (dNd rfl ⟨_, rfl, o1⟩) (dlCons (dNd rfl ⟨_, rfl, o2⟩) dlNil)))) .nil)
      · exact sepOk_ro rfl
      · exact (.cons (rule_call (args := [S74, S31]) (dlCons (dNd rfl sS74.one) (dlCons (dNd rfl sS31.one) dlNil)) (dLit rfl) (fun H9 hk => k_eqPoseS H9 L hL _ _ ((sS74.grew (hk.grew (Nat.le_refl _)))).toL ((s83.grew (hk.grew (Nat.le_refl _)))).toL (mx40 mxL))) .nil)
    · exact (envEq (put_ne rfl b60) (dAgg (dlCons (dNd rfl ⟨_, rfl, o0⟩) (dlCons (dNd rfl ⟨_, rfl, o1⟩) (dlCons (dNd rfl ⟨_, rfl, o2⟩) dlNil)))) (envEq (put_ne rfl b61) (dNd rfl sS49.one) (envEq (put_ne rfl b62) (dNd rfl sS31.one) (envEq (put_ne rfl b63) (dNd rfl ⟨_, rfl⟩) (envEq (put_ne rfl b64) (dNd rfl sS49.one) (envEq (put_ne rfl b65) (dNd rfl (slOne hS)) (envEq (put_ne rfl b66) (dPtr (l := p6) (o := 0) rfl) (envEq put_same (dTup' (dlCons (dNd rfl sS74.one) (dlCons (dNd rfl ⟨_, rfl⟩) dlNil))) envNil))))))))
    refine all1 (by kernel_rfl) ?_
    intro vs ls H85 E85 st hE
    have b86 : E85 48 = S := env_of st.inn hE 48 (by kernel_rfl)
    have b87 : E85 47 = S49 := env_of st.inn hE 47 (by kernel_rfl)
    have b88 : E85 8 = S49 := env_of st.inn hE 8 (by kernel_rfl)
    have b89 : E85 9 = S74 := env_of st.inn hE 9 (by kernel_rfl)
    have b90 : E85 6 = S31 := env_of st.inn hE 6 (by kernel_rfl)
    have b91 : E85 10 = .int .i64 c := env_of st.inn hE 10 (by kernel_rfl)
    have b92 : E85 7 = .int .i64 c := env_of st.inn hE 7 (by kernel_rfl)
    have b93 : E85 2 = .ptr p6 0 := env_of st.inn hE 2 (by kernel_rfl)
    have b94 : E85 1 = S := env_of st.inn hE 1 (by kernel_rfl)
    have g95 : Grew H73 H85 := (st.kept.grew (Nat.le_of_ble_eq_true (by kernel_rfl)))
    have g96 : Grew H H85 := Grew.trans g80 g95
    have r97 := g95.at r81
    have s98 := s82.grew g95
    have s99 := s83.grew g95
    have s100 := s84.grew g95
    have s101 := sS74.grew g95
    clear st hE vs ls
    refine res_call (d := (some 49)) (f := 45) (args := [.tmp 48]) (by kernel_rfl) (R := fun z H' => Grew H85 H' ∧ SlW H' 3 ms z ∧ FreshS H85.next z) ?_ ?_
    · show ACalls _ _ [E85 48] _ _
      rw [b86]
      exact w_toPoseS H85 ms hr S (hS.grew g96) mxms
    rintro S102 H103 ⟨gS102, sS102, fS102⟩
    have ne104 : ApartL (S102) p6 := fS102.apartL (H85.lt_of_get r97)
    have ne105 : ApartS (S102) (S15) := fS102.apartS s98.lt
    have ne106 : ApartS (S102) (S31) := fS102.apartS s99.lt
    have ne107 : ApartS (S102) (S49) := fS102.apartS s100.lt
    have ne108 : ApartS (S102) (S74) := fS102.apartS s101.lt
    have fr109 : FreshS H.next (S102) := fS102.mono g96.next
    have g110 : Grew H H103 := Grew.trans g96 gS102
    have r111 := gS102.at r97
    have s112 := s98.grew gS102
    have s113 := s99.grew gS102
    have s114 := s100.grew gS102
    have s115 := s101.grew gS102
    refine run_mn (φ := φ0) (pm := pmR 1 [(.call 47 [.nd 8 .one, .nd 10 .one], .lit (.bool true))] 0) 20 (nk := [(.atom 0, .one), (.atom 1, .flt .f32), (.atom 2, .flt .f32), (.atom 3, .flt .f32), (.atom 4, .int .i64), (.atom 5, .int .i64), (.atom 6, .one), (.atom 7, .one), (.atom 8, .one), (.atom 9, .one), (.atom 10, .one)]) (fs := []) (xs := [S, .flt .f32 s0, .flt .f32 s1, .flt .f32 s2, .int .i64 c, .int .i64 q1, S15, S31, S49, S74, S102]) (ws := [⟨p6, 0, [.nd 1 (.flt .f32), .nd 2 (.flt .f32), .nd 3 (.flt .f32)], false⟩]) (env := [(48, .nd 0 .one), (47, .nd 8 .one), (8, .nd 8 .one), (9, .nd 9 .one), (6, .nd 7 .one), (10, .nd 4 (.int .i64)), (7, .nd 4 (.int .i64)), (2, .ptr 0 0), (1, .nd 0 .one), (49, .nd 10 .one)]) ?_ ?_ tb_ok ap_ok ?_
    · refine midN_in ?_ .nil _ ?_ ?_ ?_
      · exact (.cons rfl (slOne hS) (.cons rfl ⟨_, rfl, o0⟩ (.cons rfl ⟨_, rfl, o1⟩ (.cons rfl ⟨_, rfl, o2⟩ (.cons rfl ⟨_, rfl⟩ (.cons rfl ⟨_, rfl⟩ (.cons rfl sS15.one (.cons rfl sS31.one (.cons rfl sS49.one (.cons rfl sS74.one (.cons rfl sS102.one .nil)))))))))))
      · exact (.cons (win_row r111 (dlCons (dNd rfl ⟨_, rfl, o0⟩) (dlCons (dNd rfl ⟨_, rfl, o1⟩) (dlCons (dNd rfl ⟨_, rfl, o2⟩) dlNil)))) .nil)
      · exact sepOk_ro rfl
      · exact (.cons (rule_call (args := [S49, S102]) (dlCons (dNd rfl sS49.one) (dlCons (dNd rfl sS102.one) dlNil)) (dLit rfl) (fun H9 hk => k_eqPoseS H9 ms hr _ _ ((s114.grew (hk.grew (Nat.le_refl _)))).toL ((sS102.grew (hk.grew (Nat.le_refl _)))).toL (mx40 mxms))) .nil)
    · exact (envEq (put_ne rfl b86) (dNd rfl (slOne hS)) (envEq (put_ne rfl b87) (dNd rfl sS49.one) (envEq (put_ne rfl b88) (dNd rfl sS49.one) (envEq (put_ne rfl b89) (dNd rfl sS74.one) (envEq (put_ne rfl b90) (dNd rfl sS31.one) (envEq (put_ne rfl b91) (dNd rfl ⟨_, rfl⟩) (envEq (put_ne rfl b92) (dNd rfl ⟨_, rfl⟩) (envEq (put_ne rfl b93) (dPtr (l := p6) (o := 0) rfl) (envEq (put_ne rfl b94) (dNd rfl (slOne hS)) (envEq put_same (dNd rfl sS102.one) envNil))))))))))
    refine all1 (by kernel_rfl) ?_
    intro vs ls H116 E116 st hE
    have b117 : E116 52 = S49 := env_of st.inn hE 52 (by kernel_rfl)
    have b118 : E116 53 = .int .i64 1 := env_of st.inn hE 53 (by kernel_rfl)
    have b119 : E116 11 = .int .i64 1 := env_of st.inn hE 11 (by kernel_rfl)
    have b120 : E116 9 = S74 := env_of st.inn hE 9 (by kernel_rfl)
    have b121 : E116 6 = S31 := env_of st.inn hE 6 (by kernel_rfl)
    have b122 : E116 10 = .int .i64 c := env_of st.inn hE 10 (by kernel_rfl)
    have b123 : E116 7 = .int .i64 c := env_of st.inn hE 7 (by kernel_rfl)
    have b124 : E116 2 = .ptr p6 0 := env_of st.inn hE 2 (by kernel_rfl)
    have b125 : E116 1 = S := env_of st.inn hE 1 (by kernel_rfl)
    have g126 : Grew H103 H116 := (st.kept.grew (Nat.le_of_ble_eq_true (by kernel_rfl)))
    have g127 : Grew H H116 := Grew.trans g110 g126
    have r128 := g126.at r111
    have s129 := s112.grew g126
    have s130 := s113.grew g126
    have s131 := s114.grew g126
    have s132 := s115.grew g126
    have s133 := sS102.grew g126
    clear st hE vs ls
    refine res_call (d := (some 54)) (f := 48) (args := [.tmp 52, .tmp 53]) (by kernel_rfl) (R := fun z H' => z = .int .i64 (1 + 3 * (ms.length : Int)) ∧ OnlyS S49 H116 H' ∧ SlW H' 3 (mksPose 1 ms.length) S49) ?_ ?_
    · show ACalls _ _ [E116 52, E116 53] _ _
      rw [b117, b118]
      exact w_markPoseS H116 ms hr S49 s131 1 (by decide) (by decide) mxms
    rintro z H134 ⟨rfl, oH134, nH134⟩
    have g135 : Grew H H134 := OnlyS.own g127 fr54 oH134
    have r136 := oH134.at r128 (by assumption)
    have s137 := s129.only oH134 (by first | assumption | exact ApartS.symm (by assumption))
    have s138 := s130.only oH134 (by first | assumption | exact ApartS.symm (by assumption))
    have s139 := s132.only oH134 (by first | assumption | exact ApartS.symm (by assumption))
    have s140 := s133.only oH134 (by first | assumption | exact ApartS.symm (by assumption))
    refine run_mn (φ := φ0) (pm := pmR 1 [(.call 47 [.nd 9 .one, .nd 7 .one], .lit (.bool true))] 0) 20 (nk := [(.atom 0, .one), (.atom 1, .flt .f32), (.atom 2, .flt .f32), (.atom 3, .flt .f32), (.atom 4, .int .i64), (.atom 5, .int .i64), (.atom 6, .one), (.atom 7, .one), (.atom 8, .one), (.atom 9, .one), (.atom 10, .one), (.atom 11, .int .i64)]) (fs := []) (xs := [S, .flt .f32 s0, .flt .f32 s1, .flt .f32 s2, .int .i64 c, .int .i64 q1, S15, S31, S49, S74, S102, .int .i64 (1 + 3 * (ms.length : Int))]) (ws := [⟨p6, 0, [.nd 1 (.flt .f32), .nd 2 (.flt .f32), .nd 3 (.flt .f32)], false⟩]) (env := [(52, .nd 8 .one), (53, .lit (.int .i64 1)), (11, .lit (.int .i64 1)), (9, .nd 9 .one), (6, .nd 7 .one), (10, .nd 4 (.int .i64)), (7, .nd 4 (.int .i64)), (2, .ptr 0 0), (1, .nd 0 .one), (54, .nd 11 (.int .i64))]) ?_ ?_ tb_ok ap_ok ?_
    · refine midN_in ?_ .nil _ ?_ ?_ ?_
      · exact (.cons rfl (slOne hS) (.cons rfl ⟨_, rfl, o0⟩ (.cons rfl ⟨_, rfl, o1⟩ (.cons rfl ⟨_, rfl, o2⟩ (.cons rfl ⟨_, rfl⟩ (.cons rfl ⟨_, rfl⟩ (.cons rfl sS15.one (.cons rfl sS31.one (.cons rfl sS49.one (.cons rfl sS74.one (.cons rfl sS102.one (.cons rfl ⟨_, rfl⟩ .nil))))))))))))
      · exact (.cons (win_row r136 (dlCons (dNd rfl ⟨_, rfl, o0⟩) (dlCons (dNd rfl ⟨_, rfl, o1⟩) (dlCons (dNd rfl ⟨_, rfl, o2⟩) dlNil)))) .nil)
      · exact sepOk_ro rfl
      · exact (.cons (rule_call (args := [S74, S31]) (dlCons (dNd rfl sS74.one) (dlCons (dNd rfl sS31.one) dlNil)) (dLit rfl) (fun H9 hk => k_eqPoseS H9 L hL _ _ ((s139.grew (hk.grew (Nat.le_refl _)))).toL ((s138.grew (hk.grew (Nat.le_refl _)))).toL (mx40 mxL))) .nil)
    · exact (envEq (put_ne rfl b117) (dNd rfl sS49.one) (envEq (put_ne rfl b118) (dLit rfl) (envEq (put_ne rfl b119) (dLit rfl) (envEq (put_ne rfl b120) (dNd rfl sS74.one) (envEq (put_ne rfl b121) (dNd rfl sS31.one) (envEq (put_ne rfl b122) (dNd rfl ⟨_, rfl⟩) (envEq (put_ne rfl b123) (dNd rfl ⟨_, rfl⟩) (envEq (put_ne rfl b124) (dPtr (l := p6) (o := 0) rfl) (envEq (put_ne rfl b125) (dNd rfl (slOne hS)) (envEq put_same (dNd rfl ⟨_, rfl⟩) envNil))))))))))
    refine all2 (by kernel_rfl) ?_ ?_
    ·
      intro vs ls H141 E141 st hE
      have f142 : (1 + 3 * (ms.length : Int)) < 0 := of_decide_eq_true (bfact (x := decide ((1 + 3 * (ms.length : Int)) < 0)) st.inn 0 (by kernel_rfl))
      exact absurd f142 (by omega)
    ·
      intro vs ls H143 E143 st hE
      have f144 : ¬ ((1 + 3 * (ms.length : Int)) < 0) := of_decide_eq_false (bfact (x := decide ((1 + 3 * (ms.length : Int)) < 0)) st.inn 0 (by kernel_rfl))
      have b145 : E143 68 = S74 := env_of st.inn hE 68 (by kernel_rfl)
      have b146 : E143 69 = .int .i64 1 := env_of st.inn hE 69 (by kernel_rfl)
      have b147 : E143 9 = S74 := env_of st.inn hE 9 (by kernel_rfl)
      have b148 : E143 12 = .int .i64 1 := env_of st.inn hE 12 (by kernel_rfl)
      have b149 : E143 2 = .ptr p6 0 := env_of st.inn hE 2 (by kernel_rfl)
      have b150 : E143 1 = S := env_of st.inn hE 1 (by kernel_rfl)
      have b151 : E143 6 = S31 := env_of st.inn hE 6 (by kernel_rfl)
      have b152 : E143 7 = .int .i64 c := env_of st.inn hE 7 (by kernel_rfl)
      have g153 : Grew H134 H143 := (st.kept.grew (Nat.le_of_ble_eq_true (by kernel_rfl)))
      have g154 : Grew H H143 := Grew.trans g135 g153
      have r155 := g153.at r136
      have s156 := s137.grew g153
      have s157 := s138.grew g153
      have s158 := nH134.grew g153
      have s159 := s139.grew g153
      have s160 := s140.grew g153
      clear st hE vs ls
      refine res_call (d := (some 70)) (f := 48) (args := [.tmp 68, .tmp 69]) (by kernel_rfl) (R := fun z H' => z = .int .i64 (1 + 3 * (L.length : Int)) ∧ OnlyS S74 H143 H' ∧ SlW H' 3 (mksPose 1 L.length) S74) ?_ ?_
      · show ACalls _ _ [E143 68, E143 69] _ _
        rw [b145, b146]
        exact w_markPoseS H143 L hL S74 s159 1 (by decide) (by decide) mxL
      rintro z H161 ⟨rfl, oH161, nH161⟩
      have g162 : Grew H H161 := OnlyS.own g154 fr79 oH161
      have r163 := oH161.at r155 (by assumption)
      have s164 := s156.only oH161 (by first | assumption | exact ApartS.symm (by assumption))
      have s165 := s157.only oH161 (by first | assumption | exact ApartS.symm (by assumption))
      have s166 := s158.only oH161 (by first | assumption | exact ApartS.symm (by assumption))
      have s167 := s160.only oH161 (by first | assumption | exact ApartS.symm (by assumption))
      refine run_mn (φ := φ0) (pm := pmR 1 [(.call 49 [.nd 9 .one, .lit (.int .i64 1)], .nd 12 (.int .i64)), (.call 16 [.agg [.nd 1 (.flt .f32), .nd 2 (.flt .f32), .nd 3 (.flt .f32)]], .agg [.nd 1 (.flt .f32), .nd 2 (.flt .f32), .nd 3 (.flt .f32)])] 0) 20 (nk := [(.atom 0, .one), (.atom 1, .flt .f32), (.atom 2, .flt .f32), (.atom 3, .flt .f32), (.atom 4, .int .i64), (.atom 5, .int .i64), (.atom 6, .one), (.atom 7, .one), (.atom 8, .one), (.atom 9, .one), (.atom 10, .one), (.atom 11, .int .i64), (.atom 12, .int .i64)]) (fs := []) (xs := [S, .flt .f32 s0, .flt .f32 s1, .flt .f32 s2, .int .i64 c, .int .i64 q1, S15, S31, S49, S74, S102, .int .i64 (1 + 3 * (ms.length : Int)), .int .i64 (1 + 3 * (L.length : Int))]) (ws := [⟨p6, 0, [.nd 1 (.flt .f32), .nd 2 (.flt .f32), .nd 3 (.flt .f32)], false⟩]) (env := [(68, .nd 9 .one), (69, .lit (.int .i64 1)), (9, .nd 9 .one), (12, .lit (.int .i64 1)), (2, .ptr 0 0), (1, .nd 0 .one), (6, .nd 7 .one), (7, .nd 4 (.int .i64)), (70, .nd 12 (.int .i64))]) ?_ ?_ tb_ok ap_ok ?_
      · refine midN_in ?_ .nil _ ?_ ?_ ?_
        · exact (.cons rfl (slOne hS) (.cons rfl ⟨_, rfl, o0⟩ (.cons rfl ⟨_, rfl, o1⟩ (.cons rfl ⟨_, rfl, o2⟩ (.cons rfl ⟨_, rfl⟩ (.cons rfl ⟨_, rfl⟩ (.cons rfl sS15.one (.cons rfl sS31.one (.cons rfl sS49.one (.cons rfl sS74.one (.cons rfl sS102.one (.cons rfl ⟨_, rfl⟩ (.cons rfl ⟨_, rfl⟩ .nil)))))))))))))
        · exact (.cons (win_row r163 (dlCons (dNd rfl ⟨_, rfl, o0⟩) (dlCons (dNd rfl ⟨_, rfl, o1⟩) (dlCons (dNd rfl ⟨_, rfl, o2⟩) dlNil)))) .nil)
        · exact sepOk_ro rfl
        · exact (.cons (rule_call (args := [S74, .int .i64 1]) (dlCons (dNd rfl sS74.one) (dlCons (dLit rfl) dlNil)) (dNd rfl ⟨_, rfl⟩) (fun H9 hk => k_heldPoseS H9 1 L.length S74 ((nH161.grew (hk.grew (Nat.le_refl _)))).toL (by decide) (by decide) mxL)) (.cons (rule_call (args := [.agg [.flt .f32 s0, .flt .f32 s1, .flt .f32 s2]]) (dlCons (dAgg (dlCons (dNd rfl ⟨_, rfl, o0⟩) (dlCons (dNd rfl ⟨_, rfl, o1⟩) (dlCons (dNd rfl ⟨_, rfl, o2⟩) dlNil)))) dlNil) (dAgg (dlCons (dNd rfl ⟨_, rfl, o0⟩) (dlCons (dNd rfl ⟨_, rfl, o1⟩) (dlCons (dNd rfl ⟨_, rfl, o2⟩) dlNil)))) (fun H9 hk => k_toPose s0 s1 s2 o0 o1 o2 H9)) .nil))
      · exact (envEq (put_ne rfl b145) (dNd rfl sS74.one) (envEq (put_ne rfl b146) (dLit rfl) (envEq (put_ne rfl b147) (dNd rfl sS74.one) (envEq (put_ne rfl b148) (dLit rfl) (envEq (put_ne rfl b149) (dPtr (l := p6) (o := 0) rfl) (envEq (put_ne rfl b150) (dNd rfl (slOne hS)) (envEq (put_ne rfl b151) (dNd rfl sS31.one) (envEq (put_ne rfl b152) (dNd rfl ⟨_, rfl⟩) (envEq put_same (dNd rfl ⟨_, rfl⟩) envNil)))))))))
      refine all2 (by kernel_rfl) ?_ ?_
      ·
        intro vs ls H168 E168 st hE
        have f169 : (1 + 3 * (L.length : Int)) < 0 := of_decide_eq_true (bfact (x := decide ((1 + 3 * (L.length : Int)) < 0)) st.inn 0 (by kernel_rfl))
        exact absurd f169 (by omega)
      ·
        intro vs ls H170 E170 st hE
        have f171 : ¬ ((1 + 3 * (L.length : Int)) < 0) := of_decide_eq_false (bfact (x := decide ((1 + 3 * (L.length : Int)) < 0)) st.inn 0 (by kernel_rfl))
        have b172 : E170 82 = S := env_of st.inn hE 82 (by kernel_rfl)
        have b173 : E170 81 = .agg [.flt .f32 s0, .flt .f32 s1, .flt .f32 s2] := env_of st.inn hE 81 (by kernel_rfl)
        have b174 : E170 6 = S31 := env_of st.inn hE 6 (by kernel_rfl)
        have b175 : E170 7 = .int .i64 c := env_of st.inn hE 7 (by kernel_rfl)
        have b176 : E170 9 = S74 := env_of st.inn hE 9 (by kernel_rfl)
        have b177 : E170 13 = .int .i64 (1 + 3 * (L.length : Int)) := env_of st.inn hE 13 (by kernel_rfl)
        have b178 : E170 12 = .int .i64 (1 + 3 * (L.length : Int)) := env_of st.inn hE 12 (by kernel_rfl)
        have g179 : Grew H161 H170 := (st.kept.grew (Nat.le_of_ble_eq_true (by kernel_rfl)))
        have g180 : Grew H H170 := Grew.trans g162 g179
        have r181 := g179.at r163
        have s182 := s164.grew g179
        have s183 := s165.grew g179
        have s184 := s166.grew g179
        have s185 := nH161.grew g179
        have s186 := s167.grew g179
        clear st hE vs ls
        refine res_call (d := (some 83)) (f := 45) (args := [.tmp 82]) (by kernel_rfl) (R := fun z H' => Grew H170 H' ∧ SlW H' 3 ms z ∧ FreshS H170.next z) ?_ ?_
        · show ACalls _ _ [E170 82] _ _
          rw [b172]
          exact w_toPoseS H170 ms hr S (hS.grew g180) mxms
        rintro S187 H188 ⟨gS187, sS187, fS187⟩
        have ne189 : ApartS (S187) (S15) := fS187.apartS s182.lt
        have ne190 : ApartS (S187) (S31) := fS187.apartS s183.lt
        have ne191 : ApartS (S187) (S49) := fS187.apartS s184.lt
        have ne192 : ApartS (S187) (S74) := fS187.apartS s185.lt
        have ne193 : ApartS (S187) (S102) := fS187.apartS s186.lt
        have fr194 : FreshS H.next (S187) := fS187.mono g180.next
        have g195 : Grew H H188 := Grew.trans g180 gS187
        have s196 := s182.grew gS187
        have s197 := s183.grew gS187
        have s198 := s184.grew gS187
        have s199 := s185.grew gS187
        have s200 := s186.grew gS187
        refine run_mn (φ := φ0) (pm := pmR 0 [] 0) 20 (nk := [(.atom 0, .one), (.atom 1, .flt .f32), (.atom 2, .flt .f32), (.atom 3, .flt .f32), (.atom 4, .int .i64), (.atom 5, .int .i64), (.atom 6, .one), (.atom 7, .one), (.atom 8, .one), (.atom 9, .one), (.atom 10, .one), (.atom 11, .int .i64), (.atom 12, .int .i64), (.atom 13, .one)]) (fs := []) (xs := [S, .flt .f32 s0, .flt .f32 s1, .flt .f32 s2, .int .i64 c, .int .i64 q1, S15, S31, S49, S74, S102, .int .i64 (1 + 3 * (ms.length : Int)), .int .i64 (1 + 3 * (L.length : Int)), S187]) (ws := []) (env := [(82, .nd 0 .one), (81, .agg [.nd 1 (.flt .f32), .nd 2 (.flt .f32), .nd 3 (.flt .f32)]), (6, .nd 7 .one), (7, .nd 4 (.int .i64)), (9, .nd 9 .one), (13, .nd 12 (.int .i64)), (12, .nd 12 (.int .i64)), (83, .nd 13 .one)]) ?_ ?_ tb_ok ap_ok ?_
        · refine midN_in ?_ .nil _ ?_ ?_ ?_
          · exact (.cons rfl (slOne hS) (.cons rfl ⟨_, rfl, o0⟩ (.cons rfl ⟨_, rfl, o1⟩ (.cons rfl ⟨_, rfl, o2⟩ (.cons rfl ⟨_, rfl⟩ (.cons rfl ⟨_, rfl⟩ (.cons rfl sS15.one (.cons rfl sS31.one (.cons rfl sS49.one (.cons rfl sS74.one (.cons rfl sS102.one (.cons rfl ⟨_, rfl⟩ (.cons rfl ⟨_, rfl⟩ (.cons rfl sS187.one .nil))))))))))))))
          · exact .nil
          · exact sepOk_ro rfl
          · exact .nil
        · exact (envEq (put_ne rfl b172) (dNd rfl (slOne hS)) (envEq (put_ne rfl b173) (dAgg (dlCons (dNd rfl ⟨_, rfl, o0⟩) (dlCons (dNd rfl ⟨_, rfl, o1⟩) (dlCons (dNd rfl ⟨_, rfl, o2⟩) dlNil)))) (envEq (put_ne rfl b174) (dNd rfl sS31.one) (envEq (put_ne rfl b175) (dNd rfl ⟨_, rfl⟩) (envEq (put_ne rfl b176) (dNd rfl sS74.one) (envEq (put_ne rfl b177) (dNd rfl ⟨_, rfl⟩) (envEq (put_ne rfl b178) (dNd rfl ⟨_, rfl⟩) (envEq put_same (dNd rfl sS187.one) envNil))))))))
        refine all1 (by kernel_rfl) ?_
        intro vs ls H201 E201 st hE
        have b202 : E201 81 = .agg [.flt .f32 s0, .flt .f32 s1, .flt .f32 s2] := env_of st.inn hE 81 (by kernel_rfl)
        have b203 : E201 83 = S187 := env_of st.inn hE 83 (by kernel_rfl)
        have b204 : E201 6 = S31 := env_of st.inn hE 6 (by kernel_rfl)
        have b205 : E201 7 = .int .i64 c := env_of st.inn hE 7 (by kernel_rfl)
        have b206 : E201 9 = S74 := env_of st.inn hE 9 (by kernel_rfl)
        have b207 : E201 13 = .int .i64 (1 + 3 * (L.length : Int)) := env_of st.inn hE 13 (by kernel_rfl)
        have b208 : E201 12 = .int .i64 (1 + 3 * (L.length : Int)) := env_of st.inn hE 12 (by kernel_rfl)
        have g209 : Grew H188 H201 := (st.kept.grew (Nat.le_of_ble_eq_true (by kernel_rfl)))
        have g210 : Grew H H201 := Grew.trans g195 g209
        have s211 := s196.grew g209
        have s212 := s197.grew g209
        have s213 := s198.grew g209
        have s214 := s199.grew g209
        have s215 := s200.grew g209
        have s216 := sS187.grew g209
        clear st hE vs ls
        refine res_call (d := (some 84)) (f := 46) (args := [.tmp 81, .tmp 83]) (by kernel_rfl) (R := fun z H' => Grew H201 H' ∧ ∃ S', z = .tuple [S', .int .i64 c] ∧ SlW H' 3 L S' ∧ FreshS H201.next S') ?_ ?_
        · show ACalls _ _ [E201 81, E201 83] _ _
          rw [b202, b203]
          exact (by have h := k_impl_ReckonPoses H201 s0 s1 s2 o0 o1 o2 ms hr S187 s216.toL (mx40 mxms); rw [hadd] at h; exact h)
        rintro z H217 ⟨gH217, S218, rfl, sS218, fS218⟩
        have ne219 : ApartS (S218) (S15) := fS218.apartS s211.lt
        have ne220 : ApartS (S218) (S31) := fS218.apartS s212.lt
        have ne221 : ApartS (S218) (S49) := fS218.apartS s213.lt
        have ne222 : ApartS (S218) (S74) := fS218.apartS s214.lt
        have ne223 : ApartS (S218) (S102) := fS218.apartS s215.lt
        have ne224 : ApartS (S218) (S187) := fS218.apartS s216.lt
        have fr225 : FreshS H.next (S218) := fS218.mono g210.next
        have g226 : Grew H H217 := Grew.trans g210 gH217
        have s227 := s211.grew gH217
        have s228 := s212.grew gH217
        have s229 := s213.grew gH217
        have s230 := s214.grew gH217
        have s231 := s215.grew gH217
        have s232 := s216.grew gH217
        refine run_mn (φ := φ0) (pm := pmR 0 [(.call 47 [.nd 14 .one, .nd 7 .one], .lit (.bool true)), (.call 49 [.nd 9 .one, .lit (.int .i64 1)], .nd 12 (.int .i64))] 0) 20 (nk := [(.atom 0, .one), (.atom 1, .flt .f32), (.atom 2, .flt .f32), (.atom 3, .flt .f32), (.atom 4, .int .i64), (.atom 5, .int .i64), (.atom 6, .one), (.atom 7, .one), (.atom 8, .one), (.atom 9, .one), (.atom 10, .one), (.atom 11, .int .i64), (.atom 12, .int .i64), (.atom 13, .one), (.atom 14, .one)]) (fs := []) (xs := [S, .flt .f32 s0, .flt .f32 s1, .flt .f32 s2, .int .i64 c, .int .i64 q1, S15, S31, S49, S74, S102, .int .i64 (1 + 3 * (ms.length : Int)), .int .i64 (1 + 3 * (L.length : Int)), S187, S218]) (ws := []) (env := [(81, .agg [.nd 1 (.flt .f32), .nd 2 (.flt .f32), .nd 3 (.flt .f32)]), (83, .nd 13 .one), (6, .nd 7 .one), (7, .nd 4 (.int .i64)), (9, .nd 9 .one), (13, .nd 12 (.int .i64)), (12, .nd 12 (.int .i64)), (84, .tup [.nd 14 .one, .nd 4 (.int .i64)])]) ?_ ?_ tb_ok ap_ok ?_
        · refine midN_in ?_ .nil _ ?_ ?_ ?_
          · exact (.cons rfl (slOne hS) (.cons rfl ⟨_, rfl, o0⟩ (.cons rfl ⟨_, rfl, o1⟩ (.cons rfl ⟨_, rfl, o2⟩ (.cons rfl ⟨_, rfl⟩ (.cons rfl ⟨_, rfl⟩ (.cons rfl sS15.one (.cons rfl sS31.one (.cons rfl sS49.one (.cons rfl sS74.one (.cons rfl sS102.one (.cons rfl ⟨_, rfl⟩ (.cons rfl ⟨_, rfl⟩ (.cons rfl sS187.one (.cons rfl sS218.one .nil)))))))))))))))
          · exact .nil
          · exact sepOk_ro rfl
          · exact (.cons (rule_call (args := [S218, S31]) (dlCons (dNd rfl sS218.one) (dlCons (dNd rfl sS31.one) dlNil)) (dLit rfl) (fun H9 hk => k_eqPoseS H9 L hL _ _ ((sS218.grew (hk.grew (Nat.le_refl _)))).toL ((s228.grew (hk.grew (Nat.le_refl _)))).toL (mx40 mxL))) (.cons (rule_call (args := [S74, .int .i64 1]) (dlCons (dNd rfl sS74.one) (dlCons (dLit rfl) dlNil)) (dNd rfl ⟨_, rfl⟩) (fun H9 hk => k_heldPoseS H9 1 L.length S74 ((s230.grew (hk.grew (Nat.le_refl _)))).toL (by decide) (by decide) mxL)) .nil))
        · exact (envEq (put_ne rfl b202) (dAgg (dlCons (dNd rfl ⟨_, rfl, o0⟩) (dlCons (dNd rfl ⟨_, rfl, o1⟩) (dlCons (dNd rfl ⟨_, rfl, o2⟩) dlNil)))) (envEq (put_ne rfl b203) (dNd rfl sS187.one) (envEq (put_ne rfl b204) (dNd rfl sS31.one) (envEq (put_ne rfl b205) (dNd rfl ⟨_, rfl⟩) (envEq (put_ne rfl b206) (dNd rfl sS74.one) (envEq (put_ne rfl b207) (dNd rfl ⟨_, rfl⟩) (envEq (put_ne rfl b208) (dNd rfl ⟨_, rfl⟩) (envEq put_same (dTup' (dlCons (dNd rfl sS218.one) (dlCons (dNd rfl ⟨_, rfl⟩) dlNil))) envNil))))))))
        refine all2 (by kernel_rfl) ?_ ?_
        ·
          intro vs ls H233 E233 st hE
          have f234 : (1 + 3 * (L.length : Int)) < 0 := of_decide_eq_true (bfact (x := decide ((1 + 3 * (L.length : Int)) < 0)) st.inn 0 (by kernel_rfl))
          exact absurd f234 (by omega)
        ·
          intro vs ls H235 E235 st hE
          have f236 : ¬ ((1 + 3 * (L.length : Int)) < 0) := of_decide_eq_false (bfact (x := decide ((1 + 3 * (L.length : Int)) < 0)) st.inn 0 (by kernel_rfl))
          exact res_ex (by kernel_rfl) (end_same st.inn hE (.inr rfl) (a := .bool true) (by kernel_rfl) (Nat.le_trans g226.next st.kept.1) rfl)
end Go.Proofs.Ytllgmcgdkhnilaa
