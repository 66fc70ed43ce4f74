/- The law of ChainGraph, walked. -/
import Derived.Test.YtcmoeocemmeofaaTChain
import Derived.Test.YtcmoeocemmeofaaTGraphM
set_option linter.unusedVariables false
set_option linter.unusedSimpArgs false
namespace Go.Proofs.Ytcmoeocemmeofaa
open Go.Ab
set_option maxRecDepth 100000
set_option maxHeartbeats 1000000
attribute [local irreducible] Res
theorem poseArg {H : AHeap} {a : AV} (h : FitArg H (true, [.flt .f32, .flt .f32, .flt .f32]) a) : ∃ s0 s1 s2 : Option Nat, a = .agg [.flt .f32 s0, .flt .f32 s1, .flt .f32 s2] ∧ fOk .f32 s0 ∧ fOk .f32 s1 ∧ fOk .f32 s2 := by
  obtain ⟨cs, rfl, hl, hc⟩ := h
  match cs, hl with
  | [c0, c1, c2], _ =>
    have h0 := hc 0 _ _ rfl rfl
    have h1 := hc 1 _ _ rfl rfl
    have h2 := hc 2 _ _ rfl rfl
    cases h0 with | flt h0 => cases h1 with | flt h1 => cases h2 with | flt h2 =>
    exact ⟨_, _, _, rfl, h0, h1, h2⟩
theorem chainF_ok {st : List AV} {ms P Q : List (List AV)} {w : Option Nat} {c : Int} (h : chainF st ms w = (P, Q, c)) (hst : KdsL KP st) (hr : Recs KP ms) (hw : fOk .f32 w) (h1 : ms.length ≤ 1048576) : Recs KP P ∧ Recs KL Q ∧ P.length ≤ 1048576 ∧ Q.length ≤ 1048576 := by
  unfold chainF at h
  split at h
  · split at h
    · cases h; exact ⟨(reckF_recs hst ms).1, chainK_recs hr hw (Nat.le_refl _), Nat.le_trans (reckF_recs hst ms).2 (by decide), by rw [chainK_len]; exact h1⟩
    · cases h; exact ⟨.nil, .nil, by decide, by decide⟩
  · cases h; exact ⟨.nil, .nil, by decide, by decide⟩
theorem k_toPose (s0 s1 s2 : Option Nat) (o0 : fOk .f32 s0) (o1 : fOk .f32 s1) (o2 : fOk .f32 s2) (H : AHeap) : APure Try.prog 20 [.agg [.flt .f32 s0, .flt .f32 s1, .flt .f32 s2]] H (.agg [.flt .f32 s0, .flt .f32 s1, .flt .f32 s2]) := by
  refine res_start h_laws_toPose (by simp) ?_
  refine run_mn (φ := φ0) (pm := pmR 0 [] 10) 20 (nk := [(.atom 0, .flt .f32), (.atom 1, .flt .f32), (.atom 2, .flt .f32)]) (fs := []) (xs := [.flt .f32 s0, .flt .f32 s1, .flt .f32 s2]) (ws := []) (env := [(0, .agg [.nd 0 (.flt .f32), .nd 1 (.flt .f32), .nd 2 (.flt .f32)])]) ?_ ?_ tb_ok ap_ok ?_
  · refine midN_in ?_ .nil _ ?_ ?_ ?_
    · exact (.cons rfl ⟨_, rfl, o0⟩ (.cons rfl ⟨_, rfl, o1⟩ (.cons rfl ⟨_, rfl, o2⟩ .nil)))
    · exact .nil
    · exact sepOk_ro rfl
    · exact .nil
  · exact (envEq rfl (dAgg (dlCons (dNd rfl ⟨_, rfl, o0⟩) (dlCons (dNd rfl ⟨_, rfl, o1⟩) (dlCons (dNd rfl ⟨_, rfl, o2⟩) dlNil)))) envNil)
  refine all1 (by kernel_rfl) ?_
  intro vs ls H1 E1 st hE
  refine res_ex (by kernel_rfl) (end_flat st.inn hE (.inr rfl) (a := .agg [.flt .f32 s0, .flt .f32 s1, .flt .f32 s2]) (by kernel_rfl) (Grew.trans (Grew.refl _) (st.kept.grew (Nat.le_of_ble_eq_true (by kernel_rfl)))) rfl ⟨?_, rfl⟩)
  rfl
theorem lawExactChainGraph (H : AHeap) (vs : List AV) (h : FitArgs H [(true, [.flt .f32, .flt .f32, .flt .f32]), (false, [.sl [.flt .f32, .flt .f32, .flt .f32]]), (false, [.flt .f32])] vs) : ACalls Try.prog 9 vs H fun r _ => r = .bool true := by
  match vs, h with
  | [a, S, b], h =>
  obtain ⟨s0, s1, s2, rfl, o0, o1, o2⟩ := poseArg h.1
  obtain ⟨sb, eb, fb⟩ := h.2.1
  cases eb
  obtain ⟨ms, hr, hS, hmx⟩ := slArg (ks := KP) (sz := 3) fb rfl rfl
  obtain ⟨sc, ec, fc⟩ := h.2.2.1
  cases ec
  cases fc
  rename_i wt hw
  clear h
  obtain ⟨P, Q, c, hadd⟩ : ∃ P Q c, chainF [.flt .f32 s0, .flt .f32 s1, .flt .f32 s2] ms wt = (P, Q, c) := ⟨_, _, _, rfl⟩
  refine res_start h_laws_FnExactChainGraph (by simp) ?_
  obtain ⟨q1, kq1, hq1⟩ : ∃ r : Int, (∀ H9, Grew H H9 → APure Try.prog 18 [S, .int .i64 1048576] H9 (.int .i64 r)) ∧ (((1048576 : Int) - (ms.length : Int) < 0 ∧ r = -1) ∨ (0 ≤ (1048576 : Int) - (ms.length : Int) ∧ r = (1048576 : Int) - (ms.length : Int))) := ⟨_, fun H9 hk => k_szPoseS H9 ms S (hS.grew (Grew.trans (Grew.refl _) hk)) 1048576 (by omega) (by omega) hmx, by split <;> omega⟩
  refine run_mn (φ := φ0) (pm := pmR 0 [(.call 18 [.nd 0 .one, .lit (.int .i64 1048576)], .nd 6 (.int .i64)), (.call 20 [.agg [.nd 1 (.flt .f32), .nd 2 (.flt .f32), .nd 3 (.flt .f32)]], .agg [.nd 1 (.flt .f32), .nd 2 (.flt .f32), .nd 3 (.flt .f32)])] 0) 20 (nk := [(.atom 0, .one), (.atom 1, .flt .f32), (.atom 2, .flt .f32), (.atom 3, .flt .f32), (.atom 4, .flt .f32), (.atom 5, .int .i64), (.atom 6, .int .i64)]) (fs := []) (xs := [S, .flt .f32 s0, .flt .f32 s1, .flt .f32 s2, .flt .f32 wt, .int .i64 c, .int .i64 q1]) (ws := []) (env := [(0, .agg [.nd 1 (.flt .f32), .nd 2 (.flt .f32), .nd 3 (.flt .f32)]), (1, .nd 0 .one), (2, .nd 4 (.flt .f32))]) ?_ ?_ tb_ok ap_ok ?_
  · refine midN_in ?_ .nil _ ?_ ?_ ?_
    · exact (.cons rfl (slOne hS) (.cons rfl ⟨_, rfl, o0⟩ (.cons rfl ⟨_, rfl, o1⟩ (.cons rfl ⟨_, rfl, o2⟩ (.cons rfl ⟨_, rfl, hw⟩ (.cons rfl ⟨_, rfl⟩ (.cons rfl ⟨_, rfl⟩ .nil)))))))
    · exact .nil
    · exact sepOk_ro rfl
    · exact (.cons (rule_call (args := [S, .int .i64 1048576]) (dlCons (dNd rfl (slOne hS)) (dlCons (dLit rfl) dlNil)) (dNd rfl ⟨_, rfl⟩) (fun H9 hk => kq1 H9 (hk.grew (Nat.le_refl _)))) (.cons (rule_call (args := [.agg [.flt .f32 s0, .flt .f32 s1, .flt .f32 s2]]) (dlCons (dAgg (dlCons (dNd rfl ⟨_, rfl, o0⟩) (dlCons (dNd rfl ⟨_, rfl, o1⟩) (dlCons (dNd rfl ⟨_, rfl, o2⟩) dlNil)))) dlNil) (dAgg (dlCons (dNd rfl ⟨_, rfl, o0⟩) (dlCons (dNd rfl ⟨_, rfl, o1⟩) (dlCons (dNd rfl ⟨_, rfl, o2⟩) dlNil)))) (fun H9 hk => k_toPose s0 s1 s2 o0 o1 o2 H9)) .nil))
  · exact (envEq rfl (dAgg (dlCons (dNd rfl ⟨_, rfl, o0⟩) (dlCons (dNd rfl ⟨_, rfl, o1⟩) (dlCons (dNd rfl ⟨_, rfl, o2⟩) dlNil)))) (envEq rfl (dNd rfl (slOne hS)) (envEq rfl (dNd rfl ⟨_, rfl, hw⟩) envNil)))
  refine all2 (by kernel_rfl) ?_ ?_
  ·
    intro vs ls H2 E2 st hE
    have f3 : q1 < 0 := of_decide_eq_true (bfact (x := decide (q1 < 0)) st.inn 0 (by kernel_rfl))
    exact res_ex (by kernel_rfl) (end_same st.inn hE (.inr rfl) (a := .bool true) (by kernel_rfl) (Nat.le_trans (Nat.le_refl _) st.kept.1) rfl)
  ·
    intro vs ls H4 E4 st hE
    have f5 : ¬ (q1 < 0) := of_decide_eq_false (bfact (x := decide (q1 < 0)) st.inn 0 (by kernel_rfl))
    have mxms : ms.length ≤ 1048576 := by omega
    obtain ⟨hP, hQ, mxP, mxQ⟩ := chainF_ok hadd (.cons ⟨_, rfl, o0⟩ (.cons ⟨_, rfl, o1⟩ (.cons ⟨_, rfl, o2⟩ .nil))) hr hw mxms
    obtain ⟨p6, e7, r8, n9⟩ := ptr_of st.inn hE 3 0 (by kernel_rfl) (ds := [.flt .f32 s0, .flt .f32 s1, .flt .f32 s2]) (by kernel_rfl)
    have op6 : H.next ≤ p6 := Nat.le_trans (Nat.le_refl _) (n9 (Nat.le_of_ble_eq_true rfl))
    have b10 : E4 26 = S := env_of st.inn hE 26 (by kernel_rfl)
    have b11 : E4 2 = .flt .f32 wt := env_of st.inn hE 2 (by kernel_rfl)
    have b12 : E4 25 = .agg [.flt .f32 s0, .flt .f32 s1, .flt .f32 s2] := env_of st.inn hE 25 (by kernel_rfl)
    have b13 : E4 1 = S := env_of st.inn hE 1 (by kernel_rfl)
    have g14 : Grew H H4 := (st.kept.grew (Nat.le_of_ble_eq_true (by kernel_rfl)))
    have g15 : Grew H H4 := Grew.trans (Grew.refl _) g14
    clear st hE vs ls
    refine res_call (d := (some 27)) (f := 21) (args := [.tmp 26]) (by kernel_rfl) (R := fun z H' => Grew H4 H' ∧ SlW H' 3 ms z ∧ FreshS H4.next z) ?_ ?_
    · show ACalls _ _ [E4 26] _ _
      rw [b10]
      exact w_toPoseS H4 ms hr S (hS.grew g15) mxms
    rintro S16 H17 ⟨gS16, sS16, fS16⟩
    have ne18 : ApartL (S16) p6 := fS16.apartL (H4.lt_of_get r8)
    have fr19 : FreshS H.next (S16) := fS16.mono g15.next
    have g20 : Grew H H17 := Grew.trans g15 gS16
    have r21 := gS16.at r8
    refine run_mn (φ := φ0) (pm := pmR 1 [] 0) 20 (nk := [(.atom 0, .one), (.atom 1, .flt .f32), (.atom 2, .flt .f32), (.atom 3, .flt .f32), (.atom 4, .flt .f32), (.atom 5, .int .i64), (.atom 6, .int .i64), (.atom 7, .one)]) (fs := []) (xs := [S, .flt .f32 s0, .flt .f32 s1, .flt .f32 s2, .flt .f32 wt, .int .i64 c, .int .i64 q1, S16]) (ws := [⟨p6, 0, [.nd 1 (.flt .f32), .nd 2 (.flt .f32), .nd 3 (.flt .f32)], false⟩]) (env := [(26, .nd 0 .one), (2, .nd 4 (.flt .f32)), (25, .agg [.nd 1 (.flt .f32), .nd 2 (.flt .f32), .nd 3 (.flt .f32)]), (1, .nd 0 .one), (3, .ptr 0 0), (27, .nd 7 .one)]) ?_ ?_ tb_ok ap_ok ?_
    · refine midN_in ?_ .nil _ ?_ ?_ ?_
      · exact (.cons rfl (slOne hS) (.cons rfl ⟨_, rfl, o0⟩ (.cons rfl ⟨_, rfl, o1⟩ (.cons rfl ⟨_, rfl, o2⟩ (.cons rfl ⟨_, rfl, hw⟩ (.cons rfl ⟨_, rfl⟩ (.cons rfl ⟨_, rfl⟩ (.cons rfl sS16.one .nil))))))))
      · exact (.cons (win_row r21 (dlCons (dNd rfl ⟨_, rfl, o0⟩) (dlCons (dNd rfl ⟨_, rfl, o1⟩) (dlCons (dNd rfl ⟨_, rfl, o2⟩) dlNil)))) .nil)
      · exact sepOk_ro rfl
      · exact .nil
    · exact (envEq (put_ne rfl b10) (dNd rfl (slOne hS)) (envEq (put_ne rfl b11) (dNd rfl ⟨_, rfl, hw⟩) (envEq (put_ne rfl b12) (dAgg (dlCons (dNd rfl ⟨_, rfl, o0⟩) (dlCons (dNd rfl ⟨_, rfl, o1⟩) (dlCons (dNd rfl ⟨_, rfl, o2⟩) dlNil)))) (envEq (put_ne rfl b13) (dNd rfl (slOne hS)) (envEq (put_ne rfl e7) (dPtr (l := p6) (o := 0) rfl) (envEq put_same (dNd rfl sS16.one) envNil))))))
    refine all1 (by kernel_rfl) ?_
    intro vs ls H22 E22 st hE
    have b23 : E22 25 = .agg [.flt .f32 s0, .flt .f32 s1, .flt .f32 s2] := env_of st.inn hE 25 (by kernel_rfl)
    have b24 : E22 27 = S16 := env_of st.inn hE 27 (by kernel_rfl)
    have b25 : E22 28 = .flt .f32 wt := env_of st.inn hE 28 (by kernel_rfl)
    have b26 : E22 1 = S := env_of st.inn hE 1 (by kernel_rfl)
    have b27 : E22 3 = .ptr p6 0 := env_of st.inn hE 3 (by kernel_rfl)
    have b28 : E22 2 = .flt .f32 wt := env_of st.inn hE 2 (by kernel_rfl)
    have g29 : Grew H17 H22 := (st.kept.grew (Nat.le_of_ble_eq_true (by kernel_rfl)))
    have g30 : Grew H H22 := Grew.trans g20 g29
    have r31 := g29.at r21
    have s32 := sS16.grew g29
    clear st hE vs ls
    refine res_call (d := (some 29)) (f := 36) (args := [.tmp 25, .tmp 27, .tmp 28]) (by kernel_rfl) (R := fun z H' => Grew H22 H' ∧ ∃ S' Sk', z = .tuple [.agg [S', Sk'], .int .i64 c] ∧ SlW H' 3 P S' ∧ FreshS H22.next S' ∧ SlW H' 6 Q Sk' ∧ FreshS H22.next Sk' ∧ ApartS S' Sk') ?_ ?_
    · show ACalls _ _ [E22 25, E22 27, E22 28] _ _
      rw [b23, b24, b25]
      exact (by have h := k_spec_ChainGraph H22 s0 s1 s2 o0 o1 o2 ms hr S16 s32.toL (mx40 mxms) wt hw; rw [hadd] at h; exact h)
    rintro z H33 ⟨gH33, S34, S35, rfl, sS34, fS34, sS35, fS35, ap36⟩
    have ne37 : ApartL (S34) p6 := fS34.apartL (H22.lt_of_get r31)
    have ne38 : ApartS (S34) (S16) := fS34.apartS s32.lt
    have fr39 : FreshS H.next (S34) := fS34.mono g30.next
    have ne40 : ApartL (S35) p6 := fS35.apartL (H22.lt_of_get r31)
    have ne41 : ApartS (S35) (S16) := fS35.apartS s32.lt
    have fr42 : FreshS H.next (S35) := fS35.mono g30.next
    have g43 : Grew H H33 := Grew.trans g30 gH33
    have r44 := gH33.at r31
    have s45 := s32.grew gH33
    refine run_mn (φ := φ0) (pm := pmR 1 [] 0) 20 (nk := [(.atom 0, .one), (.atom 1, .flt .f32), (.atom 2, .flt .f32), (.atom 3, .flt .f32), (.atom 4, .flt .f32), (.atom 5, .int .i64), (.atom 6, .int .i64), (.atom 7, .one), (.atom 8, .one), (.atom 9, .one)]) (fs := []) (xs := [S, .flt .f32 s0, .flt .f32 s1, .flt .f32 s2, .flt .f32 wt, .int .i64 c, .int .i64 q1, S16, S34, S35]) (ws := [⟨p6, 0, [.nd 1 (.flt .f32), .nd 2 (.flt .f32), .nd 3 (.flt .f32)], false⟩]) (env := [(25, .agg [.nd 1 (.flt .f32), .nd 2 (.flt .f32), .nd 3 (.flt .f32)]), (27, .nd 7 .one), (28, .nd 4 (.flt .f32)), (1, .nd 0 .one), (3, .ptr 0 0), (2, .nd 4 (.flt .f32)), (29, .tup [.agg [.nd 8 .one, .nd 9 .one], .nd 5 (.int .i64)])]) ?_ ?_ tb_ok ap_ok ?_
    · refine midN_in ?_ .nil _ ?_ ?_ ?_
      · exact (.cons rfl (slOne hS) (.cons rfl ⟨_, rfl, o0⟩ (.cons rfl ⟨_, rfl, o1⟩ (.cons rfl ⟨_, rfl, o2⟩ (.cons rfl ⟨_, rfl, hw⟩ (.cons rfl ⟨_, rfl⟩ (.cons rfl ⟨_, rfl⟩ (.cons rfl sS16.one (.cons rfl sS34.one (.cons rfl sS35.one .nil))))))))))
      · exact (.cons (win_row r44 (dlCons (dNd rfl ⟨_, rfl, o0⟩) (dlCons (dNd rfl ⟨_, rfl, o1⟩) (dlCons (dNd rfl ⟨_, rfl, o2⟩) dlNil)))) .nil)
      · exact sepOk_ro rfl
      · exact .nil
    · exact (envEq (put_ne rfl b23) (dAgg (dlCons (dNd rfl ⟨_, rfl, o0⟩) (dlCons (dNd rfl ⟨_, rfl, o1⟩) (dlCons (dNd rfl ⟨_, rfl, o2⟩) dlNil)))) (envEq (put_ne rfl b24) (dNd rfl sS16.one) (envEq (put_ne rfl b25) (dNd rfl ⟨_, rfl, hw⟩) (envEq (put_ne rfl b26) (dNd rfl (slOne hS)) (envEq (put_ne rfl b27) (dPtr (l := p6) (o := 0) rfl) (envEq (put_ne rfl b28) (dNd rfl ⟨_, rfl, hw⟩) (envEq put_same (dTup' (dlCons (dAgg (dlCons (dNd rfl sS34.one) (dlCons (dNd rfl sS35.one) dlNil))) (dlCons (dNd rfl ⟨_, rfl⟩) dlNil))) envNil)))))))
    refine all1 (by kernel_rfl) ?_
    intro vs ls H46 E46 st hE
    obtain ⟨p47, e48, r49, n50⟩ := ptr_of st.inn hE 8 1 (by kernel_rfl) (ds := [S34, S35]) (by kernel_rfl)
    have op47 : H.next ≤ p47 := Nat.le_trans g43.next (n50 (Nat.le_of_ble_eq_true rfl))
    have ne51 : Apart p47 p6 := ⟨Nat.ne_of_gt (Nat.lt_of_lt_of_le (H33.lt_of_get r44) (n50 (Nat.le_of_ble_eq_true rfl)))⟩
    have ne52 : ApartL (S16) p47 := s45.apart_new (n50 (Nat.le_of_ble_eq_true rfl))
    have ne53 : ApartL (S34) p47 := sS34.apart_new (n50 (Nat.le_of_ble_eq_true rfl))
    have ne54 : ApartL (S35) p47 := sS35.apart_new (n50 (Nat.le_of_ble_eq_true rfl))
    have b55 : E46 32 = S := env_of st.inn hE 32 (by kernel_rfl)
    have b56 : E46 3 = .ptr p6 0 := env_of st.inn hE 3 (by kernel_rfl)
    have b57 : E46 2 = .flt .f32 wt := env_of st.inn hE 2 (by kernel_rfl)
    have b58 : E46 9 = .int .i64 c := env_of st.inn hE 9 (by kernel_rfl)
    have b59 : E46 1 = S := env_of st.inn hE 1 (by kernel_rfl)
    have g60 : Grew H33 H46 := (st.kept.grew (Nat.le_of_ble_eq_true (by kernel_rfl)))
    have g61 : Grew H H46 := Grew.trans g43 g60
    have r62 := g60.at r44
    have s63 := s45.grew g60
    have s64 := sS34.grew g60
    have s65 := sS35.grew g60
    clear st hE vs ls
    refine res_call (d := (some 33)) (f := 21) (args := [.tmp 32]) (by kernel_rfl) (R := fun z H' => Grew H46 H' ∧ SlW H' 3 ms z ∧ FreshS H46.next z) ?_ ?_
    · show ACalls _ _ [E46 32] _ _
      rw [b55]
      exact w_toPoseS H46 ms hr S (hS.grew g61) mxms
    rintro S66 H67 ⟨gS66, sS66, fS66⟩
    have ne68 : ApartL (S66) p6 := fS66.apartL (H46.lt_of_get r62)
    have ne69 : ApartL (S66) p47 := fS66.apartL (H46.lt_of_get r49)
    have ne70 : ApartS (S66) (S16) := fS66.apartS s63.lt
    have ne71 : ApartS (S66) (S34) := fS66.apartS s64.lt
    have ne72 : ApartS (S66) (S35) := fS66.apartS s65.lt
    have fr73 : FreshS H.next (S66) := fS66.mono g61.next
    have g74 : Grew H H67 := Grew.trans g61 gS66
    have r75 := gS66.at r62
    have r76 := gS66.at r49
    have s77 := s63.grew gS66
    have s78 := s64.grew gS66
    have s79 := s65.grew gS66
    refine run_mn (φ := φ0) (pm := pmR 2 [(.call 20 [.agg [.nd 1 (.flt .f32), .nd 2 (.flt .f32), .nd 3 (.flt .f32)]], .agg [.nd 1 (.flt .f32), .nd 2 (.flt .f32), .nd 3 (.flt .f32)])] 0) 20 (nk := [(.atom 0, .one), (.atom 1, .flt .f32), (.atom 2, .flt .f32), (.atom 3, .flt .f32), (.atom 4, .flt .f32), (.atom 5, .int .i64), (.atom 6, .int .i64), (.atom 7, .one), (.atom 8, .one), (.atom 9, .one), (.atom 10, .one)]) (fs := []) (xs := [S, .flt .f32 s0, .flt .f32 s1, .flt .f32 s2, .flt .f32 wt, .int .i64 c, .int .i64 q1, S16, S34, S35, S66]) (ws := [⟨p6, 0, [.nd 1 (.flt .f32), .nd 2 (.flt .f32), .nd 3 (.flt .f32)], false⟩, ⟨p47, 0, [.nd 8 .one, .nd 9 .one], false⟩]) (env := [(32, .nd 0 .one), (3, .ptr 0 0), (2, .nd 4 (.flt .f32)), (8, .ptr 1 0), (9, .nd 5 (.int .i64)), (1, .nd 0 .one), (33, .nd 10 .one)]) ?_ ?_ tb_ok ap_ok ?_
    · refine midN_in ?_ .nil _ ?_ ?_ ?_
      · exact (.cons rfl (slOne hS) (.cons rfl ⟨_, rfl, o0⟩ (.cons rfl ⟨_, rfl, o1⟩ (.cons rfl ⟨_, rfl, o2⟩ (.cons rfl ⟨_, rfl, hw⟩ (.cons rfl ⟨_, rfl⟩ (.cons rfl ⟨_, rfl⟩ (.cons rfl sS16.one (.cons rfl sS34.one (.cons rfl sS35.one (.cons rfl sS66.one .nil)))))))))))
      · exact (.cons (win_row r75 (dlCons (dNd rfl ⟨_, rfl, o0⟩) (dlCons (dNd rfl ⟨_, rfl, o1⟩) (dlCons (dNd rfl ⟨_, rfl, o2⟩) dlNil)))) (.cons (win_row r76 (dlCons (dNd rfl sS34.one) (dlCons (dNd rfl sS35.one) dlNil))) .nil))
      · exact sepOk_ro rfl
      · exact (.cons (rule_call (args := [.agg [.flt .f32 s0, .flt .f32 s1, .flt .f32 s2]]) (dlCons (dAgg (dlCons (dNd rfl ⟨_, rfl, o0⟩) (dlCons (dNd rfl ⟨_, rfl, o1⟩) (dlCons (dNd rfl ⟨_, rfl, o2⟩) dlNil)))) dlNil) (dAgg (dlCons (dNd rfl ⟨_, rfl, o0⟩) (dlCons (dNd rfl ⟨_, rfl, o1⟩) (dlCons (dNd rfl ⟨_, rfl, o2⟩) dlNil)))) (fun H9 hk => k_toPose s0 s1 s2 o0 o1 o2 H9)) .nil)
    · exact (envEq (put_ne rfl b55) (dNd rfl (slOne hS)) (envEq (put_ne rfl b56) (dPtr (l := p6) (o := 0) rfl) (envEq (put_ne rfl b57) (dNd rfl ⟨_, rfl, hw⟩) (envEq (put_ne rfl e48) (dPtr (l := p47) (o := 0) rfl) (envEq (put_ne rfl b58) (dNd rfl ⟨_, rfl⟩) (envEq (put_ne rfl b59) (dNd rfl (slOne hS)) (envEq put_same (dNd rfl sS66.one) envNil)))))))
    refine all1 (by kernel_rfl) ?_
    intro vs ls H80 E80 st hE
    have b81 : E80 36 = .agg [.flt .f32 s0, .flt .f32 s1, .flt .f32 s2] := env_of st.inn hE 36 (by kernel_rfl)
    have b82 : E80 37 = S66 := env_of st.inn hE 37 (by kernel_rfl)
    have b83 : E80 38 = .flt .f32 wt := env_of st.inn hE 38 (by kernel_rfl)
    have b84 : E80 8 = .ptr p47 0 := env_of st.inn hE 8 (by kernel_rfl)
    have b85 : E80 9 = .int .i64 c := env_of st.inn hE 9 (by kernel_rfl)
    have b86 : E80 10 = S66 := env_of st.inn hE 10 (by kernel_rfl)
    have b87 : E80 1 = S := env_of st.inn hE 1 (by kernel_rfl)
    have b88 : E80 3 = .ptr p6 0 := env_of st.inn hE 3 (by kernel_rfl)
    have b89 : E80 2 = .flt .f32 wt := env_of st.inn hE 2 (by kernel_rfl)
    have g90 : Grew H67 H80 := (st.kept.grew (Nat.le_of_ble_eq_true (by kernel_rfl)))
    have g91 : Grew H H80 := Grew.trans g74 g90
    have r92 := g90.at r75
    have r93 := g90.at r76
    have s94 := s77.grew g90
    have s95 := s78.grew g90
    have s96 := s79.grew g90
    have s97 := sS66.grew g90
    clear st hE vs ls
    refine res_call (d := (some 39)) (f := 37) (args := [.tmp 36, .tmp 37, .tmp 38]) (by kernel_rfl) (R := fun z H' => Grew H80 H' ∧ ∃ S' Sk', z = .tuple [.agg [S', Sk'], .int .i64 c] ∧ SlW H' 3 P S' ∧ FreshS H80.next S' ∧ SlW H' 6 Q Sk' ∧ FreshS H80.next Sk' ∧ ApartS S' Sk') ?_ ?_
    · show ACalls _ _ [E80 36, E80 37, E80 38] _ _
      rw [b81, b82, b83]
      exact (by have h := k_impl_ChainGraph H80 s0 s1 s2 o0 o1 o2 ms hr S66 s97.toL (mx40 mxms) wt hw; rw [hadd] at h; exact h)
    rintro z H98 ⟨gH98, S99, S100, rfl, sS99, fS99, sS100, fS100, ap101⟩
    have ne102 : ApartL (S99) p6 := fS99.apartL (H80.lt_of_get r92)
    have ne103 : ApartL (S99) p47 := fS99.apartL (H80.lt_of_get r93)
    have ne104 : ApartS (S99) (S16) := fS99.apartS s94.lt
    have ne105 : ApartS (S99) (S34) := fS99.apartS s95.lt
    have ne106 : ApartS (S99) (S35) := fS99.apartS s96.lt
    have ne107 : ApartS (S99) (S66) := fS99.apartS s97.lt
    have fr108 : FreshS H.next (S99) := fS99.mono g91.next
    have ne109 : ApartL (S100) p6 := fS100.apartL (H80.lt_of_get r92)
    have ne110 : ApartL (S100) p47 := fS100.apartL (H80.lt_of_get r93)
    have ne111 : ApartS (S100) (S16) := fS100.apartS s94.lt
    have ne112 : ApartS (S100) (S34) := fS100.apartS s95.lt
    have ne113 : ApartS (S100) (S35) := fS100.apartS s96.lt
    have ne114 : ApartS (S100) (S66) := fS100.apartS s97.lt
    have fr115 : FreshS H.next (S100) := fS100.mono g91.next
    have g116 : Grew H H98 := Grew.trans g91 gH98
    have r117 := gH98.at r92
    have r118 := gH98.at r93
    have s119 := s94.grew gH98
    have s120 := s95.grew gH98
    have s121 := s96.grew gH98
    have s122 := s97.grew gH98
    refine run_mn (φ := φ0) (pm := pmR 2 [(.call 17 [.agg [.nd 11 .one, .nd 12 .one], .agg [.nd 8 .one, .nd 9 .one]], .lit (.bool true))] 0) 20 (nk := [(.atom 0, .one), (.atom 1, .flt .f32), (.atom 2, .flt .f32), (.atom 3, .flt .f32), (.atom 4, .flt .f32), (.atom 5, .int .i64), (.atom 6, .int .i64), (.atom 7, .one), (.atom 8, .one), (.atom 9, .one), (.atom 10, .one), (.atom 11, .one), (.atom 12, .one)]) (fs := []) (xs := [S, .flt .f32 s0, .flt .f32 s1, .flt .f32 s2, .flt .f32 wt, .int .i64 c, .int .i64 q1, S16, S34, S35, S66, S99, S100]) (ws := [⟨p6, 0, [.nd 1 (.flt .f32), .nd 2 (.flt .f32), .nd 3 (.flt .f32)], false⟩, ⟨p47, 0, [.nd 8 .one, .nd 9 .one], false⟩]) (env := [(36, .agg [.nd 1 (.flt .f32), .nd 2 (.flt .f32), .nd 3 (.flt .f32)]), (37, .nd 10 .one), (38, .nd 4 (.flt .f32)), (8, .ptr 1 0), (9, .nd 5 (.int .i64)), (10, .nd 10 .one), (1, .nd 0 .one), (3, .ptr 0 0), (2, .nd 4 (.flt .f32)), (39, .tup [.agg [.nd 11 .one, .nd 12 .one], .nd 5 (.int .i64)])]) ?_ ?_ tb_ok ap_ok ?_
    · refine midN_in ?_ .nil _ ?_ ?_ ?_
      · exact (.cons rfl (slOne hS) (.cons rfl ⟨_, rfl, o0⟩ (.cons rfl ⟨_, rfl, o1⟩ (.cons rfl ⟨_, rfl, o2⟩ (.cons rfl ⟨_, rfl, hw⟩ (.cons rfl ⟨_, rfl⟩ (.cons rfl ⟨_, rfl⟩ (.cons rfl sS16.one (.cons rfl sS34.one (.cons rfl sS35.one (.cons rfl sS66.one (.cons rfl sS99.one (.cons rfl sS100.one .nil)))))))))))))
      · exact (.cons (win_row r117 (dlCons (dNd rfl ⟨_, rfl, o0⟩) (dlCons (dNd rfl ⟨_, rfl, o1⟩) (dlCons (dNd rfl ⟨_, rfl, o2⟩) dlNil)))) (.cons (win_row r118 (dlCons (dNd rfl sS34.one) (dlCons (dNd rfl sS35.one) dlNil))) .nil))
      · exact sepOk_ro rfl
      · exact (.cons (rule_call (args := [.agg [S99, S100], .agg [S34, S35]]) (dlCons (dAgg (dlCons (dNd rfl sS99.one) (dlCons (dNd rfl sS100.one) dlNil))) (dlCons (dAgg (dlCons (dNd rfl sS34.one) (dlCons (dNd rfl sS35.one) dlNil))) dlNil)) (dLit rfl) (fun H9 hk => k_eqPoseGraph H9 P hP S99 S34 ((sS99.grew (hk.grew (Nat.le_refl _)))).toL ((s120.grew (hk.grew (Nat.le_refl _)))).toL (mx40 mxP) Q hQ S100 S35 ((sS100.grew (hk.grew (Nat.le_refl _)))).toL ((s121.grew (hk.grew (Nat.le_refl _)))).toL (mx40 mxQ))) .nil)
    · exact (envEq (put_ne rfl b81) (dAgg (dlCons (dNd rfl ⟨_, rfl, o0⟩) (dlCons (dNd rfl ⟨_, rfl, o1⟩) (dlCons (dNd rfl ⟨_, rfl, o2⟩) dlNil)))) (envEq (put_ne rfl b82) (dNd rfl sS66.one) (envEq (put_ne rfl b83) (dNd rfl ⟨_, rfl, hw⟩) (envEq (put_ne rfl b84) (dPtr (l := p47) (o := 0) rfl) (envEq (put_ne rfl b85) (dNd rfl ⟨_, rfl⟩) (envEq (put_ne rfl b86) (dNd rfl sS66.one) (envEq (put_ne rfl b87) (dNd rfl (slOne hS)) (envEq (put_ne rfl b88) (dPtr (l := p6) (o := 0) rfl) (envEq (put_ne rfl b89) (dNd rfl ⟨_, rfl, hw⟩) (envEq put_same (dTup' (dlCons (dAgg (dlCons (dNd rfl sS99.one) (dlCons (dNd rfl sS100.one) dlNil))) (dlCons (dNd rfl ⟨_, rfl⟩) dlNil))) envNil))))))))))
    refine all1 (by kernel_rfl) ?_
    intro vs ls H123 E123 st hE
    obtain ⟨p124, e125, r126, n127⟩ := ptr_of st.inn hE 11 2 (by kernel_rfl) (ds := [S99, S100]) (by kernel_rfl)
    have op124 : H.next ≤ p124 := Nat.le_trans g116.next (n127 (Nat.le_of_ble_eq_true rfl))
    have ne128 : Apart p124 p6 := ⟨Nat.ne_of_gt (Nat.lt_of_lt_of_le (H98.lt_of_get r117) (n127 (Nat.le_of_ble_eq_true rfl)))⟩
    have ne129 : Apart p124 p47 := ⟨Nat.ne_of_gt (Nat.lt_of_lt_of_le (H98.lt_of_get r118) (n127 (Nat.le_of_ble_eq_true rfl)))⟩
    have ne130 : ApartL (S16) p124 := s119.apart_new (n127 (Nat.le_of_ble_eq_true rfl))
    have ne131 : ApartL (S34) p124 := s120.apart_new (n127 (Nat.le_of_ble_eq_true rfl))
    have ne132 : ApartL (S35) p124 := s121.apart_new (n127 (Nat.le_of_ble_eq_true rfl))
    have ne133 : ApartL (S66) p124 := s122.apart_new (n127 (Nat.le_of_ble_eq_true rfl))
    have ne134 : ApartL (S99) p124 := sS99.apart_new (n127 (Nat.le_of_ble_eq_true rfl))
    have ne135 : ApartL (S100) p124 := sS100.apart_new (n127 (Nat.le_of_ble_eq_true rfl))
    have b136 : E123 52 = S := env_of st.inn hE 52 (by kernel_rfl)
    have b137 : E123 51 = S66 := env_of st.inn hE 51 (by kernel_rfl)
    have b138 : E123 10 = S66 := env_of st.inn hE 10 (by kernel_rfl)
    have b139 : E123 8 = .ptr p47 0 := env_of st.inn hE 8 (by kernel_rfl)
    have b140 : E123 12 = .int .i64 c := env_of st.inn hE 12 (by kernel_rfl)
    have b141 : E123 9 = .int .i64 c := env_of st.inn hE 9 (by kernel_rfl)
    have b142 : E123 3 = .ptr p6 0 := env_of st.inn hE 3 (by kernel_rfl)
    have b143 : E123 1 = S := env_of st.inn hE 1 (by kernel_rfl)
    have b144 : E123 2 = .flt .f32 wt := env_of st.inn hE 2 (by kernel_rfl)
    have g145 : Grew H98 H123 := (st.kept.grew (Nat.le_of_ble_eq_true (by kernel_rfl)))
    have g146 : Grew H H123 := Grew.trans g116 g145
    have r147 := g145.at r117
    have r148 := g145.at r118
    have s149 := s119.grew g145
    have s150 := s120.grew g145
    have s151 := s121.grew g145
    have s152 := s122.grew g145
    have s153 := sS99.grew g145
    have s154 := sS100.grew g145
    clear st hE vs ls
    refine res_call (d := (some 53)) (f := 21) (args := [.tmp 52]) (by kernel_rfl) (R := fun z H' => Grew H123 H' ∧ SlW H' 3 ms z ∧ FreshS H123.next z) ?_ ?_
    · show ACalls _ _ [E123 52] _ _
      rw [b136]
      exact w_toPoseS H123 ms hr S (hS.grew g146) mxms
    rintro S155 H156 ⟨gS155, sS155, fS155⟩
    have ne157 : ApartL (S155) p6 := fS155.apartL (H123.lt_of_get r147)
    have ne158 : ApartL (S155) p47 := fS155.apartL (H123.lt_of_get r148)
    have ne159 : ApartL (S155) p124 := fS155.apartL (H123.lt_of_get r126)
    have ne160 : ApartS (S155) (S16) := fS155.apartS s149.lt
    have ne161 : ApartS (S155) (S34) := fS155.apartS s150.lt
    have ne162 : ApartS (S155) (S35) := fS155.apartS s151.lt
    have ne163 : ApartS (S155) (S66) := fS155.apartS s152.lt
    have ne164 : ApartS (S155) (S99) := fS155.apartS s153.lt
    have ne165 : ApartS (S155) (S100) := fS155.apartS s154.lt
    have fr166 : FreshS H.next (S155) := fS155.mono g146.next
    have g167 : Grew H H156 := Grew.trans g146 gS155
    have r168 := gS155.at r147
    have r169 := gS155.at r148
    have r170 := gS155.at r126
    have s171 := s149.grew gS155
    have s172 := s150.grew gS155
    have s173 := s151.grew gS155
    have s174 := s152.grew gS155
    have s175 := s153.grew gS155
    have s176 := s154.grew gS155
    refine run_mn (φ := φ0) (pm := pmR 3 [(.call 23 [.nd 10 .one, .nd 13 .one], .lit (.bool true))] 0) 20 (nk := [(.atom 0, .one), (.atom 1, .flt .f32), (.atom 2, .flt .f32), (.atom 3, .flt .f32), (.atom 4, .flt .f32), (.atom 5, .int .i64), (.atom 6, .int .i64), (.atom 7, .one), (.atom 8, .one), (.atom 9, .one), (.atom 10, .one), (.atom 11, .one), (.atom 12, .one), (.atom 13, .one)]) (fs := []) (xs := [S, .flt .f32 s0, .flt .f32 s1, .flt .f32 s2, .flt .f32 wt, .int .i64 c, .int .i64 q1, S16, S34, S35, S66, S99, S100, S155]) (ws := [⟨p6, 0, [.nd 1 (.flt .f32), .nd 2 (.flt .f32), .nd 3 (.flt .f32)], false⟩, ⟨p47, 0, [.nd 8 .one, .nd 9 .one], false⟩, ⟨p124, 0, [.nd 11 .one, .nd 12 .one], false⟩]) (env := [(52, .nd 0 .one), (51, .nd 10 .one), (10, .nd 10 .one), (11, .ptr 2 0), (8, .ptr 1 0), (12, .nd 5 (.int .i64)), (9, .nd 5 (.int .i64)), (3, .ptr 0 0), (1, .nd 0 .one), (2, .nd 4 (.flt .f32)), (53, .nd 13 .one)]) ?_ ?_ tb_ok ap_ok ?_
    · refine midN_in ?_ .nil _ ?_ ?_ ?_
      · exact (.cons rfl (slOne hS) (.cons rfl ⟨_, rfl, o0⟩ (.cons rfl ⟨_, rfl, o1⟩ (.cons rfl ⟨_, rfl, o2⟩ (.cons rfl ⟨_, rfl, hw⟩ (.cons rfl ⟨_, rfl⟩ (.cons rfl ⟨_, rfl⟩ (.cons rfl sS16.one (.cons rfl sS34.one (.cons rfl sS35.one (.cons rfl sS66.one (.cons rfl sS99.one (.cons rfl sS100.one (.cons rfl sS155.one .nil))))))))))))))
      · exact (.cons (win_row r168 (dlCons (dNd rfl ⟨_, rfl, o0⟩) (dlCons (dNd rfl ⟨_, rfl, o1⟩) (dlCons (dNd rfl ⟨_, rfl, o2⟩) dlNil)))) (.cons (win_row r169 (dlCons (dNd rfl sS34.one) (dlCons (dNd rfl sS35.one) dlNil))) (.cons (win_row r170 (dlCons (dNd rfl sS99.one) (dlCons (dNd rfl sS100.one) dlNil))) .nil)))
      · exact sepOk_ro rfl
      · exact (.cons (rule_call (args := [S66, S155]) (dlCons (dNd rfl sS66.one) (dlCons (dNd rfl sS155.one) dlNil)) (dLit rfl) (fun H9 hk => k_eqPoseS H9 ms hr _ _ ((s174.grew (hk.grew (Nat.le_refl _)))).toL ((sS155.grew (hk.grew (Nat.le_refl _)))).toL (mx40 mxms))) .nil)
    · exact (envEq (put_ne rfl b136) (dNd rfl (slOne hS)) (envEq (put_ne rfl b137) (dNd rfl sS66.one) (envEq (put_ne rfl b138) (dNd rfl sS66.one) (envEq (put_ne rfl e125) (dPtr (l := p124) (o := 0) rfl) (envEq (put_ne rfl b139) (dPtr (l := p47) (o := 0) rfl) (envEq (put_ne rfl b140) (dNd rfl ⟨_, rfl⟩) (envEq (put_ne rfl b141) (dNd rfl ⟨_, rfl⟩) (envEq (put_ne rfl b142) (dPtr (l := p6) (o := 0) rfl) (envEq (put_ne rfl b143) (dNd rfl (slOne hS)) (envEq (put_ne rfl b144) (dNd rfl ⟨_, rfl, hw⟩) (envEq put_same (dNd rfl sS155.one) envNil)))))))))))
    refine all1 (by kernel_rfl) ?_
    intro vs ls H177 E177 st hE
    have b178 : E177 56 = S66 := env_of st.inn hE 56 (by kernel_rfl)
    have b179 : E177 57 = .int .i64 1 := env_of st.inn hE 57 (by kernel_rfl)
    have b180 : E177 13 = .int .i64 1 := env_of st.inn hE 13 (by kernel_rfl)
    have b181 : E177 11 = .ptr p124 0 := env_of st.inn hE 11 (by kernel_rfl)
    have b182 : E177 8 = .ptr p47 0 := env_of st.inn hE 8 (by kernel_rfl)
    have b183 : E177 12 = .int .i64 c := env_of st.inn hE 12 (by kernel_rfl)
    have b184 : E177 9 = .int .i64 c := env_of st.inn hE 9 (by kernel_rfl)
    have b185 : E177 3 = .ptr p6 0 := env_of st.inn hE 3 (by kernel_rfl)
    have b186 : E177 1 = S := env_of st.inn hE 1 (by kernel_rfl)
    have b187 : E177 2 = .flt .f32 wt := env_of st.inn hE 2 (by kernel_rfl)
    have g188 : Grew H156 H177 := (st.kept.grew (Nat.le_of_ble_eq_true (by kernel_rfl)))
    have g189 : Grew H H177 := Grew.trans g167 g188
    have r190 := g188.at r168
    have r191 := g188.at r169
    have r192 := g188.at r170
    have s193 := s171.grew g188
    have s194 := s172.grew g188
    have s195 := s173.grew g188
    have s196 := s174.grew g188
    have s197 := s175.grew g188
    have s198 := s176.grew g188
    have s199 := sS155.grew g188
    clear st hE vs ls
    refine res_call (d := (some 58)) (f := 24) (args := [.tmp 56, .tmp 57]) (by kernel_rfl) (R := fun z H' => z = .int .i64 (1 + 3 * (ms.length : Int)) ∧ OnlyS S66 H177 H' ∧ SlW H' 3 (mksPose 1 ms.length) S66) ?_ ?_
    · show ACalls _ _ [E177 56, E177 57] _ _
      rw [b178, b179]
      exact w_markPoseS H177 ms hr S66 s196 1 (by decide) (by decide) mxms
    rintro z H200 ⟨rfl, oH200, nH200⟩
    have g201 : Grew H H200 := OnlyS.own g189 fr73 oH200
    have r202 := oH200.at r190 (by assumption)
    have r203 := oH200.at r191 (by assumption)
    have r204 := oH200.at r192 (by assumption)
    have s205 := s193.only oH200 (by first | assumption | exact ApartS.symm (by assumption))
    have s206 := s194.only oH200 (by first | assumption | exact ApartS.symm (by assumption))
    have s207 := s195.only oH200 (by first | assumption | exact ApartS.symm (by assumption))
    have s208 := s197.only oH200 (by first | assumption | exact ApartS.symm (by assumption))
    have s209 := s198.only oH200 (by first | assumption | exact ApartS.symm (by assumption))
    have s210 := s199.only oH200 (by first | assumption | exact ApartS.symm (by assumption))
    refine run_mn (φ := φ0) (pm := pmR 3 [(.call 17 [.agg [.nd 11 .one, .nd 12 .one], .agg [.nd 8 .one, .nd 9 .one]], .lit (.bool true))] 0) 20 (nk := [(.atom 0, .one), (.atom 1, .flt .f32), (.atom 2, .flt .f32), (.atom 3, .flt .f32), (.atom 4, .flt .f32), (.atom 5, .int .i64), (.atom 6, .int .i64), (.atom 7, .one), (.atom 8, .one), (.atom 9, .one), (.atom 10, .one), (.atom 11, .one), (.atom 12, .one), (.atom 13, .one), (.atom 14, .int .i64)]) (fs := []) (xs := [S, .flt .f32 s0, .flt .f32 s1, .flt .f32 s2, .flt .f32 wt, .int .i64 c, .int .i64 q1, S16, S34, S35, S66, S99, S100, S155, .int .i64 (1 + 3 * (ms.length : Int))]) (ws := [⟨p6, 0, [.nd 1 (.flt .f32), .nd 2 (.flt .f32), .nd 3 (.flt .f32)], false⟩, ⟨p47, 0, [.nd 8 .one, .nd 9 .one], false⟩, ⟨p124, 0, [.nd 11 .one, .nd 12 .one], false⟩]) (env := [(56, .nd 10 .one), (57, .lit (.int .i64 1)), (13, .lit (.int .i64 1)), (11, .ptr 2 0), (8, .ptr 1 0), (12, .nd 5 (.int .i64)), (9, .nd 5 (.int .i64)), (3, .ptr 0 0), (1, .nd 0 .one), (2, .nd 4 (.flt .f32)), (58, .nd 14 (.int .i64))]) ?_ ?_ tb_ok ap_ok ?_
    · refine midN_in ?_ .nil _ ?_ ?_ ?_
      · exact (.cons rfl (slOne hS) (.cons rfl ⟨_, rfl, o0⟩ (.cons rfl ⟨_, rfl, o1⟩ (.cons rfl ⟨_, rfl, o2⟩ (.cons rfl ⟨_, rfl, hw⟩ (.cons rfl ⟨_, rfl⟩ (.cons rfl ⟨_, rfl⟩ (.cons rfl sS16.one (.cons rfl sS34.one (.cons rfl sS35.one (.cons rfl sS66.one (.cons rfl sS99.one (.cons rfl sS100.one (.cons rfl sS155.one (.cons rfl ⟨_, rfl⟩ .nil)))))))))))))))
      · exact (.cons (win_row r202 (dlCons (dNd rfl ⟨_, rfl, o0⟩) (dlCons (dNd rfl ⟨_, rfl, o1⟩) (dlCons (dNd rfl ⟨_, rfl, o2⟩) dlNil)))) (.cons (win_row r203 (dlCons (dNd rfl sS34.one) (dlCons (dNd rfl sS35.one) dlNil))) (.cons (win_row r204 (dlCons (dNd rfl sS99.one) (dlCons (dNd rfl sS100.one) dlNil))) .nil)))
      · exact sepOk_ro rfl
      · exact (.cons (rule_call (args := [.agg [S99, S100], .agg [S34, S35]]) (dlCons (dAgg (dlCons (dNd rfl sS99.one) (dlCons (dNd rfl sS100.one) dlNil))) (dlCons (dAgg (dlCons (dNd rfl sS34.one) (dlCons (dNd rfl sS35.one) dlNil))) dlNil)) (dLit rfl) (fun H9 hk => k_eqPoseGraph H9 P hP S99 S34 ((s208.grew (hk.grew (Nat.le_refl _)))).toL ((s206.grew (hk.grew (Nat.le_refl _)))).toL (mx40 mxP) Q hQ S100 S35 ((s209.grew (hk.grew (Nat.le_refl _)))).toL ((s207.grew (hk.grew (Nat.le_refl _)))).toL (mx40 mxQ))) .nil)
    · exact (envEq (put_ne rfl b178) (dNd rfl sS66.one) (envEq (put_ne rfl b179) (dLit rfl) (envEq (put_ne rfl b180) (dLit rfl) (envEq (put_ne rfl b181) (dPtr (l := p124) (o := 0) rfl) (envEq (put_ne rfl b182) (dPtr (l := p47) (o := 0) rfl) (envEq (put_ne rfl b183) (dNd rfl ⟨_, rfl⟩) (envEq (put_ne rfl b184) (dNd rfl ⟨_, rfl⟩) (envEq (put_ne rfl b185) (dPtr (l := p6) (o := 0) rfl) (envEq (put_ne rfl b186) (dNd rfl (slOne hS)) (envEq (put_ne rfl b187) (dNd rfl ⟨_, rfl, hw⟩) (envEq put_same (dNd rfl ⟨_, rfl⟩) envNil)))))))))))
    refine all2 (by kernel_rfl) ?_ ?_
    ·
      intro vs ls H211 E211 st hE
      have f212 : (1 + 3 * (ms.length : Int)) < 0 := of_decide_eq_true (bfact (x := decide ((1 + 3 * (ms.length : Int)) < 0)) st.inn 0 (by kernel_rfl))
      exact absurd f212 (by omega)
    ·
      intro vs ls H213 E213 st hE
      have f214 : ¬ ((1 + 3 * (ms.length : Int)) < 0) := of_decide_eq_false (bfact (x := decide ((1 + 3 * (ms.length : Int)) < 0)) st.inn 0 (by kernel_rfl))
      have b215 : E213 72 = .agg [S99, S100] := env_of st.inn hE 72 (by kernel_rfl)
      have b216 : E213 73 = .int .i64 1 := env_of st.inn hE 73 (by kernel_rfl)
      have b217 : E213 11 = .ptr p124 0 := env_of st.inn hE 11 (by kernel_rfl)
      have b218 : E213 14 = .int .i64 1 := env_of st.inn hE 14 (by kernel_rfl)
      have b219 : E213 3 = .ptr p6 0 := env_of st.inn hE 3 (by kernel_rfl)
      have b220 : E213 1 = S := env_of st.inn hE 1 (by kernel_rfl)
      have b221 : E213 2 = .flt .f32 wt := env_of st.inn hE 2 (by kernel_rfl)
      have b222 : E213 8 = .ptr p47 0 := env_of st.inn hE 8 (by kernel_rfl)
      have b223 : E213 9 = .int .i64 c := env_of st.inn hE 9 (by kernel_rfl)
      have g224 : Grew H200 H213 := (st.kept.grew (Nat.le_of_ble_eq_true (by kernel_rfl)))
      have g225 : Grew H H213 := Grew.trans g201 g224
      have r226 := g224.at r202
      have r227 := g224.at r203
      have r228 := g224.at r204
      have s229 := s205.grew g224
      have s230 := s206.grew g224
      have s231 := s207.grew g224
      have s232 := nH200.grew g224
      have s233 := s208.grew g224
      have s234 := s209.grew g224
      have s235 := s210.grew g224
      clear st hE vs ls
      refine res_call (d := (some 74)) (f := 38) (args := [.tmp 72, .tmp 73]) (by kernel_rfl) (R := fun z H' => z = .int .i64 (1 + 3 * (P.length : Int) + 6 * (Q.length : Int)) ∧ Only2 S99 S100 H213 H' ∧ SlW H' 3 (mksPose 1 P.length) S99 ∧ SlW H' 6 (mksLink (1 + 3 * (P.length : Int)) Q.length) S100) ?_ ?_
      · show ACalls _ _ [E213 72, E213 73] _ _
        rw [b215, b216]
        exact w_markPoseGraph H213 P hP S99 s233 mxP Q hQ S100 s234 mxQ (by first | assumption | exact ApartS.symm (by assumption)) 1 (by decide) (by decide)
      rintro z H236 ⟨rfl, oH236, nH236, mH236⟩
      have g237 : Grew H H236 := Only2.own g225 fr108 fr115 oH236
      have r238 := oH236.at r226 (by assumption) (by assumption)
      have r239 := oH236.at r227 (by assumption) (by assumption)
      have r240 := oH236.at r228 (by assumption) (by assumption)
      have s241 := s229.only2 oH236 (by first | assumption | exact ApartS.symm (by assumption)) (by first | assumption | exact ApartS.symm (by assumption))
      have s242 := s230.only2 oH236 (by first | assumption | exact ApartS.symm (by assumption)) (by first | assumption | exact ApartS.symm (by assumption))
      have s243 := s231.only2 oH236 (by first | assumption | exact ApartS.symm (by assumption)) (by first | assumption | exact ApartS.symm (by assumption))
      have s244 := s232.only2 oH236 (by first | assumption | exact ApartS.symm (by assumption)) (by first | assumption | exact ApartS.symm (by assumption))
      have s245 := s235.only2 oH236 (by first | assumption | exact ApartS.symm (by assumption)) (by first | assumption | exact ApartS.symm (by assumption))
      refine run_mn (φ := φ0) (pm := pmR 3 [(.call 39 [.agg [.nd 11 .one, .nd 12 .one], .lit (.int .i64 1)], .nd 15 (.int .i64)), (.call 20 [.agg [.nd 1 (.flt .f32), .nd 2 (.flt .f32), .nd 3 (.flt .f32)]], .agg [.nd 1 (.flt .f32), .nd 2 (.flt .f32), .nd 3 (.flt .f32)])] 0) 20 (nk := [(.atom 0, .one), (.atom 1, .flt .f32), (.atom 2, .flt .f32), (.atom 3, .flt .f32), (.atom 4, .flt .f32), (.atom 5, .int .i64), (.atom 6, .int .i64), (.atom 7, .one), (.atom 8, .one), (.atom 9, .one), (.atom 10, .one), (.atom 11, .one), (.atom 12, .one), (.atom 13, .one), (.atom 14, .int .i64), (.atom 15, .int .i64)]) (fs := []) (xs := [S, .flt .f32 s0, .flt .f32 s1, .flt .f32 s2, .flt .f32 wt, .int .i64 c, .int .i64 q1, S16, S34, S35, S66, S99, S100, S155, .int .i64 (1 + 3 * (ms.length : Int)), .int .i64 (1 + 3 * (P.length : Int) + 6 * (Q.length : Int))]) (ws := [⟨p6, 0, [.nd 1 (.flt .f32), .nd 2 (.flt .f32), .nd 3 (.flt .f32)], false⟩, ⟨p47, 0, [.nd 8 .one, .nd 9 .one], false⟩, ⟨p124, 0, [.nd 11 .one, .nd 12 .one], false⟩]) (env := [(72, .agg [.nd 11 .one, .nd 12 .one]), (73, .lit (.int .i64 1)), (11, .ptr 2 0), (14, .lit (.int .i64 1)), (3, .ptr 0 0), (1, .nd 0 .one), (2, .nd 4 (.flt .f32)), (8, .ptr 1 0), (9, .nd 5 (.int .i64)), (74, .nd 15 (.int .i64))]) ?_ ?_ tb_ok ap_ok ?_
      · refine midN_in ?_ .nil _ ?_ ?_ ?_
        · exact (.cons rfl (slOne hS) (.cons rfl ⟨_, rfl, o0⟩ (.cons rfl ⟨_, rfl, o1⟩ (.cons rfl ⟨_, rfl, o2⟩ (.cons rfl ⟨_, rfl, hw⟩ (.cons rfl ⟨_, rfl⟩ (.cons rfl ⟨_, rfl⟩ (.cons rfl sS16.one (.cons rfl sS34.one (.cons rfl sS35.one (.cons rfl sS66.one (.cons rfl sS99.one (.cons rfl sS100.one (.cons rfl sS155.one (.cons rfl ⟨_, rfl⟩ (.cons rfl ⟨_, rfl⟩ .nil))))))))))))))))
        · exact (.cons (win_row r238 (dlCons (dNd rfl ⟨_, rfl, o0⟩) (dlCons (dNd rfl ⟨_, rfl, o1⟩) (dlCons (dNd rfl ⟨_, rfl, o2⟩) dlNil)))) (.cons (win_row r239 (dlCons (dNd rfl sS34.one) (dlCons (dNd rfl sS35.one) dlNil))) (.cons (win_row r240 (dlCons (dNd rfl sS99.one) (dlCons (dNd rfl sS100.one) dlNil))) .nil)))
        · exact sepOk_ro rfl
        · exact (.cons (rule_call (args := [.agg [S99, S100], .int .i64 1]) (dlCons (dAgg (dlCons (dNd rfl sS99.one) (dlCons (dNd rfl sS100.one) dlNil))) (dlCons (dLit rfl) dlNil)) (dNd rfl ⟨_, rfl⟩) (fun H9 hk => w_heldPoseGraph H9 1 P.length Q.length S99 S100 ((nH236.grew (hk.grew (Nat.le_refl _)))).toL ((mH236.grew (hk.grew (Nat.le_refl _)))).toL (by decide) (by decide) mxP mxQ)) (.cons (rule_call (args := [.agg [.flt .f32 s0, .flt .f32 s1, .flt .f32 s2]]) (dlCons (dAgg (dlCons (dNd rfl ⟨_, rfl, o0⟩) (dlCons (dNd rfl ⟨_, rfl, o1⟩) (dlCons (dNd rfl ⟨_, rfl, o2⟩) dlNil)))) dlNil) (dAgg (dlCons (dNd rfl ⟨_, rfl, o0⟩) (dlCons (dNd rfl ⟨_, rfl, o1⟩) (dlCons (dNd rfl ⟨_, rfl, o2⟩) dlNil)))) (fun H9 hk => k_toPose s0 s1 s2 o0 o1 o2 H9)) .nil))
      · exact (envEq (put_ne rfl b215) (dAgg (dlCons (dNd rfl sS99.one) (dlCons (dNd rfl sS100.one) dlNil))) (envEq (put_ne rfl b216) (dLit rfl) (envEq (put_ne rfl b217) (dPtr (l := p124) (o := 0) rfl) (envEq (put_ne rfl b218) (dLit rfl) (envEq (put_ne rfl b219) (dPtr (l := p6) (o := 0) rfl) (envEq (put_ne rfl b220) (dNd rfl (slOne hS)) (envEq (put_ne rfl b221) (dNd rfl ⟨_, rfl, hw⟩) (envEq (put_ne rfl b222) (dPtr (l := p47) (o := 0) rfl) (envEq (put_ne rfl b223) (dNd rfl ⟨_, rfl⟩) (envEq put_same (dNd rfl ⟨_, rfl⟩) envNil))))))))))
      refine all2 (by kernel_rfl) ?_ ?_
      ·
        intro vs ls H246 E246 st hE
        have f247 : (1 + 3 * (P.length : Int) + 6 * (Q.length : Int)) < 0 := of_decide_eq_true (bfact (x := decide ((1 + 3 * (P.length : Int) + 6 * (Q.length : Int)) < 0)) st.inn 0 (by kernel_rfl))
        exact absurd f247 (by omega)
      ·
        intro vs ls H248 E248 st hE
        have f249 : ¬ ((1 + 3 * (P.length : Int) + 6 * (Q.length : Int)) < 0) := of_decide_eq_false (bfact (x := decide ((1 + 3 * (P.length : Int) + 6 * (Q.length : Int)) < 0)) st.inn 0 (by kernel_rfl))
        have b250 : E248 86 = S := env_of st.inn hE 86 (by kernel_rfl)
        have b251 : E248 2 = .flt .f32 wt := env_of st.inn hE 2 (by kernel_rfl)
        have b252 : E248 85 = .agg [.flt .f32 s0, .flt .f32 s1, .flt .f32 s2] := env_of st.inn hE 85 (by kernel_rfl)
        have b253 : E248 8 = .ptr p47 0 := env_of st.inn hE 8 (by kernel_rfl)
        have b254 : E248 9 = .int .i64 c := env_of st.inn hE 9 (by kernel_rfl)
        have b255 : E248 11 = .ptr p124 0 := env_of st.inn hE 11 (by kernel_rfl)
        have b256 : E248 15 = .int .i64 (1 + 3 * (P.length : Int) + 6 * (Q.length : Int)) := env_of st.inn hE 15 (by kernel_rfl)
        have b257 : E248 14 = .int .i64 (1 + 3 * (P.length : Int) + 6 * (Q.length : Int)) := env_of st.inn hE 14 (by kernel_rfl)
        have g258 : Grew H236 H248 := (st.kept.grew (Nat.le_of_ble_eq_true (by kernel_rfl)))
        have g259 : Grew H H248 := Grew.trans g237 g258
        have r260 := g258.at r238
        have r261 := g258.at r239
        have r262 := g258.at r240
        have s263 := s241.grew g258
        have s264 := s242.grew g258
        have s265 := s243.grew g258
        have s266 := s244.grew g258
        have s267 := nH236.grew g258
        have s268 := mH236.grew g258
        have s269 := s245.grew g258
        clear st hE vs ls
        refine res_call (d := (some 87)) (f := 21) (args := [.tmp 86]) (by kernel_rfl) (R := fun z H' => Grew H248 H' ∧ SlW H' 3 ms z ∧ FreshS H248.next z) ?_ ?_
        · show ACalls _ _ [E248 86] _ _
          rw [b250]
          exact w_toPoseS H248 ms hr S (hS.grew g259) mxms
        rintro S270 H271 ⟨gS270, sS270, fS270⟩
        have ne272 : ApartL (S270) p47 := fS270.apartL (H248.lt_of_get r261)
        have ne273 : ApartL (S270) p124 := fS270.apartL (H248.lt_of_get r262)
        have ne274 : ApartS (S270) (S16) := fS270.apartS s263.lt
        have ne275 : ApartS (S270) (S34) := fS270.apartS s264.lt
        have ne276 : ApartS (S270) (S35) := fS270.apartS s265.lt
        have ne277 : ApartS (S270) (S66) := fS270.apartS s266.lt
        have ne278 : ApartS (S270) (S99) := fS270.apartS s267.lt
        have ne279 : ApartS (S270) (S100) := fS270.apartS s268.lt
        have ne280 : ApartS (S270) (S155) := fS270.apartS s269.lt
        have fr281 : FreshS H.next (S270) := fS270.mono g259.next
        have g282 : Grew H H271 := Grew.trans g259 gS270
        have r283 := gS270.at r261
        have r284 := gS270.at r262
        have s285 := s263.grew gS270
        have s286 := s264.grew gS270
        have s287 := s265.grew gS270
        have s288 := s266.grew gS270
        have s289 := s267.grew gS270
        have s290 := s268.grew gS270
        have s291 := s269.grew gS270
        refine run_mn (φ := φ0) (pm := pmR 2 [] 0) 20 (nk := [(.atom 0, .one), (.atom 1, .flt .f32), (.atom 2, .flt .f32), (.atom 3, .flt .f32), (.atom 4, .flt .f32), (.atom 5, .int .i64), (.atom 6, .int .i64), (.atom 7, .one), (.atom 8, .one), (.atom 9, .one), (.atom 10, .one), (.atom 11, .one), (.atom 12, .one), (.atom 13, .one), (.atom 14, .int .i64), (.atom 15, .int .i64), (.atom 16, .one)]) (fs := []) (xs := [S, .flt .f32 s0, .flt .f32 s1, .flt .f32 s2, .flt .f32 wt, .int .i64 c, .int .i64 q1, S16, S34, S35, S66, S99, S100, S155, .int .i64 (1 + 3 * (ms.length : Int)), .int .i64 (1 + 3 * (P.length : Int) + 6 * (Q.length : Int)), S270]) (ws := [⟨p47, 0, [.nd 8 .one, .nd 9 .one], false⟩, ⟨p124, 0, [.nd 11 .one, .nd 12 .one], false⟩]) (env := [(86, .nd 0 .one), (2, .nd 4 (.flt .f32)), (85, .agg [.nd 1 (.flt .f32), .nd 2 (.flt .f32), .nd 3 (.flt .f32)]), (8, .ptr 0 0), (9, .nd 5 (.int .i64)), (11, .ptr 1 0), (15, .nd 15 (.int .i64)), (14, .nd 15 (.int .i64)), (87, .nd 16 .one)]) ?_ ?_ tb_ok ap_ok ?_
        · refine midN_in ?_ .nil _ ?_ ?_ ?_
          · exact (.cons rfl (slOne hS) (.cons rfl ⟨_, rfl, o0⟩ (.cons rfl ⟨_, rfl, o1⟩ (.cons rfl ⟨_, rfl, o2⟩ (.cons rfl ⟨_, rfl, hw⟩ (.cons rfl ⟨_, rfl⟩ (.cons rfl ⟨_, rfl⟩ (.cons rfl sS16.one (.cons rfl sS34.one (.cons rfl sS35.one (.cons rfl sS66.one (.cons rfl sS99.one (.cons rfl sS100.one (.cons rfl sS155.one (.cons rfl ⟨_, rfl⟩ (.cons rfl ⟨_, rfl⟩ (.cons rfl sS270.one .nil)))))))))))))))))
          · exact (.cons (win_row r283 (dlCons (dNd rfl sS34.one) (dlCons (dNd rfl sS35.one) dlNil))) (.cons (win_row r284 (dlCons (dNd rfl sS99.one) (dlCons (dNd rfl sS100.one) dlNil))) .nil))
          · exact sepOk_ro rfl
          · exact .nil
        · exact (envEq (put_ne rfl b250) (dNd rfl (slOne hS)) (envEq (put_ne rfl b251) (dNd rfl ⟨_, rfl, hw⟩) (envEq (put_ne rfl b252) (dAgg (dlCons (dNd rfl ⟨_, rfl, o0⟩) (dlCons (dNd rfl ⟨_, rfl, o1⟩) (dlCons (dNd rfl ⟨_, rfl, o2⟩) dlNil)))) (envEq (put_ne rfl b253) (dPtr (l := p47) (o := 0) rfl) (envEq (put_ne rfl b254) (dNd rfl ⟨_, rfl⟩) (envEq (put_ne rfl b255) (dPtr (l := p124) (o := 0) rfl) (envEq (put_ne rfl b256) (dNd rfl ⟨_, rfl⟩) (envEq (put_ne rfl b257) (dNd rfl ⟨_, rfl⟩) (envEq put_same (dNd rfl sS270.one) envNil)))))))))
        refine all1 (by kernel_rfl) ?_
        intro vs ls H292 E292 st hE
        have b293 : E292 85 = .agg [.flt .f32 s0, .flt .f32 s1, .flt .f32 s2] := env_of st.inn hE 85 (by kernel_rfl)
        have b294 : E292 87 = S270 := env_of st.inn hE 87 (by kernel_rfl)
        have b295 : E292 88 = .flt .f32 wt := env_of st.inn hE 88 (by kernel_rfl)
        have b296 : E292 8 = .ptr p47 0 := env_of st.inn hE 8 (by kernel_rfl)
        have b297 : E292 9 = .int .i64 c := env_of st.inn hE 9 (by kernel_rfl)
        have b298 : E292 11 = .ptr p124 0 := env_of st.inn hE 11 (by kernel_rfl)
        have b299 : E292 15 = .int .i64 (1 + 3 * (P.length : Int) + 6 * (Q.length : Int)) := env_of st.inn hE 15 (by kernel_rfl)
        have b300 : E292 14 = .int .i64 (1 + 3 * (P.length : Int) + 6 * (Q.length : Int)) := env_of st.inn hE 14 (by kernel_rfl)
        have g301 : Grew H271 H292 := (st.kept.grew (Nat.le_of_ble_eq_true (by kernel_rfl)))
        have g302 : Grew H H292 := Grew.trans g282 g301
        have r303 := g301.at r283
        have r304 := g301.at r284
        have s305 := s285.grew g301
        have s306 := s286.grew g301
        have s307 := s287.grew g301
        have s308 := s288.grew g301
        have s309 := s289.grew g301
        have s310 := s290.grew g301
        have s311 := s291.grew g301
        have s312 := sS270.grew g301
        clear st hE vs ls
        refine res_call (d := (some 89)) (f := 37) (args := [.tmp 85, .tmp 87, .tmp 88]) (by kernel_rfl) (R := fun z H' => Grew H292 H' ∧ ∃ S' Sk', z = .tuple [.agg [S', Sk'], .int .i64 c] ∧ SlW H' 3 P S' ∧ FreshS H292.next S' ∧ SlW H' 6 Q Sk' ∧ FreshS H292.next Sk' ∧ ApartS S' Sk') ?_ ?_
        · show ACalls _ _ [E292 85, E292 87, E292 88] _ _
          rw [b293, b294, b295]
          exact (by have h := k_impl_ChainGraph H292 s0 s1 s2 o0 o1 o2 ms hr S270 s312.toL (mx40 mxms) wt hw; rw [hadd] at h; exact h)
        rintro z H313 ⟨gH313, S314, S315, rfl, sS314, fS314, sS315, fS315, ap316⟩
        have ne317 : ApartL (S314) p47 := fS314.apartL (H292.lt_of_get r303)
        have ne318 : ApartL (S314) p124 := fS314.apartL (H292.lt_of_get r304)
        have ne319 : ApartS (S314) (S16) := fS314.apartS s305.lt
        have ne320 : ApartS (S314) (S34) := fS314.apartS s306.lt
        have ne321 : ApartS (S314) (S35) := fS314.apartS s307.lt
        have ne322 : ApartS (S314) (S66) := fS314.apartS s308.lt
        have ne323 : ApartS (S314) (S99) := fS314.apartS s309.lt
        have ne324 : ApartS (S314) (S100) := fS314.apartS s310.lt
        have ne325 : ApartS (S314) (S155) := fS314.apartS s311.lt
        have ne326 : ApartS (S314) (S270) := fS314.apartS s312.lt
        have fr327 : FreshS H.next (S314) := fS314.mono g302.next
        have ne328 : ApartL (S315) p47 := fS315.apartL (H292.lt_of_get r303)
        have ne329 : ApartL (S315) p124 := fS315.apartL (H292.lt_of_get r304)
        have ne330 : ApartS (S315) (S16) := fS315.apartS s305.lt
        have ne331 : ApartS (S315) (S34) := fS315.apartS s306.lt
        have ne332 : ApartS (S315) (S35) := fS315.apartS s307.lt
        have ne333 : ApartS (S315) (S66) := fS315.apartS s308.lt
        have ne334 : ApartS (S315) (S99) := fS315.apartS s309.lt
        have ne335 : ApartS (S315) (S100) := fS315.apartS s310.lt
        have ne336 : ApartS (S315) (S155) := fS315.apartS s311.lt
        have ne337 : ApartS (S315) (S270) := fS315.apartS s312.lt
        have fr338 : FreshS H.next (S315) := fS315.mono g302.next
        have g339 : Grew H H313 := Grew.trans g302 gH313
        have r340 := gH313.at r303
        have r341 := gH313.at r304
        have s342 := s305.grew gH313
        have s343 := s306.grew gH313
        have s344 := s307.grew gH313
        have s345 := s308.grew gH313
        have s346 := s309.grew gH313
        have s347 := s310.grew gH313
        have s348 := s311.grew gH313
        have s349 := s312.grew gH313
        refine run_mn (φ := φ0) (pm := pmR 2 [(.call 17 [.agg [.nd 17 .one, .nd 18 .one], .agg [.nd 8 .one, .nd 9 .one]], .lit (.bool true)), (.call 39 [.agg [.nd 11 .one, .nd 12 .one], .lit (.int .i64 1)], .nd 15 (.int .i64))] 0) 20 (nk := [(.atom 0, .one), (.atom 1, .flt .f32), (.atom 2, .flt .f32), (.atom 3, .flt .f32), (.atom 4, .flt .f32), (.atom 5, .int .i64), (.atom 6, .int .i64), (.atom 7, .one), (.atom 8, .one), (.atom 9, .one), (.atom 10, .one), (.atom 11, .one), (.atom 12, .one), (.atom 13, .one), (.atom 14, .int .i64), (.atom 15, .int .i64), (.atom 16, .one), (.atom 17, .one), (.atom 18, .one)]) (fs := []) (xs := [S, .flt .f32 s0, .flt .f32 s1, .flt .f32 s2, .flt .f32 wt, .int .i64 c, .int .i64 q1, S16, S34, S35, S66, S99, S100, S155, .int .i64 (1 + 3 * (ms.length : Int)), .int .i64 (1 + 3 * (P.length : Int) + 6 * (Q.length : Int)), S270, S314, S315]) (ws := [⟨p47, 0, [.nd 8 .one, .nd 9 .one], false⟩, ⟨p124, 0, [.nd 11 .one, .nd 12 .one], false⟩]) (env := [(85, .agg [.nd 1 (.flt .f32), .nd 2 (.flt .f32), .nd 3 (.flt .f32)]), (87, .nd 16 .one), (88, .nd 4 (.flt .f32)), (8, .ptr 0 0), (9, .nd 5 (.int .i64)), (11, .ptr 1 0), (15, .nd 15 (.int .i64)), (14, .nd 15 (.int .i64)), (89, .tup [.agg [.nd 17 .one, .nd 18 .one], .nd 5 (.int .i64)])]) ?_ ?_ tb_ok ap_ok ?_
        · refine midN_in ?_ .nil _ ?_ ?_ ?_
          · exact (.cons rfl (slOne hS) (.cons rfl ⟨_, rfl, o0⟩ (.cons rfl ⟨_, rfl, o1⟩ (.cons rfl ⟨_, rfl, o2⟩ (.cons rfl ⟨_, rfl, hw⟩ (.cons rfl ⟨_, rfl⟩ (.cons rfl ⟨_, rfl⟩ (.cons rfl sS16.one (.cons rfl sS34.one (.cons rfl sS35.one (.cons rfl sS66.one (.cons rfl sS99.one (.cons rfl sS100.one (.cons rfl sS155.one (.cons rfl ⟨_, rfl⟩ (.cons rfl ⟨_, rfl⟩ (.cons rfl sS270.one (.cons rfl sS314.one (.cons rfl sS315.one .nil)))))))))))))))))))
          · exact (.cons (win_row r340 (dlCons (dNd rfl sS34.one) (dlCons (dNd rfl sS35.one) dlNil))) (.cons (win_row r341 (dlCons (dNd rfl sS99.one) (dlCons (dNd rfl sS100.one) dlNil))) .nil))
          · exact sepOk_ro rfl
          · exact (.cons (rule_call (args := [.agg [S314, S315], .agg [S34, S35]]) (dlCons (dAgg (dlCons (dNd rfl sS314.one) (dlCons (dNd rfl sS315.one) dlNil))) (dlCons (dAgg (dlCons (dNd rfl sS34.one) (dlCons (dNd rfl sS35.one) dlNil))) dlNil)) (dLit rfl) (fun H9 hk => k_eqPoseGraph H9 P hP S314 S34 ((sS314.grew (hk.grew (Nat.le_refl _)))).toL ((s343.grew (hk.grew (Nat.le_refl _)))).toL (mx40 mxP) Q hQ S315 S35 ((sS315.grew (hk.grew (Nat.le_refl _)))).toL ((s344.grew (hk.grew (Nat.le_refl _)))).toL (mx40 mxQ))) (.cons (rule_call (args := [.agg [S99, S100], .int .i64 1]) (dlCons (dAgg (dlCons (dNd rfl sS99.one) (dlCons (dNd rfl sS100.one) dlNil))) (dlCons (dLit rfl) dlNil)) (dNd rfl ⟨_, rfl⟩) (fun H9 hk => w_heldPoseGraph H9 1 P.length Q.length S99 S100 ((s346.grew (hk.grew (Nat.le_refl _)))).toL ((s347.grew (hk.grew (Nat.le_refl _)))).toL (by decide) (by decide) mxP mxQ)) .nil))
        · exact (envEq (put_ne rfl b293) (dAgg (dlCons (dNd rfl ⟨_, rfl, o0⟩) (dlCons (dNd rfl ⟨_, rfl, o1⟩) (dlCons (dNd rfl ⟨_, rfl, o2⟩) dlNil)))) (envEq (put_ne rfl b294) (dNd rfl sS270.one) (envEq (put_ne rfl b295) (dNd rfl ⟨_, rfl, hw⟩) (envEq (put_ne rfl b296) (dPtr (l := p47) (o := 0) rfl) (envEq (put_ne rfl b297) (dNd rfl ⟨_, rfl⟩) (envEq (put_ne rfl b298) (dPtr (l := p124) (o := 0) rfl) (envEq (put_ne rfl b299) (dNd rfl ⟨_, rfl⟩) (envEq (put_ne rfl b300) (dNd rfl ⟨_, rfl⟩) (envEq put_same (dTup' (dlCons (dAgg (dlCons (dNd rfl sS314.one) (dlCons (dNd rfl sS315.one) dlNil))) (dlCons (dNd rfl ⟨_, rfl⟩) dlNil))) envNil)))))))))
        refine all2 (by kernel_rfl) ?_ ?_
        ·
          intro vs ls H350 E350 st hE
          have f351 : (1 + 3 * (P.length : Int) + 6 * (Q.length : Int)) < 0 := of_decide_eq_true (bfact (x := decide ((1 + 3 * (P.length : Int) + 6 * (Q.length : Int)) < 0)) st.inn 0 (by kernel_rfl))
          exact absurd f351 (by omega)
        ·
          intro vs ls H352 E352 st hE
          have f353 : ¬ ((1 + 3 * (P.length : Int) + 6 * (Q.length : Int)) < 0) := of_decide_eq_false (bfact (x := decide ((1 + 3 * (P.length : Int) + 6 * (Q.length : Int)) < 0)) st.inn 0 (by kernel_rfl))
          exact res_ex (by kernel_rfl) (end_same st.inn hE (.inr rfl) (a := .bool true) (by kernel_rfl) (Nat.le_trans g339.next st.kept.1) rfl)
end Go.Proofs.Ytcmoeocemmeofaa
