/- The law of AddLink, walked. -/
import Derived.Test.YtllgmcgdkhnilaaAddLinkB
import Derived.Test.YtllgmcgdkhnilaaGraphM
set_option linter.unusedVariables false
set_option linter.unusedSimpArgs false
namespace Go.Proofs.Ytllgmcgdkhnilaa
open Go.Ab
set_option maxRecDepth 100000
set_option maxHeartbeats 1000000
attribute [local irreducible] Res
theorem addK_ok {ms ks P Q : List (List AV)} {x : List AV} {c : Int} (h : addK ms ks x = (P, Q, c)) (hr : Recs KP ms) (hrk : Recs KL ks) (hx : KdsL KL x) (h1 : ms.length ≤ 1048576) : Recs KP P ∧ Recs KL Q ∧ P.length ≤ 1048576 ∧ Q.length ≤ 1048576 := by
  unfold addK at h
  split at h
  · cases h; exact ⟨.nil, .nil, by decide, by decide⟩
  · rename_i hg
    split at h
    · cases h; exact ⟨.nil, .nil, by decide, by decide⟩
    · split at h
      · cases h; exact ⟨.nil, .nil, by decide, by decide⟩
      · cases h
        have hg : okG ms ks = true := by simpa using hg
        simp only [okG, Bool.and_eq_true, decide_eq_true_eq] at hg
        exact ⟨hr, .append hrk (.one hx), h1, by rw [List.length_append]; show ks.length + 1 ≤ _; omega⟩
theorem linkArg {H : AHeap} {a : AV} (h : FitArg H (true, [.int .i64, .int .i64, .flt .f32, .flt .f32, .flt .f32, .flt .f32]) a) : ∃ (v0 v1 : Int) (v2 v3 v4 v5 : Option Nat) , a = .agg [.int .i64 v0, .int .i64 v1, .flt .f32 v2, .flt .f32 v3, .flt .f32 v4, .flt .f32 v5] ∧ fOk .f32 v2 ∧ fOk .f32 v3 ∧ fOk .f32 v4 ∧ fOk .f32 v5 := by
  obtain ⟨cs, rfl, hl, hc⟩ := h
  match cs, hl with
  | [c0, c1, c2, c3, c4, c5], _ =>
    have h0 := hc 0 _ _ rfl rfl
    have h1 := hc 1 _ _ rfl rfl
    have h2 := hc 2 _ _ rfl rfl
    have h3 := hc 3 _ _ rfl rfl
    have h4 := hc 4 _ _ rfl rfl
    have h5 := hc 5 _ _ rfl rfl
    cases h0; cases h1
    cases h2 with | flt h2 => cases h3 with | flt h3 => cases h4 with | flt h4 => cases h5 with | flt h5 =>
    exact ⟨_, _, _, _, _, _, rfl, h2, h3, h4, h5⟩
theorem k_toLink (v0 v1 : Int) (v2 v3 v4 v5 : Option Nat) (o2 : fOk .f32 v2) (o3 : fOk .f32 v3) (o4 : fOk .f32 v4) (o5 : fOk .f32 v5) (H : AHeap) : APure Try.prog 39 [.agg [.int .i64 v0, .int .i64 v1, .flt .f32 v2, .flt .f32 v3, .flt .f32 v4, .flt .f32 v5]] H (.agg [.int .i64 v0, .int .i64 v1, .flt .f32 v2, .flt .f32 v3, .flt .f32 v4, .flt .f32 v5]) := by
  refine res_start h_laws_toLink (by simp) ?_
  refine run_mn (φ := φ0) (pm := pmR 0 [] 10) 20 (nk := [(.atom 0, .int .i64), (.atom 1, .int .i64), (.atom 2, .flt .f32), (.atom 3, .flt .f32), (.atom 4, .flt .f32), (.atom 5, .flt .f32)]) (fs := []) (xs := [.int .i64 v0, .int .i64 v1, .flt .f32 v2, .flt .f32 v3, .flt .f32 v4, .flt .f32 v5]) (ws := []) (env := [(0, .agg [.nd 0 (.int .i64), .nd 1 (.int .i64), .nd 2 (.flt .f32), .nd 3 (.flt .f32), .nd 4 (.flt .f32), .nd 5 (.flt .f32)])]) ?_ ?_ tb_ok ap_ok ?_
  · refine midN_in ?_ .nil _ ?_ ?_ ?_
    · exact (.cons rfl ⟨_, rfl⟩ (.cons rfl ⟨_, rfl⟩ (.cons rfl ⟨_, rfl, o2⟩ (.cons rfl ⟨_, rfl, o3⟩ (.cons rfl ⟨_, rfl, o4⟩ (.cons rfl ⟨_, rfl, o5⟩ .nil))))))
    · exact .nil
    · exact sepOk_ro rfl
    · exact .nil
  · exact (envEq rfl (dAgg (dlCons (dNd rfl ⟨_, rfl⟩) (dlCons (dNd rfl ⟨_, rfl⟩) (dlCons (dNd rfl ⟨_, rfl, o2⟩) (dlCons (dNd rfl ⟨_, rfl, o3⟩) (dlCons (dNd rfl ⟨_, rfl, o4⟩) (dlCons (dNd rfl ⟨_, rfl, o5⟩) dlNil))))))) envNil)
  refine all1 (by kernel_rfl) ?_
  intro vs ls H1 E1 st hE
  refine res_ex (by kernel_rfl) (end_flat st.inn hE (.inr rfl) (a := .agg [.int .i64 v0, .int .i64 v1, .flt .f32 v2, .flt .f32 v3, .flt .f32 v4, .flt .f32 v5]) (by kernel_rfl) (Grew.trans (Grew.refl _) (st.kept.grew (Nat.le_of_ble_eq_true (by kernel_rfl)))) rfl ⟨?_, rfl⟩)
  rfl
theorem lawExactAddLink (H : AHeap) (vs : List AV) (h : FitArgs H [(true, [.sl [.flt .f32, .flt .f32, .flt .f32], .sl [.int .i64, .int .i64, .flt .f32, .flt .f32, .flt .f32, .flt .f32]]), (true, [.int .i64, .int .i64, .flt .f32, .flt .f32, .flt .f32, .flt .f32])] vs) : ACalls Try.prog 11 vs H fun r _ => r = .bool true := by
  match vs, h with
  | [a, b], h =>
  obtain ⟨ms, S, ks, Sk, rfl, hr, hS, hmx, hrk, hSk, hmxk⟩ := graphArg h.1
  obtain ⟨v0, v1, v2, v3, v4, v5, rfl, o2, o3, o4, o5⟩ := linkArg h.2.1
  clear h
  obtain ⟨P, Q, c, hadd⟩ : ∃ P Q c, addK ms ks [.int .i64 v0, .int .i64 v1, .flt .f32 v2, .flt .f32 v3, .flt .f32 v4, .flt .f32 v5] = (P, Q, c) := ⟨_, _, _, rfl⟩
  refine res_start h_laws_FnExactAddLink (by simp) ?_
  obtain ⟨q1, kq1, hq1⟩ : ∃ r : Int, (∀ H9, Grew H H9 → APure Try.prog 20 [.agg [S, Sk], .int .i64 1048576] H9 (.int .i64 r)) ∧ (r = -1 ∨ (0 ≤ r ∧ r = 1048576 - (ms.length : Int) - (ks.length : Int))) := ⟨_, fun H9 hk => k_szPoseGraph H9 ms S (hS.grew (Grew.trans (Grew.refl _) hk)) hmx ks Sk (hSk.grew (Grew.trans (Grew.refl _) hk)) hmxk 1048576 (by omega) (by omega), by split <;> (try split) <;> omega⟩
  refine run_mn (φ := φ0) (pm := pmR 0 [(.call 20 [.agg [.nd 0 .one, .nd 1 .one], .lit (.int .i64 1048576)], .nd 9 (.int .i64))] 0) 20 (nk := [(.atom 0, .one), (.atom 1, .one), (.atom 2, .int .i64), (.atom 3, .int .i64), (.atom 4, .flt .f32), (.atom 5, .flt .f32), (.atom 6, .flt .f32), (.atom 7, .flt .f32), (.atom 8, .int .i64), (.atom 9, .int .i64)]) (fs := []) (xs := [S, Sk, .int .i64 v0, .int .i64 v1, .flt .f32 v2, .flt .f32 v3, .flt .f32 v4, .flt .f32 v5, .int .i64 c, .int .i64 q1]) (ws := []) (env := [(0, .agg [.nd 0 .one, .nd 1 .one]), (1, .agg [.nd 2 (.int .i64), .nd 3 (.int .i64), .nd 4 (.flt .f32), .nd 5 (.flt .f32), .nd 6 (.flt .f32), .nd 7 (.flt .f32)])]) ?_ ?_ tb_ok ap_ok ?_
  · refine midN_in ?_ .nil _ ?_ ?_ ?_
    · exact (.cons rfl (slOne hS) (.cons rfl (slOne hSk) (.cons rfl ⟨_, rfl⟩ (.cons rfl ⟨_, rfl⟩ (.cons rfl ⟨_, rfl, o2⟩ (.cons rfl ⟨_, rfl, o3⟩ (.cons rfl ⟨_, rfl, o4⟩ (.cons rfl ⟨_, rfl, o5⟩ (.cons rfl ⟨_, rfl⟩ (.cons rfl ⟨_, rfl⟩ .nil))))))))))
    · exact .nil
    · exact sepOk_ro rfl
    · exact (.cons (rule_call (args := [.agg [S, Sk], .int .i64 1048576]) (dlCons (dAgg (dlCons (dNd rfl (slOne hS)) (dlCons (dNd rfl (slOne hSk)) dlNil))) (dlCons (dLit rfl) dlNil)) (dNd rfl ⟨_, rfl⟩) (fun H9 hk => kq1 H9 (hk.grew (Nat.le_refl _)))) .nil)
  · exact (envEq rfl (dAgg (dlCons (dNd rfl (slOne hS)) (dlCons (dNd rfl (slOne hSk)) dlNil))) (envEq rfl (dAgg (dlCons (dNd rfl ⟨_, rfl⟩) (dlCons (dNd rfl ⟨_, rfl⟩) (dlCons (dNd rfl ⟨_, rfl, o2⟩) (dlCons (dNd rfl ⟨_, rfl, o3⟩) (dlCons (dNd rfl ⟨_, rfl, o4⟩) (dlCons (dNd rfl ⟨_, rfl, o5⟩) dlNil))))))) envNil))
  refine all2 (by kernel_rfl) ?_ ?_
  ·
    intro vs ls H2 E2 st hE
    have f3 : q1 < 0 := of_decide_eq_true (bfact (x := decide (q1 < 0)) st.inn 0 (by kernel_rfl))
    exact res_ex (by kernel_rfl) (end_same st.inn hE (.inr rfl) (a := .bool true) (by kernel_rfl) (Nat.le_trans (Nat.le_refl _) st.kept.1) rfl)
  ·
    intro vs ls H4 E4 st hE
    have f5 : ¬ (q1 < 0) := of_decide_eq_false (bfact (x := decide (q1 < 0)) st.inn 0 (by kernel_rfl))
    have mxms : ms.length ≤ 1048576 := by omega
    have mxks : ks.length ≤ 1048576 := by omega
    obtain ⟨hP, hQ, mxP, mxQ⟩ := addK_ok hadd hr hrk (.cons ⟨_, rfl⟩ (.cons ⟨_, rfl⟩ (.cons ⟨_, rfl, o2⟩ (.cons ⟨_, rfl, o3⟩ (.cons ⟨_, rfl, o4⟩ (.cons ⟨_, rfl, o5⟩ .nil)))))) mxms
    obtain ⟨p6, e7, r8, n9⟩ := ptr_of st.inn hE 6 2 (by kernel_rfl) (ds := [.nilslice, .nilslice]) (by kernel_rfl)
    have op6 : H.next ≤ p6 := Nat.le_trans (Nat.le_refl _) (n9 (Nat.le_of_ble_eq_true rfl))
    obtain ⟨p10, e11, r12, n13⟩ := ptr_of st.inn hE 2 0 (by kernel_rfl) (ds := [S, Sk]) (by kernel_rfl)
    have op10 : H.next ≤ p10 := Nat.le_trans (Nat.le_refl _) (n13 (Nat.le_of_ble_eq_true rfl))
    obtain ⟨p14, e15, r16, n17⟩ := ptr_of st.inn hE 3 1 (by kernel_rfl) (ds := [.int .i64 v0, .int .i64 v1, .flt .f32 v2, .flt .f32 v3, .flt .f32 v4, .flt .f32 v5]) (by kernel_rfl)
    have op14 : H.next ≤ p14 := Nat.le_trans (Nat.le_refl _) (n17 (Nat.le_of_ble_eq_true rfl))
    have ne18 : Apart p6 p10 := ⟨ptr_ne st.inn hE 6 2 2 0 (by kernel_rfl) (by kernel_rfl) (cs := [.lit .nilslice, .lit .nilslice]) (by kernel_rfl) (by decide) e7 e11⟩
    have ne19 : Apart p6 p14 := ⟨ptr_ne st.inn hE 6 2 3 1 (by kernel_rfl) (by kernel_rfl) (cs := [.lit .nilslice, .lit .nilslice]) (by kernel_rfl) (by decide) e7 e15⟩
    have ne20 : Apart p10 p14 := ⟨ptr_ne st.inn hE 2 0 3 1 (by kernel_rfl) (by kernel_rfl) (cs := [.nd 0 .one, .nd 1 .one]) (by kernel_rfl) (by decide) e11 e15⟩
    have b21 : E4 22 = .agg [S, Sk] := env_of st.inn hE 22 (by kernel_rfl)
    have b22 : E4 24 = .agg [.int .i64 v0, .int .i64 v1, .flt .f32 v2, .flt .f32 v3, .flt .f32 v4, .flt .f32 v5] := env_of st.inn hE 24 (by kernel_rfl)
    have g23 : Grew H H4 := (st.kept.grew (Nat.le_of_ble_eq_true (by kernel_rfl)))
    have g24 : Grew H H4 := Grew.trans (Grew.refl _) g23
    clear st hE vs ls
    refine res_kid (free := false) (d := (some 23)) (f := 22) (args := [.tmp 22]) (by kernel_rfl) (R := fun z H' => Grew H4 H' ∧ ∃ S0' S1', z = .agg [S0', S1'] ∧ SlW H' 3 ms S0' ∧ FreshS H4.next S0' ∧ SlW H' 6 ks S1' ∧ FreshS H4.next S1' ∧ ApartS S0' S1') ?_ ?_
    · show ACalls _ _ [E4 22] _ _
      rw [b21]
      exact k_toPoseGraph H4 ms hr S (hS.grew g24) mxms ks hrk Sk (hSk.grew g24) mxks
    rintro z H25 ⟨gH25, S26, S27, rfl, sS26, fS26, sS27, fS27, ap28⟩
    refine ⟨gH25, ?_⟩
    have ne29 : ApartL (S26) p6 := fS26.apartL (H4.lt_of_get r8)
    have ne30 : ApartL (S26) p10 := fS26.apartL (H4.lt_of_get r12)
    have ne31 : ApartL (S26) p14 := fS26.apartL (H4.lt_of_get r16)
    have fr32 : FreshS H.next (S26) := fS26.mono g24.next
    have ne33 : ApartL (S27) p6 := fS27.apartL (H4.lt_of_get r8)
    have ne34 : ApartL (S27) p10 := fS27.apartL (H4.lt_of_get r12)
    have ne35 : ApartL (S27) p14 := fS27.apartL (H4.lt_of_get r16)
    have fr36 : FreshS H.next (S27) := fS27.mono g24.next
    have g37 : Grew H H25 := Grew.trans g24 gH25
    have r38 := gH25.at r8
    have r39 := gH25.at r12
    have r40 := gH25.at r16
    refine run_mn (φ := φ0) (pm := pmR 3 [(.call 39 [.agg [.nd 2 (.int .i64), .nd 3 (.int .i64), .nd 4 (.flt .f32), .nd 5 (.flt .f32), .nd 6 (.flt .f32), .nd 7 (.flt .f32)]], .agg [.nd 2 (.int .i64), .nd 3 (.int .i64), .nd 4 (.flt .f32), .nd 5 (.flt .f32), .nd 6 (.flt .f32), .nd 7 (.flt .f32)])] 0) 20 (nk := [(.atom 0, .one), (.atom 1, .one), (.atom 2, .int .i64), (.atom 3, .int .i64), (.atom 4, .flt .f32), (.atom 5, .flt .f32), (.atom 6, .flt .f32), (.atom 7, .flt .f32), (.atom 8, .int .i64), (.atom 9, .int .i64), (.atom 10, .one), (.atom 11, .one)]) (fs := []) (xs := [S, Sk, .int .i64 v0, .int .i64 v1, .flt .f32 v2, .flt .f32 v3, .flt .f32 v4, .flt .f32 v5, .int .i64 c, .int .i64 q1, S26, S27]) (ws := [⟨p6, 0, [.lit .nilslice, .lit .nilslice], false⟩, ⟨p10, 0, [.nd 0 .one, .nd 1 .one], false⟩, ⟨p14, 0, [.nd 2 (.int .i64), .nd 3 (.int .i64), .nd 4 (.flt .f32), .nd 5 (.flt .f32), .nd 6 (.flt .f32), .nd 7 (.flt .f32)], false⟩]) (env := [(22, .agg [.nd 0 .one, .nd 1 .one]), (24, .agg [.nd 2 (.int .i64), .nd 3 (.int .i64), .nd 4 (.flt .f32), .nd 5 (.flt .f32), .nd 6 (.flt .f32), .nd 7 (.flt .f32)]), (6, .ptr 0 0), (2, .ptr 1 0), (3, .ptr 2 0), (23, .agg [.nd 10 .one, .nd 11 .one])]) ?_ ?_ tb_ok ap_ok ?_
    · refine midN_in ?_ .nil _ ?_ ?_ ?_
      · exact (.cons rfl (slOne hS) (.cons rfl (slOne hSk) (.cons rfl ⟨_, rfl⟩ (.cons rfl ⟨_, rfl⟩ (.cons rfl ⟨_, rfl, o2⟩ (.cons rfl ⟨_, rfl, o3⟩ (.cons rfl ⟨_, rfl, o4⟩ (.cons rfl ⟨_, rfl, o5⟩ (.cons rfl ⟨_, rfl⟩ (.cons rfl ⟨_, rfl⟩ (.cons rfl sS26.one (.cons rfl sS27.one .nil))))))))))))
      · exact (.cons (win_row r38 (dlCons (dLit rfl) (dlCons (dLit rfl) dlNil))) (.cons (win_row r39 (dlCons (dNd rfl (slOne hS)) (dlCons (dNd rfl (slOne hSk)) dlNil))) (.cons (win_row r40 (dlCons (dNd rfl ⟨_, rfl⟩) (dlCons (dNd rfl ⟨_, rfl⟩) (dlCons (dNd rfl ⟨_, rfl, o2⟩) (dlCons (dNd rfl ⟨_, rfl, o3⟩) (dlCons (dNd rfl ⟨_, rfl, o4⟩) (dlCons (dNd rfl ⟨_, rfl, o5⟩) dlNil))))))) .nil)))
      · exact sepOk_ro rfl
      · exact (.cons (rule_call (args := [.agg [.int .i64 v0, .int .i64 v1, .flt .f32 v2, .flt .f32 v3, .flt .f32 v4, .flt .f32 v5]]) (dlCons (dAgg (dlCons (dNd rfl ⟨_, rfl⟩) (dlCons (dNd rfl ⟨_, rfl⟩) (dlCons (dNd rfl ⟨_, rfl, o2⟩) (dlCons (dNd rfl ⟨_, rfl, o3⟩) (dlCons (dNd rfl ⟨_, rfl, o4⟩) (dlCons (dNd rfl ⟨_, rfl, o5⟩) dlNil))))))) dlNil) (dAgg (dlCons (dNd rfl ⟨_, rfl⟩) (dlCons (dNd rfl ⟨_, rfl⟩) (dlCons (dNd rfl ⟨_, rfl, o2⟩) (dlCons (dNd rfl ⟨_, rfl, o3⟩) (dlCons (dNd rfl ⟨_, rfl, o4⟩) (dlCons (dNd rfl ⟨_, rfl, o5⟩) dlNil))))))) (fun H9 hk => k_toLink v0 v1 v2 v3 v4 v5 o2 o3 o4 o5 H9)) .nil)
    · exact (envEq (put_ne rfl b21) (dAgg (dlCons (dNd rfl (slOne hS)) (dlCons (dNd rfl (slOne hSk)) dlNil))) (envEq (put_ne rfl b22) (dAgg (dlCons (dNd rfl ⟨_, rfl⟩) (dlCons (dNd rfl ⟨_, rfl⟩) (dlCons (dNd rfl ⟨_, rfl, o2⟩) (dlCons (dNd rfl ⟨_, rfl, o3⟩) (dlCons (dNd rfl ⟨_, rfl, o4⟩) (dlCons (dNd rfl ⟨_, rfl, o5⟩) dlNil))))))) (envEq (put_ne rfl e7) (dPtr (l := p6) (o := 0) rfl) (envEq (put_ne rfl e11) (dPtr (l := p10) (o := 0) rfl) (envEq (put_ne rfl e15) (dPtr (l := p14) (o := 0) rfl) (envEq put_same (dAgg (dlCons (dNd rfl sS26.one) (dlCons (dNd rfl sS27.one) dlNil))) envNil))))))
    refine all1 (by kernel_rfl) ?_
    intro vs ls H41 E41 st hE
    have b42 : E41 23 = .agg [S26, S27] := env_of st.inn hE 23 (by kernel_rfl)
    have b43 : E41 25 = .agg [.int .i64 v0, .int .i64 v1, .flt .f32 v2, .flt .f32 v3, .flt .f32 v4, .flt .f32 v5] := env_of st.inn hE 25 (by kernel_rfl)
    have b44 : E41 6 = .ptr p6 0 := env_of st.inn hE 6 (by kernel_rfl)
    have b45 : E41 2 = .ptr p10 0 := env_of st.inn hE 2 (by kernel_rfl)
    have b46 : E41 3 = .ptr p14 0 := env_of st.inn hE 3 (by kernel_rfl)
    have g47 : Grew H25 H41 := (st.kept.grew (Nat.le_of_ble_eq_true (by kernel_rfl)))
    have g48 : Grew H H41 := Grew.trans g37 g47
    have r49 := g47.at r38
    have r50 := g47.at r39
    have r51 := g47.at r40
    have s52 := sS26.grew g47
    have s53 := sS27.grew g47
    clear st hE vs ls
    refine res_kid (free := false) (d := (some 26)) (f := 38) (args := [.tmp 23, .tmp 25]) (by kernel_rfl) (R := fun z H' => Grew H41 H' ∧ ∃ S' Sk', z = .tuple [.agg [S', Sk'], .int .i64 c] ∧ SlW H' 3 P S' ∧ FreshS H41.next S' ∧ SlW H' 6 Q Sk' ∧ FreshS H41.next Sk' ∧ ApartS S' Sk') ?_ ?_
    · show ACalls _ _ [E41 23, E41 25] _ _
      rw [b42, b43]
      exact (by have h := k_spec_AddLink H41 ms hr S26 s52.toL mxms ks hrk S27 s53.toL mxks v0 v1 v2 v3 v4 v5 o2 o3 o4 o5; rw [hadd] at h; exact h)
    rintro z H54 ⟨gH54, S55, S56, rfl, sS55, fS55, sS56, fS56, ap57⟩
    refine ⟨gH54, ?_⟩
    have ne58 : ApartL (S55) p6 := fS55.apartL (H41.lt_of_get r49)
    have ne59 : ApartL (S55) p10 := fS55.apartL (H41.lt_of_get r50)
    have ne60 : ApartL (S55) p14 := fS55.apartL (H41.lt_of_get r51)
    have ne61 : ApartS (S55) (S26) := fS55.apartS s52.lt
    have ne62 : ApartS (S55) (S27) := fS55.apartS s53.lt
    have fr63 : FreshS H.next (S55) := fS55.mono g48.next
    have ne64 : ApartL (S56) p6 := fS56.apartL (H41.lt_of_get r49)
    have ne65 : ApartL (S56) p10 := fS56.apartL (H41.lt_of_get r50)
    have ne66 : ApartL (S56) p14 := fS56.apartL (H41.lt_of_get r51)
    have ne67 : ApartS (S56) (S26) := fS56.apartS s52.lt
    have ne68 : ApartS (S56) (S27) := fS56.apartS s53.lt
    have fr69 : FreshS H.next (S56) := fS56.mono g48.next
    have g70 : Grew H H54 := Grew.trans g48 gH54
    have r71 := gH54.at r49
    have r72 := gH54.at r50
    have r73 := gH54.at r51
    have s74 := s52.grew gH54
    have s75 := s53.grew gH54
    refine run_mn (φ := φ0) (pm := pmR 2 [] 0) 20 (nk := [(.atom 0, .one), (.atom 1, .one), (.atom 2, .int .i64), (.atom 3, .int .i64), (.atom 4, .flt .f32), (.atom 5, .flt .f32), (.atom 6, .flt .f32), (.atom 7, .flt .f32), (.atom 8, .int .i64), (.atom 9, .int .i64), (.atom 10, .one), (.atom 11, .one), (.atom 12, .one), (.atom 13, .one)]) (fs := []) (xs := [S, Sk, .int .i64 v0, .int .i64 v1, .flt .f32 v2, .flt .f32 v3, .flt .f32 v4, .flt .f32 v5, .int .i64 c, .int .i64 q1, S26, S27, S55, S56]) (ws := [⟨p10, 0, [.nd 0 .one, .nd 1 .one], false⟩, ⟨p14, 0, [.nd 2 (.int .i64), .nd 3 (.int .i64), .nd 4 (.flt .f32), .nd 5 (.flt .f32), .nd 6 (.flt .f32), .nd 7 (.flt .f32)], false⟩, ⟨p6, 0, [.lit .nilslice, .lit .nilslice], true⟩]) (env := [(23, .agg [.nd 10 .one, .nd 11 .one]), (25, .agg [.nd 2 (.int .i64), .nd 3 (.int .i64), .nd 4 (.flt .f32), .nd 5 (.flt .f32), .nd 6 (.flt .f32), .nd 7 (.flt .f32)]), (6, .ptr 2 0), (2, .ptr 0 0), (3, .ptr 1 0), (26, .tup [.agg [.nd 12 .one, .nd 13 .one], .nd 8 (.int .i64)])]) ?_ ?_ tb_ok ap_ok ?_
    · refine midN_in ?_ .nil _ ?_ ?_ ?_
      · exact (.cons rfl (slOne hS) (.cons rfl (slOne hSk) (.cons rfl ⟨_, rfl⟩ (.cons rfl ⟨_, rfl⟩ (.cons rfl ⟨_, rfl, o2⟩ (.cons rfl ⟨_, rfl, o3⟩ (.cons rfl ⟨_, rfl, o4⟩ (.cons rfl ⟨_, rfl, o5⟩ (.cons rfl ⟨_, rfl⟩ (.cons rfl ⟨_, rfl⟩ (.cons rfl sS26.one (.cons rfl sS27.one (.cons rfl sS55.one (.cons rfl sS56.one .nil))))))))))))))
      · exact (.cons (win_row r72 (dlCons (dNd rfl (slOne hS)) (dlCons (dNd rfl (slOne hSk)) dlNil))) (.cons (win_row r73 (dlCons (dNd rfl ⟨_, rfl⟩) (dlCons (dNd rfl ⟨_, rfl⟩) (dlCons (dNd rfl ⟨_, rfl, o2⟩) (dlCons (dNd rfl ⟨_, rfl, o3⟩) (dlCons (dNd rfl ⟨_, rfl, o4⟩) (dlCons (dNd rfl ⟨_, rfl, o5⟩) dlNil))))))) (.cons (win_own r71 (dlCons (dLit rfl) (dlCons (dLit rfl) dlNil))) .nil)))
      · exact ⟨(fun v hv h => (by simp at hv; rcases hv with rfl | rfl <;> first | (simp at h; done) | exact Apart.ne (by assumption) | exact (Apart.ne (by assumption)).symm)), ⟨(fun v hv h => (by simp at hv; rcases hv with rfl <;> first | (simp at h; done) | exact Apart.ne (by assumption) | exact (Apart.ne (by assumption)).symm)), ⟨(fun v hv => (by cases hv)), trivial⟩⟩⟩
      · exact .nil
    · exact (envEq (put_ne rfl b42) (dAgg (dlCons (dNd rfl sS26.one) (dlCons (dNd rfl sS27.one) dlNil))) (envEq (put_ne rfl b43) (dAgg (dlCons (dNd rfl ⟨_, rfl⟩) (dlCons (dNd rfl ⟨_, rfl⟩) (dlCons (dNd rfl ⟨_, rfl, o2⟩) (dlCons (dNd rfl ⟨_, rfl, o3⟩) (dlCons (dNd rfl ⟨_, rfl, o4⟩) (dlCons (dNd rfl ⟨_, rfl, o5⟩) dlNil))))))) (envEq (put_ne rfl b44) (dPtr (l := p6) (o := 0) rfl) (envEq (put_ne rfl b45) (dPtr (l := p10) (o := 0) rfl) (envEq (put_ne rfl b46) (dPtr (l := p14) (o := 0) rfl) (envEq put_same (dTup' (dlCons (dAgg (dlCons (dNd rfl sS55.one) (dlCons (dNd rfl sS56.one) dlNil))) (dlCons (dNd rfl ⟨_, rfl⟩) dlNil))) envNil))))))
    refine all1 (by kernel_rfl) ?_
    intro vs ls H76 E76 st hE
    have r77 : H76.get p6 = some (.row [S55, S56] true) := row_whole st.inn 2 (l := p6) (b := 0) rfl (by kernel_rfl)
    have b78 : E76 29 = .agg [S, Sk] := env_of st.inn hE 29 (by kernel_rfl)
    have b79 : E76 3 = .ptr p14 0 := env_of st.inn hE 3 (by kernel_rfl)
    have b80 : E76 6 = .ptr p6 0 := env_of st.inn hE 6 (by kernel_rfl)
    have b81 : E76 7 = .int .i64 c := env_of st.inn hE 7 (by kernel_rfl)
    have b82 : E76 2 = .ptr p10 0 := env_of st.inn hE 2 (by kernel_rfl)
    have g84 : Grew H H76 := grew_own g70 st.inn.kept ⟨op6, trivial⟩
    have r85 := kept_at st.inn.kept r72 ⟨by first | assumption | exact Apart.symm (by assumption), trivial⟩
    have r86 := kept_at st.inn.kept r73 ⟨by first | assumption | exact Apart.symm (by assumption), trivial⟩
    have s87 := s74.keep st.inn.kept ⟨by assumption, trivial⟩
    have s88 := s75.keep st.inn.kept ⟨by assumption, trivial⟩
    have s89 := sS55.keep st.inn.kept ⟨by assumption, trivial⟩
    have s90 := sS56.keep st.inn.kept ⟨by assumption, trivial⟩
    clear st hE vs ls
    refine res_call (d := (some 30)) (f := 22) (args := [.tmp 29]) (by kernel_rfl) (R := fun z H' => Grew H76 H' ∧ ∃ S0' S1', z = .agg [S0', S1'] ∧ SlW H' 3 ms S0' ∧ FreshS H76.next S0' ∧ SlW H' 6 ks S1' ∧ FreshS H76.next S1' ∧ ApartS S0' S1') ?_ ?_
    · show ACalls _ _ [E76 29] _ _
      rw [b78]
      exact k_toPoseGraph H76 ms hr S (hS.grew g84) mxms ks hrk Sk (hSk.grew g84) mxks
    rintro z H91 ⟨gH91, S92, S93, rfl, sS92, fS92, sS93, fS93, ap94⟩
    have ne95 : ApartL (S92) p10 := fS92.apartL (H76.lt_of_get r85)
    have ne96 : ApartL (S92) p14 := fS92.apartL (H76.lt_of_get r86)
    have ne97 : ApartL (S92) p6 := fS92.apartL (H76.lt_of_get r77)
    have ne98 : ApartS (S92) (S26) := fS92.apartS s87.lt
    have ne99 : ApartS (S92) (S27) := fS92.apartS s88.lt
    have ne100 : ApartS (S92) (S55) := fS92.apartS s89.lt
    have ne101 : ApartS (S92) (S56) := fS92.apartS s90.lt
    have fr102 : FreshS H.next (S92) := fS92.mono g84.next
    have ne103 : ApartL (S93) p10 := fS93.apartL (H76.lt_of_get r85)
    have ne104 : ApartL (S93) p14 := fS93.apartL (H76.lt_of_get r86)
    have ne105 : ApartL (S93) p6 := fS93.apartL (H76.lt_of_get r77)
    have ne106 : ApartS (S93) (S26) := fS93.apartS s87.lt
    have ne107 : ApartS (S93) (S27) := fS93.apartS s88.lt
    have ne108 : ApartS (S93) (S55) := fS93.apartS s89.lt
    have ne109 : ApartS (S93) (S56) := fS93.apartS s90.lt
    have fr110 : FreshS H.next (S93) := fS93.mono g84.next
    have g111 : Grew H H91 := Grew.trans g84 gH91
    have r112 := gH91.at r85
    have r113 := gH91.at r86
    have r114 := gH91.at r77
    have s115 := s87.grew gH91
    have s116 := s88.grew gH91
    have s117 := s89.grew gH91
    have s118 := s90.grew gH91
    refine run_mn (φ := φ0) (pm := pmR 2 [(.call 39 [.agg [.nd 2 (.int .i64), .nd 3 (.int .i64), .nd 4 (.flt .f32), .nd 5 (.flt .f32), .nd 6 (.flt .f32), .nd 7 (.flt .f32)]], .agg [.nd 2 (.int .i64), .nd 3 (.int .i64), .nd 4 (.flt .f32), .nd 5 (.flt .f32), .nd 6 (.flt .f32), .nd 7 (.flt .f32)])] 0) 20 (nk := [(.atom 0, .one), (.atom 1, .one), (.atom 2, .int .i64), (.atom 3, .int .i64), (.atom 4, .flt .f32), (.atom 5, .flt .f32), (.atom 6, .flt .f32), (.atom 7, .flt .f32), (.atom 8, .int .i64), (.atom 9, .int .i64), (.atom 10, .one), (.atom 11, .one), (.atom 12, .one), (.atom 13, .one), (.atom 14, .one), (.atom 15, .one)]) (fs := []) (xs := [S, Sk, .int .i64 v0, .int .i64 v1, .flt .f32 v2, .flt .f32 v3, .flt .f32 v4, .flt .f32 v5, .int .i64 c, .int .i64 q1, S26, S27, S55, S56, S92, S93]) (ws := [⟨p10, 0, [.nd 0 .one, .nd 1 .one], false⟩, ⟨p14, 0, [.nd 2 (.int .i64), .nd 3 (.int .i64), .nd 4 (.flt .f32), .nd 5 (.flt .f32), .nd 6 (.flt .f32), .nd 7 (.flt .f32)], false⟩, ⟨p6, 0, [.nd 12 .one, .nd 13 .one], true⟩]) (env := [(29, .agg [.nd 0 .one, .nd 1 .one]), (3, .ptr 1 0), (6, .ptr 2 0), (7, .nd 8 (.int .i64)), (2, .ptr 0 0), (30, .agg [.nd 14 .one, .nd 15 .one])]) ?_ ?_ tb_ok ap_ok ?_
    · refine midN_in ?_ .nil _ ?_ ?_ ?_
      · exact (.cons rfl (slOne hS) (.cons rfl (slOne hSk) (.cons rfl ⟨_, rfl⟩ (.cons rfl ⟨_, rfl⟩ (.cons rfl ⟨_, rfl, o2⟩ (.cons rfl ⟨_, rfl, o3⟩ (.cons rfl ⟨_, rfl, o4⟩ (.cons rfl ⟨_, rfl, o5⟩ (.cons rfl ⟨_, rfl⟩ (.cons rfl ⟨_, rfl⟩ (.cons rfl sS26.one (.cons rfl sS27.one (.cons rfl sS55.one (.cons rfl sS56.one (.cons rfl sS92.one (.cons rfl sS93.one .nil))))))))))))))))
      · exact (.cons (win_row r112 (dlCons (dNd rfl (slOne hS)) (dlCons (dNd rfl (slOne hSk)) dlNil))) (.cons (win_row r113 (dlCons (dNd rfl ⟨_, rfl⟩) (dlCons (dNd rfl ⟨_, rfl⟩) (dlCons (dNd rfl ⟨_, rfl, o2⟩) (dlCons (dNd rfl ⟨_, rfl, o3⟩) (dlCons (dNd rfl ⟨_, rfl, o4⟩) (dlCons (dNd rfl ⟨_, rfl, o5⟩) dlNil))))))) (.cons (win_own r114 (dlCons (dNd rfl sS55.one) (dlCons (dNd rfl sS56.one) dlNil))) .nil)))
      · exact ⟨(fun v hv h => (by simp at hv; rcases hv with rfl | rfl <;> first | (simp at h; done) | exact Apart.ne (by assumption) | exact (Apart.ne (by assumption)).symm)), ⟨(fun v hv h => (by simp at hv; rcases hv with rfl <;> first | (simp at h; done) | exact Apart.ne (by assumption) | exact (Apart.ne (by assumption)).symm)), ⟨(fun v hv => (by cases hv)), trivial⟩⟩⟩
      · exact (.cons (rule_call (args := [.agg [.int .i64 v0, .int .i64 v1, .flt .f32 v2, .flt .f32 v3, .flt .f32 v4, .flt .f32 v5]]) (dlCons (dAgg (dlCons (dNd rfl ⟨_, rfl⟩) (dlCons (dNd rfl ⟨_, rfl⟩) (dlCons (dNd rfl ⟨_, rfl, o2⟩) (dlCons (dNd rfl ⟨_, rfl, o3⟩) (dlCons (dNd rfl ⟨_, rfl, o4⟩) (dlCons (dNd rfl ⟨_, rfl, o5⟩) dlNil))))))) dlNil) (dAgg (dlCons (dNd rfl ⟨_, rfl⟩) (dlCons (dNd rfl ⟨_, rfl⟩) (dlCons (dNd rfl ⟨_, rfl, o2⟩) (dlCons (dNd rfl ⟨_, rfl, o3⟩) (dlCons (dNd rfl ⟨_, rfl, o4⟩) (dlCons (dNd rfl ⟨_, rfl, o5⟩) dlNil))))))) (fun H9 hk => k_toLink v0 v1 v2 v3 v4 v5 o2 o3 o4 o5 H9)) .nil)
    · exact (envEq (put_ne rfl b78) (dAgg (dlCons (dNd rfl (slOne hS)) (dlCons (dNd rfl (slOne hSk)) dlNil))) (envEq (put_ne rfl b79) (dPtr (l := p14) (o := 0) rfl) (envEq (put_ne rfl b80) (dPtr (l := p6) (o := 0) rfl) (envEq (put_ne rfl b81) (dNd rfl ⟨_, rfl⟩) (envEq (put_ne rfl b82) (dPtr (l := p10) (o := 0) rfl) (envEq put_same (dAgg (dlCons (dNd rfl sS92.one) (dlCons (dNd rfl sS93.one) dlNil))) envNil))))))
    refine all1 (by kernel_rfl) ?_
    intro vs ls H119 E119 st hE
    obtain ⟨p120, e121, r122, n123⟩ := ptr_of st.inn hE 9 4 (by kernel_rfl) (ds := [.nilslice, .nilslice]) (by kernel_rfl)
    have op120 : H.next ≤ p120 := Nat.le_trans g111.next (n123 (Nat.le_of_ble_eq_true rfl))
    obtain ⟨p124, e125, r126, n127⟩ := ptr_of st.inn hE 8 3 (by kernel_rfl) (ds := [S92, S93]) (by kernel_rfl)
    have op124 : H.next ≤ p124 := Nat.le_trans g111.next (n127 (Nat.le_of_ble_eq_true rfl))
    have ne128 : Apart p120 p124 := ⟨ptr_ne st.inn hE 9 4 8 3 (by kernel_rfl) (by kernel_rfl) (cs := [.lit .nilslice, .lit .nilslice]) (by kernel_rfl) (by decide) e121 e125⟩
    have ne129 : Apart p120 p10 := ⟨Nat.ne_of_gt (Nat.lt_of_lt_of_le (H91.lt_of_get r112) (n123 (Nat.le_of_ble_eq_true rfl)))⟩
    have ne130 : Apart p120 p14 := ⟨Nat.ne_of_gt (Nat.lt_of_lt_of_le (H91.lt_of_get r113) (n123 (Nat.le_of_ble_eq_true rfl)))⟩
    have ne131 : Apart p120 p6 := ⟨Nat.ne_of_gt (Nat.lt_of_lt_of_le (H91.lt_of_get r114) (n123 (Nat.le_of_ble_eq_true rfl)))⟩
    have ne132 : ApartL (S26) p120 := s115.apart_new (n123 (Nat.le_of_ble_eq_true rfl))
    have ne133 : ApartL (S27) p120 := s116.apart_new (n123 (Nat.le_of_ble_eq_true rfl))
    have ne134 : ApartL (S55) p120 := s117.apart_new (n123 (Nat.le_of_ble_eq_true rfl))
    have ne135 : ApartL (S56) p120 := s118.apart_new (n123 (Nat.le_of_ble_eq_true rfl))
    have ne136 : ApartL (S92) p120 := sS92.apart_new (n123 (Nat.le_of_ble_eq_true rfl))
    have ne137 : ApartL (S93) p120 := sS93.apart_new (n123 (Nat.le_of_ble_eq_true rfl))
    have ne138 : Apart p124 p10 := ⟨Nat.ne_of_gt (Nat.lt_of_lt_of_le (H91.lt_of_get r112) (n127 (Nat.le_of_ble_eq_true rfl)))⟩
    have ne139 : Apart p124 p14 := ⟨Nat.ne_of_gt (Nat.lt_of_lt_of_le (H91.lt_of_get r113) (n127 (Nat.le_of_ble_eq_true rfl)))⟩
    have ne140 : Apart p124 p6 := ⟨Nat.ne_of_gt (Nat.lt_of_lt_of_le (H91.lt_of_get r114) (n127 (Nat.le_of_ble_eq_true rfl)))⟩
    have ne141 : ApartL (S26) p124 := s115.apart_new (n127 (Nat.le_of_ble_eq_true rfl))
    have ne142 : ApartL (S27) p124 := s116.apart_new (n127 (Nat.le_of_ble_eq_true rfl))
    have ne143 : ApartL (S55) p124 := s117.apart_new (n127 (Nat.le_of_ble_eq_true rfl))
    have ne144 : ApartL (S56) p124 := s118.apart_new (n127 (Nat.le_of_ble_eq_true rfl))
    have ne145 : ApartL (S92) p124 := sS92.apart_new (n127 (Nat.le_of_ble_eq_true rfl))
    have ne146 : ApartL (S93) p124 := sS93.apart_new (n127 (Nat.le_of_ble_eq_true rfl))
    have b147 : E119 32 = .agg [S92, S93] := env_of st.inn hE 32 (by kernel_rfl)
    have b148 : E119 34 = .agg [.int .i64 v0, .int .i64 v1, .flt .f32 v2, .flt .f32 v3, .flt .f32 v4, .flt .f32 v5] := env_of st.inn hE 34 (by kernel_rfl)
    have b149 : E119 6 = .ptr p6 0 := env_of st.inn hE 6 (by kernel_rfl)
    have b150 : E119 7 = .int .i64 c := env_of st.inn hE 7 (by kernel_rfl)
    have b151 : E119 2 = .ptr p10 0 := env_of st.inn hE 2 (by kernel_rfl)
    have b152 : E119 3 = .ptr p14 0 := env_of st.inn hE 3 (by kernel_rfl)
    have g153 : Grew H91 H119 := (st.kept.grew (Nat.le_of_ble_eq_true (by kernel_rfl)))
    have g154 : Grew H H119 := Grew.trans g111 g153
    have r155 := g153.at r112
    have r156 := g153.at r113
    have r157 := g153.at r114
    have s158 := s115.grew g153
    have s159 := s116.grew g153
    have s160 := s117.grew g153
    have s161 := s118.grew g153
    have s162 := sS92.grew g153
    have s163 := sS93.grew g153
    clear st hE vs ls
    refine res_kid (free := false) (d := (some 35)) (f := 40) (args := [.tmp 32, .tmp 34]) (by kernel_rfl) (R := fun z H' => Grew H119 H' ∧ ∃ S' Sk', z = .tuple [.agg [S', Sk'], .int .i64 c] ∧ SlW H' 3 P S' ∧ FreshS H119.next S' ∧ SlW H' 6 Q Sk' ∧ FreshS H119.next Sk' ∧ ApartS S' Sk') ?_ ?_
    · show ACalls _ _ [E119 32, E119 34] _ _
      rw [b147, b148]
      exact (by have h := k_impl_AddLink H119 ms hr S92 s162.toL mxms ks hrk S93 s163.toL mxks v0 v1 v2 v3 v4 v5 o2 o3 o4 o5; rw [hadd] at h; exact h)
    rintro z H164 ⟨gH164, S165, S166, rfl, sS165, fS165, sS166, fS166, ap167⟩
    refine ⟨gH164, ?_⟩
    have ne168 : ApartL (S165) p10 := fS165.apartL (H119.lt_of_get r155)
    have ne169 : ApartL (S165) p14 := fS165.apartL (H119.lt_of_get r156)
    have ne170 : ApartL (S165) p120 := fS165.apartL (H119.lt_of_get r122)
    have ne171 : ApartL (S165) p124 := fS165.apartL (H119.lt_of_get r126)
    have ne172 : ApartL (S165) p6 := fS165.apartL (H119.lt_of_get r157)
    have ne173 : ApartS (S165) (S26) := fS165.apartS s158.lt
    have ne174 : ApartS (S165) (S27) := fS165.apartS s159.lt
    have ne175 : ApartS (S165) (S55) := fS165.apartS s160.lt
    have ne176 : ApartS (S165) (S56) := fS165.apartS s161.lt
    have ne177 : ApartS (S165) (S92) := fS165.apartS s162.lt
    have ne178 : ApartS (S165) (S93) := fS165.apartS s163.lt
    have fr179 : FreshS H.next (S165) := fS165.mono g154.next
    have ne180 : ApartL (S166) p10 := fS166.apartL (H119.lt_of_get r155)
    have ne181 : ApartL (S166) p14 := fS166.apartL (H119.lt_of_get r156)
    have ne182 : ApartL (S166) p120 := fS166.apartL (H119.lt_of_get r122)
    have ne183 : ApartL (S166) p124 := fS166.apartL (H119.lt_of_get r126)
    have ne184 : ApartL (S166) p6 := fS166.apartL (H119.lt_of_get r157)
    have ne185 : ApartS (S166) (S26) := fS166.apartS s158.lt
    have ne186 : ApartS (S166) (S27) := fS166.apartS s159.lt
    have ne187 : ApartS (S166) (S55) := fS166.apartS s160.lt
    have ne188 : ApartS (S166) (S56) := fS166.apartS s161.lt
    have ne189 : ApartS (S166) (S92) := fS166.apartS s162.lt
    have ne190 : ApartS (S166) (S93) := fS166.apartS s163.lt
    have fr191 : FreshS H.next (S166) := fS166.mono g154.next
    have g192 : Grew H H164 := Grew.trans g154 gH164
    have r193 := gH164.at r155
    have r194 := gH164.at r156
    have r195 := gH164.at r122
    have r196 := gH164.at r126
    have r197 := gH164.at r157
    have s198 := s158.grew gH164
    have s199 := s159.grew gH164
    have s200 := s160.grew gH164
    have s201 := s161.grew gH164
    have s202 := s162.grew gH164
    have s203 := s163.grew gH164
    refine run_mn (φ := φ0) (pm := pmR 3 [(.call 24 [.agg [.nd 16 .one, .nd 17 .one], .agg [.nd 12 .one, .nd 13 .one]], .lit (.bool true))] 0) 20 (nk := [(.atom 0, .one), (.atom 1, .one), (.atom 2, .int .i64), (.atom 3, .int .i64), (.atom 4, .flt .f32), (.atom 5, .flt .f32), (.atom 6, .flt .f32), (.atom 7, .flt .f32), (.atom 8, .int .i64), (.atom 9, .int .i64), (.atom 10, .one), (.atom 11, .one), (.atom 12, .one), (.atom 13, .one), (.atom 14, .one), (.atom 15, .one), (.atom 16, .one), (.atom 17, .one)]) (fs := []) (xs := [S, Sk, .int .i64 v0, .int .i64 v1, .flt .f32 v2, .flt .f32 v3, .flt .f32 v4, .flt .f32 v5, .int .i64 c, .int .i64 q1, S26, S27, S55, S56, S92, S93, S165, S166]) (ws := [⟨p10, 0, [.nd 0 .one, .nd 1 .one], false⟩, ⟨p14, 0, [.nd 2 (.int .i64), .nd 3 (.int .i64), .nd 4 (.flt .f32), .nd 5 (.flt .f32), .nd 6 (.flt .f32), .nd 7 (.flt .f32)], false⟩, ⟨p124, 0, [.nd 14 .one, .nd 15 .one], false⟩, ⟨p6, 0, [.nd 12 .one, .nd 13 .one], true⟩, ⟨p120, 0, [.lit .nilslice, .lit .nilslice], true⟩]) (env := [(32, .agg [.nd 14 .one, .nd 15 .one]), (34, .agg [.nd 2 (.int .i64), .nd 3 (.int .i64), .nd 4 (.flt .f32), .nd 5 (.flt .f32), .nd 6 (.flt .f32), .nd 7 (.flt .f32)]), (9, .ptr 4 0), (6, .ptr 3 0), (7, .nd 8 (.int .i64)), (8, .ptr 2 0), (2, .ptr 0 0), (3, .ptr 1 0), (35, .tup [.agg [.nd 16 .one, .nd 17 .one], .nd 8 (.int .i64)])]) ?_ ?_ tb_ok ap_ok ?_
    · refine midN_in ?_ .nil _ ?_ ?_ ?_
      · exact (.cons rfl (slOne hS) (.cons rfl (slOne hSk) (.cons rfl ⟨_, rfl⟩ (.cons rfl ⟨_, rfl⟩ (.cons rfl ⟨_, rfl, o2⟩ (.cons rfl ⟨_, rfl, o3⟩ (.cons rfl ⟨_, rfl, o4⟩ (.cons rfl ⟨_, rfl, o5⟩ (.cons rfl ⟨_, rfl⟩ (.cons rfl ⟨_, rfl⟩ (.cons rfl sS26.one (.cons rfl sS27.one (.cons rfl sS55.one (.cons rfl sS56.one (.cons rfl sS92.one (.cons rfl sS93.one (.cons rfl sS165.one (.cons rfl sS166.one .nil))))))))))))))))))
      · exact (.cons (win_row r193 (dlCons (dNd rfl (slOne hS)) (dlCons (dNd rfl (slOne hSk)) dlNil))) (.cons (win_row r194 (dlCons (dNd rfl ⟨_, rfl⟩) (dlCons (dNd rfl ⟨_, rfl⟩) (dlCons (dNd rfl ⟨_, rfl, o2⟩) (dlCons (dNd rfl ⟨_, rfl, o3⟩) (dlCons (dNd rfl ⟨_, rfl, o4⟩) (dlCons (dNd rfl ⟨_, rfl, o5⟩) dlNil))))))) (.cons (win_row r196 (dlCons (dNd rfl sS92.one) (dlCons (dNd rfl sS93.one) dlNil))) (.cons (win_own r197 (dlCons (dNd rfl sS55.one) (dlCons (dNd rfl sS56.one) dlNil))) (.cons (win_own r195 (dlCons (dLit rfl) (dlCons (dLit rfl) dlNil))) .nil)))))
      · exact ⟨(fun v hv h => (by simp at hv; rcases hv with rfl | rfl | rfl | rfl <;> first | (simp at h; done) | exact Apart.ne (by assumption) | exact (Apart.ne (by assumption)).symm)), ⟨(fun v hv h => (by simp at hv; rcases hv with rfl | rfl | rfl <;> first | (simp at h; done) | exact Apart.ne (by assumption) | exact (Apart.ne (by assumption)).symm)), ⟨(fun v hv h => (by simp at hv; rcases hv with rfl | rfl <;> first | (simp at h; done) | exact Apart.ne (by assumption) | exact (Apart.ne (by assumption)).symm)), ⟨(fun v hv h => (by simp at hv; rcases hv with rfl <;> first | (simp at h; done) | exact Apart.ne (by assumption) | exact (Apart.ne (by assumption)).symm)), ⟨(fun v hv => (by cases hv)), trivial⟩⟩⟩⟩⟩
      · exact (.cons (rule_call (args := [.agg [S165, S166], .agg [S55, S56]]) (dlCons (dAgg (dlCons (dNd rfl sS165.one) (dlCons (dNd rfl sS166.one) dlNil))) (dlCons (dAgg (dlCons (dNd rfl sS55.one) (dlCons (dNd rfl sS56.one) dlNil))) dlNil)) (dLit rfl) (fun H9 hk => k_eqPoseGraph H9 P hP S165 S55 ((sS165.keep hk ⟨by assumption, ⟨by assumption, trivial⟩⟩)).toL ((s200.keep hk ⟨by assumption, ⟨by assumption, trivial⟩⟩)).toL (mx40 mxP) Q hQ S166 S56 ((sS166.keep hk ⟨by assumption, ⟨by assumption, trivial⟩⟩)).toL ((s201.keep hk ⟨by assumption, ⟨by assumption, trivial⟩⟩)).toL (mx40 mxQ))) .nil)
    · exact (envEq (put_ne rfl b147) (dAgg (dlCons (dNd rfl sS92.one) (dlCons (dNd rfl sS93.one) dlNil))) (envEq (put_ne rfl b148) (dAgg (dlCons (dNd rfl ⟨_, rfl⟩) (dlCons (dNd rfl ⟨_, rfl⟩) (dlCons (dNd rfl ⟨_, rfl, o2⟩) (dlCons (dNd rfl ⟨_, rfl, o3⟩) (dlCons (dNd rfl ⟨_, rfl, o4⟩) (dlCons (dNd rfl ⟨_, rfl, o5⟩) dlNil))))))) (envEq (put_ne rfl e121) (dPtr (l := p120) (o := 0) rfl) (envEq (put_ne rfl b149) (dPtr (l := p6) (o := 0) rfl) (envEq (put_ne rfl b150) (dNd rfl ⟨_, rfl⟩) (envEq (put_ne rfl e125) (dPtr (l := p124) (o := 0) rfl) (envEq (put_ne rfl b151) (dPtr (l := p10) (o := 0) rfl) (envEq (put_ne rfl b152) (dPtr (l := p14) (o := 0) rfl) (envEq put_same (dTup' (dlCons (dAgg (dlCons (dNd rfl sS165.one) (dlCons (dNd rfl sS166.one) dlNil))) (dlCons (dNd rfl ⟨_, rfl⟩) dlNil))) envNil)))))))))
    refine all1 (by kernel_rfl) ?_
    intro vs ls H204 E204 st hE
    have r205 : H204.get p6 = some (.row [S55, S56] true) := row_whole st.inn 3 (l := p6) (b := 0) rfl (by kernel_rfl)
    have r206 : H204.get p120 = some (.row [S165, S166] true) := row_whole st.inn 4 (l := p120) (b := 0) rfl (by kernel_rfl)
    have b207 : E204 48 = .agg [S, Sk] := env_of st.inn hE 48 (by kernel_rfl)
    have b208 : E204 47 = .agg [S92, S93] := env_of st.inn hE 47 (by kernel_rfl)
    have b209 : E204 8 = .ptr p124 0 := env_of st.inn hE 8 (by kernel_rfl)
    have b210 : E204 9 = .ptr p120 0 := env_of st.inn hE 9 (by kernel_rfl)
    have b211 : E204 6 = .ptr p6 0 := env_of st.inn hE 6 (by kernel_rfl)
    have b212 : E204 10 = .int .i64 c := env_of st.inn hE 10 (by kernel_rfl)
    have b213 : E204 7 = .int .i64 c := env_of st.inn hE 7 (by kernel_rfl)
    have b214 : E204 2 = .ptr p10 0 := env_of st.inn hE 2 (by kernel_rfl)
    have b215 : E204 3 = .ptr p14 0 := env_of st.inn hE 3 (by kernel_rfl)
    have g217 : Grew H H204 := grew_own g192 st.inn.kept ⟨op6, ⟨op120, trivial⟩⟩
    have r218 := kept_at st.inn.kept r193 ⟨by first | assumption | exact Apart.symm (by assumption), ⟨by first | assumption | exact Apart.symm (by assumption), trivial⟩⟩
    have r219 := kept_at st.inn.kept r194 ⟨by first | assumption | exact Apart.symm (by assumption), ⟨by first | assumption | exact Apart.symm (by assumption), trivial⟩⟩
    have r220 := kept_at st.inn.kept r196 ⟨by first | assumption | exact Apart.symm (by assumption), ⟨by first | assumption | exact Apart.symm (by assumption), trivial⟩⟩
    have s221 := s198.keep st.inn.kept ⟨by assumption, ⟨by assumption, trivial⟩⟩
    have s222 := s199.keep st.inn.kept ⟨by assumption, ⟨by assumption, trivial⟩⟩
    have s223 := s200.keep st.inn.kept ⟨by assumption, ⟨by assumption, trivial⟩⟩
    have s224 := s201.keep st.inn.kept ⟨by assumption, ⟨by assumption, trivial⟩⟩
    have s225 := s202.keep st.inn.kept ⟨by assumption, ⟨by assumption, trivial⟩⟩
    have s226 := s203.keep st.inn.kept ⟨by assumption, ⟨by assumption, trivial⟩⟩
    have s227 := sS165.keep st.inn.kept ⟨by assumption, ⟨by assumption, trivial⟩⟩
    have s228 := sS166.keep st.inn.kept ⟨by assumption, ⟨by assumption, trivial⟩⟩
    clear st hE vs ls
    refine res_kid (free := false) (d := (some 49)) (f := 22) (args := [.tmp 48]) (by kernel_rfl) (R := fun z H' => Grew H204 H' ∧ ∃ S0' S1', z = .agg [S0', S1'] ∧ SlW H' 3 ms S0' ∧ FreshS H204.next S0' ∧ SlW H' 6 ks S1' ∧ FreshS H204.next S1' ∧ ApartS S0' S1') ?_ ?_
    · show ACalls _ _ [E204 48] _ _
      rw [b207]
      exact k_toPoseGraph H204 ms hr S (hS.grew g217) mxms ks hrk Sk (hSk.grew g217) mxks
    rintro z H229 ⟨gH229, S230, S231, rfl, sS230, fS230, sS231, fS231, ap232⟩
    refine ⟨gH229, ?_⟩
    have ne233 : ApartL (S230) p10 := fS230.apartL (H204.lt_of_get r218)
    have ne234 : ApartL (S230) p14 := fS230.apartL (H204.lt_of_get r219)
    have ne235 : ApartL (S230) p124 := fS230.apartL (H204.lt_of_get r220)
    have ne236 : ApartL (S230) p6 := fS230.apartL (H204.lt_of_get r205)
    have ne237 : ApartL (S230) p120 := fS230.apartL (H204.lt_of_get r206)
    have ne238 : ApartS (S230) (S26) := fS230.apartS s221.lt
    have ne239 : ApartS (S230) (S27) := fS230.apartS s222.lt
    have ne240 : ApartS (S230) (S55) := fS230.apartS s223.lt
    have ne241 : ApartS (S230) (S56) := fS230.apartS s224.lt
    have ne242 : ApartS (S230) (S92) := fS230.apartS s225.lt
    have ne243 : ApartS (S230) (S93) := fS230.apartS s226.lt
    have ne244 : ApartS (S230) (S165) := fS230.apartS s227.lt
    have ne245 : ApartS (S230) (S166) := fS230.apartS s228.lt
    have fr246 : FreshS H.next (S230) := fS230.mono g217.next
    have ne247 : ApartL (S231) p10 := fS231.apartL (H204.lt_of_get r218)
    have ne248 : ApartL (S231) p14 := fS231.apartL (H204.lt_of_get r219)
    have ne249 : ApartL (S231) p124 := fS231.apartL (H204.lt_of_get r220)
    have ne250 : ApartL (S231) p6 := fS231.apartL (H204.lt_of_get r205)
    have ne251 : ApartL (S231) p120 := fS231.apartL (H204.lt_of_get r206)
    have ne252 : ApartS (S231) (S26) := fS231.apartS s221.lt
    have ne253 : ApartS (S231) (S27) := fS231.apartS s222.lt
    have ne254 : ApartS (S231) (S55) := fS231.apartS s223.lt
    have ne255 : ApartS (S231) (S56) := fS231.apartS s224.lt
    have ne256 : ApartS (S231) (S92) := fS231.apartS s225.lt
    have ne257 : ApartS (S231) (S93) := fS231.apartS s226.lt
    have ne258 : ApartS (S231) (S165) := fS231.apartS s227.lt
    have ne259 : ApartS (S231) (S166) := fS231.apartS s228.lt
    have fr260 : FreshS H.next (S231) := fS231.mono g217.next
    have g261 : Grew H H229 := Grew.trans g217 gH229
    have r262 := gH229.at r218
    have r263 := gH229.at r219
    have r264 := gH229.at r220
    have r265 := gH229.at r205
    have r266 := gH229.at r206
    have s267 := s221.grew gH229
    have s268 := s222.grew gH229
    have s269 := s223.grew gH229
    have s270 := s224.grew gH229
    have s271 := s225.grew gH229
    have s272 := s226.grew gH229
    have s273 := s227.grew gH229
    have s274 := s228.grew gH229
    refine run_mn (φ := φ0) (pm := pmR 3 [(.call 24 [.agg [.nd 14 .one, .nd 15 .one], .agg [.nd 18 .one, .nd 19 .one]], .lit (.bool true))] 0) 20 (nk := [(.atom 0, .one), (.atom 1, .one), (.atom 2, .int .i64), (.atom 3, .int .i64), (.atom 4, .flt .f32), (.atom 5, .flt .f32), (.atom 6, .flt .f32), (.atom 7, .flt .f32), (.atom 8, .int .i64), (.atom 9, .int .i64), (.atom 10, .one), (.atom 11, .one), (.atom 12, .one), (.atom 13, .one), (.atom 14, .one), (.atom 15, .one), (.atom 16, .one), (.atom 17, .one), (.atom 18, .one), (.atom 19, .one)]) (fs := []) (xs := [S, Sk, .int .i64 v0, .int .i64 v1, .flt .f32 v2, .flt .f32 v3, .flt .f32 v4, .flt .f32 v5, .int .i64 c, .int .i64 q1, S26, S27, S55, S56, S92, S93, S165, S166, S230, S231]) (ws := [⟨p10, 0, [.nd 0 .one, .nd 1 .one], false⟩, ⟨p14, 0, [.nd 2 (.int .i64), .nd 3 (.int .i64), .nd 4 (.flt .f32), .nd 5 (.flt .f32), .nd 6 (.flt .f32), .nd 7 (.flt .f32)], false⟩, ⟨p124, 0, [.nd 14 .one, .nd 15 .one], false⟩, ⟨p6, 0, [.nd 12 .one, .nd 13 .one], true⟩, ⟨p120, 0, [.nd 16 .one, .nd 17 .one], true⟩]) (env := [(48, .agg [.nd 0 .one, .nd 1 .one]), (47, .agg [.nd 14 .one, .nd 15 .one]), (8, .ptr 2 0), (9, .ptr 4 0), (6, .ptr 3 0), (10, .nd 8 (.int .i64)), (7, .nd 8 (.int .i64)), (2, .ptr 0 0), (3, .ptr 1 0), (49, .agg [.nd 18 .one, .nd 19 .one])]) ?_ ?_ tb_ok ap_ok ?_
    · refine midN_in ?_ .nil _ ?_ ?_ ?_
      · exact (.cons rfl (slOne hS) (.cons rfl (slOne hSk) (.cons rfl ⟨_, rfl⟩ (.cons rfl ⟨_, rfl⟩ (.cons rfl ⟨_, rfl, o2⟩ (.cons rfl ⟨_, rfl, o3⟩ (.cons rfl ⟨_, rfl, o4⟩ (.cons rfl ⟨_, rfl, o5⟩ (.cons rfl ⟨_, rfl⟩ (.cons rfl ⟨_, rfl⟩ (.cons rfl sS26.one (.cons rfl sS27.one (.cons rfl sS55.one (.cons rfl sS56.one (.cons rfl sS92.one (.cons rfl sS93.one (.cons rfl sS165.one (.cons rfl sS166.one (.cons rfl sS230.one (.cons rfl sS231.one .nil))))))))))))))))))))
      · exact (.cons (win_row r262 (dlCons (dNd rfl (slOne hS)) (dlCons (dNd rfl (slOne hSk)) dlNil))) (.cons (win_row r263 (dlCons (dNd rfl ⟨_, rfl⟩) (dlCons (dNd rfl ⟨_, rfl⟩) (dlCons (dNd rfl ⟨_, rfl, o2⟩) (dlCons (dNd rfl ⟨_, rfl, o3⟩) (dlCons (dNd rfl ⟨_, rfl, o4⟩) (dlCons (dNd rfl ⟨_, rfl, o5⟩) dlNil))))))) (.cons (win_row r264 (dlCons (dNd rfl sS92.one) (dlCons (dNd rfl sS93.one) dlNil))) (.cons (win_own r265 (dlCons (dNd rfl sS55.one) (dlCons (dNd rfl sS56.one) dlNil))) (.cons (win_own r266 (dlCons (dNd rfl sS165.one) (dlCons (dNd rfl sS166.one) dlNil))) .nil)))))
      · exact ⟨(fun v hv h => (by simp at hv; rcases hv with rfl | rfl | rfl | rfl <;> first | (simp at h; done) | exact Apart.ne (by assumption) | exact (Apart.ne (by assumption)).symm)), ⟨(fun v hv h => (by simp at hv; rcases hv with rfl | rfl | rfl <;> first | (simp at h; done) | exact Apart.ne (by assumption) | exact (Apart.ne (by assumption)).symm)), ⟨(fun v hv h => (by simp at hv; rcases hv with rfl | rfl <;> first | (simp at h; done) | exact Apart.ne (by assumption) | exact (Apart.ne (by assumption)).symm)), ⟨(fun v hv h => (by simp at hv; rcases hv with rfl <;> first | (simp at h; done) | exact Apart.ne (by assumption) | exact (Apart.ne (by assumption)).symm)), ⟨(fun v hv => (by cases hv)), trivial⟩⟩⟩⟩⟩
      · exact (.cons (rule_call (args := [.agg [S92, S93], .agg [S230, S231]]) (dlCons (dAgg (dlCons (dNd rfl sS92.one) (dlCons (dNd rfl sS93.one) dlNil))) (dlCons (dAgg (dlCons (dNd rfl sS230.one) (dlCons (dNd rfl sS231.one) dlNil))) dlNil)) (dLit rfl) (fun H9 hk => k_eqPoseGraph H9 ms hr S92 S230 ((s271.keep hk ⟨by assumption, ⟨by assumption, trivial⟩⟩)).toL ((sS230.keep hk ⟨by assumption, ⟨by assumption, trivial⟩⟩)).toL (mx40 mxms) ks hrk S93 S231 ((s272.keep hk ⟨by assumption, ⟨by assumption, trivial⟩⟩)).toL ((sS231.keep hk ⟨by assumption, ⟨by assumption, trivial⟩⟩)).toL (mx40 mxks))) .nil)
    · exact (envEq (put_ne rfl b207) (dAgg (dlCons (dNd rfl (slOne hS)) (dlCons (dNd rfl (slOne hSk)) dlNil))) (envEq (put_ne rfl b208) (dAgg (dlCons (dNd rfl sS92.one) (dlCons (dNd rfl sS93.one) dlNil))) (envEq (put_ne rfl b209) (dPtr (l := p124) (o := 0) rfl) (envEq (put_ne rfl b210) (dPtr (l := p120) (o := 0) rfl) (envEq (put_ne rfl b211) (dPtr (l := p6) (o := 0) rfl) (envEq (put_ne rfl b212) (dNd rfl ⟨_, rfl⟩) (envEq (put_ne rfl b213) (dNd rfl ⟨_, rfl⟩) (envEq (put_ne rfl b214) (dPtr (l := p10) (o := 0) rfl) (envEq (put_ne rfl b215) (dPtr (l := p14) (o := 0) rfl) (envEq put_same (dAgg (dlCons (dNd rfl sS230.one) (dlCons (dNd rfl sS231.one) dlNil))) envNil))))))))))
    refine all1 (by kernel_rfl) ?_
    intro vs ls H275 E275 st hE
    have b276 : E275 52 = .agg [S92, S93] := env_of st.inn hE 52 (by kernel_rfl)
    have b277 : E275 53 = .int .i64 1 := env_of st.inn hE 53 (by kernel_rfl)
    have b278 : E275 11 = .int .i64 1 := env_of st.inn hE 11 (by kernel_rfl)
    have b279 : E275 9 = .ptr p120 0 := env_of st.inn hE 9 (by kernel_rfl)
    have b280 : E275 6 = .ptr p6 0 := env_of st.inn hE 6 (by kernel_rfl)
    have b281 : E275 10 = .int .i64 c := env_of st.inn hE 10 (by kernel_rfl)
    have b282 : E275 7 = .int .i64 c := env_of st.inn hE 7 (by kernel_rfl)
    have b283 : E275 2 = .ptr p10 0 := env_of st.inn hE 2 (by kernel_rfl)
    have b284 : E275 3 = .ptr p14 0 := env_of st.inn hE 3 (by kernel_rfl)
    have g285 : Grew H229 H275 := (st.kept.grew (Nat.le_of_ble_eq_true (by kernel_rfl)))
    have g286 : Grew H H275 := Grew.trans g261 g285
    have r287 := g285.at r262
    have r288 := g285.at r263
    have r289 := g285.at r264
    have r290 := g285.at r265
    have r291 := g285.at r266
    have s292 := s267.grew g285
    have s293 := s268.grew g285
    have s294 := s269.grew g285
    have s295 := s270.grew g285
    have s296 := s271.grew g285
    have s297 := s272.grew g285
    have s298 := s273.grew g285
    have s299 := s274.grew g285
    have s300 := sS230.grew g285
    have s301 := sS231.grew g285
    clear st hE vs ls
    refine res_call (d := (some 54)) (f := 41) (args := [.tmp 52, .tmp 53]) (by kernel_rfl) (R := fun z H' => z = .int .i64 (1 + 3 * (ms.length : Int) + 6 * (ks.length : Int)) ∧ Only2 S92 S93 H275 H' ∧ SlW H' 3 (mksPose 1 ms.length) S92 ∧ SlW H' 6 (mksLink (1 + 3 * (ms.length : Int)) ks.length) S93) ?_ ?_
    · show ACalls _ _ [E275 52, E275 53] _ _
      rw [b276, b277]
      exact w_markPoseGraph H275 ms hr S92 s296 mxms ks hrk S93 s297 mxks (by first | assumption | exact ApartS.symm (by assumption)) 1 (by decide) (by decide)
    rintro z H302 ⟨rfl, oH302, nH302, mH302⟩
    have g303 : Grew H H302 := Only2.own g286 fr102 fr110 oH302
    have r304 := oH302.at r287 (by assumption) (by assumption)
    have r305 := oH302.at r288 (by assumption) (by assumption)
    have r306 := oH302.at r290 (by assumption) (by assumption)
    have r307 := oH302.at r291 (by assumption) (by assumption)
    have s308 := s292.only2 oH302 (by first | assumption | exact ApartS.symm (by assumption)) (by first | assumption | exact ApartS.symm (by assumption))
    have s309 := s293.only2 oH302 (by first | assumption | exact ApartS.symm (by assumption)) (by first | assumption | exact ApartS.symm (by assumption))
    have s310 := s294.only2 oH302 (by first | assumption | exact ApartS.symm (by assumption)) (by first | assumption | exact ApartS.symm (by assumption))
    have s311 := s295.only2 oH302 (by first | assumption | exact ApartS.symm (by assumption)) (by first | assumption | exact ApartS.symm (by assumption))
    have s312 := s298.only2 oH302 (by first | assumption | exact ApartS.symm (by assumption)) (by first | assumption | exact ApartS.symm (by assumption))
    have s313 := s299.only2 oH302 (by first | assumption | exact ApartS.symm (by assumption)) (by first | assumption | exact ApartS.symm (by assumption))
    have s314 := s300.only2 oH302 (by first | assumption | exact ApartS.symm (by assumption)) (by first | assumption | exact ApartS.symm (by assumption))
    have s315 := s301.only2 oH302 (by first | assumption | exact ApartS.symm (by assumption)) (by first | assumption | exact ApartS.symm (by assumption))
    refine run_mn (φ := φ0) (pm := pmR 2 [(.call 24 [.agg [.nd 16 .one, .nd 17 .one], .agg [.nd 12 .one, .nd 13 .one]], .lit (.bool true))] 0) 20 (nk := [(.atom 0, .one), (.atom 1, .one), (.atom 2, .int .i64), (.atom 3, .int .i64), (.atom 4, .flt .f32), (.atom 5, .flt .f32), (.atom 6, .flt .f32), (.atom 7, .flt .f32), (.atom 8, .int .i64), (.atom 9, .int .i64), (.atom 10, .one), (.atom 11, .one), (.atom 12, .one), (.atom 13, .one), (.atom 14, .one), (.atom 15, .one), (.atom 16, .one), (.atom 17, .one), (.atom 18, .one), (.atom 19, .one), (.atom 20, .int .i64)]) (fs := []) (xs := [S, Sk, .int .i64 v0, .int .i64 v1, .flt .f32 v2, .flt .f32 v3, .flt .f32 v4, .flt .f32 v5, .int .i64 c, .int .i64 q1, S26, S27, S55, S56, S92, S93, S165, S166, S230, S231, .int .i64 (1 + 3 * (ms.length : Int) + 6 * (ks.length : Int))]) (ws := [⟨p10, 0, [.nd 0 .one, .nd 1 .one], false⟩, ⟨p14, 0, [.nd 2 (.int .i64), .nd 3 (.int .i64), .nd 4 (.flt .f32), .nd 5 (.flt .f32), .nd 6 (.flt .f32), .nd 7 (.flt .f32)], false⟩, ⟨p6, 0, [.nd 12 .one, .nd 13 .one], true⟩, ⟨p120, 0, [.nd 16 .one, .nd 17 .one], true⟩]) (env := [(52, .agg [.nd 14 .one, .nd 15 .one]), (53, .lit (.int .i64 1)), (11, .lit (.int .i64 1)), (9, .ptr 3 0), (6, .ptr 2 0), (10, .nd 8 (.int .i64)), (7, .nd 8 (.int .i64)), (2, .ptr 0 0), (3, .ptr 1 0), (54, .nd 20 (.int .i64))]) ?_ ?_ tb_ok ap_ok ?_
    · refine midN_in ?_ .nil _ ?_ ?_ ?_
      · exact (.cons rfl (slOne hS) (.cons rfl (slOne hSk) (.cons rfl ⟨_, rfl⟩ (.cons rfl ⟨_, rfl⟩ (.cons rfl ⟨_, rfl, o2⟩ (.cons rfl ⟨_, rfl, o3⟩ (.cons rfl ⟨_, rfl, o4⟩ (.cons rfl ⟨_, rfl, o5⟩ (.cons rfl ⟨_, rfl⟩ (.cons rfl ⟨_, rfl⟩ (.cons rfl sS26.one (.cons rfl sS27.one (.cons rfl sS55.one (.cons rfl sS56.one (.cons rfl sS92.one (.cons rfl sS93.one (.cons rfl sS165.one (.cons rfl sS166.one (.cons rfl sS230.one (.cons rfl sS231.one (.cons rfl ⟨_, rfl⟩ .nil)))))))))))))))))))))
      · exact (.cons (win_row r304 (dlCons (dNd rfl (slOne hS)) (dlCons (dNd rfl (slOne hSk)) dlNil))) (.cons (win_row r305 (dlCons (dNd rfl ⟨_, rfl⟩) (dlCons (dNd rfl ⟨_, rfl⟩) (dlCons (dNd rfl ⟨_, rfl, o2⟩) (dlCons (dNd rfl ⟨_, rfl, o3⟩) (dlCons (dNd rfl ⟨_, rfl, o4⟩) (dlCons (dNd rfl ⟨_, rfl, o5⟩) dlNil))))))) (.cons (win_own r306 (dlCons (dNd rfl sS55.one) (dlCons (dNd rfl sS56.one) dlNil))) (.cons (win_own r307 (dlCons (dNd rfl sS165.one) (dlCons (dNd rfl sS166.one) dlNil))) .nil))))
      · exact ⟨(fun v hv h => (by simp at hv; rcases hv with rfl | rfl | rfl <;> first | (simp at h; done) | exact Apart.ne (by assumption) | exact (Apart.ne (by assumption)).symm)), ⟨(fun v hv h => (by simp at hv; rcases hv with rfl | rfl <;> first | (simp at h; done) | exact Apart.ne (by assumption) | exact (Apart.ne (by assumption)).symm)), ⟨(fun v hv h => (by simp at hv; rcases hv with rfl <;> first | (simp at h; done) | exact Apart.ne (by assumption) | exact (Apart.ne (by assumption)).symm)), ⟨(fun v hv => (by cases hv)), trivial⟩⟩⟩⟩
      · exact (.cons (rule_call (args := [.agg [S165, S166], .agg [S55, S56]]) (dlCons (dAgg (dlCons (dNd rfl sS165.one) (dlCons (dNd rfl sS166.one) dlNil))) (dlCons (dAgg (dlCons (dNd rfl sS55.one) (dlCons (dNd rfl sS56.one) dlNil))) dlNil)) (dLit rfl) (fun H9 hk => k_eqPoseGraph H9 P hP S165 S55 ((s312.keep hk ⟨by assumption, ⟨by assumption, trivial⟩⟩)).toL ((s310.keep hk ⟨by assumption, ⟨by assumption, trivial⟩⟩)).toL (mx40 mxP) Q hQ S166 S56 ((s313.keep hk ⟨by assumption, ⟨by assumption, trivial⟩⟩)).toL ((s311.keep hk ⟨by assumption, ⟨by assumption, trivial⟩⟩)).toL (mx40 mxQ))) .nil)
    · exact (envEq (put_ne rfl b276) (dAgg (dlCons (dNd rfl sS92.one) (dlCons (dNd rfl sS93.one) dlNil))) (envEq (put_ne rfl b277) (dLit rfl) (envEq (put_ne rfl b278) (dLit rfl) (envEq (put_ne rfl b279) (dPtr (l := p120) (o := 0) rfl) (envEq (put_ne rfl b280) (dPtr (l := p6) (o := 0) rfl) (envEq (put_ne rfl b281) (dNd rfl ⟨_, rfl⟩) (envEq (put_ne rfl b282) (dNd rfl ⟨_, rfl⟩) (envEq (put_ne rfl b283) (dPtr (l := p10) (o := 0) rfl) (envEq (put_ne rfl b284) (dPtr (l := p14) (o := 0) rfl) (envEq put_same (dNd rfl ⟨_, rfl⟩) envNil))))))))))
    refine all2 (by kernel_rfl) ?_ ?_
    ·
      intro vs ls H316 E316 st hE
      have f317 : (1 + 3 * (ms.length : Int) + 6 * (ks.length : Int)) < 0 := of_decide_eq_true (bfact (x := decide ((1 + 3 * (ms.length : Int) + 6 * (ks.length : Int)) < 0)) st.inn 0 (by kernel_rfl))
      exact absurd f317 (by omega)
    ·
      intro vs ls H318 E318 st hE
      have f319 : ¬ ((1 + 3 * (ms.length : Int) + 6 * (ks.length : Int)) < 0) := of_decide_eq_false (bfact (x := decide ((1 + 3 * (ms.length : Int) + 6 * (ks.length : Int)) < 0)) st.inn 0 (by kernel_rfl))
      have b320 : E318 68 = .agg [S165, S166] := env_of st.inn hE 68 (by kernel_rfl)
      have b321 : E318 69 = .int .i64 1 := env_of st.inn hE 69 (by kernel_rfl)
      have b322 : E318 9 = .ptr p120 0 := env_of st.inn hE 9 (by kernel_rfl)
      have b323 : E318 12 = .int .i64 1 := env_of st.inn hE 12 (by kernel_rfl)
      have b324 : E318 2 = .ptr p10 0 := env_of st.inn hE 2 (by kernel_rfl)
      have b325 : E318 3 = .ptr p14 0 := env_of st.inn hE 3 (by kernel_rfl)
      have b326 : E318 6 = .ptr p6 0 := env_of st.inn hE 6 (by kernel_rfl)
      have b327 : E318 7 = .int .i64 c := env_of st.inn hE 7 (by kernel_rfl)
      have g328 : Grew H302 H318 := (st.kept.grew (Nat.le_of_ble_eq_true (by kernel_rfl)))
      have g329 : Grew H H318 := Grew.trans g303 g328
      have r330 := g328.at r304
      have r331 := g328.at r305
      have r332 := g328.at r306
      have r333 := g328.at r307
      have s334 := s308.grew g328
      have s335 := s309.grew g328
      have s336 := s310.grew g328
      have s337 := s311.grew g328
      have s338 := nH302.grew g328
      have s339 := mH302.grew g328
      have s340 := s312.grew g328
      have s341 := s313.grew g328
      have s342 := s314.grew g328
      have s343 := s315.grew g328
      clear st hE vs ls
      refine res_call (d := (some 70)) (f := 41) (args := [.tmp 68, .tmp 69]) (by kernel_rfl) (R := fun z H' => z = .int .i64 (1 + 3 * (P.length : Int) + 6 * (Q.length : Int)) ∧ Only2 S165 S166 H318 H' ∧ SlW H' 3 (mksPose 1 P.length) S165 ∧ SlW H' 6 (mksLink (1 + 3 * (P.length : Int)) Q.length) S166) ?_ ?_
      · show ACalls _ _ [E318 68, E318 69] _ _
        rw [b320, b321]
        exact w_markPoseGraph H318 P hP S165 s340 mxP Q hQ S166 s341 mxQ (by first | assumption | exact ApartS.symm (by assumption)) 1 (by decide) (by decide)
      rintro z H344 ⟨rfl, oH344, nH344, mH344⟩
      have g345 : Grew H H344 := Only2.own g329 fr179 fr191 oH344
      have r346 := oH344.at r330 (by assumption) (by assumption)
      have r347 := oH344.at r331 (by assumption) (by assumption)
      have r348 := oH344.at r332 (by assumption) (by assumption)
      have r349 := oH344.at r333 (by assumption) (by assumption)
      have s350 := s334.only2 oH344 (by first | assumption | exact ApartS.symm (by assumption)) (by first | assumption | exact ApartS.symm (by assumption))
      have s351 := s335.only2 oH344 (by first | assumption | exact ApartS.symm (by assumption)) (by first | assumption | exact ApartS.symm (by assumption))
      have s352 := s336.only2 oH344 (by first | assumption | exact ApartS.symm (by assumption)) (by first | assumption | exact ApartS.symm (by assumption))
      have s353 := s337.only2 oH344 (by first | assumption | exact ApartS.symm (by assumption)) (by first | assumption | exact ApartS.symm (by assumption))
      have s354 := s338.only2 oH344 (by first | assumption | exact ApartS.symm (by assumption)) (by first | assumption | exact ApartS.symm (by assumption))
      have s355 := s339.only2 oH344 (by first | assumption | exact ApartS.symm (by assumption)) (by first | assumption | exact ApartS.symm (by assumption))
      have s356 := s342.only2 oH344 (by first | assumption | exact ApartS.symm (by assumption)) (by first | assumption | exact ApartS.symm (by assumption))
      have s357 := s343.only2 oH344 (by first | assumption | exact ApartS.symm (by assumption)) (by first | assumption | exact ApartS.symm (by assumption))
      refine run_mn (φ := φ0) (pm := pmR 2 [(.call 42 [.agg [.nd 16 .one, .nd 17 .one], .lit (.int .i64 1)], .nd 21 (.int .i64))] 0) 20 (nk := [(.atom 0, .one), (.atom 1, .one), (.atom 2, .int .i64), (.atom 3, .int .i64), (.atom 4, .flt .f32), (.atom 5, .flt .f32), (.atom 6, .flt .f32), (.atom 7, .flt .f32), (.atom 8, .int .i64), (.atom 9, .int .i64), (.atom 10, .one), (.atom 11, .one), (.atom 12, .one), (.atom 13, .one), (.atom 14, .one), (.atom 15, .one), (.atom 16, .one), (.atom 17, .one), (.atom 18, .one), (.atom 19, .one), (.atom 20, .int .i64), (.atom 21, .int .i64)]) (fs := []) (xs := [S, Sk, .int .i64 v0, .int .i64 v1, .flt .f32 v2, .flt .f32 v3, .flt .f32 v4, .flt .f32 v5, .int .i64 c, .int .i64 q1, S26, S27, S55, S56, S92, S93, S165, S166, S230, S231, .int .i64 (1 + 3 * (ms.length : Int) + 6 * (ks.length : Int)), .int .i64 (1 + 3 * (P.length : Int) + 6 * (Q.length : Int))]) (ws := [⟨p10, 0, [.nd 0 .one, .nd 1 .one], false⟩, ⟨p14, 0, [.nd 2 (.int .i64), .nd 3 (.int .i64), .nd 4 (.flt .f32), .nd 5 (.flt .f32), .nd 6 (.flt .f32), .nd 7 (.flt .f32)], false⟩, ⟨p6, 0, [.nd 12 .one, .nd 13 .one], true⟩, ⟨p120, 0, [.nd 16 .one, .nd 17 .one], true⟩]) (env := [(68, .agg [.nd 16 .one, .nd 17 .one]), (69, .lit (.int .i64 1)), (9, .ptr 3 0), (12, .lit (.int .i64 1)), (2, .ptr 0 0), (3, .ptr 1 0), (6, .ptr 2 0), (7, .nd 8 (.int .i64)), (70, .nd 21 (.int .i64))]) ?_ ?_ tb_ok ap_ok ?_
      · refine midN_in ?_ .nil _ ?_ ?_ ?_
        · exact (.cons rfl (slOne hS) (.cons rfl (slOne hSk) (.cons rfl ⟨_, rfl⟩ (.cons rfl ⟨_, rfl⟩ (.cons rfl ⟨_, rfl, o2⟩ (.cons rfl ⟨_, rfl, o3⟩ (.cons rfl ⟨_, rfl, o4⟩ (.cons rfl ⟨_, rfl, o5⟩ (.cons rfl ⟨_, rfl⟩ (.cons rfl ⟨_, rfl⟩ (.cons rfl sS26.one (.cons rfl sS27.one (.cons rfl sS55.one (.cons rfl sS56.one (.cons rfl sS92.one (.cons rfl sS93.one (.cons rfl sS165.one (.cons rfl sS166.one (.cons rfl sS230.one (.cons rfl sS231.one (.cons rfl ⟨_, rfl⟩ (.cons rfl ⟨_, rfl⟩ .nil))))))))))))))))))))))
        · exact (.cons (win_row r346 (dlCons (dNd rfl (slOne hS)) (dlCons (dNd rfl (slOne hSk)) dlNil))) (.cons (win_row r347 (dlCons (dNd rfl ⟨_, rfl⟩) (dlCons (dNd rfl ⟨_, rfl⟩) (dlCons (dNd rfl ⟨_, rfl, o2⟩) (dlCons (dNd rfl ⟨_, rfl, o3⟩) (dlCons (dNd rfl ⟨_, rfl, o4⟩) (dlCons (dNd rfl ⟨_, rfl, o5⟩) dlNil))))))) (.cons (win_own r348 (dlCons (dNd rfl sS55.one) (dlCons (dNd rfl sS56.one) dlNil))) (.cons (win_own r349 (dlCons (dNd rfl sS165.one) (dlCons (dNd rfl sS166.one) dlNil))) .nil))))
        · exact ⟨(fun v hv h => (by simp at hv; rcases hv with rfl | rfl | rfl <;> first | (simp at h; done) | exact Apart.ne (by assumption) | exact (Apart.ne (by assumption)).symm)), ⟨(fun v hv h => (by simp at hv; rcases hv with rfl | rfl <;> first | (simp at h; done) | exact Apart.ne (by assumption) | exact (Apart.ne (by assumption)).symm)), ⟨(fun v hv h => (by simp at hv; rcases hv with rfl <;> first | (simp at h; done) | exact Apart.ne (by assumption) | exact (Apart.ne (by assumption)).symm)), ⟨(fun v hv => (by cases hv)), trivial⟩⟩⟩⟩
        · exact (.cons (rule_call (args := [.agg [S165, S166], .int .i64 1]) (dlCons (dAgg (dlCons (dNd rfl sS165.one) (dlCons (dNd rfl sS166.one) dlNil))) (dlCons (dLit rfl) dlNil)) (dNd rfl ⟨_, rfl⟩) (fun H9 hk => w_heldPoseGraph H9 1 P.length Q.length S165 S166 ((nH344.keep hk ⟨by assumption, ⟨by assumption, trivial⟩⟩)).toL ((mH344.keep hk ⟨by assumption, ⟨by assumption, trivial⟩⟩)).toL (by decide) (by decide) mxP mxQ)) .nil)
      · exact (envEq (put_ne rfl b320) (dAgg (dlCons (dNd rfl sS165.one) (dlCons (dNd rfl sS166.one) dlNil))) (envEq (put_ne rfl b321) (dLit rfl) (envEq (put_ne rfl b322) (dPtr (l := p120) (o := 0) rfl) (envEq (put_ne rfl b323) (dLit rfl) (envEq (put_ne rfl b324) (dPtr (l := p10) (o := 0) rfl) (envEq (put_ne rfl b325) (dPtr (l := p14) (o := 0) rfl) (envEq (put_ne rfl b326) (dPtr (l := p6) (o := 0) rfl) (envEq (put_ne rfl b327) (dNd rfl ⟨_, rfl⟩) (envEq put_same (dNd rfl ⟨_, rfl⟩) envNil)))))))))
      refine all2 (by kernel_rfl) ?_ ?_
      ·
        intro vs ls H358 E358 st hE
        have f359 : (1 + 3 * (P.length : Int) + 6 * (Q.length : Int)) < 0 := of_decide_eq_true (bfact (x := decide ((1 + 3 * (P.length : Int) + 6 * (Q.length : Int)) < 0)) st.inn 0 (by kernel_rfl))
        exact absurd f359 (by omega)
      ·
        intro vs ls H360 E360 st hE
        have f361 : ¬ ((1 + 3 * (P.length : Int) + 6 * (Q.length : Int)) < 0) := of_decide_eq_false (bfact (x := decide ((1 + 3 * (P.length : Int) + 6 * (Q.length : Int)) < 0)) st.inn 0 (by kernel_rfl))
        obtain ⟨p362, e363, r364, n365⟩ := ptr_of st.inn hE 14 4 (by kernel_rfl) (ds := [.nilslice, .nilslice]) (by kernel_rfl)
        have op362 : H.next ≤ p362 := Nat.le_trans g345.next (n365 (Nat.le_of_ble_eq_true rfl))
        have ne366 : Apart p362 p10 := ⟨Nat.ne_of_gt (Nat.lt_of_lt_of_le (H344.lt_of_get r346) (n365 (Nat.le_of_ble_eq_true rfl)))⟩
        have ne367 : Apart p362 p14 := ⟨Nat.ne_of_gt (Nat.lt_of_lt_of_le (H344.lt_of_get r347) (n365 (Nat.le_of_ble_eq_true rfl)))⟩
        have ne368 : Apart p362 p6 := ⟨Nat.ne_of_gt (Nat.lt_of_lt_of_le (H344.lt_of_get r348) (n365 (Nat.le_of_ble_eq_true rfl)))⟩
        have ne369 : Apart p362 p120 := ⟨Nat.ne_of_gt (Nat.lt_of_lt_of_le (H344.lt_of_get r349) (n365 (Nat.le_of_ble_eq_true rfl)))⟩
        have ne370 : ApartL (S26) p362 := s350.apart_new (n365 (Nat.le_of_ble_eq_true rfl))
        have ne371 : ApartL (S27) p362 := s351.apart_new (n365 (Nat.le_of_ble_eq_true rfl))
        have ne372 : ApartL (S55) p362 := s352.apart_new (n365 (Nat.le_of_ble_eq_true rfl))
        have ne373 : ApartL (S56) p362 := s353.apart_new (n365 (Nat.le_of_ble_eq_true rfl))
        have ne374 : ApartL (S92) p362 := s354.apart_new (n365 (Nat.le_of_ble_eq_true rfl))
        have ne375 : ApartL (S93) p362 := s355.apart_new (n365 (Nat.le_of_ble_eq_true rfl))
        have ne376 : ApartL (S165) p362 := nH344.apart_new (n365 (Nat.le_of_ble_eq_true rfl))
        have ne377 : ApartL (S166) p362 := mH344.apart_new (n365 (Nat.le_of_ble_eq_true rfl))
        have ne378 : ApartL (S230) p362 := s356.apart_new (n365 (Nat.le_of_ble_eq_true rfl))
        have ne379 : ApartL (S231) p362 := s357.apart_new (n365 (Nat.le_of_ble_eq_true rfl))
        have b380 : E360 80 = .agg [S, Sk] := env_of st.inn hE 80 (by kernel_rfl)
        have b381 : E360 82 = .agg [.int .i64 v0, .int .i64 v1, .flt .f32 v2, .flt .f32 v3, .flt .f32 v4, .flt .f32 v5] := env_of st.inn hE 82 (by kernel_rfl)
        have b382 : E360 6 = .ptr p6 0 := env_of st.inn hE 6 (by kernel_rfl)
        have b383 : E360 7 = .int .i64 c := env_of st.inn hE 7 (by kernel_rfl)
        have b384 : E360 9 = .ptr p120 0 := env_of st.inn hE 9 (by kernel_rfl)
        have b385 : E360 13 = .int .i64 (1 + 3 * (P.length : Int) + 6 * (Q.length : Int)) := env_of st.inn hE 13 (by kernel_rfl)
        have b386 : E360 12 = .int .i64 (1 + 3 * (P.length : Int) + 6 * (Q.length : Int)) := env_of st.inn hE 12 (by kernel_rfl)
        have g387 : Grew H344 H360 := (st.kept.grew (Nat.le_of_ble_eq_true (by kernel_rfl)))
        have g388 : Grew H H360 := Grew.trans g345 g387
        have r389 := g387.at r346
        have r390 := g387.at r347
        have r391 := g387.at r348
        have r392 := g387.at r349
        have s393 := s350.grew g387
        have s394 := s351.grew g387
        have s395 := s352.grew g387
        have s396 := s353.grew g387
        have s397 := s354.grew g387
        have s398 := s355.grew g387
        have s399 := nH344.grew g387
        have s400 := mH344.grew g387
        have s401 := s356.grew g387
        have s402 := s357.grew g387
        clear st hE vs ls
        refine res_kid (free := false) (d := (some 81)) (f := 22) (args := [.tmp 80]) (by kernel_rfl) (R := fun z H' => Grew H360 H' ∧ ∃ S0' S1', z = .agg [S0', S1'] ∧ SlW H' 3 ms S0' ∧ FreshS H360.next S0' ∧ SlW H' 6 ks S1' ∧ FreshS H360.next S1' ∧ ApartS S0' S1') ?_ ?_
        · show ACalls _ _ [E360 80] _ _
          rw [b380]
          exact k_toPoseGraph H360 ms hr S (hS.grew g388) mxms ks hrk Sk (hSk.grew g388) mxks
        rintro z H403 ⟨gH403, S404, S405, rfl, sS404, fS404, sS405, fS405, ap406⟩
        refine ⟨gH403, ?_⟩
        have ne407 : ApartL (S404) p362 := fS404.apartL (H360.lt_of_get r364)
        have ne408 : ApartL (S404) p6 := fS404.apartL (H360.lt_of_get r391)
        have ne409 : ApartL (S404) p120 := fS404.apartL (H360.lt_of_get r392)
        have ne410 : ApartS (S404) (S26) := fS404.apartS s393.lt
        have ne411 : ApartS (S404) (S27) := fS404.apartS s394.lt
        have ne412 : ApartS (S404) (S55) := fS404.apartS s395.lt
        have ne413 : ApartS (S404) (S56) := fS404.apartS s396.lt
        have ne414 : ApartS (S404) (S92) := fS404.apartS s397.lt
        have ne415 : ApartS (S404) (S93) := fS404.apartS s398.lt
        have ne416 : ApartS (S404) (S165) := fS404.apartS s399.lt
        have ne417 : ApartS (S404) (S166) := fS404.apartS s400.lt
        have ne418 : ApartS (S404) (S230) := fS404.apartS s401.lt
        have ne419 : ApartS (S404) (S231) := fS404.apartS s402.lt
        have fr420 : FreshS H.next (S404) := fS404.mono g388.next
        have ne421 : ApartL (S405) p362 := fS405.apartL (H360.lt_of_get r364)
        have ne422 : ApartL (S405) p6 := fS405.apartL (H360.lt_of_get r391)
        have ne423 : ApartL (S405) p120 := fS405.apartL (H360.lt_of_get r392)
        have ne424 : ApartS (S405) (S26) := fS405.apartS s393.lt
        have ne425 : ApartS (S405) (S27) := fS405.apartS s394.lt
        have ne426 : ApartS (S405) (S55) := fS405.apartS s395.lt
        have ne427 : ApartS (S405) (S56) := fS405.apartS s396.lt
        have ne428 : ApartS (S405) (S92) := fS405.apartS s397.lt
        have ne429 : ApartS (S405) (S93) := fS405.apartS s398.lt
        have ne430 : ApartS (S405) (S165) := fS405.apartS s399.lt
        have ne431 : ApartS (S405) (S166) := fS405.apartS s400.lt
        have ne432 : ApartS (S405) (S230) := fS405.apartS s401.lt
        have ne433 : ApartS (S405) (S231) := fS405.apartS s402.lt
        have fr434 : FreshS H.next (S405) := fS405.mono g388.next
        have g435 : Grew H H403 := Grew.trans g388 gH403
        have r436 := gH403.at r364
        have r437 := gH403.at r391
        have r438 := gH403.at r392
        have s439 := s393.grew gH403
        have s440 := s394.grew gH403
        have s441 := s395.grew gH403
        have s442 := s396.grew gH403
        have s443 := s397.grew gH403
        have s444 := s398.grew gH403
        have s445 := s399.grew gH403
        have s446 := s400.grew gH403
        have s447 := s401.grew gH403
        have s448 := s402.grew gH403
        refine run_mn (φ := φ0) (pm := pmR 1 [(.call 39 [.agg [.nd 2 (.int .i64), .nd 3 (.int .i64), .nd 4 (.flt .f32), .nd 5 (.flt .f32), .nd 6 (.flt .f32), .nd 7 (.flt .f32)]], .agg [.nd 2 (.int .i64), .nd 3 (.int .i64), .nd 4 (.flt .f32), .nd 5 (.flt .f32), .nd 6 (.flt .f32), .nd 7 (.flt .f32)])] 0) 20 (nk := [(.atom 0, .one), (.atom 1, .one), (.atom 2, .int .i64), (.atom 3, .int .i64), (.atom 4, .flt .f32), (.atom 5, .flt .f32), (.atom 6, .flt .f32), (.atom 7, .flt .f32), (.atom 8, .int .i64), (.atom 9, .int .i64), (.atom 10, .one), (.atom 11, .one), (.atom 12, .one), (.atom 13, .one), (.atom 14, .one), (.atom 15, .one), (.atom 16, .one), (.atom 17, .one), (.atom 18, .one), (.atom 19, .one), (.atom 20, .int .i64), (.atom 21, .int .i64), (.atom 22, .one), (.atom 23, .one)]) (fs := []) (xs := [S, Sk, .int .i64 v0, .int .i64 v1, .flt .f32 v2, .flt .f32 v3, .flt .f32 v4, .flt .f32 v5, .int .i64 c, .int .i64 q1, S26, S27, S55, S56, S92, S93, S165, S166, S230, S231, .int .i64 (1 + 3 * (ms.length : Int) + 6 * (ks.length : Int)), .int .i64 (1 + 3 * (P.length : Int) + 6 * (Q.length : Int)), S404, S405]) (ws := [⟨p362, 0, [.lit .nilslice, .lit .nilslice], false⟩, ⟨p6, 0, [.nd 12 .one, .nd 13 .one], true⟩, ⟨p120, 0, [.nd 16 .one, .nd 17 .one], true⟩]) (env := [(80, .agg [.nd 0 .one, .nd 1 .one]), (82, .agg [.nd 2 (.int .i64), .nd 3 (.int .i64), .nd 4 (.flt .f32), .nd 5 (.flt .f32), .nd 6 (.flt .f32), .nd 7 (.flt .f32)]), (14, .ptr 0 0), (6, .ptr 1 0), (7, .nd 8 (.int .i64)), (9, .ptr 2 0), (13, .nd 21 (.int .i64)), (12, .nd 21 (.int .i64)), (81, .agg [.nd 22 .one, .nd 23 .one])]) ?_ ?_ tb_ok ap_ok ?_
        · refine midN_in ?_ .nil _ ?_ ?_ ?_
          · exact (.cons rfl (slOne hS) (.cons rfl (slOne hSk) (.cons rfl ⟨_, rfl⟩ (.cons rfl ⟨_, rfl⟩ (.cons rfl ⟨_, rfl, o2⟩ (.cons rfl ⟨_, rfl, o3⟩ (.cons rfl ⟨_, rfl, o4⟩ (.cons rfl ⟨_, rfl, o5⟩ (.cons rfl ⟨_, rfl⟩ (.cons rfl ⟨_, rfl⟩ (.cons rfl sS26.one (.cons rfl sS27.one (.cons rfl sS55.one (.cons rfl sS56.one (.cons rfl sS92.one (.cons rfl sS93.one (.cons rfl sS165.one (.cons rfl sS166.one (.cons rfl sS230.one (.cons rfl sS231.one (.cons rfl ⟨_, rfl⟩ (.cons rfl ⟨_, rfl⟩ (.cons rfl sS404.one (.cons rfl sS405.one .nil))))))))))))))))))))))))
          · exact (.cons (win_row r436 (dlCons (dLit rfl) (dlCons (dLit rfl) dlNil))) (.cons (win_own r437 (dlCons (dNd rfl sS55.one) (dlCons (dNd rfl sS56.one) dlNil))) (.cons (win_own r438 (dlCons (dNd rfl sS165.one) (dlCons (dNd rfl sS166.one) dlNil))) .nil)))
          · exact ⟨(fun v hv h => (by simp at hv; rcases hv with rfl | rfl <;> first | (simp at h; done) | exact Apart.ne (by assumption) | exact (Apart.ne (by assumption)).symm)), ⟨(fun v hv h => (by simp at hv; rcases hv with rfl <;> first | (simp at h; done) | exact Apart.ne (by assumption) | exact (Apart.ne (by assumption)).symm)), ⟨(fun v hv => (by cases hv)), trivial⟩⟩⟩
          · exact (.cons (rule_call (args := [.agg [.int .i64 v0, .int .i64 v1, .flt .f32 v2, .flt .f32 v3, .flt .f32 v4, .flt .f32 v5]]) (dlCons (dAgg (dlCons (dNd rfl ⟨_, rfl⟩) (dlCons (dNd rfl ⟨_, rfl⟩) (dlCons (dNd rfl ⟨_, rfl, o2⟩) (dlCons (dNd rfl ⟨_, rfl, o3⟩) (dlCons (dNd rfl ⟨_, rfl, o4⟩) (dlCons (dNd rfl ⟨_, rfl, o5⟩) dlNil))))))) dlNil) (dAgg (dlCons (dNd rfl ⟨_, rfl⟩) (dlCons (dNd rfl ⟨_, rfl⟩) (dlCons (dNd rfl ⟨_, rfl, o2⟩) (dlCons (dNd rfl ⟨_, rfl, o3⟩) (dlCons (dNd rfl ⟨_, rfl, o4⟩) (dlCons (dNd rfl ⟨_, rfl, o5⟩) dlNil))))))) (fun H9 hk => k_toLink v0 v1 v2 v3 v4 v5 o2 o3 o4 o5 H9)) .nil)
        · exact (envEq (put_ne rfl b380) (dAgg (dlCons (dNd rfl (slOne hS)) (dlCons (dNd rfl (slOne hSk)) dlNil))) (envEq (put_ne rfl b381) (dAgg (dlCons (dNd rfl ⟨_, rfl⟩) (dlCons (dNd rfl ⟨_, rfl⟩) (dlCons (dNd rfl ⟨_, rfl, o2⟩) (dlCons (dNd rfl ⟨_, rfl, o3⟩) (dlCons (dNd rfl ⟨_, rfl, o4⟩) (dlCons (dNd rfl ⟨_, rfl, o5⟩) dlNil))))))) (envEq (put_ne rfl e363) (dPtr (l := p362) (o := 0) rfl) (envEq (put_ne rfl b382) (dPtr (l := p6) (o := 0) rfl) (envEq (put_ne rfl b383) (dNd rfl ⟨_, rfl⟩) (envEq (put_ne rfl b384) (dPtr (l := p120) (o := 0) rfl) (envEq (put_ne rfl b385) (dNd rfl ⟨_, rfl⟩) (envEq (put_ne rfl b386) (dNd rfl ⟨_, rfl⟩) (envEq put_same (dAgg (dlCons (dNd rfl sS404.one) (dlCons (dNd rfl sS405.one) dlNil))) envNil)))))))))
        refine all1 (by kernel_rfl) ?_
        intro vs ls H449 E449 st hE
        have b450 : E449 81 = .agg [S404, S405] := env_of st.inn hE 81 (by kernel_rfl)
        have b451 : E449 83 = .agg [.int .i64 v0, .int .i64 v1, .flt .f32 v2, .flt .f32 v3, .flt .f32 v4, .flt .f32 v5] := env_of st.inn hE 83 (by kernel_rfl)
        have b452 : E449 14 = .ptr p362 0 := env_of st.inn hE 14 (by kernel_rfl)
        have b453 : E449 6 = .ptr p6 0 := env_of st.inn hE 6 (by kernel_rfl)
        have b454 : E449 7 = .int .i64 c := env_of st.inn hE 7 (by kernel_rfl)
        have b455 : E449 9 = .ptr p120 0 := env_of st.inn hE 9 (by kernel_rfl)
        have b456 : E449 13 = .int .i64 (1 + 3 * (P.length : Int) + 6 * (Q.length : Int)) := env_of st.inn hE 13 (by kernel_rfl)
        have b457 : E449 12 = .int .i64 (1 + 3 * (P.length : Int) + 6 * (Q.length : Int)) := env_of st.inn hE 12 (by kernel_rfl)
        have g458 : Grew H403 H449 := (st.kept.grew (Nat.le_of_ble_eq_true (by kernel_rfl)))
        have g459 : Grew H H449 := Grew.trans g435 g458
        have r460 := g458.at r436
        have r461 := g458.at r437
        have r462 := g458.at r438
        have s463 := s439.grew g458
        have s464 := s440.grew g458
        have s465 := s441.grew g458
        have s466 := s442.grew g458
        have s467 := s443.grew g458
        have s468 := s444.grew g458
        have s469 := s445.grew g458
        have s470 := s446.grew g458
        have s471 := s447.grew g458
        have s472 := s448.grew g458
        have s473 := sS404.grew g458
        have s474 := sS405.grew g458
        clear st hE vs ls
        refine res_kid (free := false) (d := (some 84)) (f := 40) (args := [.tmp 81, .tmp 83]) (by kernel_rfl) (R := fun z H' => Grew H449 H' ∧ ∃ S' Sk', z = .tuple [.agg [S', Sk'], .int .i64 c] ∧ SlW H' 3 P S' ∧ FreshS H449.next S' ∧ SlW H' 6 Q Sk' ∧ FreshS H449.next Sk' ∧ ApartS S' Sk') ?_ ?_
        · show ACalls _ _ [E449 81, E449 83] _ _
          rw [b450, b451]
          exact (by have h := k_impl_AddLink H449 ms hr S404 s473.toL mxms ks hrk S405 s474.toL mxks v0 v1 v2 v3 v4 v5 o2 o3 o4 o5; rw [hadd] at h; exact h)
        rintro z H475 ⟨gH475, S476, S477, rfl, sS476, fS476, sS477, fS477, ap478⟩
        refine ⟨gH475, ?_⟩
        have ne479 : ApartL (S476) p362 := fS476.apartL (H449.lt_of_get r460)
        have ne480 : ApartL (S476) p6 := fS476.apartL (H449.lt_of_get r461)
        have ne481 : ApartL (S476) p120 := fS476.apartL (H449.lt_of_get r462)
        have ne482 : ApartS (S476) (S26) := fS476.apartS s463.lt
        have ne483 : ApartS (S476) (S27) := fS476.apartS s464.lt
        have ne484 : ApartS (S476) (S55) := fS476.apartS s465.lt
        have ne485 : ApartS (S476) (S56) := fS476.apartS s466.lt
        have ne486 : ApartS (S476) (S92) := fS476.apartS s467.lt
        have ne487 : ApartS (S476) (S93) := fS476.apartS s468.lt
        have ne488 : ApartS (S476) (S165) := fS476.apartS s469.lt
        have ne489 : ApartS (S476) (S166) := fS476.apartS s470.lt
        have ne490 : ApartS (S476) (S230) := fS476.apartS s471.lt
        have ne491 : ApartS (S476) (S231) := fS476.apartS s472.lt
        have ne492 : ApartS (S476) (S404) := fS476.apartS s473.lt
        have ne493 : ApartS (S476) (S405) := fS476.apartS s474.lt
        have fr494 : FreshS H.next (S476) := fS476.mono g459.next
        have ne495 : ApartL (S477) p362 := fS477.apartL (H449.lt_of_get r460)
        have ne496 : ApartL (S477) p6 := fS477.apartL (H449.lt_of_get r461)
        have ne497 : ApartL (S477) p120 := fS477.apartL (H449.lt_of_get r462)
        have ne498 : ApartS (S477) (S26) := fS477.apartS s463.lt
        have ne499 : ApartS (S477) (S27) := fS477.apartS s464.lt
        have ne500 : ApartS (S477) (S55) := fS477.apartS s465.lt
        have ne501 : ApartS (S477) (S56) := fS477.apartS s466.lt
        have ne502 : ApartS (S477) (S92) := fS477.apartS s467.lt
        have ne503 : ApartS (S477) (S93) := fS477.apartS s468.lt
        have ne504 : ApartS (S477) (S165) := fS477.apartS s469.lt
        have ne505 : ApartS (S477) (S166) := fS477.apartS s470.lt
        have ne506 : ApartS (S477) (S230) := fS477.apartS s471.lt
        have ne507 : ApartS (S477) (S231) := fS477.apartS s472.lt
        have ne508 : ApartS (S477) (S404) := fS477.apartS s473.lt
        have ne509 : ApartS (S477) (S405) := fS477.apartS s474.lt
        have fr510 : FreshS H.next (S477) := fS477.mono g459.next
        have g511 : Grew H H475 := Grew.trans g459 gH475
        have r512 := gH475.at r460
        have r513 := gH475.at r461
        have r514 := gH475.at r462
        have s515 := s463.grew gH475
        have s516 := s464.grew gH475
        have s517 := s465.grew gH475
        have s518 := s466.grew gH475
        have s519 := s467.grew gH475
        have s520 := s468.grew gH475
        have s521 := s469.grew gH475
        have s522 := s470.grew gH475
        have s523 := s471.grew gH475
        have s524 := s472.grew gH475
        have s525 := s473.grew gH475
        have s526 := s474.grew gH475
        refine run_mn (φ := φ0) (pm := pmR 0 [(.call 24 [.agg [.nd 24 .one, .nd 25 .one], .agg [.nd 12 .one, .nd 13 .one]], .lit (.bool true)), (.call 42 [.agg [.nd 16 .one, .nd 17 .one], .lit (.int .i64 1)], .nd 21 (.int .i64))] 0) 20 (nk := [(.atom 0, .one), (.atom 1, .one), (.atom 2, .int .i64), (.atom 3, .int .i64), (.atom 4, .flt .f32), (.atom 5, .flt .f32), (.atom 6, .flt .f32), (.atom 7, .flt .f32), (.atom 8, .int .i64), (.atom 9, .int .i64), (.atom 10, .one), (.atom 11, .one), (.atom 12, .one), (.atom 13, .one), (.atom 14, .one), (.atom 15, .one), (.atom 16, .one), (.atom 17, .one), (.atom 18, .one), (.atom 19, .one), (.atom 20, .int .i64), (.atom 21, .int .i64), (.atom 22, .one), (.atom 23, .one), (.atom 24, .one), (.atom 25, .one)]) (fs := []) (xs := [S, Sk, .int .i64 v0, .int .i64 v1, .flt .f32 v2, .flt .f32 v3, .flt .f32 v4, .flt .f32 v5, .int .i64 c, .int .i64 q1, S26, S27, S55, S56, S92, S93, S165, S166, S230, S231, .int .i64 (1 + 3 * (ms.length : Int) + 6 * (ks.length : Int)), .int .i64 (1 + 3 * (P.length : Int) + 6 * (Q.length : Int)), S404, S405, S476, S477]) (ws := [⟨p6, 0, [.nd 12 .one, .nd 13 .one], true⟩, ⟨p120, 0, [.nd 16 .one, .nd 17 .one], true⟩, ⟨p362, 0, [.lit .nilslice, .lit .nilslice], true⟩]) (env := [(81, .agg [.nd 22 .one, .nd 23 .one]), (83, .agg [.nd 2 (.int .i64), .nd 3 (.int .i64), .nd 4 (.flt .f32), .nd 5 (.flt .f32), .nd 6 (.flt .f32), .nd 7 (.flt .f32)]), (14, .ptr 2 0), (6, .ptr 0 0), (7, .nd 8 (.int .i64)), (9, .ptr 1 0), (13, .nd 21 (.int .i64)), (12, .nd 21 (.int .i64)), (84, .tup [.agg [.nd 24 .one, .nd 25 .one], .nd 8 (.int .i64)])]) ?_ ?_ tb_ok ap_ok ?_
        · refine midN_in ?_ .nil _ ?_ ?_ ?_
          · exact (.cons rfl (slOne hS) (.cons rfl (slOne hSk) (.cons rfl ⟨_, rfl⟩ (.cons rfl ⟨_, rfl⟩ (.cons rfl ⟨_, rfl, o2⟩ (.cons rfl ⟨_, rfl, o3⟩ (.cons rfl ⟨_, rfl, o4⟩ (.cons rfl ⟨_, rfl, o5⟩ (.cons rfl ⟨_, rfl⟩ (.cons rfl ⟨_, rfl⟩ (.cons rfl sS26.one (.cons rfl sS27.one (.cons rfl sS55.one (.cons rfl sS56.one (.cons rfl sS92.one (.cons rfl sS93.one (.cons rfl sS165.one (.cons rfl sS166.one (.cons rfl sS230.one (.cons rfl sS231.one (.cons rfl ⟨_, rfl⟩ (.cons rfl ⟨_, rfl⟩ (.cons rfl sS404.one (.cons rfl sS405.one (.cons rfl sS476.one (.cons rfl sS477.one .nil))))))))))))))))))))))))))
          · exact (.cons (win_own r513 (dlCons (dNd rfl sS55.one) (dlCons (dNd rfl sS56.one) dlNil))) (.cons (win_own r514 (dlCons (dNd rfl sS165.one) (dlCons (dNd rfl sS166.one) dlNil))) (.cons (win_own r512 (dlCons (dLit rfl) (dlCons (dLit rfl) dlNil))) .nil)))
          · exact ⟨(fun v hv h => (by simp at hv; rcases hv with rfl | rfl <;> first | (simp at h; done) | exact Apart.ne (by assumption) | exact (Apart.ne (by assumption)).symm)), ⟨(fun v hv h => (by simp at hv; rcases hv with rfl <;> first | (simp at h; done) | exact Apart.ne (by assumption) | exact (Apart.ne (by assumption)).symm)), ⟨(fun v hv => (by cases hv)), trivial⟩⟩⟩
          · exact (.cons (rule_call (args := [.agg [S476, S477], .agg [S55, S56]]) (dlCons (dAgg (dlCons (dNd rfl sS476.one) (dlCons (dNd rfl sS477.one) dlNil))) (dlCons (dAgg (dlCons (dNd rfl sS55.one) (dlCons (dNd rfl sS56.one) dlNil))) dlNil)) (dLit rfl) (fun H9 hk => k_eqPoseGraph H9 P hP S476 S55 ((sS476.keep hk ⟨by assumption, ⟨by assumption, ⟨by assumption, trivial⟩⟩⟩)).toL ((s517.keep hk ⟨by assumption, ⟨by assumption, ⟨by assumption, trivial⟩⟩⟩)).toL (mx40 mxP) Q hQ S477 S56 ((sS477.keep hk ⟨by assumption, ⟨by assumption, ⟨by assumption, trivial⟩⟩⟩)).toL ((s518.keep hk ⟨by assumption, ⟨by assumption, ⟨by assumption, trivial⟩⟩⟩)).toL (mx40 mxQ))) (.cons (rule_call (args := [.agg [S165, S166], .int .i64 1]) (dlCons (dAgg (dlCons (dNd rfl sS165.one) (dlCons (dNd rfl sS166.one) dlNil))) (dlCons (dLit rfl) dlNil)) (dNd rfl ⟨_, rfl⟩) (fun H9 hk => w_heldPoseGraph H9 1 P.length Q.length S165 S166 ((s521.keep hk ⟨by assumption, ⟨by assumption, ⟨by assumption, trivial⟩⟩⟩)).toL ((s522.keep hk ⟨by assumption, ⟨by assumption, ⟨by assumption, trivial⟩⟩⟩)).toL (by decide) (by decide) mxP mxQ)) .nil))
        · exact (envEq (put_ne rfl b450) (dAgg (dlCons (dNd rfl sS404.one) (dlCons (dNd rfl sS405.one) dlNil))) (envEq (put_ne rfl b451) (dAgg (dlCons (dNd rfl ⟨_, rfl⟩) (dlCons (dNd rfl ⟨_, rfl⟩) (dlCons (dNd rfl ⟨_, rfl, o2⟩) (dlCons (dNd rfl ⟨_, rfl, o3⟩) (dlCons (dNd rfl ⟨_, rfl, o4⟩) (dlCons (dNd rfl ⟨_, rfl, o5⟩) dlNil))))))) (envEq (put_ne rfl b452) (dPtr (l := p362) (o := 0) rfl) (envEq (put_ne rfl b453) (dPtr (l := p6) (o := 0) rfl) (envEq (put_ne rfl b454) (dNd rfl ⟨_, rfl⟩) (envEq (put_ne rfl b455) (dPtr (l := p120) (o := 0) rfl) (envEq (put_ne rfl b456) (dNd rfl ⟨_, rfl⟩) (envEq (put_ne rfl b457) (dNd rfl ⟨_, rfl⟩) (envEq put_same (dTup' (dlCons (dAgg (dlCons (dNd rfl sS476.one) (dlCons (dNd rfl sS477.one) dlNil))) (dlCons (dNd rfl ⟨_, rfl⟩) dlNil))) envNil)))))))))
        refine all2 (by kernel_rfl) ?_ ?_
        ·
          intro vs ls H527 E527 st hE
          have f528 : (1 + 3 * (P.length : Int) + 6 * (Q.length : Int)) < 0 := of_decide_eq_true (bfact (x := decide ((1 + 3 * (P.length : Int) + 6 * (Q.length : Int)) < 0)) st.inn 0 (by kernel_rfl))
          exact absurd f528 (by omega)
        ·
          intro vs ls H529 E529 st hE
          have f530 : ¬ ((1 + 3 * (P.length : Int) + 6 * (Q.length : Int)) < 0) := of_decide_eq_false (bfact (x := decide ((1 + 3 * (P.length : Int) + 6 * (Q.length : Int)) < 0)) st.inn 0 (by kernel_rfl))
          exact res_ex (by kernel_rfl) (end_same st.inn hE (.inr rfl) (a := .bool true) (by kernel_rfl) (Nat.le_trans g511.next st.kept.1) rfl)
end Go.Proofs.Ytllgmcgdkhnilaa
