/- The law of TakeLoop, walked. -/
import Derived.Test.YtcmoeocemmeofaaTTake
import Derived.Test.YtcmoeocemmeofaaTGraphM
set_option linter.unusedVariables false
set_option linter.unusedSimpArgs false
namespace Go.Proofs.Ytcmoeocemmeofaa
open Go.Ab
set_option maxRecDepth 100000
set_option maxHeartbeats 1000000
attribute [local irreducible] Res
theorem addK_lens {ms ks : List (List AV)} {x : List AV} (h1 : ms.length ≤ 1048576) : (addK ms ks x).1.length ≤ 1048576 ∧ (addK ms ks x).2.1.length ≤ 1048576 := by
  unfold addK
  split
  · exact ⟨by decide, by decide⟩
  · rename_i hg
    split
    · exact ⟨by decide, by decide⟩
    · split
      · exact ⟨by decide, by decide⟩
      · have hg : okG ms ks = true := by simpa using hg
        simp only [okG, Bool.and_eq_true, decide_eq_true_eq] at hg
        refine ⟨h1, ?_⟩
        show (ks ++ [x]).length ≤ _
        rw [List.length_append]; show ks.length + 1 ≤ _; omega
theorem takeF_ok {ms ks P Q : List (List AV)} {x : List AV} {bd : Option Nat} {c : Int} (h : takeF ms ks x bd = (P, Q, c)) (hr : Recs KP ms) (hrk : Recs KL ks) (hx : KdsL KL x) (h1 : ms.length ≤ 1048576) : Recs KP P ∧ Recs KL Q ∧ P.length ≤ 1048576 ∧ Q.length ≤ 1048576 := by
  have ha := addK_recs hr hrk hx
  have hl := addK_lens (ks := ks) (x := x) h1
  unfold takeF at h
  split at h
  · cases h; exact ⟨.nil, .nil, by decide, by decide⟩
  · split at h
    · cases h; exact ⟨.nil, .nil, by decide, by decide⟩
    · split at h
      · split at h
        · rw [h] at ha hl; exact ⟨ha.1, ha.2, hl.1, hl.2⟩
        · cases h; exact ⟨.nil, .nil, by decide, by decide⟩
      · cases h; exact ⟨.nil, .nil, by decide, by decide⟩
theorem linkArg {H : AHeap} {a : AV} (h : FitArg H (true, [.int .i64, .int .i64, .flt .f32, .flt .f32, .flt .f32, .flt .f32]) a) : ∃ (v0 v1 : Int) (v2 v3 v4 v5 : Option Nat) , a = .agg [.int .i64 v0, .int .i64 v1, .flt .f32 v2, .flt .f32 v3, .flt .f32 v4, .flt .f32 v5] ∧ fOk .f32 v2 ∧ fOk .f32 v3 ∧ fOk .f32 v4 ∧ fOk .f32 v5 := by
  obtain ⟨cs, rfl, hl, hc⟩ := h
  match cs, hl with
  | [c0, c1, c2, c3, c4, c5], _ =>
    have h0 := hc 0 _ _ rfl rfl
    have h1 := hc 1 _ _ rfl rfl
    have h2 := hc 2 _ _ rfl rfl
    have h3 := hc 3 _ _ rfl rfl
    have h4 := hc 4 _ _ rfl rfl
    have h5 := hc 5 _ _ rfl rfl
    cases h0; cases h1
    cases h2 with | flt h2 => cases h3 with | flt h3 => cases h4 with | flt h4 => cases h5 with | flt h5 =>
    exact ⟨_, _, _, _, _, _, rfl, h2, h3, h4, h5⟩
theorem k_toLink (v0 v1 : Int) (v2 v3 v4 v5 : Option Nat) (o2 : fOk .f32 v2) (o3 : fOk .f32 v3) (o4 : fOk .f32 v4) (o5 : fOk .f32 v5) (H : AHeap) : APure Try.prog 41 [.agg [.int .i64 v0, .int .i64 v1, .flt .f32 v2, .flt .f32 v3, .flt .f32 v4, .flt .f32 v5]] H (.agg [.int .i64 v0, .int .i64 v1, .flt .f32 v2, .flt .f32 v3, .flt .f32 v4, .flt .f32 v5]) := by
  refine res_start h_laws_toLink (by simp) ?_
  refine run_mn (φ := φ0) (pm := pmR 0 [] 10) 20 (nk := [(.atom 0, .int .i64), (.atom 1, .int .i64), (.atom 2, .flt .f32), (.atom 3, .flt .f32), (.atom 4, .flt .f32), (.atom 5, .flt .f32)]) (fs := []) (xs := [.int .i64 v0, .int .i64 v1, .flt .f32 v2, .flt .f32 v3, .flt .f32 v4, .flt .f32 v5]) (ws := []) (env := [(0, .agg [.nd 0 (.int .i64), .nd 1 (.int .i64), .nd 2 (.flt .f32), .nd 3 (.flt .f32), .nd 4 (.flt .f32), .nd 5 (.flt .f32)])]) ?_ ?_ tb_ok ap_ok ?_
  · refine midN_in ?_ .nil _ ?_ ?_ ?_
    · exact (.cons rfl ⟨_, rfl⟩ (.cons rfl ⟨_, rfl⟩ (.cons rfl ⟨_, rfl, o2⟩ (.cons rfl ⟨_, rfl, o3⟩ (.cons rfl ⟨_, rfl, o4⟩ (.cons rfl ⟨_, rfl, o5⟩ .nil))))))
    · exact .nil
    · exact sepOk_ro rfl
    · exact .nil
  · exact (envEq rfl (dAgg (dlCons (dNd rfl ⟨_, rfl⟩) (dlCons (dNd rfl ⟨_, rfl⟩) (dlCons (dNd rfl ⟨_, rfl, o2⟩) (dlCons (dNd rfl ⟨_, rfl, o3⟩) (dlCons (dNd rfl ⟨_, rfl, o4⟩) (dlCons (dNd rfl ⟨_, rfl, o5⟩) dlNil))))))) envNil)
  refine all1 (by kernel_rfl) ?_
  intro vs ls H1 E1 st hE
  refine res_ex (by kernel_rfl) (end_flat st.inn hE (.inr rfl) (a := .agg [.int .i64 v0, .int .i64 v1, .flt .f32 v2, .flt .f32 v3, .flt .f32 v4, .flt .f32 v5]) (by kernel_rfl) (Grew.trans (Grew.refl _) (st.kept.grew (Nat.le_of_ble_eq_true (by kernel_rfl)))) rfl ⟨?_, rfl⟩)
  rfl
theorem lawExactTakeLoop (H : AHeap) (vs : List AV) (h : FitArgs H [(true, [.sl [.flt .f32, .flt .f32, .flt .f32], .sl [.int .i64, .int .i64, .flt .f32, .flt .f32, .flt .f32, .flt .f32]]), (true, [.int .i64, .int .i64, .flt .f32, .flt .f32, .flt .f32, .flt .f32]), (false, [.flt .f32])] vs) : ACalls Try.prog 10 vs H fun r _ => r = .bool true := by
  match vs, h with
  | [a, b, d], h =>
  obtain ⟨ms, S, ks, Sk, rfl, hr, hS, hmx, hrk, hSk, hmxk⟩ := graphArg h.1
  obtain ⟨v0, v1, v2, v3, v4, v5, rfl, o2, o3, o4, o5⟩ := linkArg h.2.1
  obtain ⟨sc, ec, fc⟩ := h.2.2.1
  cases ec
  cases fc
  rename_i bd hbd
  clear h
  obtain ⟨P, Q, c, hadd⟩ : ∃ P Q c, takeF ms ks [.int .i64 v0, .int .i64 v1, .flt .f32 v2, .flt .f32 v3, .flt .f32 v4, .flt .f32 v5] bd = (P, Q, c) := ⟨_, _, _, rfl⟩
  refine res_start h_laws_FnExactTakeLoop (by simp) ?_
  obtain ⟨q1, kq1, hq1⟩ : ∃ r : Int, (∀ H9, Grew H H9 → APure Try.prog 13 [.agg [S, Sk], .int .i64 1048576] H9 (.int .i64 r)) ∧ (r = -1 ∨ (0 ≤ r ∧ r = 1048576 - (ms.length : Int) - (ks.length : Int))) := ⟨_, fun H9 hk => k_szPoseGraph H9 ms S (hS.grew (Grew.trans (Grew.refl _) hk)) hmx ks Sk (hSk.grew (Grew.trans (Grew.refl _) hk)) hmxk 1048576 (by omega) (by omega), by split <;> (try split) <;> omega⟩
  refine run_mn (φ := φ0) (pm := pmR 0 [(.call 13 [.agg [.nd 0 .one, .nd 1 .one], .lit (.int .i64 1048576)], .nd 10 (.int .i64))] 0) 20 (nk := [(.atom 0, .one), (.atom 1, .one), (.atom 2, .int .i64), (.atom 3, .int .i64), (.atom 4, .flt .f32), (.atom 5, .flt .f32), (.atom 6, .flt .f32), (.atom 7, .flt .f32), (.atom 8, .flt .f32), (.atom 9, .int .i64), (.atom 10, .int .i64)]) (fs := []) (xs := [S, Sk, .int .i64 v0, .int .i64 v1, .flt .f32 v2, .flt .f32 v3, .flt .f32 v4, .flt .f32 v5, .flt .f32 bd, .int .i64 c, .int .i64 q1]) (ws := []) (env := [(0, .agg [.nd 0 .one, .nd 1 .one]), (1, .agg [.nd 2 (.int .i64), .nd 3 (.int .i64), .nd 4 (.flt .f32), .nd 5 (.flt .f32), .nd 6 (.flt .f32), .nd 7 (.flt .f32)]), (2, .nd 8 (.flt .f32))]) ?_ ?_ tb_ok ap_ok ?_
  · refine midN_in ?_ .nil _ ?_ ?_ ?_
    · exact (.cons rfl (slOne hS) (.cons rfl (slOne hSk) (.cons rfl ⟨_, rfl⟩ (.cons rfl ⟨_, rfl⟩ (.cons rfl ⟨_, rfl, o2⟩ (.cons rfl ⟨_, rfl, o3⟩ (.cons rfl ⟨_, rfl, o4⟩ (.cons rfl ⟨_, rfl, o5⟩ (.cons rfl ⟨_, rfl, hbd⟩ (.cons rfl ⟨_, rfl⟩ (.cons rfl ⟨_, rfl⟩ .nil)))))))))))
    · exact .nil
    · exact sepOk_ro rfl
    · exact (.cons (rule_call (args := [.agg [S, Sk], .int .i64 1048576]) (dlCons (dAgg (dlCons (dNd rfl (slOne hS)) (dlCons (dNd rfl (slOne hSk)) dlNil))) (dlCons (dLit rfl) dlNil)) (dNd rfl ⟨_, rfl⟩) (fun H9 hk => kq1 H9 (hk.grew (Nat.le_refl _)))) .nil)
  · exact (envEq rfl (dAgg (dlCons (dNd rfl (slOne hS)) (dlCons (dNd rfl (slOne hSk)) dlNil))) (envEq rfl (dAgg (dlCons (dNd rfl ⟨_, rfl⟩) (dlCons (dNd rfl ⟨_, rfl⟩) (dlCons (dNd rfl ⟨_, rfl, o2⟩) (dlCons (dNd rfl ⟨_, rfl, o3⟩) (dlCons (dNd rfl ⟨_, rfl, o4⟩) (dlCons (dNd rfl ⟨_, rfl, o5⟩) dlNil))))))) (envEq rfl (dNd rfl ⟨_, rfl, hbd⟩) envNil)))
  refine all2 (by kernel_rfl) ?_ ?_
  ·
    intro vs ls H2 E2 st hE
    have f3 : q1 < 0 := of_decide_eq_true (bfact (x := decide (q1 < 0)) st.inn 0 (by kernel_rfl))
    exact res_ex (by kernel_rfl) (end_same st.inn hE (.inr rfl) (a := .bool true) (by kernel_rfl) (Nat.le_trans (Nat.le_refl _) st.kept.1) rfl)
  ·
    intro vs ls H4 E4 st hE
    have f5 : ¬ (q1 < 0) := of_decide_eq_false (bfact (x := decide (q1 < 0)) st.inn 0 (by kernel_rfl))
    have mxms : ms.length ≤ 1048576 := by omega
    have mxks : ks.length ≤ 1048576 := by omega
    obtain ⟨hP, hQ, mxP, mxQ⟩ := takeF_ok hadd hr hrk (.cons ⟨_, rfl⟩ (.cons ⟨_, rfl⟩ (.cons ⟨_, rfl, o2⟩ (.cons ⟨_, rfl, o3⟩ (.cons ⟨_, rfl, o4⟩ (.cons ⟨_, rfl, o5⟩ .nil)))))) mxms
    obtain ⟨p6, e7, r8, n9⟩ := ptr_of st.inn hE 8 2 (by kernel_rfl) (ds := [.nilslice, .nilslice]) (by kernel_rfl)
    have op6 : H.next ≤ p6 := Nat.le_trans (Nat.le_refl _) (n9 (Nat.le_of_ble_eq_true rfl))
    obtain ⟨p10, e11, r12, n13⟩ := ptr_of st.inn hE 3 0 (by kernel_rfl) (ds := [S, Sk]) (by kernel_rfl)
    have op10 : H.next ≤ p10 := Nat.le_trans (Nat.le_refl _) (n13 (Nat.le_of_ble_eq_true rfl))
    obtain ⟨p14, e15, r16, n17⟩ := ptr_of st.inn hE 4 1 (by kernel_rfl) (ds := [.int .i64 v0, .int .i64 v1, .flt .f32 v2, .flt .f32 v3, .flt .f32 v4, .flt .f32 v5]) (by kernel_rfl)
    have op14 : H.next ≤ p14 := Nat.le_trans (Nat.le_refl _) (n17 (Nat.le_of_ble_eq_true rfl))
    have ne18 : Apart p6 p10 := ⟨ptr_ne st.inn hE 8 2 3 0 (by kernel_rfl) (by kernel_rfl) (cs := [.lit .nilslice, .lit .nilslice]) (by kernel_rfl) (by decide) e7 e11⟩
    have ne19 : Apart p6 p14 := ⟨ptr_ne st.inn hE 8 2 4 1 (by kernel_rfl) (by kernel_rfl) (cs := [.lit .nilslice, .lit .nilslice]) (by kernel_rfl) (by decide) e7 e15⟩
    have ne20 : Apart p10 p14 := ⟨ptr_ne st.inn hE 3 0 4 1 (by kernel_rfl) (by kernel_rfl) (cs := [.nd 0 .one, .nd 1 .one]) (by kernel_rfl) (by decide) e11 e15⟩
    have b21 : E4 24 = .agg [S, Sk] := env_of st.inn hE 24 (by kernel_rfl)
    have b22 : E4 26 = .agg [.int .i64 v0, .int .i64 v1, .flt .f32 v2, .flt .f32 v3, .flt .f32 v4, .flt .f32 v5] := env_of st.inn hE 26 (by kernel_rfl)
    have b23 : E4 28 = .flt .f32 bd := env_of st.inn hE 28 (by kernel_rfl)
    have b24 : E4 2 = .flt .f32 bd := env_of st.inn hE 2 (by kernel_rfl)
    have g25 : Grew H H4 := (st.kept.grew (Nat.le_of_ble_eq_true (by kernel_rfl)))
    have g26 : Grew H H4 := Grew.trans (Grew.refl _) g25
    clear st hE vs ls
    refine res_kid (free := false) (d := (some 25)) (f := 15) (args := [.tmp 24]) (by kernel_rfl) (R := fun z H' => Grew H4 H' ∧ ∃ S0' S1', z = .agg [S0', S1'] ∧ SlW H' 3 ms S0' ∧ FreshS H4.next S0' ∧ SlW H' 6 ks S1' ∧ FreshS H4.next S1' ∧ ApartS S0' S1') ?_ ?_
    · show ACalls _ _ [E4 24] _ _
      rw [b21]
      exact k_toPoseGraph H4 ms hr S (hS.grew g26) mxms ks hrk Sk (hSk.grew g26) mxks
    rintro z H27 ⟨gH27, S28, S29, rfl, sS28, fS28, sS29, fS29, ap30⟩
    refine ⟨gH27, ?_⟩
    have ne31 : ApartL (S28) p6 := fS28.apartL (H4.lt_of_get r8)
    have ne32 : ApartL (S28) p10 := fS28.apartL (H4.lt_of_get r12)
    have ne33 : ApartL (S28) p14 := fS28.apartL (H4.lt_of_get r16)
    have fr34 : FreshS H.next (S28) := fS28.mono g26.next
    have ne35 : ApartL (S29) p6 := fS29.apartL (H4.lt_of_get r8)
    have ne36 : ApartL (S29) p10 := fS29.apartL (H4.lt_of_get r12)
    have ne37 : ApartL (S29) p14 := fS29.apartL (H4.lt_of_get r16)
    have fr38 : FreshS H.next (S29) := fS29.mono g26.next
    have g39 : Grew H H27 := Grew.trans g26 gH27
    have r40 := gH27.at r8
    have r41 := gH27.at r12
    have r42 := gH27.at r16
    refine run_mn (φ := φ0) (pm := pmR 3 [(.call 41 [.agg [.nd 2 (.int .i64), .nd 3 (.int .i64), .nd 4 (.flt .f32), .nd 5 (.flt .f32), .nd 6 (.flt .f32), .nd 7 (.flt .f32)]], .agg [.nd 2 (.int .i64), .nd 3 (.int .i64), .nd 4 (.flt .f32), .nd 5 (.flt .f32), .nd 6 (.flt .f32), .nd 7 (.flt .f32)])] 0) 20 (nk := [(.atom 0, .one), (.atom 1, .one), (.atom 2, .int .i64), (.atom 3, .int .i64), (.atom 4, .flt .f32), (.atom 5, .flt .f32), (.atom 6, .flt .f32), (.atom 7, .flt .f32), (.atom 8, .flt .f32), (.atom 9, .int .i64), (.atom 10, .int .i64), (.atom 11, .one), (.atom 12, .one)]) (fs := []) (xs := [S, Sk, .int .i64 v0, .int .i64 v1, .flt .f32 v2, .flt .f32 v3, .flt .f32 v4, .flt .f32 v5, .flt .f32 bd, .int .i64 c, .int .i64 q1, S28, S29]) (ws := [⟨p6, 0, [.lit .nilslice, .lit .nilslice], false⟩, ⟨p10, 0, [.nd 0 .one, .nd 1 .one], false⟩, ⟨p14, 0, [.nd 2 (.int .i64), .nd 3 (.int .i64), .nd 4 (.flt .f32), .nd 5 (.flt .f32), .nd 6 (.flt .f32), .nd 7 (.flt .f32)], false⟩]) (env := [(24, .agg [.nd 0 .one, .nd 1 .one]), (26, .agg [.nd 2 (.int .i64), .nd 3 (.int .i64), .nd 4 (.flt .f32), .nd 5 (.flt .f32), .nd 6 (.flt .f32), .nd 7 (.flt .f32)]), (28, .nd 8 (.flt .f32)), (8, .ptr 0 0), (3, .ptr 1 0), (4, .ptr 2 0), (2, .nd 8 (.flt .f32)), (25, .agg [.nd 11 .one, .nd 12 .one])]) ?_ ?_ tb_ok ap_ok ?_
    · refine midN_in ?_ .nil _ ?_ ?_ ?_
      · exact (.cons rfl (slOne hS) (.cons rfl (slOne hSk) (.cons rfl ⟨_, rfl⟩ (.cons rfl ⟨_, rfl⟩ (.cons rfl ⟨_, rfl, o2⟩ (.cons rfl ⟨_, rfl, o3⟩ (.cons rfl ⟨_, rfl, o4⟩ (.cons rfl ⟨_, rfl, o5⟩ (.cons rfl ⟨_, rfl, hbd⟩ (.cons rfl ⟨_, rfl⟩ (.cons rfl ⟨_, rfl⟩ (.cons rfl sS28.one (.cons rfl sS29.one .nil)))))))))))))
      · exact (.cons (win_row r40 (dlCons (dLit rfl) (dlCons (dLit rfl) dlNil))) (.cons (win_row r41 (dlCons (dNd rfl (slOne hS)) (dlCons (dNd rfl (slOne hSk)) dlNil))) (.cons (win_row r42 (dlCons (dNd rfl ⟨_, rfl⟩) (dlCons (dNd rfl ⟨_, rfl⟩) (dlCons (dNd rfl ⟨_, rfl, o2⟩) (dlCons (dNd rfl ⟨_, rfl, o3⟩) (dlCons (dNd rfl ⟨_, rfl, o4⟩) (dlCons (dNd rfl ⟨_, rfl, o5⟩) dlNil))))))) .nil)))
      · exact sepOk_ro rfl
      · exact (.cons (rule_call (args := [.agg [.int .i64 v0, .int .i64 v1, .flt .f32 v2, .flt .f32 v3, .flt .f32 v4, .flt .f32 v5]]) (dlCons (dAgg (dlCons (dNd rfl ⟨_, rfl⟩) (dlCons (dNd rfl ⟨_, rfl⟩) (dlCons (dNd rfl ⟨_, rfl, o2⟩) (dlCons (dNd rfl ⟨_, rfl, o3⟩) (dlCons (dNd rfl ⟨_, rfl, o4⟩) (dlCons (dNd rfl ⟨_, rfl, o5⟩) dlNil))))))) dlNil) (dAgg (dlCons (dNd rfl ⟨_, rfl⟩) (dlCons (dNd rfl ⟨_, rfl⟩) (dlCons (dNd rfl ⟨_, rfl, o2⟩) (dlCons (dNd rfl ⟨_, rfl, o3⟩) (dlCons (dNd rfl ⟨_, rfl, o4⟩) (dlCons (dNd rfl ⟨_, rfl, o5⟩) dlNil))))))) (fun H9 hk => k_toLink v0 v1 v2 v3 v4 v5 o2 o3 o4 o5 H9)) .nil)
    · exact (envEq (put_ne rfl b21) (dAgg (dlCons (dNd rfl (slOne hS)) (dlCons (dNd rfl (slOne hSk)) dlNil))) (envEq (put_ne rfl b22) (dAgg (dlCons (dNd rfl ⟨_, rfl⟩) (dlCons (dNd rfl ⟨_, rfl⟩) (dlCons (dNd rfl ⟨_, rfl, o2⟩) (dlCons (dNd rfl ⟨_, rfl, o3⟩) (dlCons (dNd rfl ⟨_, rfl, o4⟩) (dlCons (dNd rfl ⟨_, rfl, o5⟩) dlNil))))))) (envEq (put_ne rfl b23) (dNd rfl ⟨_, rfl, hbd⟩) (envEq (put_ne rfl e7) (dPtr (l := p6) (o := 0) rfl) (envEq (put_ne rfl e11) (dPtr (l := p10) (o := 0) rfl) (envEq (put_ne rfl e15) (dPtr (l := p14) (o := 0) rfl) (envEq (put_ne rfl b24) (dNd rfl ⟨_, rfl, hbd⟩) (envEq put_same (dAgg (dlCons (dNd rfl sS28.one) (dlCons (dNd rfl sS29.one) dlNil))) envNil))))))))
    refine all1 (by kernel_rfl) ?_
    intro vs ls H43 E43 st hE
    have b44 : E43 25 = .agg [S28, S29] := env_of st.inn hE 25 (by kernel_rfl)
    have b45 : E43 27 = .agg [.int .i64 v0, .int .i64 v1, .flt .f32 v2, .flt .f32 v3, .flt .f32 v4, .flt .f32 v5] := env_of st.inn hE 27 (by kernel_rfl)
    have b46 : E43 28 = .flt .f32 bd := env_of st.inn hE 28 (by kernel_rfl)
    have b47 : E43 8 = .ptr p6 0 := env_of st.inn hE 8 (by kernel_rfl)
    have b48 : E43 3 = .ptr p10 0 := env_of st.inn hE 3 (by kernel_rfl)
    have b49 : E43 4 = .ptr p14 0 := env_of st.inn hE 4 (by kernel_rfl)
    have b50 : E43 2 = .flt .f32 bd := env_of st.inn hE 2 (by kernel_rfl)
    have g51 : Grew H27 H43 := (st.kept.grew (Nat.le_of_ble_eq_true (by kernel_rfl)))
    have g52 : Grew H H43 := Grew.trans g39 g51
    have r53 := g51.at r40
    have r54 := g51.at r41
    have r55 := g51.at r42
    have s56 := sS28.grew g51
    have s57 := sS29.grew g51
    clear st hE vs ls
    refine res_kid (free := false) (d := (some 29)) (f := 40) (args := [.tmp 25, .tmp 27, .tmp 28]) (by kernel_rfl) (R := fun z H' => Grew H43 H' ∧ ∃ S' Sk', z = .tuple [.agg [S', Sk'], .int .i64 c] ∧ SlW H' 3 P S' ∧ FreshS H43.next S' ∧ SlW H' 6 Q Sk' ∧ FreshS H43.next Sk' ∧ ApartS S' Sk') ?_ ?_
    · show ACalls _ _ [E43 25, E43 27, E43 28] _ _
      rw [b44, b45, b46]
      exact (by have h := k_spec_TakeLoop H43 ms hr S28 s56.toL mxms ks hrk S29 s57.toL mxks v0 v1 v2 v3 v4 v5 o2 o3 o4 o5 bd hbd; rw [hadd] at h; exact h)
    rintro z H58 ⟨gH58, S59, S60, rfl, sS59, fS59, sS60, fS60, ap61⟩
    refine ⟨gH58, ?_⟩
    have ne62 : ApartL (S59) p6 := fS59.apartL (H43.lt_of_get r53)
    have ne63 : ApartL (S59) p10 := fS59.apartL (H43.lt_of_get r54)
    have ne64 : ApartL (S59) p14 := fS59.apartL (H43.lt_of_get r55)
    have ne65 : ApartS (S59) (S28) := fS59.apartS s56.lt
    have ne66 : ApartS (S59) (S29) := fS59.apartS s57.lt
    have fr67 : FreshS H.next (S59) := fS59.mono g52.next
    have ne68 : ApartL (S60) p6 := fS60.apartL (H43.lt_of_get r53)
    have ne69 : ApartL (S60) p10 := fS60.apartL (H43.lt_of_get r54)
    have ne70 : ApartL (S60) p14 := fS60.apartL (H43.lt_of_get r55)
    have ne71 : ApartS (S60) (S28) := fS60.apartS s56.lt
    have ne72 : ApartS (S60) (S29) := fS60.apartS s57.lt
    have fr73 : FreshS H.next (S60) := fS60.mono g52.next
    have g74 : Grew H H58 := Grew.trans g52 gH58
    have r75 := gH58.at r53
    have r76 := gH58.at r54
    have r77 := gH58.at r55
    have s78 := s56.grew gH58
    have s79 := s57.grew gH58
    refine run_mn (φ := φ0) (pm := pmR 2 [] 0) 20 (nk := [(.atom 0, .one), (.atom 1, .one), (.atom 2, .int .i64), (.atom 3, .int .i64), (.atom 4, .flt .f32), (.atom 5, .flt .f32), (.atom 6, .flt .f32), (.atom 7, .flt .f32), (.atom 8, .flt .f32), (.atom 9, .int .i64), (.atom 10, .int .i64), (.atom 11, .one), (.atom 12, .one), (.atom 13, .one), (.atom 14, .one)]) (fs := []) (xs := [S, Sk, .int .i64 v0, .int .i64 v1, .flt .f32 v2, .flt .f32 v3, .flt .f32 v4, .flt .f32 v5, .flt .f32 bd, .int .i64 c, .int .i64 q1, S28, S29, S59, S60]) (ws := [⟨p10, 0, [.nd 0 .one, .nd 1 .one], false⟩, ⟨p14, 0, [.nd 2 (.int .i64), .nd 3 (.int .i64), .nd 4 (.flt .f32), .nd 5 (.flt .f32), .nd 6 (.flt .f32), .nd 7 (.flt .f32)], false⟩, ⟨p6, 0, [.lit .nilslice, .lit .nilslice], true⟩]) (env := [(25, .agg [.nd 11 .one, .nd 12 .one]), (27, .agg [.nd 2 (.int .i64), .nd 3 (.int .i64), .nd 4 (.flt .f32), .nd 5 (.flt .f32), .nd 6 (.flt .f32), .nd 7 (.flt .f32)]), (28, .nd 8 (.flt .f32)), (8, .ptr 2 0), (3, .ptr 0 0), (4, .ptr 1 0), (2, .nd 8 (.flt .f32)), (29, .tup [.agg [.nd 13 .one, .nd 14 .one], .nd 9 (.int .i64)])]) ?_ ?_ tb_ok ap_ok ?_
    · refine midN_in ?_ .nil _ ?_ ?_ ?_
      · exact (.cons rfl (slOne hS) (.cons rfl (slOne hSk) (.cons rfl ⟨_, rfl⟩ (.cons rfl ⟨_, rfl⟩ (.cons rfl ⟨_, rfl, o2⟩ (.cons rfl ⟨_, rfl, o3⟩ (.cons rfl ⟨_, rfl, o4⟩ (.cons rfl ⟨_, rfl, o5⟩ (.cons rfl ⟨_, rfl, hbd⟩ (.cons rfl ⟨_, rfl⟩ (.cons rfl ⟨_, rfl⟩ (.cons rfl sS28.one (.cons rfl sS29.one (.cons rfl sS59.one (.cons rfl sS60.one .nil)))))))))))))))
      · exact (.cons (win_row r76 (dlCons (dNd rfl (slOne hS)) (dlCons (dNd rfl (slOne hSk)) dlNil))) (.cons (win_row r77 (dlCons (dNd rfl ⟨_, rfl⟩) (dlCons (dNd rfl ⟨_, rfl⟩) (dlCons (dNd rfl ⟨_, rfl, o2⟩) (dlCons (dNd rfl ⟨_, rfl, o3⟩) (dlCons (dNd rfl ⟨_, rfl, o4⟩) (dlCons (dNd rfl ⟨_, rfl, o5⟩) dlNil))))))) (.cons (win_own r75 (dlCons (dLit rfl) (dlCons (dLit rfl) dlNil))) .nil)))
      · exact ⟨(fun v hv h => (by simp at hv; rcases hv with rfl | rfl <;> first | (simp at h; done) | exact Apart.ne (by assumption) | exact (Apart.ne (by assumption)).symm)), ⟨(fun v hv h => (by simp at hv; rcases hv with rfl <;> first | (simp at h; done) | exact Apart.ne (by assumption) | exact (Apart.ne (by assumption)).symm)), ⟨(fun v hv => (by cases hv)), trivial⟩⟩⟩
      · exact .nil
    · exact (envEq (put_ne rfl b44) (dAgg (dlCons (dNd rfl sS28.one) (dlCons (dNd rfl sS29.one) dlNil))) (envEq (put_ne rfl b45) (dAgg (dlCons (dNd rfl ⟨_, rfl⟩) (dlCons (dNd rfl ⟨_, rfl⟩) (dlCons (dNd rfl ⟨_, rfl, o2⟩) (dlCons (dNd rfl ⟨_, rfl, o3⟩) (dlCons (dNd rfl ⟨_, rfl, o4⟩) (dlCons (dNd rfl ⟨_, rfl, o5⟩) dlNil))))))) (envEq (put_ne rfl b46) (dNd rfl ⟨_, rfl, hbd⟩) (envEq (put_ne rfl b47) (dPtr (l := p6) (o := 0) rfl) (envEq (put_ne rfl b48) (dPtr (l := p10) (o := 0) rfl) (envEq (put_ne rfl b49) (dPtr (l := p14) (o := 0) rfl) (envEq (put_ne rfl b50) (dNd rfl ⟨_, rfl, hbd⟩) (envEq put_same (dTup' (dlCons (dAgg (dlCons (dNd rfl sS59.one) (dlCons (dNd rfl sS60.one) dlNil))) (dlCons (dNd rfl ⟨_, rfl⟩) dlNil))) envNil))))))))
    refine all1 (by kernel_rfl) ?_
    intro vs ls H80 E80 st hE
    have r81 : H80.get p6 = some (.row [S59, S60] true) := row_whole st.inn 2 (l := p6) (b := 0) rfl (by kernel_rfl)
    have b82 : E80 32 = .agg [S, Sk] := env_of st.inn hE 32 (by kernel_rfl)
    have b83 : E80 4 = .ptr p14 0 := env_of st.inn hE 4 (by kernel_rfl)
    have b84 : E80 2 = .flt .f32 bd := env_of st.inn hE 2 (by kernel_rfl)
    have b85 : E80 8 = .ptr p6 0 := env_of st.inn hE 8 (by kernel_rfl)
    have b86 : E80 9 = .int .i64 c := env_of st.inn hE 9 (by kernel_rfl)
    have b87 : E80 3 = .ptr p10 0 := env_of st.inn hE 3 (by kernel_rfl)
    have g89 : Grew H H80 := grew_own g74 st.inn.kept ⟨op6, trivial⟩
    have r90 := kept_at st.inn.kept r76 ⟨by first | assumption | exact Apart.symm (by assumption), trivial⟩
    have r91 := kept_at st.inn.kept r77 ⟨by first | assumption | exact Apart.symm (by assumption), trivial⟩
    have s92 := s78.keep st.inn.kept ⟨by assumption, trivial⟩
    have s93 := s79.keep st.inn.kept ⟨by assumption, trivial⟩
    have s94 := sS59.keep st.inn.kept ⟨by assumption, trivial⟩
    have s95 := sS60.keep st.inn.kept ⟨by assumption, trivial⟩
    clear st hE vs ls
    refine res_call (d := (some 33)) (f := 15) (args := [.tmp 32]) (by kernel_rfl) (R := fun z H' => Grew H80 H' ∧ ∃ S0' S1', z = .agg [S0', S1'] ∧ SlW H' 3 ms S0' ∧ FreshS H80.next S0' ∧ SlW H' 6 ks S1' ∧ FreshS H80.next S1' ∧ ApartS S0' S1') ?_ ?_
    · show ACalls _ _ [E80 32] _ _
      rw [b82]
      exact k_toPoseGraph H80 ms hr S (hS.grew g89) mxms ks hrk Sk (hSk.grew g89) mxks
    rintro z H96 ⟨gH96, S97, S98, rfl, sS97, fS97, sS98, fS98, ap99⟩
    have ne100 : ApartL (S97) p10 := fS97.apartL (H80.lt_of_get r90)
    have ne101 : ApartL (S97) p14 := fS97.apartL (H80.lt_of_get r91)
    have ne102 : ApartL (S97) p6 := fS97.apartL (H80.lt_of_get r81)
    have ne103 : ApartS (S97) (S28) := fS97.apartS s92.lt
    have ne104 : ApartS (S97) (S29) := fS97.apartS s93.lt
    have ne105 : ApartS (S97) (S59) := fS97.apartS s94.lt
    have ne106 : ApartS (S97) (S60) := fS97.apartS s95.lt
    have fr107 : FreshS H.next (S97) := fS97.mono g89.next
    have ne108 : ApartL (S98) p10 := fS98.apartL (H80.lt_of_get r90)
    have ne109 : ApartL (S98) p14 := fS98.apartL (H80.lt_of_get r91)
    have ne110 : ApartL (S98) p6 := fS98.apartL (H80.lt_of_get r81)
    have ne111 : ApartS (S98) (S28) := fS98.apartS s92.lt
    have ne112 : ApartS (S98) (S29) := fS98.apartS s93.lt
    have ne113 : ApartS (S98) (S59) := fS98.apartS s94.lt
    have ne114 : ApartS (S98) (S60) := fS98.apartS s95.lt
    have fr115 : FreshS H.next (S98) := fS98.mono g89.next
    have g116 : Grew H H96 := Grew.trans g89 gH96
    have r117 := gH96.at r90
    have r118 := gH96.at r91
    have r119 := gH96.at r81
    have s120 := s92.grew gH96
    have s121 := s93.grew gH96
    have s122 := s94.grew gH96
    have s123 := s95.grew gH96
    refine run_mn (φ := φ0) (pm := pmR 2 [(.call 41 [.agg [.nd 2 (.int .i64), .nd 3 (.int .i64), .nd 4 (.flt .f32), .nd 5 (.flt .f32), .nd 6 (.flt .f32), .nd 7 (.flt .f32)]], .agg [.nd 2 (.int .i64), .nd 3 (.int .i64), .nd 4 (.flt .f32), .nd 5 (.flt .f32), .nd 6 (.flt .f32), .nd 7 (.flt .f32)])] 0) 20 (nk := [(.atom 0, .one), (.atom 1, .one), (.atom 2, .int .i64), (.atom 3, .int .i64), (.atom 4, .flt .f32), (.atom 5, .flt .f32), (.atom 6, .flt .f32), (.atom 7, .flt .f32), (.atom 8, .flt .f32), (.atom 9, .int .i64), (.atom 10, .int .i64), (.atom 11, .one), (.atom 12, .one), (.atom 13, .one), (.atom 14, .one), (.atom 15, .one), (.atom 16, .one)]) (fs := []) (xs := [S, Sk, .int .i64 v0, .int .i64 v1, .flt .f32 v2, .flt .f32 v3, .flt .f32 v4, .flt .f32 v5, .flt .f32 bd, .int .i64 c, .int .i64 q1, S28, S29, S59, S60, S97, S98]) (ws := [⟨p10, 0, [.nd 0 .one, .nd 1 .one], false⟩, ⟨p14, 0, [.nd 2 (.int .i64), .nd 3 (.int .i64), .nd 4 (.flt .f32), .nd 5 (.flt .f32), .nd 6 (.flt .f32), .nd 7 (.flt .f32)], false⟩, ⟨p6, 0, [.nd 13 .one, .nd 14 .one], true⟩]) (env := [(32, .agg [.nd 0 .one, .nd 1 .one]), (4, .ptr 1 0), (2, .nd 8 (.flt .f32)), (8, .ptr 2 0), (9, .nd 9 (.int .i64)), (3, .ptr 0 0), (33, .agg [.nd 15 .one, .nd 16 .one])]) ?_ ?_ tb_ok ap_ok ?_
    · refine midN_in ?_ .nil _ ?_ ?_ ?_
      · exact (.cons rfl (slOne hS) (.cons rfl (slOne hSk) (.cons rfl ⟨_, rfl⟩ (.cons rfl ⟨_, rfl⟩ (.cons rfl ⟨_, rfl, o2⟩ (.cons rfl ⟨_, rfl, o3⟩ (.cons rfl ⟨_, rfl, o4⟩ (.cons rfl ⟨_, rfl, o5⟩ (.cons rfl ⟨_, rfl, hbd⟩ (.cons rfl ⟨_, rfl⟩ (.cons rfl ⟨_, rfl⟩ (.cons rfl sS28.one (.cons rfl sS29.one (.cons rfl sS59.one (.cons rfl sS60.one (.cons rfl sS97.one (.cons rfl sS98.one .nil)))))))))))))))))
      · exact (.cons (win_row r117 (dlCons (dNd rfl (slOne hS)) (dlCons (dNd rfl (slOne hSk)) dlNil))) (.cons (win_row r118 (dlCons (dNd rfl ⟨_, rfl⟩) (dlCons (dNd rfl ⟨_, rfl⟩) (dlCons (dNd rfl ⟨_, rfl, o2⟩) (dlCons (dNd rfl ⟨_, rfl, o3⟩) (dlCons (dNd rfl ⟨_, rfl, o4⟩) (dlCons (dNd rfl ⟨_, rfl, o5⟩) dlNil))))))) (.cons (win_own r119 (dlCons (dNd rfl sS59.one) (dlCons (dNd rfl sS60.one) dlNil))) .nil)))
      · exact ⟨(fun v hv h => (by simp at hv; rcases hv with rfl | rfl <;> first | (simp at h; done) | exact Apart.ne (by assumption) | exact (Apart.ne (by assumption)).symm)), ⟨(fun v hv h => (by simp at hv; rcases hv with rfl <;> first | (simp at h; done) | exact Apart.ne (by assumption) | exact (Apart.ne (by assumption)).symm)), ⟨(fun v hv => (by cases hv)), trivial⟩⟩⟩
      · exact (.cons (rule_call (args := [.agg [.int .i64 v0, .int .i64 v1, .flt .f32 v2, .flt .f32 v3, .flt .f32 v4, .flt .f32 v5]]) (dlCons (dAgg (dlCons (dNd rfl ⟨_, rfl⟩) (dlCons (dNd rfl ⟨_, rfl⟩) (dlCons (dNd rfl ⟨_, rfl, o2⟩) (dlCons (dNd rfl ⟨_, rfl, o3⟩) (dlCons (dNd rfl ⟨_, rfl, o4⟩) (dlCons (dNd rfl ⟨_, rfl, o5⟩) dlNil))))))) dlNil) (dAgg (dlCons (dNd rfl ⟨_, rfl⟩) (dlCons (dNd rfl ⟨_, rfl⟩) (dlCons (dNd rfl ⟨_, rfl, o2⟩) (dlCons (dNd rfl ⟨_, rfl, o3⟩) (dlCons (dNd rfl ⟨_, rfl, o4⟩) (dlCons (dNd rfl ⟨_, rfl, o5⟩) dlNil))))))) (fun H9 hk => k_toLink v0 v1 v2 v3 v4 v5 o2 o3 o4 o5 H9)) .nil)
    · exact (envEq (put_ne rfl b82) (dAgg (dlCons (dNd rfl (slOne hS)) (dlCons (dNd rfl (slOne hSk)) dlNil))) (envEq (put_ne rfl b83) (dPtr (l := p14) (o := 0) rfl) (envEq (put_ne rfl b84) (dNd rfl ⟨_, rfl, hbd⟩) (envEq (put_ne rfl b85) (dPtr (l := p6) (o := 0) rfl) (envEq (put_ne rfl b86) (dNd rfl ⟨_, rfl⟩) (envEq (put_ne rfl b87) (dPtr (l := p10) (o := 0) rfl) (envEq put_same (dAgg (dlCons (dNd rfl sS97.one) (dlCons (dNd rfl sS98.one) dlNil))) envNil)))))))
    refine all1 (by kernel_rfl) ?_
    intro vs ls H124 E124 st hE
    obtain ⟨p125, e126, r127, n128⟩ := ptr_of st.inn hE 11 4 (by kernel_rfl) (ds := [.nilslice, .nilslice]) (by kernel_rfl)
    have op125 : H.next ≤ p125 := Nat.le_trans g116.next (n128 (Nat.le_of_ble_eq_true rfl))
    obtain ⟨p129, e130, r131, n132⟩ := ptr_of st.inn hE 10 3 (by kernel_rfl) (ds := [S97, S98]) (by kernel_rfl)
    have op129 : H.next ≤ p129 := Nat.le_trans g116.next (n132 (Nat.le_of_ble_eq_true rfl))
    have ne133 : Apart p125 p129 := ⟨ptr_ne st.inn hE 11 4 10 3 (by kernel_rfl) (by kernel_rfl) (cs := [.lit .nilslice, .lit .nilslice]) (by kernel_rfl) (by decide) e126 e130⟩
    have ne134 : Apart p125 p10 := ⟨Nat.ne_of_gt (Nat.lt_of_lt_of_le (H96.lt_of_get r117) (n128 (Nat.le_of_ble_eq_true rfl)))⟩
    have ne135 : Apart p125 p14 := ⟨Nat.ne_of_gt (Nat.lt_of_lt_of_le (H96.lt_of_get r118) (n128 (Nat.le_of_ble_eq_true rfl)))⟩
    have ne136 : Apart p125 p6 := ⟨Nat.ne_of_gt (Nat.lt_of_lt_of_le (H96.lt_of_get r119) (n128 (Nat.le_of_ble_eq_true rfl)))⟩
    have ne137 : ApartL (S28) p125 := s120.apart_new (n128 (Nat.le_of_ble_eq_true rfl))
    have ne138 : ApartL (S29) p125 := s121.apart_new (n128 (Nat.le_of_ble_eq_true rfl))
    have ne139 : ApartL (S59) p125 := s122.apart_new (n128 (Nat.le_of_ble_eq_true rfl))
    have ne140 : ApartL (S60) p125 := s123.apart_new (n128 (Nat.le_of_ble_eq_true rfl))
    have ne141 : ApartL (S97) p125 := sS97.apart_new (n128 (Nat.le_of_ble_eq_true rfl))
    have ne142 : ApartL (S98) p125 := sS98.apart_new (n128 (Nat.le_of_ble_eq_true rfl))
    have ne143 : Apart p129 p10 := ⟨Nat.ne_of_gt (Nat.lt_of_lt_of_le (H96.lt_of_get r117) (n132 (Nat.le_of_ble_eq_true rfl)))⟩
    have ne144 : Apart p129 p14 := ⟨Nat.ne_of_gt (Nat.lt_of_lt_of_le (H96.lt_of_get r118) (n132 (Nat.le_of_ble_eq_true rfl)))⟩
    have ne145 : Apart p129 p6 := ⟨Nat.ne_of_gt (Nat.lt_of_lt_of_le (H96.lt_of_get r119) (n132 (Nat.le_of_ble_eq_true rfl)))⟩
    have ne146 : ApartL (S28) p129 := s120.apart_new (n132 (Nat.le_of_ble_eq_true rfl))
    have ne147 : ApartL (S29) p129 := s121.apart_new (n132 (Nat.le_of_ble_eq_true rfl))
    have ne148 : ApartL (S59) p129 := s122.apart_new (n132 (Nat.le_of_ble_eq_true rfl))
    have ne149 : ApartL (S60) p129 := s123.apart_new (n132 (Nat.le_of_ble_eq_true rfl))
    have ne150 : ApartL (S97) p129 := sS97.apart_new (n132 (Nat.le_of_ble_eq_true rfl))
    have ne151 : ApartL (S98) p129 := sS98.apart_new (n132 (Nat.le_of_ble_eq_true rfl))
    have b152 : E124 35 = .agg [S97, S98] := env_of st.inn hE 35 (by kernel_rfl)
    have b153 : E124 37 = .agg [.int .i64 v0, .int .i64 v1, .flt .f32 v2, .flt .f32 v3, .flt .f32 v4, .flt .f32 v5] := env_of st.inn hE 37 (by kernel_rfl)
    have b154 : E124 38 = .flt .f32 bd := env_of st.inn hE 38 (by kernel_rfl)
    have b155 : E124 8 = .ptr p6 0 := env_of st.inn hE 8 (by kernel_rfl)
    have b156 : E124 9 = .int .i64 c := env_of st.inn hE 9 (by kernel_rfl)
    have b157 : E124 3 = .ptr p10 0 := env_of st.inn hE 3 (by kernel_rfl)
    have b158 : E124 4 = .ptr p14 0 := env_of st.inn hE 4 (by kernel_rfl)
    have b159 : E124 2 = .flt .f32 bd := env_of st.inn hE 2 (by kernel_rfl)
    have g160 : Grew H96 H124 := (st.kept.grew (Nat.le_of_ble_eq_true (by kernel_rfl)))
    have g161 : Grew H H124 := Grew.trans g116 g160
    have r162 := g160.at r117
    have r163 := g160.at r118
    have r164 := g160.at r119
    have s165 := s120.grew g160
    have s166 := s121.grew g160
    have s167 := s122.grew g160
    have s168 := s123.grew g160
    have s169 := sS97.grew g160
    have s170 := sS98.grew g160
    clear st hE vs ls
    refine res_kid (free := false) (d := (some 39)) (f := 42) (args := [.tmp 35, .tmp 37, .tmp 38]) (by kernel_rfl) (R := fun z H' => Grew H124 H' ∧ ∃ S' Sk', z = .tuple [.agg [S', Sk'], .int .i64 c] ∧ SlW H' 3 P S' ∧ FreshS H124.next S' ∧ SlW H' 6 Q Sk' ∧ FreshS H124.next Sk' ∧ ApartS S' Sk') ?_ ?_
    · show ACalls _ _ [E124 35, E124 37, E124 38] _ _
      rw [b152, b153, b154]
      exact (by have h := k_impl_TakeLoop H124 ms hr S97 s169.toL mxms ks hrk S98 s170.toL mxks v0 v1 v2 v3 v4 v5 o2 o3 o4 o5 bd hbd; rw [hadd] at h; exact h)
    rintro z H171 ⟨gH171, S172, S173, rfl, sS172, fS172, sS173, fS173, ap174⟩
    refine ⟨gH171, ?_⟩
    have ne175 : ApartL (S172) p10 := fS172.apartL (H124.lt_of_get r162)
    have ne176 : ApartL (S172) p14 := fS172.apartL (H124.lt_of_get r163)
    have ne177 : ApartL (S172) p125 := fS172.apartL (H124.lt_of_get r127)
    have ne178 : ApartL (S172) p129 := fS172.apartL (H124.lt_of_get r131)
    have ne179 : ApartL (S172) p6 := fS172.apartL (H124.lt_of_get r164)
    have ne180 : ApartS (S172) (S28) := fS172.apartS s165.lt
    have ne181 : ApartS (S172) (S29) := fS172.apartS s166.lt
    have ne182 : ApartS (S172) (S59) := fS172.apartS s167.lt
    have ne183 : ApartS (S172) (S60) := fS172.apartS s168.lt
    have ne184 : ApartS (S172) (S97) := fS172.apartS s169.lt
    have ne185 : ApartS (S172) (S98) := fS172.apartS s170.lt
    have fr186 : FreshS H.next (S172) := fS172.mono g161.next
    have ne187 : ApartL (S173) p10 := fS173.apartL (H124.lt_of_get r162)
    have ne188 : ApartL (S173) p14 := fS173.apartL (H124.lt_of_get r163)
    have ne189 : ApartL (S173) p125 := fS173.apartL (H124.lt_of_get r127)
    have ne190 : ApartL (S173) p129 := fS173.apartL (H124.lt_of_get r131)
    have ne191 : ApartL (S173) p6 := fS173.apartL (H124.lt_of_get r164)
    have ne192 : ApartS (S173) (S28) := fS173.apartS s165.lt
    have ne193 : ApartS (S173) (S29) := fS173.apartS s166.lt
    have ne194 : ApartS (S173) (S59) := fS173.apartS s167.lt
    have ne195 : ApartS (S173) (S60) := fS173.apartS s168.lt
    have ne196 : ApartS (S173) (S97) := fS173.apartS s169.lt
    have ne197 : ApartS (S173) (S98) := fS173.apartS s170.lt
    have fr198 : FreshS H.next (S173) := fS173.mono g161.next
    have g199 : Grew H H171 := Grew.trans g161 gH171
    have r200 := gH171.at r162
    have r201 := gH171.at r163
    have r202 := gH171.at r127
    have r203 := gH171.at r131
    have r204 := gH171.at r164
    have s205 := s165.grew gH171
    have s206 := s166.grew gH171
    have s207 := s167.grew gH171
    have s208 := s168.grew gH171
    have s209 := s169.grew gH171
    have s210 := s170.grew gH171
    refine run_mn (φ := φ0) (pm := pmR 3 [(.call 17 [.agg [.nd 17 .one, .nd 18 .one], .agg [.nd 13 .one, .nd 14 .one]], .lit (.bool true))] 0) 20 (nk := [(.atom 0, .one), (.atom 1, .one), (.atom 2, .int .i64), (.atom 3, .int .i64), (.atom 4, .flt .f32), (.atom 5, .flt .f32), (.atom 6, .flt .f32), (.atom 7, .flt .f32), (.atom 8, .flt .f32), (.atom 9, .int .i64), (.atom 10, .int .i64), (.atom 11, .one), (.atom 12, .one), (.atom 13, .one), (.atom 14, .one), (.atom 15, .one), (.atom 16, .one), (.atom 17, .one), (.atom 18, .one)]) (fs := []) (xs := [S, Sk, .int .i64 v0, .int .i64 v1, .flt .f32 v2, .flt .f32 v3, .flt .f32 v4, .flt .f32 v5, .flt .f32 bd, .int .i64 c, .int .i64 q1, S28, S29, S59, S60, S97, S98, S172, S173]) (ws := [⟨p10, 0, [.nd 0 .one, .nd 1 .one], false⟩, ⟨p14, 0, [.nd 2 (.int .i64), .nd 3 (.int .i64), .nd 4 (.flt .f32), .nd 5 (.flt .f32), .nd 6 (.flt .f32), .nd 7 (.flt .f32)], false⟩, ⟨p129, 0, [.nd 15 .one, .nd 16 .one], false⟩, ⟨p6, 0, [.nd 13 .one, .nd 14 .one], true⟩, ⟨p125, 0, [.lit .nilslice, .lit .nilslice], true⟩]) (env := [(35, .agg [.nd 15 .one, .nd 16 .one]), (37, .agg [.nd 2 (.int .i64), .nd 3 (.int .i64), .nd 4 (.flt .f32), .nd 5 (.flt .f32), .nd 6 (.flt .f32), .nd 7 (.flt .f32)]), (38, .nd 8 (.flt .f32)), (11, .ptr 4 0), (8, .ptr 3 0), (9, .nd 9 (.int .i64)), (10, .ptr 2 0), (3, .ptr 0 0), (4, .ptr 1 0), (2, .nd 8 (.flt .f32)), (39, .tup [.agg [.nd 17 .one, .nd 18 .one], .nd 9 (.int .i64)])]) ?_ ?_ tb_ok ap_ok ?_
    · refine midN_in ?_ .nil _ ?_ ?_ ?_
      · exact (.cons rfl (slOne hS) (.cons rfl (slOne hSk) (.cons rfl ⟨_, rfl⟩ (.cons rfl ⟨_, rfl⟩ (.cons rfl ⟨_, rfl, o2⟩ (.cons rfl ⟨_, rfl, o3⟩ (.cons rfl ⟨_, rfl, o4⟩ (.cons rfl ⟨_, rfl, o5⟩ (.cons rfl ⟨_, rfl, hbd⟩ (.cons rfl ⟨_, rfl⟩ (.cons rfl ⟨_, rfl⟩ (.cons rfl sS28.one (.cons rfl sS29.one (.cons rfl sS59.one (.cons rfl sS60.one (.cons rfl sS97.one (.cons rfl sS98.one (.cons rfl sS172.one (.cons rfl sS173.one .nil)))))))))))))))))))
      · exact (.cons (win_row r200 (dlCons (dNd rfl (slOne hS)) (dlCons (dNd rfl (slOne hSk)) dlNil))) (.cons (win_row r201 (dlCons (dNd rfl ⟨_, rfl⟩) (dlCons (dNd rfl ⟨_, rfl⟩) (dlCons (dNd rfl ⟨_, rfl, o2⟩) (dlCons (dNd rfl ⟨_, rfl, o3⟩) (dlCons (dNd rfl ⟨_, rfl, o4⟩) (dlCons (dNd rfl ⟨_, rfl, o5⟩) dlNil))))))) (.cons (win_row r203 (dlCons (dNd rfl sS97.one) (dlCons (dNd rfl sS98.one) dlNil))) (.cons (win_own r204 (dlCons (dNd rfl sS59.one) (dlCons (dNd rfl sS60.one) dlNil))) (.cons (win_own r202 (dlCons (dLit rfl) (dlCons (dLit rfl) dlNil))) .nil)))))
      · exact ⟨(fun v hv h => (by simp at hv; rcases hv with rfl | rfl | rfl | rfl <;> first | (simp at h; done) | exact Apart.ne (by assumption) | exact (Apart.ne (by assumption)).symm)), ⟨(fun v hv h => (by simp at hv; rcases hv with rfl | rfl | rfl <;> first | (simp at h; done) | exact Apart.ne (by assumption) | exact (Apart.ne (by assumption)).symm)), ⟨(fun v hv h => (by simp at hv; rcases hv with rfl | rfl <;> first | (simp at h; done) | exact Apart.ne (by assumption) | exact (Apart.ne (by assumption)).symm)), ⟨(fun v hv h => (by simp at hv; rcases hv with rfl <;> first | (simp at h; done) | exact Apart.ne (by assumption) | exact (Apart.ne (by assumption)).symm)), ⟨(fun v hv => (by cases hv)), trivial⟩⟩⟩⟩⟩
      · exact (.cons (rule_call (args := [.agg [S172, S173], .agg [S59, S60]]) (dlCons (dAgg (dlCons (dNd rfl sS172.one) (dlCons (dNd rfl sS173.one) dlNil))) (dlCons (dAgg (dlCons (dNd rfl sS59.one) (dlCons (dNd rfl sS60.one) dlNil))) dlNil)) (dLit rfl) (fun H9 hk => k_eqPoseGraph H9 P hP S172 S59 ((sS172.keep hk ⟨by assumption, ⟨by assumption, trivial⟩⟩)).toL ((s207.keep hk ⟨by assumption, ⟨by assumption, trivial⟩⟩)).toL (mx40 mxP) Q hQ S173 S60 ((sS173.keep hk ⟨by assumption, ⟨by assumption, trivial⟩⟩)).toL ((s208.keep hk ⟨by assumption, ⟨by assumption, trivial⟩⟩)).toL (mx40 mxQ))) .nil)
    · exact (envEq (put_ne rfl b152) (dAgg (dlCons (dNd rfl sS97.one) (dlCons (dNd rfl sS98.one) dlNil))) (envEq (put_ne rfl b153) (dAgg (dlCons (dNd rfl ⟨_, rfl⟩) (dlCons (dNd rfl ⟨_, rfl⟩) (dlCons (dNd rfl ⟨_, rfl, o2⟩) (dlCons (dNd rfl ⟨_, rfl, o3⟩) (dlCons (dNd rfl ⟨_, rfl, o4⟩) (dlCons (dNd rfl ⟨_, rfl, o5⟩) dlNil))))))) (envEq (put_ne rfl b154) (dNd rfl ⟨_, rfl, hbd⟩) (envEq (put_ne rfl e126) (dPtr (l := p125) (o := 0) rfl) (envEq (put_ne rfl b155) (dPtr (l := p6) (o := 0) rfl) (envEq (put_ne rfl b156) (dNd rfl ⟨_, rfl⟩) (envEq (put_ne rfl e130) (dPtr (l := p129) (o := 0) rfl) (envEq (put_ne rfl b157) (dPtr (l := p10) (o := 0) rfl) (envEq (put_ne rfl b158) (dPtr (l := p14) (o := 0) rfl) (envEq (put_ne rfl b159) (dNd rfl ⟨_, rfl, hbd⟩) (envEq put_same (dTup' (dlCons (dAgg (dlCons (dNd rfl sS172.one) (dlCons (dNd rfl sS173.one) dlNil))) (dlCons (dNd rfl ⟨_, rfl⟩) dlNil))) envNil)))))))))))
    refine all1 (by kernel_rfl) ?_
    intro vs ls H211 E211 st hE
    have r212 : H211.get p6 = some (.row [S59, S60] true) := row_whole st.inn 3 (l := p6) (b := 0) rfl (by kernel_rfl)
    have r213 : H211.get p125 = some (.row [S172, S173] true) := row_whole st.inn 4 (l := p125) (b := 0) rfl (by kernel_rfl)
    have b214 : E211 52 = .agg [S, Sk] := env_of st.inn hE 52 (by kernel_rfl)
    have b215 : E211 51 = .agg [S97, S98] := env_of st.inn hE 51 (by kernel_rfl)
    have b216 : E211 10 = .ptr p129 0 := env_of st.inn hE 10 (by kernel_rfl)
    have b217 : E211 11 = .ptr p125 0 := env_of st.inn hE 11 (by kernel_rfl)
    have b218 : E211 8 = .ptr p6 0 := env_of st.inn hE 8 (by kernel_rfl)
    have b219 : E211 12 = .int .i64 c := env_of st.inn hE 12 (by kernel_rfl)
    have b220 : E211 9 = .int .i64 c := env_of st.inn hE 9 (by kernel_rfl)
    have b221 : E211 3 = .ptr p10 0 := env_of st.inn hE 3 (by kernel_rfl)
    have b222 : E211 4 = .ptr p14 0 := env_of st.inn hE 4 (by kernel_rfl)
    have b223 : E211 2 = .flt .f32 bd := env_of st.inn hE 2 (by kernel_rfl)
    have g225 : Grew H H211 := grew_own g199 st.inn.kept ⟨op6, ⟨op125, trivial⟩⟩
    have r226 := kept_at st.inn.kept r200 ⟨by first | assumption | exact Apart.symm (by assumption), ⟨by first | assumption | exact Apart.symm (by assumption), trivial⟩⟩
    have r227 := kept_at st.inn.kept r201 ⟨by first | assumption | exact Apart.symm (by assumption), ⟨by first | assumption | exact Apart.symm (by assumption), trivial⟩⟩
    have r228 := kept_at st.inn.kept r203 ⟨by first | assumption | exact Apart.symm (by assumption), ⟨by first | assumption | exact Apart.symm (by assumption), trivial⟩⟩
    have s229 := s205.keep st.inn.kept ⟨by assumption, ⟨by assumption, trivial⟩⟩
    have s230 := s206.keep st.inn.kept ⟨by assumption, ⟨by assumption, trivial⟩⟩
    have s231 := s207.keep st.inn.kept ⟨by assumption, ⟨by assumption, trivial⟩⟩
    have s232 := s208.keep st.inn.kept ⟨by assumption, ⟨by assumption, trivial⟩⟩
    have s233 := s209.keep st.inn.kept ⟨by assumption, ⟨by assumption, trivial⟩⟩
    have s234 := s210.keep st.inn.kept ⟨by assumption, ⟨by assumption, trivial⟩⟩
    have s235 := sS172.keep st.inn.kept ⟨by assumption, ⟨by assumption, trivial⟩⟩
    have s236 := sS173.keep st.inn.kept ⟨by assumption, ⟨by assumption, trivial⟩⟩
    clear st hE vs ls
    refine res_kid (free := false) (d := (some 53)) (f := 15) (args := [.tmp 52]) (by kernel_rfl) (R := fun z H' => Grew H211 H' ∧ ∃ S0' S1', z = .agg [S0', S1'] ∧ SlW H' 3 ms S0' ∧ FreshS H211.next S0' ∧ SlW H' 6 ks S1' ∧ FreshS H211.next S1' ∧ ApartS S0' S1') ?_ ?_
    · show ACalls _ _ [E211 52] _ _
      rw [b214]
      exact k_toPoseGraph H211 ms hr S (hS.grew g225) mxms ks hrk Sk (hSk.grew g225) mxks
    rintro z H237 ⟨gH237, S238, S239, rfl, sS238, fS238, sS239, fS239, ap240⟩
    refine ⟨gH237, ?_⟩
    have ne241 : ApartL (S238) p10 := fS238.apartL (H211.lt_of_get r226)
    have ne242 : ApartL (S238) p14 := fS238.apartL (H211.lt_of_get r227)
    have ne243 : ApartL (S238) p129 := fS238.apartL (H211.lt_of_get r228)
    have ne244 : ApartL (S238) p6 := fS238.apartL (H211.lt_of_get r212)
    have ne245 : ApartL (S238) p125 := fS238.apartL (H211.lt_of_get r213)
    have ne246 : ApartS (S238) (S28) := fS238.apartS s229.lt
    have ne247 : ApartS (S238) (S29) := fS238.apartS s230.lt
    have ne248 : ApartS (S238) (S59) := fS238.apartS s231.lt
    have ne249 : ApartS (S238) (S60) := fS238.apartS s232.lt
    have ne250 : ApartS (S238) (S97) := fS238.apartS s233.lt
    have ne251 : ApartS (S238) (S98) := fS238.apartS s234.lt
    have ne252 : ApartS (S238) (S172) := fS238.apartS s235.lt
    have ne253 : ApartS (S238) (S173) := fS238.apartS s236.lt
    have fr254 : FreshS H.next (S238) := fS238.mono g225.next
    have ne255 : ApartL (S239) p10 := fS239.apartL (H211.lt_of_get r226)
    have ne256 : ApartL (S239) p14 := fS239.apartL (H211.lt_of_get r227)
    have ne257 : ApartL (S239) p129 := fS239.apartL (H211.lt_of_get r228)
    have ne258 : ApartL (S239) p6 := fS239.apartL (H211.lt_of_get r212)
    have ne259 : ApartL (S239) p125 := fS239.apartL (H211.lt_of_get r213)
    have ne260 : ApartS (S239) (S28) := fS239.apartS s229.lt
    have ne261 : ApartS (S239) (S29) := fS239.apartS s230.lt
    have ne262 : ApartS (S239) (S59) := fS239.apartS s231.lt
    have ne263 : ApartS (S239) (S60) := fS239.apartS s232.lt
    have ne264 : ApartS (S239) (S97) := fS239.apartS s233.lt
    have ne265 : ApartS (S239) (S98) := fS239.apartS s234.lt
    have ne266 : ApartS (S239) (S172) := fS239.apartS s235.lt
    have ne267 : ApartS (S239) (S173) := fS239.apartS s236.lt
    have fr268 : FreshS H.next (S239) := fS239.mono g225.next
    have g269 : Grew H H237 := Grew.trans g225 gH237
    have r270 := gH237.at r226
    have r271 := gH237.at r227
    have r272 := gH237.at r228
    have r273 := gH237.at r212
    have r274 := gH237.at r213
    have s275 := s229.grew gH237
    have s276 := s230.grew gH237
    have s277 := s231.grew gH237
    have s278 := s232.grew gH237
    have s279 := s233.grew gH237
    have s280 := s234.grew gH237
    have s281 := s235.grew gH237
    have s282 := s236.grew gH237
    refine run_mn (φ := φ0) (pm := pmR 3 [(.call 17 [.agg [.nd 15 .one, .nd 16 .one], .agg [.nd 19 .one, .nd 20 .one]], .lit (.bool true))] 0) 20 (nk := [(.atom 0, .one), (.atom 1, .one), (.atom 2, .int .i64), (.atom 3, .int .i64), (.atom 4, .flt .f32), (.atom 5, .flt .f32), (.atom 6, .flt .f32), (.atom 7, .flt .f32), (.atom 8, .flt .f32), (.atom 9, .int .i64), (.atom 10, .int .i64), (.atom 11, .one), (.atom 12, .one), (.atom 13, .one), (.atom 14, .one), (.atom 15, .one), (.atom 16, .one), (.atom 17, .one), (.atom 18, .one), (.atom 19, .one), (.atom 20, .one)]) (fs := []) (xs := [S, Sk, .int .i64 v0, .int .i64 v1, .flt .f32 v2, .flt .f32 v3, .flt .f32 v4, .flt .f32 v5, .flt .f32 bd, .int .i64 c, .int .i64 q1, S28, S29, S59, S60, S97, S98, S172, S173, S238, S239]) (ws := [⟨p10, 0, [.nd 0 .one, .nd 1 .one], false⟩, ⟨p14, 0, [.nd 2 (.int .i64), .nd 3 (.int .i64), .nd 4 (.flt .f32), .nd 5 (.flt .f32), .nd 6 (.flt .f32), .nd 7 (.flt .f32)], false⟩, ⟨p129, 0, [.nd 15 .one, .nd 16 .one], false⟩, ⟨p6, 0, [.nd 13 .one, .nd 14 .one], true⟩, ⟨p125, 0, [.nd 17 .one, .nd 18 .one], true⟩]) (env := [(52, .agg [.nd 0 .one, .nd 1 .one]), (51, .agg [.nd 15 .one, .nd 16 .one]), (10, .ptr 2 0), (11, .ptr 4 0), (8, .ptr 3 0), (12, .nd 9 (.int .i64)), (9, .nd 9 (.int .i64)), (3, .ptr 0 0), (4, .ptr 1 0), (2, .nd 8 (.flt .f32)), (53, .agg [.nd 19 .one, .nd 20 .one])]) ?_ ?_ tb_ok ap_ok ?_
    · refine midN_in ?_ .nil _ ?_ ?_ ?_
      · exact (.cons rfl (slOne hS) (.cons rfl (slOne hSk) (.cons rfl ⟨_, rfl⟩ (.cons rfl ⟨_, rfl⟩ (.cons rfl ⟨_, rfl, o2⟩ (.cons rfl ⟨_, rfl, o3⟩ (.cons rfl ⟨_, rfl, o4⟩ (.cons rfl ⟨_, rfl, o5⟩ (.cons rfl ⟨_, rfl, hbd⟩ (.cons rfl ⟨_, rfl⟩ (.cons rfl ⟨_, rfl⟩ (.cons rfl sS28.one (.cons rfl sS29.one (.cons rfl sS59.one (.cons rfl sS60.one (.cons rfl sS97.one (.cons rfl sS98.one (.cons rfl sS172.one (.cons rfl sS173.one (.cons rfl sS238.one (.cons rfl sS239.one .nil)))))))))))))))))))))
      · exact (.cons (win_row r270 (dlCons (dNd rfl (slOne hS)) (dlCons (dNd rfl (slOne hSk)) dlNil))) (.cons (win_row r271 (dlCons (dNd rfl ⟨_, rfl⟩) (dlCons (dNd rfl ⟨_, rfl⟩) (dlCons (dNd rfl ⟨_, rfl, o2⟩) (dlCons (dNd rfl ⟨_, rfl, o3⟩) (dlCons (dNd rfl ⟨_, rfl, o4⟩) (dlCons (dNd rfl ⟨_, rfl, o5⟩) dlNil))))))) (.cons (win_row r272 (dlCons (dNd rfl sS97.one) (dlCons (dNd rfl sS98.one) dlNil))) (.cons (win_own r273 (dlCons (dNd rfl sS59.one) (dlCons (dNd rfl sS60.one) dlNil))) (.cons (win_own r274 (dlCons (dNd rfl sS172.one) (dlCons (dNd rfl sS173.one) dlNil))) .nil)))))
      · exact ⟨(fun v hv h => (by simp at hv; rcases hv with rfl | rfl | rfl | rfl <;> first | (simp at h; done) | exact Apart.ne (by assumption) | exact (Apart.ne (by assumption)).symm)), ⟨(fun v hv h => (by simp at hv; rcases hv with rfl | rfl | rfl <;> first | (simp at h; done) | exact Apart.ne (by assumption) | exact (Apart.ne (by assumption)).symm)), ⟨(fun v hv h => (by simp at hv; rcases hv with rfl | rfl <;> first | (simp at h; done) | exact Apart.ne (by assumption) | exact (Apart.ne (by assumption)).symm)), ⟨(fun v hv h => (by simp at hv; rcases hv with rfl <;> first | (simp at h; done) | exact Apart.ne (by assumption) | exact (Apart.ne (by assumption)).symm)), ⟨(fun v hv => (by cases hv)), trivial⟩⟩⟩⟩⟩
      · exact (.cons (rule_call (args := [.agg [S97, S98], .agg [S238, S239]]) (dlCons (dAgg (dlCons (dNd rfl sS97.one) (dlCons (dNd rfl sS98.one) dlNil))) (dlCons (dAgg (dlCons (dNd rfl sS238.one) (dlCons (dNd rfl sS239.one) dlNil))) dlNil)) (dLit rfl) (fun H9 hk => k_eqPoseGraph H9 ms hr S97 S238 ((s279.keep hk ⟨by assumption, ⟨by assumption, trivial⟩⟩)).toL ((sS238.keep hk ⟨by assumption, ⟨by assumption, trivial⟩⟩)).toL (mx40 mxms) ks hrk S98 S239 ((s280.keep hk ⟨by assumption, ⟨by assumption, trivial⟩⟩)).toL ((sS239.keep hk ⟨by assumption, ⟨by assumption, trivial⟩⟩)).toL (mx40 mxks))) .nil)
    · exact (envEq (put_ne rfl b214) (dAgg (dlCons (dNd rfl (slOne hS)) (dlCons (dNd rfl (slOne hSk)) dlNil))) (envEq (put_ne rfl b215) (dAgg (dlCons (dNd rfl sS97.one) (dlCons (dNd rfl sS98.one) dlNil))) (envEq (put_ne rfl b216) (dPtr (l := p129) (o := 0) rfl) (envEq (put_ne rfl b217) (dPtr (l := p125) (o := 0) rfl) (envEq (put_ne rfl b218) (dPtr (l := p6) (o := 0) rfl) (envEq (put_ne rfl b219) (dNd rfl ⟨_, rfl⟩) (envEq (put_ne rfl b220) (dNd rfl ⟨_, rfl⟩) (envEq (put_ne rfl b221) (dPtr (l := p10) (o := 0) rfl) (envEq (put_ne rfl b222) (dPtr (l := p14) (o := 0) rfl) (envEq (put_ne rfl b223) (dNd rfl ⟨_, rfl, hbd⟩) (envEq put_same (dAgg (dlCons (dNd rfl sS238.one) (dlCons (dNd rfl sS239.one) dlNil))) envNil)))))))))))
    refine all1 (by kernel_rfl) ?_
    intro vs ls H283 E283 st hE
    have b284 : E283 56 = .agg [S97, S98] := env_of st.inn hE 56 (by kernel_rfl)
    have b285 : E283 57 = .int .i64 1 := env_of st.inn hE 57 (by kernel_rfl)
    have b286 : E283 13 = .int .i64 1 := env_of st.inn hE 13 (by kernel_rfl)
    have b287 : E283 11 = .ptr p125 0 := env_of st.inn hE 11 (by kernel_rfl)
    have b288 : E283 8 = .ptr p6 0 := env_of st.inn hE 8 (by kernel_rfl)
    have b289 : E283 12 = .int .i64 c := env_of st.inn hE 12 (by kernel_rfl)
    have b290 : E283 9 = .int .i64 c := env_of st.inn hE 9 (by kernel_rfl)
    have b291 : E283 3 = .ptr p10 0 := env_of st.inn hE 3 (by kernel_rfl)
    have b292 : E283 4 = .ptr p14 0 := env_of st.inn hE 4 (by kernel_rfl)
    have b293 : E283 2 = .flt .f32 bd := env_of st.inn hE 2 (by kernel_rfl)
    have g294 : Grew H237 H283 := (st.kept.grew (Nat.le_of_ble_eq_true (by kernel_rfl)))
    have g295 : Grew H H283 := Grew.trans g269 g294
    have r296 := g294.at r270
    have r297 := g294.at r271
    have r298 := g294.at r272
    have r299 := g294.at r273
    have r300 := g294.at r274
    have s301 := s275.grew g294
    have s302 := s276.grew g294
    have s303 := s277.grew g294
    have s304 := s278.grew g294
    have s305 := s279.grew g294
    have s306 := s280.grew g294
    have s307 := s281.grew g294
    have s308 := s282.grew g294
    have s309 := sS238.grew g294
    have s310 := sS239.grew g294
    clear st hE vs ls
    refine res_call (d := (some 58)) (f := 38) (args := [.tmp 56, .tmp 57]) (by kernel_rfl) (R := fun z H' => z = .int .i64 (1 + 3 * (ms.length : Int) + 6 * (ks.length : Int)) ∧ Only2 S97 S98 H283 H' ∧ SlW H' 3 (mksPose 1 ms.length) S97 ∧ SlW H' 6 (mksLink (1 + 3 * (ms.length : Int)) ks.length) S98) ?_ ?_
    · show ACalls _ _ [E283 56, E283 57] _ _
      rw [b284, b285]
      exact w_markPoseGraph H283 ms hr S97 s305 mxms ks hrk S98 s306 mxks (by first | assumption | exact ApartS.symm (by assumption)) 1 (by decide) (by decide)
    rintro z H311 ⟨rfl, oH311, nH311, mH311⟩
    have g312 : Grew H H311 := Only2.own g295 fr107 fr115 oH311
    have r313 := oH311.at r296 (by assumption) (by assumption)
    have r314 := oH311.at r297 (by assumption) (by assumption)
    have r315 := oH311.at r299 (by assumption) (by assumption)
    have r316 := oH311.at r300 (by assumption) (by assumption)
    have s317 := s301.only2 oH311 (by first | assumption | exact ApartS.symm (by assumption)) (by first | assumption | exact ApartS.symm (by assumption))
    have s318 := s302.only2 oH311 (by first | assumption | exact ApartS.symm (by assumption)) (by first | assumption | exact ApartS.symm (by assumption))
    have s319 := s303.only2 oH311 (by first | assumption | exact ApartS.symm (by assumption)) (by first | assumption | exact ApartS.symm (by assumption))
    have s320 := s304.only2 oH311 (by first | assumption | exact ApartS.symm (by assumption)) (by first | assumption | exact ApartS.symm (by assumption))
    have s321 := s307.only2 oH311 (by first | assumption | exact ApartS.symm (by assumption)) (by first | assumption | exact ApartS.symm (by assumption))
    have s322 := s308.only2 oH311 (by first | assumption | exact ApartS.symm (by assumption)) (by first | assumption | exact ApartS.symm (by assumption))
    have s323 := s309.only2 oH311 (by first | assumption | exact ApartS.symm (by assumption)) (by first | assumption | exact ApartS.symm (by assumption))
    have s324 := s310.only2 oH311 (by first | assumption | exact ApartS.symm (by assumption)) (by first | assumption | exact ApartS.symm (by assumption))
    refine run_mn (φ := φ0) (pm := pmR 2 [(.call 17 [.agg [.nd 17 .one, .nd 18 .one], .agg [.nd 13 .one, .nd 14 .one]], .lit (.bool true))] 0) 20 (nk := [(.atom 0, .one), (.atom 1, .one), (.atom 2, .int .i64), (.atom 3, .int .i64), (.atom 4, .flt .f32), (.atom 5, .flt .f32), (.atom 6, .flt .f32), (.atom 7, .flt .f32), (.atom 8, .flt .f32), (.atom 9, .int .i64), (.atom 10, .int .i64), (.atom 11, .one), (.atom 12, .one), (.atom 13, .one), (.atom 14, .one), (.atom 15, .one), (.atom 16, .one), (.atom 17, .one), (.atom 18, .one), (.atom 19, .one), (.atom 20, .one), (.atom 21, .int .i64)]) (fs := []) (xs := [S, Sk, .int .i64 v0, .int .i64 v1, .flt .f32 v2, .flt .f32 v3, .flt .f32 v4, .flt .f32 v5, .flt .f32 bd, .int .i64 c, .int .i64 q1, S28, S29, S59, S60, S97, S98, S172, S173, S238, S239, .int .i64 (1 + 3 * (ms.length : Int) + 6 * (ks.length : Int))]) (ws := [⟨p10, 0, [.nd 0 .one, .nd 1 .one], false⟩, ⟨p14, 0, [.nd 2 (.int .i64), .nd 3 (.int .i64), .nd 4 (.flt .f32), .nd 5 (.flt .f32), .nd 6 (.flt .f32), .nd 7 (.flt .f32)], false⟩, ⟨p6, 0, [.nd 13 .one, .nd 14 .one], true⟩, ⟨p125, 0, [.nd 17 .one, .nd 18 .one], true⟩]) (env := [(56, .agg [.nd 15 .one, .nd 16 .one]), (57, .lit (.int .i64 1)), (13, .lit (.int .i64 1)), (11, .ptr 3 0), (8, .ptr 2 0), (12, .nd 9 (.int .i64)), (9, .nd 9 (.int .i64)), (3, .ptr 0 0), (4, .ptr 1 0), (2, .nd 8 (.flt .f32)), (58, .nd 21 (.int .i64))]) ?_ ?_ tb_ok ap_ok ?_
    · refine midN_in ?_ .nil _ ?_ ?_ ?_
      · exact (.cons rfl (slOne hS) (.cons rfl (slOne hSk) (.cons rfl ⟨_, rfl⟩ (.cons rfl ⟨_, rfl⟩ (.cons rfl ⟨_, rfl, o2⟩ (.cons rfl ⟨_, rfl, o3⟩ (.cons rfl ⟨_, rfl, o4⟩ (.cons rfl ⟨_, rfl, o5⟩ (.cons rfl ⟨_, rfl, hbd⟩ (.cons rfl ⟨_, rfl⟩ (.cons rfl ⟨_, rfl⟩ (.cons rfl sS28.one (.cons rfl sS29.one (.cons rfl sS59.one (.cons rfl sS60.one (.cons rfl sS97.one (.cons rfl sS98.one (.cons rfl sS172.one (.cons rfl sS173.one (.cons rfl sS238.one (.cons rfl sS239.one (.cons rfl ⟨_, rfl⟩ .nil))))))))))))))))))))))
      · exact (.cons (win_row r313 (dlCons (dNd rfl (slOne hS)) (dlCons (dNd rfl (slOne hSk)) dlNil))) (.cons (win_row r314 (dlCons (dNd rfl ⟨_, rfl⟩) (dlCons (dNd rfl ⟨_, rfl⟩) (dlCons (dNd rfl ⟨_, rfl, o2⟩) (dlCons (dNd rfl ⟨_, rfl, o3⟩) (dlCons (dNd rfl ⟨_, rfl, o4⟩) (dlCons (dNd rfl ⟨_, rfl, o5⟩) dlNil))))))) (.cons (win_own r315 (dlCons (dNd rfl sS59.one) (dlCons (dNd rfl sS60.one) dlNil))) (.cons (win_own r316 (dlCons (dNd rfl sS172.one) (dlCons (dNd rfl sS173.one) dlNil))) .nil))))
      · exact ⟨(fun v hv h => (by simp at hv; rcases hv with rfl | rfl | rfl <;> first | (simp at h; done) | exact Apart.ne (by assumption) | exact (Apart.ne (by assumption)).symm)), ⟨(fun v hv h => (by simp at hv; rcases hv with rfl | rfl <;> first | (simp at h; done) | exact Apart.ne (by assumption) | exact (Apart.ne (by assumption)).symm)), ⟨(fun v hv h => (by simp at hv; rcases hv with rfl <;> first | (simp at h; done) | exact Apart.ne (by assumption) | exact (Apart.ne (by assumption)).symm)), ⟨(fun v hv => (by cases hv)), trivial⟩⟩⟩⟩
      · exact (.cons (rule_call (args := [.agg [S172, S173], .agg [S59, S60]]) (dlCons (dAgg (dlCons (dNd rfl sS172.one) (dlCons (dNd rfl sS173.one) dlNil))) (dlCons (dAgg (dlCons (dNd rfl sS59.one) (dlCons (dNd rfl sS60.one) dlNil))) dlNil)) (dLit rfl) (fun H9 hk => k_eqPoseGraph H9 P hP S172 S59 ((s321.keep hk ⟨by assumption, ⟨by assumption, trivial⟩⟩)).toL ((s319.keep hk ⟨by assumption, ⟨by assumption, trivial⟩⟩)).toL (mx40 mxP) Q hQ S173 S60 ((s322.keep hk ⟨by assumption, ⟨by assumption, trivial⟩⟩)).toL ((s320.keep hk ⟨by assumption, ⟨by assumption, trivial⟩⟩)).toL (mx40 mxQ))) .nil)
    · exact (envEq (put_ne rfl b284) (dAgg (dlCons (dNd rfl sS97.one) (dlCons (dNd rfl sS98.one) dlNil))) (envEq (put_ne rfl b285) (dLit rfl) (envEq (put_ne rfl b286) (dLit rfl) (envEq (put_ne rfl b287) (dPtr (l := p125) (o := 0) rfl) (envEq (put_ne rfl b288) (dPtr (l := p6) (o := 0) rfl) (envEq (put_ne rfl b289) (dNd rfl ⟨_, rfl⟩) (envEq (put_ne rfl b290) (dNd rfl ⟨_, rfl⟩) (envEq (put_ne rfl b291) (dPtr (l := p10) (o := 0) rfl) (envEq (put_ne rfl b292) (dPtr (l := p14) (o := 0) rfl) (envEq (put_ne rfl b293) (dNd rfl ⟨_, rfl, hbd⟩) (envEq put_same (dNd rfl ⟨_, rfl⟩) envNil)))))))))))
    refine all2 (by kernel_rfl) ?_ ?_
    ·
      intro vs ls H325 E325 st hE
      have f326 : (1 + 3 * (ms.length : Int) + 6 * (ks.length : Int)) < 0 := of_decide_eq_true (bfact (x := decide ((1 + 3 * (ms.length : Int) + 6 * (ks.length : Int)) < 0)) st.inn 0 (by kernel_rfl))
      exact absurd f326 (by omega)
    ·
      intro vs ls H327 E327 st hE
      have f328 : ¬ ((1 + 3 * (ms.length : Int) + 6 * (ks.length : Int)) < 0) := of_decide_eq_false (bfact (x := decide ((1 + 3 * (ms.length : Int) + 6 * (ks.length : Int)) < 0)) st.inn 0 (by kernel_rfl))
      have b329 : E327 72 = .agg [S172, S173] := env_of st.inn hE 72 (by kernel_rfl)
      have b330 : E327 73 = .int .i64 1 := env_of st.inn hE 73 (by kernel_rfl)
      have b331 : E327 11 = .ptr p125 0 := env_of st.inn hE 11 (by kernel_rfl)
      have b332 : E327 14 = .int .i64 1 := env_of st.inn hE 14 (by kernel_rfl)
      have b333 : E327 3 = .ptr p10 0 := env_of st.inn hE 3 (by kernel_rfl)
      have b334 : E327 4 = .ptr p14 0 := env_of st.inn hE 4 (by kernel_rfl)
      have b335 : E327 2 = .flt .f32 bd := env_of st.inn hE 2 (by kernel_rfl)
      have b336 : E327 8 = .ptr p6 0 := env_of st.inn hE 8 (by kernel_rfl)
      have b337 : E327 9 = .int .i64 c := env_of st.inn hE 9 (by kernel_rfl)
      have g338 : Grew H311 H327 := (st.kept.grew (Nat.le_of_ble_eq_true (by kernel_rfl)))
      have g339 : Grew H H327 := Grew.trans g312 g338
      have r340 := g338.at r313
      have r341 := g338.at r314
      have r342 := g338.at r315
      have r343 := g338.at r316
      have s344 := s317.grew g338
      have s345 := s318.grew g338
      have s346 := s319.grew g338
      have s347 := s320.grew g338
      have s348 := nH311.grew g338
      have s349 := mH311.grew g338
      have s350 := s321.grew g338
      have s351 := s322.grew g338
      have s352 := s323.grew g338
      have s353 := s324.grew g338
      clear st hE vs ls
      refine res_call (d := (some 74)) (f := 38) (args := [.tmp 72, .tmp 73]) (by kernel_rfl) (R := fun z H' => z = .int .i64 (1 + 3 * (P.length : Int) + 6 * (Q.length : Int)) ∧ Only2 S172 S173 H327 H' ∧ SlW H' 3 (mksPose 1 P.length) S172 ∧ SlW H' 6 (mksLink (1 + 3 * (P.length : Int)) Q.length) S173) ?_ ?_
      · show ACalls _ _ [E327 72, E327 73] _ _
        rw [b329, b330]
        exact w_markPoseGraph H327 P hP S172 s350 mxP Q hQ S173 s351 mxQ (by first | assumption | exact ApartS.symm (by assumption)) 1 (by decide) (by decide)
      rintro z H354 ⟨rfl, oH354, nH354, mH354⟩
      have g355 : Grew H H354 := Only2.own g339 fr186 fr198 oH354
      have r356 := oH354.at r340 (by assumption) (by assumption)
      have r357 := oH354.at r341 (by assumption) (by assumption)
      have r358 := oH354.at r342 (by assumption) (by assumption)
      have r359 := oH354.at r343 (by assumption) (by assumption)
      have s360 := s344.only2 oH354 (by first | assumption | exact ApartS.symm (by assumption)) (by first | assumption | exact ApartS.symm (by assumption))
      have s361 := s345.only2 oH354 (by first | assumption | exact ApartS.symm (by assumption)) (by first | assumption | exact ApartS.symm (by assumption))
      have s362 := s346.only2 oH354 (by first | assumption | exact ApartS.symm (by assumption)) (by first | assumption | exact ApartS.symm (by assumption))
      have s363 := s347.only2 oH354 (by first | assumption | exact ApartS.symm (by assumption)) (by first | assumption | exact ApartS.symm (by assumption))
      have s364 := s348.only2 oH354 (by first | assumption | exact ApartS.symm (by assumption)) (by first | assumption | exact ApartS.symm (by assumption))
      have s365 := s349.only2 oH354 (by first | assumption | exact ApartS.symm (by assumption)) (by first | assumption | exact ApartS.symm (by assumption))
      have s366 := s352.only2 oH354 (by first | assumption | exact ApartS.symm (by assumption)) (by first | assumption | exact ApartS.symm (by assumption))
      have s367 := s353.only2 oH354 (by first | assumption | exact ApartS.symm (by assumption)) (by first | assumption | exact ApartS.symm (by assumption))
      refine run_mn (φ := φ0) (pm := pmR 2 [(.call 39 [.agg [.nd 17 .one, .nd 18 .one], .lit (.int .i64 1)], .nd 22 (.int .i64))] 0) 20 (nk := [(.atom 0, .one), (.atom 1, .one), (.atom 2, .int .i64), (.atom 3, .int .i64), (.atom 4, .flt .f32), (.atom 5, .flt .f32), (.atom 6, .flt .f32), (.atom 7, .flt .f32), (.atom 8, .flt .f32), (.atom 9, .int .i64), (.atom 10, .int .i64), (.atom 11, .one), (.atom 12, .one), (.atom 13, .one), (.atom 14, .one), (.atom 15, .one), (.atom 16, .one), (.atom 17, .one), (.atom 18, .one), (.atom 19, .one), (.atom 20, .one), (.atom 21, .int .i64), (.atom 22, .int .i64)]) (fs := []) (xs := [S, Sk, .int .i64 v0, .int .i64 v1, .flt .f32 v2, .flt .f32 v3, .flt .f32 v4, .flt .f32 v5, .flt .f32 bd, .int .i64 c, .int .i64 q1, S28, S29, S59, S60, S97, S98, S172, S173, S238, S239, .int .i64 (1 + 3 * (ms.length : Int) + 6 * (ks.length : Int)), .int .i64 (1 + 3 * (P.length : Int) + 6 * (Q.length : Int))]) (ws := [⟨p10, 0, [.nd 0 .one, .nd 1 .one], false⟩, ⟨p14, 0, [.nd 2 (.int .i64), .nd 3 (.int .i64), .nd 4 (.flt .f32), .nd 5 (.flt .f32), .nd 6 (.flt .f32), .nd 7 (.flt .f32)], false⟩, ⟨p6, 0, [.nd 13 .one, .nd 14 .one], true⟩, ⟨p125, 0, [.nd 17 .one, .nd 18 .one], true⟩]) (env := [(72, .agg [.nd 17 .one, .nd 18 .one]), (73, .lit (.int .i64 1)), (11, .ptr 3 0), (14, .lit (.int .i64 1)), (3, .ptr 0 0), (4, .ptr 1 0), (2, .nd 8 (.flt .f32)), (8, .ptr 2 0), (9, .nd 9 (.int .i64)), (74, .nd 22 (.int .i64))]) ?_ ?_ tb_ok ap_ok ?_
      · refine midN_in ?_ .nil _ ?_ ?_ ?_
        · exact (.cons rfl (slOne hS) (.cons rfl (slOne hSk) (.cons rfl ⟨_, rfl⟩ (.cons rfl ⟨_, rfl⟩ (.cons rfl ⟨_, rfl, o2⟩ (.cons rfl ⟨_, rfl, o3⟩ (.cons rfl ⟨_, rfl, o4⟩ (.cons rfl ⟨_, rfl, o5⟩ (.cons rfl ⟨_, rfl, hbd⟩ (.cons rfl ⟨_, rfl⟩ (.cons rfl ⟨_, rfl⟩ (.cons rfl sS28.one (.cons rfl sS29.one (.cons rfl sS59.one (.cons rfl sS60.one (.cons rfl sS97.one (.cons rfl sS98.one (.cons rfl sS172.one (.cons rfl sS173.one (.cons rfl sS238.one (.cons rfl sS239.one (.cons rfl ⟨_, rfl⟩ (.cons rfl ⟨_, rfl⟩ .nil)))))))))))))))))))))))
        · exact (.cons (win_row r356 (dlCons (dNd rfl (slOne hS)) (dlCons (dNd rfl (slOne hSk)) dlNil))) (.cons (win_row r357 (dlCons (dNd rfl ⟨_, rfl⟩) (dlCons (dNd rfl ⟨_, rfl⟩) (dlCons (dNd rfl ⟨_, rfl, o2⟩) (dlCons (dNd rfl ⟨_, rfl, o3⟩) (dlCons (dNd rfl ⟨_, rfl, o4⟩) (dlCons (dNd rfl ⟨_, rfl, o5⟩) dlNil))))))) (.cons (win_own r358 (dlCons (dNd rfl sS59.one) (dlCons (dNd rfl sS60.one) dlNil))) (.cons (win_own r359 (dlCons (dNd rfl sS172.one) (dlCons (dNd rfl sS173.one) dlNil))) .nil))))
        · exact ⟨(fun v hv h => (by simp at hv; rcases hv with rfl | rfl | rfl <;> first | (simp at h; done) | exact Apart.ne (by assumption) | exact (Apart.ne (by assumption)).symm)), ⟨(fun v hv h => (by simp at hv; rcases hv with rfl | rfl <;> first | (simp at h; done) | exact Apart.ne (by assumption) | exact (Apart.ne (by assumption)).symm)), ⟨(fun v hv h => (by simp at hv; rcases hv with rfl <;> first | (simp at h; done) | exact Apart.ne (by assumption) | exact (Apart.ne (by assumption)).symm)), ⟨(fun v hv => (by cases hv)), trivial⟩⟩⟩⟩
        · exact (.cons (rule_call (args := [.agg [S172, S173], .int .i64 1]) (dlCons (dAgg (dlCons (dNd rfl sS172.one) (dlCons (dNd rfl sS173.one) dlNil))) (dlCons (dLit rfl) dlNil)) (dNd rfl ⟨_, rfl⟩) (fun H9 hk => w_heldPoseGraph H9 1 P.length Q.length S172 S173 ((nH354.keep hk ⟨by assumption, ⟨by assumption, trivial⟩⟩)).toL ((mH354.keep hk ⟨by assumption, ⟨by assumption, trivial⟩⟩)).toL (by decide) (by decide) mxP mxQ)) .nil)
      · exact (envEq (put_ne rfl b329) (dAgg (dlCons (dNd rfl sS172.one) (dlCons (dNd rfl sS173.one) dlNil))) (envEq (put_ne rfl b330) (dLit rfl) (envEq (put_ne rfl b331) (dPtr (l := p125) (o := 0) rfl) (envEq (put_ne rfl b332) (dLit rfl) (envEq (put_ne rfl b333) (dPtr (l := p10) (o := 0) rfl) (envEq (put_ne rfl b334) (dPtr (l := p14) (o := 0) rfl) (envEq (put_ne rfl b335) (dNd rfl ⟨_, rfl, hbd⟩) (envEq (put_ne rfl b336) (dPtr (l := p6) (o := 0) rfl) (envEq (put_ne rfl b337) (dNd rfl ⟨_, rfl⟩) (envEq put_same (dNd rfl ⟨_, rfl⟩) envNil))))))))))
      refine all2 (by kernel_rfl) ?_ ?_
      ·
        intro vs ls H368 E368 st hE
        have f369 : (1 + 3 * (P.length : Int) + 6 * (Q.length : Int)) < 0 := of_decide_eq_true (bfact (x := decide ((1 + 3 * (P.length : Int) + 6 * (Q.length : Int)) < 0)) st.inn 0 (by kernel_rfl))
        exact absurd f369 (by omega)
      ·
        intro vs ls H370 E370 st hE
        have f371 : ¬ ((1 + 3 * (P.length : Int) + 6 * (Q.length : Int)) < 0) := of_decide_eq_false (bfact (x := decide ((1 + 3 * (P.length : Int) + 6 * (Q.length : Int)) < 0)) st.inn 0 (by kernel_rfl))
        obtain ⟨p372, e373, r374, n375⟩ := ptr_of st.inn hE 16 4 (by kernel_rfl) (ds := [.nilslice, .nilslice]) (by kernel_rfl)
        have op372 : H.next ≤ p372 := Nat.le_trans g355.next (n375 (Nat.le_of_ble_eq_true rfl))
        have ne376 : Apart p372 p10 := ⟨Nat.ne_of_gt (Nat.lt_of_lt_of_le (H354.lt_of_get r356) (n375 (Nat.le_of_ble_eq_true rfl)))⟩
        have ne377 : Apart p372 p14 := ⟨Nat.ne_of_gt (Nat.lt_of_lt_of_le (H354.lt_of_get r357) (n375 (Nat.le_of_ble_eq_true rfl)))⟩
        have ne378 : Apart p372 p6 := ⟨Nat.ne_of_gt (Nat.lt_of_lt_of_le (H354.lt_of_get r358) (n375 (Nat.le_of_ble_eq_true rfl)))⟩
        have ne379 : Apart p372 p125 := ⟨Nat.ne_of_gt (Nat.lt_of_lt_of_le (H354.lt_of_get r359) (n375 (Nat.le_of_ble_eq_true rfl)))⟩
        have ne380 : ApartL (S28) p372 := s360.apart_new (n375 (Nat.le_of_ble_eq_true rfl))
        have ne381 : ApartL (S29) p372 := s361.apart_new (n375 (Nat.le_of_ble_eq_true rfl))
        have ne382 : ApartL (S59) p372 := s362.apart_new (n375 (Nat.le_of_ble_eq_true rfl))
        have ne383 : ApartL (S60) p372 := s363.apart_new (n375 (Nat.le_of_ble_eq_true rfl))
        have ne384 : ApartL (S97) p372 := s364.apart_new (n375 (Nat.le_of_ble_eq_true rfl))
        have ne385 : ApartL (S98) p372 := s365.apart_new (n375 (Nat.le_of_ble_eq_true rfl))
        have ne386 : ApartL (S172) p372 := nH354.apart_new (n375 (Nat.le_of_ble_eq_true rfl))
        have ne387 : ApartL (S173) p372 := mH354.apart_new (n375 (Nat.le_of_ble_eq_true rfl))
        have ne388 : ApartL (S238) p372 := s366.apart_new (n375 (Nat.le_of_ble_eq_true rfl))
        have ne389 : ApartL (S239) p372 := s367.apart_new (n375 (Nat.le_of_ble_eq_true rfl))
        have b390 : E370 84 = .agg [S, Sk] := env_of st.inn hE 84 (by kernel_rfl)
        have b391 : E370 86 = .agg [.int .i64 v0, .int .i64 v1, .flt .f32 v2, .flt .f32 v3, .flt .f32 v4, .flt .f32 v5] := env_of st.inn hE 86 (by kernel_rfl)
        have b392 : E370 88 = .flt .f32 bd := env_of st.inn hE 88 (by kernel_rfl)
        have b393 : E370 8 = .ptr p6 0 := env_of st.inn hE 8 (by kernel_rfl)
        have b394 : E370 9 = .int .i64 c := env_of st.inn hE 9 (by kernel_rfl)
        have b395 : E370 11 = .ptr p125 0 := env_of st.inn hE 11 (by kernel_rfl)
        have b396 : E370 15 = .int .i64 (1 + 3 * (P.length : Int) + 6 * (Q.length : Int)) := env_of st.inn hE 15 (by kernel_rfl)
        have b397 : E370 14 = .int .i64 (1 + 3 * (P.length : Int) + 6 * (Q.length : Int)) := env_of st.inn hE 14 (by kernel_rfl)
        have g398 : Grew H354 H370 := (st.kept.grew (Nat.le_of_ble_eq_true (by kernel_rfl)))
        have g399 : Grew H H370 := Grew.trans g355 g398
        have r400 := g398.at r356
        have r401 := g398.at r357
        have r402 := g398.at r358
        have r403 := g398.at r359
        have s404 := s360.grew g398
        have s405 := s361.grew g398
        have s406 := s362.grew g398
        have s407 := s363.grew g398
        have s408 := s364.grew g398
        have s409 := s365.grew g398
        have s410 := nH354.grew g398
        have s411 := mH354.grew g398
        have s412 := s366.grew g398
        have s413 := s367.grew g398
        clear st hE vs ls
        refine res_kid (free := false) (d := (some 85)) (f := 15) (args := [.tmp 84]) (by kernel_rfl) (R := fun z H' => Grew H370 H' ∧ ∃ S0' S1', z = .agg [S0', S1'] ∧ SlW H' 3 ms S0' ∧ FreshS H370.next S0' ∧ SlW H' 6 ks S1' ∧ FreshS H370.next S1' ∧ ApartS S0' S1') ?_ ?_
        · show ACalls _ _ [E370 84] _ _
          rw [b390]
          exact k_toPoseGraph H370 ms hr S (hS.grew g399) mxms ks hrk Sk (hSk.grew g399) mxks
        rintro z H414 ⟨gH414, S415, S416, rfl, sS415, fS415, sS416, fS416, ap417⟩
        refine ⟨gH414, ?_⟩
        have ne418 : ApartL (S415) p372 := fS415.apartL (H370.lt_of_get r374)
        have ne419 : ApartL (S415) p6 := fS415.apartL (H370.lt_of_get r402)
        have ne420 : ApartL (S415) p125 := fS415.apartL (H370.lt_of_get r403)
        have ne421 : ApartS (S415) (S28) := fS415.apartS s404.lt
        have ne422 : ApartS (S415) (S29) := fS415.apartS s405.lt
        have ne423 : ApartS (S415) (S59) := fS415.apartS s406.lt
        have ne424 : ApartS (S415) (S60) := fS415.apartS s407.lt
        have ne425 : ApartS (S415) (S97) := fS415.apartS s408.lt
        have ne426 : ApartS (S415) (S98) := fS415.apartS s409.lt
        have ne427 : ApartS (S415) (S172) := fS415.apartS s410.lt
        have ne428 : ApartS (S415) (S173) := fS415.apartS s411.lt
        have ne429 : ApartS (S415) (S238) := fS415.apartS s412.lt
        have ne430 : ApartS (S415) (S239) := fS415.apartS s413.lt
        have fr431 : FreshS H.next (S415) := fS415.mono g399.next
        have ne432 : ApartL (S416) p372 := fS416.apartL (H370.lt_of_get r374)
        have ne433 : ApartL (S416) p6 := fS416.apartL (H370.lt_of_get r402)
        have ne434 : ApartL (S416) p125 := fS416.apartL (H370.lt_of_get r403)
        have ne435 : ApartS (S416) (S28) := fS416.apartS s404.lt
        have ne436 : ApartS (S416) (S29) := fS416.apartS s405.lt
        have ne437 : ApartS (S416) (S59) := fS416.apartS s406.lt
        have ne438 : ApartS (S416) (S60) := fS416.apartS s407.lt
        have ne439 : ApartS (S416) (S97) := fS416.apartS s408.lt
        have ne440 : ApartS (S416) (S98) := fS416.apartS s409.lt
        have ne441 : ApartS (S416) (S172) := fS416.apartS s410.lt
        have ne442 : ApartS (S416) (S173) := fS416.apartS s411.lt
        have ne443 : ApartS (S416) (S238) := fS416.apartS s412.lt
        have ne444 : ApartS (S416) (S239) := fS416.apartS s413.lt
        have fr445 : FreshS H.next (S416) := fS416.mono g399.next
        have g446 : Grew H H414 := Grew.trans g399 gH414
        have r447 := gH414.at r374
        have r448 := gH414.at r402
        have r449 := gH414.at r403
        have s450 := s404.grew gH414
        have s451 := s405.grew gH414
        have s452 := s406.grew gH414
        have s453 := s407.grew gH414
        have s454 := s408.grew gH414
        have s455 := s409.grew gH414
        have s456 := s410.grew gH414
        have s457 := s411.grew gH414
        have s458 := s412.grew gH414
        have s459 := s413.grew gH414
        refine run_mn (φ := φ0) (pm := pmR 1 [(.call 41 [.agg [.nd 2 (.int .i64), .nd 3 (.int .i64), .nd 4 (.flt .f32), .nd 5 (.flt .f32), .nd 6 (.flt .f32), .nd 7 (.flt .f32)]], .agg [.nd 2 (.int .i64), .nd 3 (.int .i64), .nd 4 (.flt .f32), .nd 5 (.flt .f32), .nd 6 (.flt .f32), .nd 7 (.flt .f32)])] 0) 20 (nk := [(.atom 0, .one), (.atom 1, .one), (.atom 2, .int .i64), (.atom 3, .int .i64), (.atom 4, .flt .f32), (.atom 5, .flt .f32), (.atom 6, .flt .f32), (.atom 7, .flt .f32), (.atom 8, .flt .f32), (.atom 9, .int .i64), (.atom 10, .int .i64), (.atom 11, .one), (.atom 12, .one), (.atom 13, .one), (.atom 14, .one), (.atom 15, .one), (.atom 16, .one), (.atom 17, .one), (.atom 18, .one), (.atom 19, .one), (.atom 20, .one), (.atom 21, .int .i64), (.atom 22, .int .i64), (.atom 23, .one), (.atom 24, .one)]) (fs := []) (xs := [S, Sk, .int .i64 v0, .int .i64 v1, .flt .f32 v2, .flt .f32 v3, .flt .f32 v4, .flt .f32 v5, .flt .f32 bd, .int .i64 c, .int .i64 q1, S28, S29, S59, S60, S97, S98, S172, S173, S238, S239, .int .i64 (1 + 3 * (ms.length : Int) + 6 * (ks.length : Int)), .int .i64 (1 + 3 * (P.length : Int) + 6 * (Q.length : Int)), S415, S416]) (ws := [⟨p372, 0, [.lit .nilslice, .lit .nilslice], false⟩, ⟨p6, 0, [.nd 13 .one, .nd 14 .one], true⟩, ⟨p125, 0, [.nd 17 .one, .nd 18 .one], true⟩]) (env := [(84, .agg [.nd 0 .one, .nd 1 .one]), (86, .agg [.nd 2 (.int .i64), .nd 3 (.int .i64), .nd 4 (.flt .f32), .nd 5 (.flt .f32), .nd 6 (.flt .f32), .nd 7 (.flt .f32)]), (88, .nd 8 (.flt .f32)), (16, .ptr 0 0), (8, .ptr 1 0), (9, .nd 9 (.int .i64)), (11, .ptr 2 0), (15, .nd 22 (.int .i64)), (14, .nd 22 (.int .i64)), (85, .agg [.nd 23 .one, .nd 24 .one])]) ?_ ?_ tb_ok ap_ok ?_
        · refine midN_in ?_ .nil _ ?_ ?_ ?_
          · exact (.cons rfl (slOne hS) (.cons rfl (slOne hSk) (.cons rfl ⟨_, rfl⟩ (.cons rfl ⟨_, rfl⟩ (.cons rfl ⟨_, rfl, o2⟩ (.cons rfl ⟨_, rfl, o3⟩ (.cons rfl ⟨_, rfl, o4⟩ (.cons rfl ⟨_, rfl, o5⟩ (.cons rfl ⟨_, rfl, hbd⟩ (.cons rfl ⟨_, rfl⟩ (.cons rfl ⟨_, rfl⟩ (.cons rfl sS28.one (.cons rfl sS29.one (.cons rfl sS59.one (.cons rfl sS60.one (.cons rfl sS97.one (.cons rfl sS98.one (.cons rfl sS172.one (.cons rfl sS173.one (.cons rfl sS238.one (.cons rfl sS239.one (.cons rfl ⟨_, rfl⟩ (.cons rfl ⟨_, rfl⟩ (.cons rfl sS415.one (.cons rfl sS416.one .nil)))))))))))))))))))))))))
          · exact (.cons (win_row r447 (dlCons (dLit rfl) (dlCons (dLit rfl) dlNil))) (.cons (win_own r448 (dlCons (dNd rfl sS59.one) (dlCons (dNd rfl sS60.one) dlNil))) (.cons (win_own r449 (dlCons (dNd rfl sS172.one) (dlCons (dNd rfl sS173.one) dlNil))) .nil)))
          · exact ⟨(fun v hv h => (by simp at hv; rcases hv with rfl | rfl <;> first | (simp at h; done) | exact Apart.ne (by assumption) | exact (Apart.ne (by assumption)).symm)), ⟨(fun v hv h => (by simp at hv; rcases hv with rfl <;> first | (simp at h; done) | exact Apart.ne (by assumption) | exact (Apart.ne (by assumption)).symm)), ⟨(fun v hv => (by cases hv)), trivial⟩⟩⟩
          · exact (.cons (rule_call (args := [.agg [.int .i64 v0, .int .i64 v1, .flt .f32 v2, .flt .f32 v3, .flt .f32 v4, .flt .f32 v5]]) (dlCons (dAgg (dlCons (dNd rfl ⟨_, rfl⟩) (dlCons (dNd rfl ⟨_, rfl⟩) (dlCons (dNd rfl ⟨_, rfl, o2⟩) (dlCons (dNd rfl ⟨_, rfl, o3⟩) (dlCons (dNd rfl ⟨_, rfl, o4⟩) (dlCons (dNd rfl ⟨_, rfl, o5⟩) dlNil))))))) dlNil) (dAgg (dlCons (dNd rfl ⟨_, rfl⟩) (dlCons (dNd rfl ⟨_, rfl⟩) (dlCons (dNd rfl ⟨_, rfl, o2⟩) (dlCons (dNd rfl ⟨_, rfl, o3⟩) (dlCons (dNd rfl ⟨_, rfl, o4⟩) (dlCons (dNd rfl ⟨_, rfl, o5⟩) dlNil))))))) (fun H9 hk => k_toLink v0 v1 v2 v3 v4 v5 o2 o3 o4 o5 H9)) .nil)
        · exact (envEq (put_ne rfl b390) (dAgg (dlCons (dNd rfl (slOne hS)) (dlCons (dNd rfl (slOne hSk)) dlNil))) (envEq (put_ne rfl b391) (dAgg (dlCons (dNd rfl ⟨_, rfl⟩) (dlCons (dNd rfl ⟨_, rfl⟩) (dlCons (dNd rfl ⟨_, rfl, o2⟩) (dlCons (dNd rfl ⟨_, rfl, o3⟩) (dlCons (dNd rfl ⟨_, rfl, o4⟩) (dlCons (dNd rfl ⟨_, rfl, o5⟩) dlNil))))))) (envEq (put_ne rfl b392) (dNd rfl ⟨_, rfl, hbd⟩) (envEq (put_ne rfl e373) (dPtr (l := p372) (o := 0) rfl) (envEq (put_ne rfl b393) (dPtr (l := p6) (o := 0) rfl) (envEq (put_ne rfl b394) (dNd rfl ⟨_, rfl⟩) (envEq (put_ne rfl b395) (dPtr (l := p125) (o := 0) rfl) (envEq (put_ne rfl b396) (dNd rfl ⟨_, rfl⟩) (envEq (put_ne rfl b397) (dNd rfl ⟨_, rfl⟩) (envEq put_same (dAgg (dlCons (dNd rfl sS415.one) (dlCons (dNd rfl sS416.one) dlNil))) envNil))))))))))
        refine all1 (by kernel_rfl) ?_
        intro vs ls H460 E460 st hE
        have b461 : E460 85 = .agg [S415, S416] := env_of st.inn hE 85 (by kernel_rfl)
        have b462 : E460 87 = .agg [.int .i64 v0, .int .i64 v1, .flt .f32 v2, .flt .f32 v3, .flt .f32 v4, .flt .f32 v5] := env_of st.inn hE 87 (by kernel_rfl)
        have b463 : E460 88 = .flt .f32 bd := env_of st.inn hE 88 (by kernel_rfl)
        have b464 : E460 16 = .ptr p372 0 := env_of st.inn hE 16 (by kernel_rfl)
        have b465 : E460 8 = .ptr p6 0 := env_of st.inn hE 8 (by kernel_rfl)
        have b466 : E460 9 = .int .i64 c := env_of st.inn hE 9 (by kernel_rfl)
        have b467 : E460 11 = .ptr p125 0 := env_of st.inn hE 11 (by kernel_rfl)
        have b468 : E460 15 = .int .i64 (1 + 3 * (P.length : Int) + 6 * (Q.length : Int)) := env_of st.inn hE 15 (by kernel_rfl)
        have b469 : E460 14 = .int .i64 (1 + 3 * (P.length : Int) + 6 * (Q.length : Int)) := env_of st.inn hE 14 (by kernel_rfl)
        have g470 : Grew H414 H460 := (st.kept.grew (Nat.le_of_ble_eq_true (by kernel_rfl)))
        have g471 : Grew H H460 := Grew.trans g446 g470
        have r472 := g470.at r447
        have r473 := g470.at r448
        have r474 := g470.at r449
        have s475 := s450.grew g470
        have s476 := s451.grew g470
        have s477 := s452.grew g470
        have s478 := s453.grew g470
        have s479 := s454.grew g470
        have s480 := s455.grew g470
        have s481 := s456.grew g470
        have s482 := s457.grew g470
        have s483 := s458.grew g470
        have s484 := s459.grew g470
        have s485 := sS415.grew g470
        have s486 := sS416.grew g470
        clear st hE vs ls
        refine res_kid (free := false) (d := (some 89)) (f := 42) (args := [.tmp 85, .tmp 87, .tmp 88]) (by kernel_rfl) (R := fun z H' => Grew H460 H' ∧ ∃ S' Sk', z = .tuple [.agg [S', Sk'], .int .i64 c] ∧ SlW H' 3 P S' ∧ FreshS H460.next S' ∧ SlW H' 6 Q Sk' ∧ FreshS H460.next Sk' ∧ ApartS S' Sk') ?_ ?_
        · show ACalls _ _ [E460 85, E460 87, E460 88] _ _
          rw [b461, b462, b463]
          exact (by have h := k_impl_TakeLoop H460 ms hr S415 s485.toL mxms ks hrk S416 s486.toL mxks v0 v1 v2 v3 v4 v5 o2 o3 o4 o5 bd hbd; rw [hadd] at h; exact h)
        rintro z H487 ⟨gH487, S488, S489, rfl, sS488, fS488, sS489, fS489, ap490⟩
        refine ⟨gH487, ?_⟩
        have ne491 : ApartL (S488) p372 := fS488.apartL (H460.lt_of_get r472)
        have ne492 : ApartL (S488) p6 := fS488.apartL (H460.lt_of_get r473)
        have ne493 : ApartL (S488) p125 := fS488.apartL (H460.lt_of_get r474)
        have ne494 : ApartS (S488) (S28) := fS488.apartS s475.lt
        have ne495 : ApartS (S488) (S29) := fS488.apartS s476.lt
        have ne496 : ApartS (S488) (S59) := fS488.apartS s477.lt
        have ne497 : ApartS (S488) (S60) := fS488.apartS s478.lt
        have ne498 : ApartS (S488) (S97) := fS488.apartS s479.lt
        have ne499 : ApartS (S488) (S98) := fS488.apartS s480.lt
        have ne500 : ApartS (S488) (S172) := fS488.apartS s481.lt
        have ne501 : ApartS (S488) (S173) := fS488.apartS s482.lt
        have ne502 : ApartS (S488) (S238) := fS488.apartS s483.lt
        have ne503 : ApartS (S488) (S239) := fS488.apartS s484.lt
        have ne504 : ApartS (S488) (S415) := fS488.apartS s485.lt
        have ne505 : ApartS (S488) (S416) := fS488.apartS s486.lt
        have fr506 : FreshS H.next (S488) := fS488.mono g471.next
        have ne507 : ApartL (S489) p372 := fS489.apartL (H460.lt_of_get r472)
        have ne508 : ApartL (S489) p6 := fS489.apartL (H460.lt_of_get r473)
        have ne509 : ApartL (S489) p125 := fS489.apartL (H460.lt_of_get r474)
        have ne510 : ApartS (S489) (S28) := fS489.apartS s475.lt
        have ne511 : ApartS (S489) (S29) := fS489.apartS s476.lt
        have ne512 : ApartS (S489) (S59) := fS489.apartS s477.lt
        have ne513 : ApartS (S489) (S60) := fS489.apartS s478.lt
        have ne514 : ApartS (S489) (S97) := fS489.apartS s479.lt
        have ne515 : ApartS (S489) (S98) := fS489.apartS s480.lt
        have ne516 : ApartS (S489) (S172) := fS489.apartS s481.lt
        have ne517 : ApartS (S489) (S173) := fS489.apartS s482.lt
        have ne518 : ApartS (S489) (S238) := fS489.apartS s483.lt
        have ne519 : ApartS (S489) (S239) := fS489.apartS s484.lt
        have ne520 : ApartS (S489) (S415) := fS489.apartS s485.lt
        have ne521 : ApartS (S489) (S416) := fS489.apartS s486.lt
        have fr522 : FreshS H.next (S489) := fS489.mono g471.next
        have g523 : Grew H H487 := Grew.trans g471 gH487
        have r524 := gH487.at r472
        have r525 := gH487.at r473
        have r526 := gH487.at r474
        have s527 := s475.grew gH487
        have s528 := s476.grew gH487
        have s529 := s477.grew gH487
        have s530 := s478.grew gH487
        have s531 := s479.grew gH487
        have s532 := s480.grew gH487
        have s533 := s481.grew gH487
        have s534 := s482.grew gH487
        have s535 := s483.grew gH487
        have s536 := s484.grew gH487
        have s537 := s485.grew gH487
        have s538 := s486.grew gH487
        refine run_mn (φ := φ0) (pm := pmR 0 [(.call 17 [.agg [.nd 25 .one, .nd 26 .one], .agg [.nd 13 .one, .nd 14 .one]], .lit (.bool true)), (.call 39 [.agg [.nd 17 .one, .nd 18 .one], .lit (.int .i64 1)], .nd 22 (.int .i64))] 0) 20 (nk := [(.atom 0, .one), (.atom 1, .one), (.atom 2, .int .i64), (.atom 3, .int .i64), (.atom 4, .flt .f32), (.atom 5, .flt .f32), (.atom 6, .flt .f32), (.atom 7, .flt .f32), (.atom 8, .flt .f32), (.atom 9, .int .i64), (.atom 10, .int .i64), (.atom 11, .one), (.atom 12, .one), (.atom 13, .one), (.atom 14, .one), (.atom 15, .one), (.atom 16, .one), (.atom 17, .one), (.atom 18, .one), (.atom 19, .one), (.atom 20, .one), (.atom 21, .int .i64), (.atom 22, .int .i64), (.atom 23, .one), (.atom 24, .one), (.atom 25, .one), (.atom 26, .one)]) (fs := []) (xs := [S, Sk, .int .i64 v0, .int .i64 v1, .flt .f32 v2, .flt .f32 v3, .flt .f32 v4, .flt .f32 v5, .flt .f32 bd, .int .i64 c, .int .i64 q1, S28, S29, S59, S60, S97, S98, S172, S173, S238, S239, .int .i64 (1 + 3 * (ms.length : Int) + 6 * (ks.length : Int)), .int .i64 (1 + 3 * (P.length : Int) + 6 * (Q.length : Int)), S415, S416, S488, S489]) (ws := [⟨p6, 0, [.nd 13 .one, .nd 14 .one], true⟩, ⟨p125, 0, [.nd 17 .one, .nd 18 .one], true⟩, ⟨p372, 0, [.lit .nilslice, .lit .nilslice], true⟩]) (env := [(85, .agg [.nd 23 .one, .nd 24 .one]), (87, .agg [.nd 2 (.int .i64), .nd 3 (.int .i64), .nd 4 (.flt .f32), .nd 5 (.flt .f32), .nd 6 (.flt .f32), .nd 7 (.flt .f32)]), (88, .nd 8 (.flt .f32)), (16, .ptr 2 0), (8, .ptr 0 0), (9, .nd 9 (.int .i64)), (11, .ptr 1 0), (15, .nd 22 (.int .i64)), (14, .nd 22 (.int .i64)), (89, .tup [.agg [.nd 25 .one, .nd 26 .one], .nd 9 (.int .i64)])]) ?_ ?_ tb_ok ap_ok ?_
        · refine midN_in ?_ .nil _ ?_ ?_ ?_
          · exact (.cons rfl (slOne hS) (.cons rfl (slOne hSk) (.cons rfl ⟨_, rfl⟩ (.cons rfl ⟨_, rfl⟩ (.cons rfl ⟨_, rfl, o2⟩ (.cons rfl ⟨_, rfl, o3⟩ (.cons rfl ⟨_, rfl, o4⟩ (.cons rfl ⟨_, rfl, o5⟩ (.cons rfl ⟨_, rfl, hbd⟩ (.cons rfl ⟨_, rfl⟩ (.cons rfl ⟨_, rfl⟩ (.cons rfl sS28.one (.cons rfl sS29.one (.cons rfl sS59.one (.cons rfl sS60.one (.cons rfl sS97.one (.cons rfl sS98.one (.cons rfl sS172.one (.cons rfl sS173.one (.cons rfl sS238.one (.cons rfl sS239.one (.cons rfl ⟨_, rfl⟩ (.cons rfl ⟨_, rfl⟩ (.cons rfl sS415.one (.cons rfl sS416.one (.cons rfl sS488.one (.cons rfl sS489.one .nil)))))))))))))))))))))))))))
          · exact (.cons (win_own r525 (dlCons (dNd rfl sS59.one) (dlCons (dNd rfl sS60.one) dlNil))) (.cons (win_own r526 (dlCons (dNd rfl sS172.one) (dlCons (dNd rfl sS173.one) dlNil))) (.cons (win_own r524 (dlCons (dLit rfl) (dlCons (dLit rfl) dlNil))) .nil)))
          · exact ⟨(fun v hv h => (by simp at hv; rcases hv with rfl | rfl <;> first | (simp at h; done) | exact Apart.ne (by assumption) | exact (Apart.ne (by assumption)).symm)), ⟨(fun v hv h => (by simp at hv; rcases hv with rfl <;> first | (simp at h; done) | exact Apart.ne (by assumption) | exact (Apart.ne (by assumption)).symm)), ⟨(fun v hv => (by cases hv)), trivial⟩⟩⟩
          · exact (.cons (rule_call (args := [.agg [S488, S489], .agg [S59, S60]]) (dlCons (dAgg (dlCons (dNd rfl sS488.one) (dlCons (dNd rfl sS489.one) dlNil))) (dlCons (dAgg (dlCons (dNd rfl sS59.one) (dlCons (dNd rfl sS60.one) dlNil))) dlNil)) (dLit rfl) (fun H9 hk => k_eqPoseGraph H9 P hP S488 S59 ((sS488.keep hk ⟨by assumption, ⟨by assumption, ⟨by assumption, trivial⟩⟩⟩)).toL ((s529.keep hk ⟨by assumption, ⟨by assumption, ⟨by assumption, trivial⟩⟩⟩)).toL (mx40 mxP) Q hQ S489 S60 ((sS489.keep hk ⟨by assumption, ⟨by assumption, ⟨by assumption, trivial⟩⟩⟩)).toL ((s530.keep hk ⟨by assumption, ⟨by assumption, ⟨by assumption, trivial⟩⟩⟩)).toL (mx40 mxQ))) (.cons (rule_call (args := [.agg [S172, S173], .int .i64 1]) (dlCons (dAgg (dlCons (dNd rfl sS172.one) (dlCons (dNd rfl sS173.one) dlNil))) (dlCons (dLit rfl) dlNil)) (dNd rfl ⟨_, rfl⟩) (fun H9 hk => w_heldPoseGraph H9 1 P.length Q.length S172 S173 ((s533.keep hk ⟨by assumption, ⟨by assumption, ⟨by assumption, trivial⟩⟩⟩)).toL ((s534.keep hk ⟨by assumption, ⟨by assumption, ⟨by assumption, trivial⟩⟩⟩)).toL (by decide) (by decide) mxP mxQ)) .nil))
        · exact (envEq (put_ne rfl b461) (dAgg (dlCons (dNd rfl sS415.one) (dlCons (dNd rfl sS416.one) dlNil))) (envEq (put_ne rfl b462) (dAgg (dlCons (dNd rfl ⟨_, rfl⟩) (dlCons (dNd rfl ⟨_, rfl⟩) (dlCons (dNd rfl ⟨_, rfl, o2⟩) (dlCons (dNd rfl ⟨_, rfl, o3⟩) (dlCons (dNd rfl ⟨_, rfl, o4⟩) (dlCons (dNd rfl ⟨_, rfl, o5⟩) dlNil))))))) (envEq (put_ne rfl b463) (dNd rfl ⟨_, rfl, hbd⟩) (envEq (put_ne rfl b464) (dPtr (l := p372) (o := 0) rfl) (envEq (put_ne rfl b465) (dPtr (l := p6) (o := 0) rfl) (envEq (put_ne rfl b466) (dNd rfl ⟨_, rfl⟩) (envEq (put_ne rfl b467) (dPtr (l := p125) (o := 0) rfl) (envEq (put_ne rfl b468) (dNd rfl ⟨_, rfl⟩) (envEq (put_ne rfl b469) (dNd rfl ⟨_, rfl⟩) (envEq put_same (dTup' (dlCons (dAgg (dlCons (dNd rfl sS488.one) (dlCons (dNd rfl sS489.one) dlNil))) (dlCons (dNd rfl ⟨_, rfl⟩) dlNil))) envNil))))))))))
        refine all2 (by kernel_rfl) ?_ ?_
        ·
          intro vs ls H539 E539 st hE
          have f540 : (1 + 3 * (P.length : Int) + 6 * (Q.length : Int)) < 0 := of_decide_eq_true (bfact (x := decide ((1 + 3 * (P.length : Int) + 6 * (Q.length : Int)) < 0)) st.inn 0 (by kernel_rfl))
          exact absurd f540 (by omega)
        ·
          intro vs ls H541 E541 st hE
          have f542 : ¬ ((1 + 3 * (P.length : Int) + 6 * (Q.length : Int)) < 0) := of_decide_eq_false (bfact (x := decide ((1 + 3 * (P.length : Int) + 6 * (Q.length : Int)) < 0)) st.inn 0 (by kernel_rfl))
          exact res_ex (by kernel_rfl) (end_same st.inn hE (.inr rfl) (a := .bool true) (by kernel_rfl) (Nat.le_trans g523.next st.kept.1) rfl)
end Go.Proofs.Ytcmoeocemmeofaa
