/- Contracts of the law's words for graphs: sizes, copies, comparisons. -/
import Derived.Test.YtcmoeocemmeofaaTGraphB
set_option linter.unusedVariables false
set_option linter.unusedSimpArgs false
namespace Go.Proofs.Ytcmoeocemmeofaa
open Go.Ab
set_option maxRecDepth 100000
set_option maxHeartbeats 1000000
attribute [local irreducible] Res
theorem w_toPoseS (H : AHeap) (ms : List (List AV)) (hr : Recs KP ms) (S : AV) (hS : SlL H 3 ms S) (hmax : ms.length ≤ 1048576) : ACalls Try.prog 21 [S] H fun r H' => Grew H H' ∧ SlW H' 3 ms r ∧ FreshS H.next r := by
  refine (k_toPoseS H ms hr S hS hmax).mono ?_
  rintro r H' ⟨g, l, hl, rfl, row⟩
  exact ⟨g, .sl (rest := []) (by simpa using row) rfl (Nat.le_refl _), .of_le hl⟩
theorem w_toLinkS (H : AHeap) (ms : List (List AV)) (hr : Recs KL ms) (S : AV) (hS : SlL H 6 ms S) (hmax : ms.length ≤ 1048576) : ACalls Try.prog 49 [S] H fun r H' => Grew H H' ∧ SlW H' 6 ms r ∧ FreshS H.next r := by
  refine (k_toLinkS H ms hr S hS hmax).mono ?_
  rintro r H' ⟨g, l, hl, rfl, row⟩
  exact ⟨g, .sl (rest := []) (by simpa using row) rfl (Nat.le_refl _), .of_le hl⟩
theorem k_szPoseGraph (H : AHeap) (ms : List (List AV)) (S : AV) (hS : SlL H 3 ms S) (hmx : ms.length ≤ 9223372036854775807) (ks : List (List AV)) (Sk : AV) (hSk : SlL H 6 ks Sk) (hmxk : ks.length ≤ 9223372036854775807) (left : Int) (h0 : -1 ≤ left) (h1 : left ≤ 4611686018427387904) : APure Try.prog 13 [.agg [S, Sk], .int .i64 left] H (.int .i64 (if left - ms.length < 0 then -1 else if left - ms.length - ks.length < 0 then -1 else left - ms.length - ks.length)) := by
  refine res_start h_laws_szPoseGraph (by simp) ?_
  obtain ⟨q1, kq1, hq1⟩ : ∃ r : Int, (∀ H9, Grew H H9 → APure Try.prog 18 [S, .int .i64 left] H9 (.int .i64 r)) ∧ (((left : Int) - (ms.length : Int) < 0 ∧ r = -1) ∨ (0 ≤ (left : Int) - (ms.length : Int) ∧ r = (left : Int) - (ms.length : Int))) := ⟨_, fun H9 hk => k_szPoseS H9 ms S (hS.grew (Grew.trans (Grew.refl _) hk)) left (by omega) (by omega) hmx, by split <;> omega⟩
  obtain ⟨q2, kq2, hq2⟩ : ∃ r : Int, (∀ H9, Grew H H9 → APure Try.prog 47 [Sk, .int .i64 q1] H9 (.int .i64 r)) ∧ (((q1 : Int) - (ks.length : Int) < 0 ∧ r = -1) ∨ (0 ≤ (q1 : Int) - (ks.length : Int) ∧ r = (q1 : Int) - (ks.length : Int))) := ⟨_, fun H9 hk => k_szLinkS H9 ks Sk (hSk.grew (Grew.trans (Grew.refl _) hk)) q1 (by omega) (by omega) hmxk, by split <;> omega⟩
  refine run_mn (φ := φ0) (pm := pmR 0 [(.call 18 [.nd 0 .one, .nd 2 (.int .i64)], .nd 3 (.int .i64)), (.call 47 [.nd 1 .one, .nd 3 (.int .i64)], .nd 4 (.int .i64))] 0) 20 (nk := [(.atom 0, .one), (.atom 1, .one), (.atom 2, .int .i64), (.atom 3, .int .i64), (.atom 4, .int .i64)]) (fs := []) (xs := [S, Sk, .int .i64 left, .int .i64 q1, .int .i64 q2]) (ws := []) (env := [(0, .agg [.nd 0 .one, .nd 1 .one]), (1, .nd 2 (.int .i64))]) ?_ ?_ tb_ok ap_ok ?_
  · refine midN_in ?_ .nil _ ?_ ?_ ?_
    · exact (.cons rfl (slOne hS) (.cons rfl (slOne hSk) (.cons rfl ⟨_, rfl⟩ (.cons rfl ⟨_, rfl⟩ (.cons rfl ⟨_, rfl⟩ .nil)))))
    · exact .nil
    · exact sepOk_ro rfl
    · exact (.cons (rule_call (args := [S, .int .i64 left]) (dlCons (dNd rfl (slOne hS)) (dlCons (dNd rfl ⟨_, rfl⟩) dlNil)) (dNd rfl ⟨_, rfl⟩) (fun H9 hk => kq1 H9 (hk.grew (Nat.le_refl _)))) (.cons (rule_call (args := [Sk, .int .i64 q1]) (dlCons (dNd rfl (slOne hSk)) (dlCons (dNd rfl ⟨_, rfl⟩) dlNil)) (dNd rfl ⟨_, rfl⟩) (fun H9 hk => kq2 H9 (hk.grew (Nat.le_refl _)))) .nil))
  · exact (envEq rfl (dAgg (dlCons (dNd rfl (slOne hS)) (dlCons (dNd rfl (slOne hSk)) dlNil))) (envEq rfl (dNd rfl ⟨_, rfl⟩) envNil))
  refine all3 (by kernel_rfl) ?_ ?_ ?_
  ·
    intro vs ls H3 E3 st hE
    have f4 : q1 < 0 := of_decide_eq_true (bfact (x := decide (q1 < 0)) st.inn 0 (by kernel_rfl))
    refine res_ex (by kernel_rfl) (end_flat st.inn hE (.inr rfl) (a := .int .i64 (-1)) (by kernel_rfl) (Grew.trans (Grew.refl _) (st.kept.grew (Nat.le_of_ble_eq_true (by kernel_rfl)))) rfl ⟨?_, rfl⟩)
    congr 1; split <;> (try split) <;> omega
  ·
    intro vs ls H5 E5 st hE
    have f6 : q2 < 0 := of_decide_eq_true (bfact (x := decide (q2 < 0)) st.inn 0 (by kernel_rfl))
    have f7 : ¬ (q1 < 0) := of_decide_eq_false (bfact (x := decide (q1 < 0)) st.inn 1 (by kernel_rfl))
    refine res_ex (by kernel_rfl) (end_flat st.inn hE (.inr rfl) (a := .int .i64 (-1)) (by kernel_rfl) (Grew.trans (Grew.refl _) (st.kept.grew (Nat.le_of_ble_eq_true (by kernel_rfl)))) rfl ⟨?_, rfl⟩)
    congr 1; split <;> (try split) <;> omega
  ·
    intro vs ls H8 E8 st hE
    have f9 : ¬ (q2 < 0) := of_decide_eq_false (bfact (x := decide (q2 < 0)) st.inn 0 (by kernel_rfl))
    have f10 : ¬ (q1 < 0) := of_decide_eq_false (bfact (x := decide (q1 < 0)) st.inn 1 (by kernel_rfl))
    refine res_ex (by kernel_rfl) (end_flat st.inn hE (.inr rfl) (a := .int .i64 q2) (by kernel_rfl) (Grew.trans (Grew.refl _) (st.kept.grew (Nat.le_of_ble_eq_true (by kernel_rfl)))) rfl ⟨?_, rfl⟩)
    congr 1; split <;> (try split) <;> omega
theorem k_toPoseGraph (H : AHeap) (ms : List (List AV)) (hr : Recs KP ms) (S : AV) (hS : SlL H 3 ms S) (mxms : ms.length ≤ 1048576) (ks : List (List AV)) (hrk : Recs KL ks) (Sk : AV) (hSk : SlL H 6 ks Sk) (mxks : ks.length ≤ 1048576) : ACalls Try.prog 15 [.agg [S, Sk]] H fun r H' => Grew H H' ∧ ∃ S' Sk', r = .agg [S', Sk'] ∧ SlW H' 3 ms S' ∧ FreshS H.next S' ∧ SlW H' 6 ks Sk' ∧ FreshS H.next Sk' ∧ ApartS S' Sk' := by
  refine res_start h_laws_toPoseGraph (by simp) ?_
  refine run_mn (φ := φ0) (pm := pmR 0 [] 0) 20 (nk := [(.atom 0, .one), (.atom 1, .one)]) (fs := []) (xs := [S, Sk]) (ws := []) (env := [(0, .agg [.nd 0 .one, .nd 1 .one])]) ?_ ?_ tb_ok ap_ok ?_
  · refine midN_in ?_ .nil _ ?_ ?_ ?_
    · exact (.cons rfl (slOne hS) (.cons rfl (slOne hSk) .nil))
    · exact .nil
    · exact sepOk_ro rfl
    · exact .nil
  · exact (envEq rfl (dAgg (dlCons (dNd rfl (slOne hS)) (dlCons (dNd rfl (slOne hSk)) dlNil))) envNil)
  refine all1 (by kernel_rfl) ?_
  intro vs ls H1 E1 st hE
  obtain ⟨p2, e3, r4, n5⟩ := ptr_of st.inn hE 3 2 (by kernel_rfl) (ds := [.nilslice, .nilslice]) (by kernel_rfl)
  have op2 : H.next ≤ p2 := Nat.le_trans (Nat.le_refl _) (n5 (Nat.le_of_ble_eq_true rfl))
  obtain ⟨p6, e7, r8, n9⟩ := ptr_of st.inn hE 1 0 (by kernel_rfl) (ds := [S, Sk]) (by kernel_rfl)
  have op6 : H.next ≤ p6 := Nat.le_trans (Nat.le_refl _) (n9 (Nat.le_of_ble_eq_true rfl))
  obtain ⟨p10, e11, r12, n13⟩ := ptr_of st.inn hE 2 1 (by kernel_rfl) (ds := [.nilslice, .nilslice]) (by kernel_rfl)
  have op10 : H.next ≤ p10 := Nat.le_trans (Nat.le_refl _) (n13 (Nat.le_of_ble_eq_true rfl))
  have ne14 : Apart p2 p6 := ⟨ptr_ne st.inn hE 3 2 1 0 (by kernel_rfl) (by kernel_rfl) (cs := [.lit .nilslice, .lit .nilslice]) (by kernel_rfl) (by decide) e3 e7⟩
  have ne15 : Apart p2 p10 := ⟨ptr_ne st.inn hE 3 2 2 1 (by kernel_rfl) (by kernel_rfl) (cs := [.lit .nilslice, .lit .nilslice]) (by kernel_rfl) (by decide) e3 e11⟩
  have ne16 : Apart p6 p10 := ⟨ptr_ne st.inn hE 1 0 2 1 (by kernel_rfl) (by kernel_rfl) (cs := [.nd 0 .one, .nd 1 .one]) (by kernel_rfl) (by decide) e7 e11⟩
  have b17 : E1 5 = S := env_of st.inn hE 5 (by kernel_rfl)
  have g18 : Grew H H1 := (st.kept.grew (Nat.le_of_ble_eq_true (by kernel_rfl)))
  have g19 : Grew H H1 := Grew.trans (Grew.refl _) g18
  clear st hE vs ls
  refine res_call (d := (some 6)) (f := 21) (args := [.tmp 5]) (by kernel_rfl) (R := fun z H' => Grew H1 H' ∧ SlW H' 3 ms z ∧ FreshS H1.next z) ?_ ?_
  · show ACalls _ _ [E1 5] _ _
    rw [b17]
    exact w_toPoseS H1 ms hr S (hS.grew g19) mxms
  rintro S20 H21 ⟨gS20, sS20, fS20⟩
  have ne22 : ApartL (S20) p2 := fS20.apartL (H1.lt_of_get r4)
  have ne23 : ApartL (S20) p6 := fS20.apartL (H1.lt_of_get r8)
  have ne24 : ApartL (S20) p10 := fS20.apartL (H1.lt_of_get r12)
  have fr25 : FreshS H.next (S20) := fS20.mono g19.next
  have g26 : Grew H H21 := Grew.trans g19 gS20
  have r27 := gS20.at r4
  have r28 := gS20.at r8
  have r29 := gS20.at r12
  refine run_mn (φ := φ0) (pm := pmR 2 [] 0) 20 (nk := [(.atom 0, .one), (.atom 1, .one), (.atom 2, .one)]) (fs := []) (xs := [S, Sk, S20]) (ws := [⟨p6, 0, [.nd 0 .one, .nd 1 .one], false⟩, ⟨p10, 0, [.lit .nilslice, .lit .nilslice], false⟩, ⟨p2, 0, [.lit .nilslice, .lit .nilslice], true⟩]) (env := [(5, .nd 0 .one), (3, .ptr 2 0), (1, .ptr 0 0), (2, .ptr 1 0), (6, .nd 2 .one)]) ?_ ?_ tb_ok ap_ok ?_
  · refine midN_in ?_ .nil _ ?_ ?_ ?_
    · exact (.cons rfl (slOne hS) (.cons rfl (slOne hSk) (.cons rfl sS20.one .nil)))
    · exact (.cons (win_row r28 (dlCons (dNd rfl (slOne hS)) (dlCons (dNd rfl (slOne hSk)) dlNil))) (.cons (win_row r29 (dlCons (dLit rfl) (dlCons (dLit rfl) dlNil))) (.cons (win_own r27 (dlCons (dLit rfl) (dlCons (dLit rfl) dlNil))) .nil)))
    · exact ⟨(fun v hv h => (by simp at hv; rcases hv with rfl | rfl <;> first | (simp at h; done) | exact Apart.ne (by assumption) | exact (Apart.ne (by assumption)).symm)), ⟨(fun v hv h => (by simp at hv; rcases hv with rfl <;> first | (simp at h; done) | exact Apart.ne (by assumption) | exact (Apart.ne (by assumption)).symm)), ⟨(fun v hv => (by cases hv)), trivial⟩⟩⟩
    · exact .nil
  · exact (envEq (put_ne rfl b17) (dNd rfl (slOne hS)) (envEq (put_ne rfl e3) (dPtr (l := p2) (o := 0) rfl) (envEq (put_ne rfl e7) (dPtr (l := p6) (o := 0) rfl) (envEq (put_ne rfl e11) (dPtr (l := p10) (o := 0) rfl) (envEq put_same (dNd rfl sS20.one) envNil)))))
  refine all1 (by kernel_rfl) ?_
  intro vs ls H30 E30 st hE
  have r31 : H30.get p2 = some (.row [S20, .nilslice] true) := row_whole st.inn 2 (l := p2) (b := 0) rfl (by kernel_rfl)
  have b32 : E30 9 = Sk := env_of st.inn hE 9 (by kernel_rfl)
  have b33 : E30 3 = .ptr p2 0 := env_of st.inn hE 3 (by kernel_rfl)
  have b34 : E30 2 = .ptr p10 0 := env_of st.inn hE 2 (by kernel_rfl)
  have g36 : Grew H H30 := grew_own g26 st.inn.kept ⟨op2, trivial⟩
  have r37 := kept_at st.inn.kept r28 ⟨by first | assumption | exact Apart.symm (by assumption), trivial⟩
  have r38 := kept_at st.inn.kept r29 ⟨by first | assumption | exact Apart.symm (by assumption), trivial⟩
  have s39 := sS20.keep st.inn.kept ⟨by assumption, trivial⟩
  clear st hE vs ls
  refine res_call (d := (some 10)) (f := 49) (args := [.tmp 9]) (by kernel_rfl) (R := fun z H' => Grew H30 H' ∧ SlW H' 6 ks z ∧ FreshS H30.next z) ?_ ?_
  · show ACalls _ _ [E30 9] _ _
    rw [b32]
    exact w_toLinkS H30 ks hrk Sk (hSk.grew g36) mxks
  rintro S40 H41 ⟨gS40, sS40, fS40⟩
  have ne42 : ApartL (S40) p10 := fS40.apartL (H30.lt_of_get r38)
  have ne43 : ApartL (S40) p2 := fS40.apartL (H30.lt_of_get r31)
  have ne44 : ApartS (S40) (S20) := fS40.apartS s39.lt
  have fr45 : FreshS H.next (S40) := fS40.mono g36.next
  have g46 : Grew H H41 := Grew.trans g36 gS40
  have r47 := gS40.at r38
  have r48 := gS40.at r31
  have s49 := s39.grew gS40
  refine run_mn (φ := φ0) (pm := pmR 0 [] 0) 20 (nk := [(.atom 0, .one), (.atom 1, .one), (.atom 2, .one), (.atom 3, .one)]) (fs := []) (xs := [S, Sk, S20, S40]) (ws := [⟨p2, 0, [.nd 2 .one, .lit .nilslice], true⟩, ⟨p10, 0, [.lit .nilslice, .lit .nilslice], true⟩]) (env := [(9, .nd 1 .one), (3, .ptr 0 0), (2, .ptr 1 0), (10, .nd 3 .one)]) ?_ ?_ tb_ok ap_ok ?_
  · refine midN_in ?_ .nil _ ?_ ?_ ?_
    · exact (.cons rfl (slOne hS) (.cons rfl (slOne hSk) (.cons rfl sS20.one (.cons rfl sS40.one .nil))))
    · exact (.cons (win_own r48 (dlCons (dNd rfl sS20.one) (dlCons (dLit rfl) dlNil))) (.cons (win_own r47 (dlCons (dLit rfl) (dlCons (dLit rfl) dlNil))) .nil))
    · exact ⟨(fun v hv h => (by simp at hv; rcases hv with rfl <;> first | (simp at h; done) | exact Apart.ne (by assumption) | exact (Apart.ne (by assumption)).symm)), ⟨(fun v hv => (by cases hv)), trivial⟩⟩
    · exact .nil
  · exact (envEq (put_ne rfl b32) (dNd rfl (slOne hSk)) (envEq (put_ne rfl b33) (dPtr (l := p2) (o := 0) rfl) (envEq (put_ne rfl b34) (dPtr (l := p10) (o := 0) rfl) (envEq put_same (dNd rfl sS40.one) envNil))))
  refine all1 (by kernel_rfl) ?_
  intro vs ls H50 E50 st hE
  have gz : Grew H H50 := (grew_own g46 (st.inn.kept) ⟨op2, ⟨op10, trivial⟩⟩)
  exact res_ex (by kernel_rfl) (end_same st.inn hE (.inr rfl) (a := .agg [S20, S40]) (by kernel_rfl) gz.next ⟨gz, _, _, rfl, (s49.keep st.inn.kept ⟨by assumption, ⟨by assumption, trivial⟩⟩), fr25, (sS40.keep st.inn.kept ⟨by assumption, ⟨by assumption, trivial⟩⟩), fr45, by first | assumption | exact ApartS.symm (by assumption)⟩)
theorem k_eqPoseGraph (H : AHeap) (ms : List (List AV)) (hr : Recs KP ms) (S S' : AV) (hS : SlL H 3 ms S) (hS' : SlL H 3 ms S') (hmx : ms.length < 2 ^ 40) (ks : List (List AV)) (hrk : Recs KL ks) (Sk Sk' : AV) (hSk : SlL H 6 ks Sk) (hSk' : SlL H 6 ks Sk') (hmxk : ks.length < 2 ^ 40) : APure Try.prog 17 [.agg [S, Sk], .agg [S', Sk']] H (.bool true) := by
  refine res_start h_laws_eqPoseGraph (by simp) ?_
  refine run_mn (φ := φ0) (pm := pmR 0 [(.call 23 [.nd 0 .one, .nd 2 .one], .lit (.bool true)), (.call 55 [.nd 1 .one, .nd 3 .one], .lit (.bool true))] 0) 20 (nk := [(.atom 0, .one), (.atom 1, .one), (.atom 2, .one), (.atom 3, .one)]) (fs := []) (xs := [S, Sk, S', Sk']) (ws := []) (env := [(0, .agg [.nd 0 .one, .nd 1 .one]), (1, .agg [.nd 2 .one, .nd 3 .one])]) ?_ ?_ tb_ok ap_ok ?_
  · refine midN_in ?_ .nil _ ?_ ?_ ?_
    · exact (.cons rfl (slOne hS) (.cons rfl (slOne hSk) (.cons rfl (slOne hS') (.cons rfl (slOne hSk') .nil))))
    · exact .nil
    · exact sepOk_ro rfl
    · exact (.cons (rule_call (args := [S, S']) (dlCons (dNd rfl (slOne hS)) (dlCons (dNd rfl (slOne hS')) dlNil)) (dLit rfl) (fun H9 hk => k_eqPoseS H9 ms hr _ _ (hS.grew (Grew.trans (Grew.refl _) (hk.grew (Nat.le_refl _)))) (hS'.grew (Grew.trans (Grew.refl _) (hk.grew (Nat.le_refl _)))) hmx)) (.cons (rule_call (args := [Sk, Sk']) (dlCons (dNd rfl (slOne hSk)) (dlCons (dNd rfl (slOne hSk')) dlNil)) (dLit rfl) (fun H9 hk => k_eqLinkS H9 ks hrk _ _ (hSk.grew (Grew.trans (Grew.refl _) (hk.grew (Nat.le_refl _)))) (hSk'.grew (Grew.trans (Grew.refl _) (hk.grew (Nat.le_refl _)))) hmxk)) .nil))
  · exact (envEq rfl (dAgg (dlCons (dNd rfl (slOne hS)) (dlCons (dNd rfl (slOne hSk)) dlNil))) (envEq rfl (dAgg (dlCons (dNd rfl (slOne hS')) (dlCons (dNd rfl (slOne hSk')) dlNil))) envNil))
  refine all1 (by kernel_rfl) ?_
  intro vs ls H1 E1 st hE
  refine res_ex (by kernel_rfl) (end_flat st.inn hE (.inr rfl) (a := .bool true) (by kernel_rfl) (Grew.trans (Grew.refl _) (st.kept.grew (Nat.le_of_ble_eq_true (by kernel_rfl)))) rfl ⟨?_, rfl⟩)
  rfl
theorem graphArg {H : AHeap} {a : AV} (h : FitArg H (true, [.sl [.flt .f32, .flt .f32, .flt .f32], .sl [.int .i64, .int .i64, .flt .f32, .flt .f32, .flt .f32, .flt .f32]]) a) : ∃ (ms : List (List AV)) (S : AV) (ks : List (List AV)) (Sk : AV), a = .agg [S, Sk] ∧ Recs KP ms ∧ SlL H 3 ms S ∧ ms.length ≤ 9223372036854775807 ∧ Recs KL ks ∧ SlL H 6 ks Sk ∧ ks.length ≤ 9223372036854775807 := by
  obtain ⟨cs, rfl, hl, hc⟩ := h
  match cs, hl with
  | [c0, c1], _ =>
    have h0 := hc 0 _ _ rfl rfl
    have h1 := hc 1 _ _ rfl rfl
    obtain ⟨ms, g1, g2, g3⟩ := slArg (ks := KP) (sz := 3) h0 rfl rfl
    obtain ⟨ks, k1, k2, k3⟩ := slArg (ks := KL) (sz := 6) h1 rfl rfl
    exact ⟨ms, c0, ks, c1, rfl, g1, g2, g3, k1, k2, k3⟩
end Go.Proofs.Ytcmoeocemmeofaa
