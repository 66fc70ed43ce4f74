/- Contracts: graphs that are swept once, or until nothing changes, by both. -/
import Derived.Test.YtcmoeocemmeofaaTSweep
import Derived.Test.YtcmoeocemmeofaaTAddLinkC
set_option linter.unusedVariables false
set_option linter.unusedSimpArgs false
namespace Go.Proofs.Ytcmoeocemmeofaa
open Go.Ab
set_option maxRecDepth 100000
set_option maxHeartbeats 1000000
attribute [local irreducible] Res
noncomputable def onceF (ms ks : List (List AV)) : List (List AV) × List (List AV) × Int × Int :=
 if okG ms ks = true then ((sweepF ms ks).1, ks, (sweepF ms ks).2, 0) else ([], [], 0, 1)
theorem sweepF_inv {ms ks : List (List AV)} (hr : Recs KP ms) (hok : okG ms ks = true) : Recs KP (sweepF ms ks).1 ∧ (sweepF ms ks).1.length = ms.length ∧ okG (sweepF ms ks).1 ks = true := ⟨(sweepT_inv hr hok _).1, (sweepT_inv hr hok _).2.1, (sweepT_inv hr hok _).2.2.1⟩
theorem k_impl_SweepOnce (H : AHeap) (ms : List (List AV)) (hr : Recs KP ms) (S : AV) (hS : SlL H 3 ms S) (mxms : ms.length ≤ 1048576) (ks : List (List AV)) (hrk : Recs KL ks) (Sk : AV) (hSk : SlL H 6 ks Sk) (mxks : ks.length ≤ 1048576) : ACalls Try.prog 44 [.agg [S, Sk]] H fun r H' => Grew H H' ∧ ∃ S' Sk', r = .tuple [.agg [S', Sk'], .int .i64 (onceF ms ks).2.2.1, .int .i64 (onceF ms ks).2.2.2] ∧ SlW H' 3 (onceF ms ks).1 S' ∧ FreshS H.next S' ∧ SlW H' 6 (onceF ms ks).2.1 Sk' ∧ FreshS H.next Sk' ∧ ApartS S' Sk' := by
 refine res_start h_impl_SweepOnce (by simp) ?_
 have q1 : KdsL [.one, .one, .bool] [S, Sk, .bool (okG ms ks)] := .cons (slOne hS) (.cons (slOne hSk) (.cons ⟨_, rfl⟩ .nil))
 refine run_mc (φ := φ0) (pm := pmR 0 [(.call 64 [.agg [n1 0, n1 1]], nB 2)] 0) 20 (ws := []) (env := [(0, .agg [n1 0, n1 1])]) q1 .nil (sepOk_ro rfl) (.cons (rule_call (args := [.agg [S, Sk]]) (dL q1) (dE q1) (fun H9 hk => k_impl_ValidGraph H9 ms hr S (hS.grew (Grew.trans (Grew.refl _) (hk.grew (Nat.le_refl _)))) (mx40 mxms) ks hrk Sk (hSk.grew (Grew.trans (Grew.refl _) (hk.grew (Nat.le_refl _)))) (mx40 mxks))) .nil) (eC q1 (.cons (t := 0) rfl .nil)) tb_ok ap_ok ?_
 refine all2 (by kernel_rfl) ?_ ?_
 ·
  intro vs ls H2 E2 st hE
  have f3 : (okG ms ks) = false := bf st 0
  have gz : Grew H H2 := (Grew.trans (Grew.refl _) (gk st))
  have hc : onceF ms ks = ([], [], 0, 1) := by unfold onceF; rw [if_neg (by rw [f3]; decide)]
  exact res_ex (by kernel_rfl) (end_same st.inn hE (.inr rfl) (a := .tuple [.agg [.nilslice, .nilslice], .int .i64 0, .int .i64 1]) (by kernel_rfl) gz.next (by rw [hc]; exact ⟨gz, _, _, rfl, (.nil rfl), FreshS.nil, (.nil rfl), FreshS.nil, ApartS.nil⟩))
 ·
  intro vs ls H4 E4 st hE
  have f5 : (okG ms ks) = true := bf st 0
  obtain ⟨p6, e7, r8, n9⟩ := ptr_of st.inn hE 2 1 (by kernel_rfl) (ds := [.nilslice, .nilslice]) (by kernel_rfl)
  have op6 : H.next ≤ p6 := Nat.le_trans (Nat.le_refl _) (n9 (Nat.le_of_ble_eq_true rfl))
  have b10 := eo st hE 11 (.agg [S, Sk])
  have g11 : Grew H H4 := (gk st)
  have g12 : Grew H H4 := Grew.trans (Grew.refl _) g11
  clear st hE vs ls
  refine res_call (d := (some 12)) (f := 80) (args := [.tmp 11]) (by kernel_rfl) (R := fun z H' => Grew H4 H' ∧ ∃ S0' S1', z = .agg [S0', S1'] ∧ SlF H' 3 ms S0' ∧ FreshS H4.next S0' ∧ SlF H' 6 ks S1' ∧ FreshS H4.next S1' ∧ ApartS S0' S1') ?_ ?_
  ·
   show ACalls _ _ [E4 11] _ _
   rw [b10]
   exact k_ownGraph H4 ms hr S (hS.grew g12) mxms ks hrk Sk (hSk.grew g12) mxks
  rintro z H13 ⟨gH13, S14, S15, rfl, sS14, fS14, sS15, fS15, ap16⟩
  have ne17 : ApartL (S14) p6 := fS14.apartL (H4.lt_of_get r8)
  have fr18 : FreshS H.next (S14) := fS14.mono g12.next
  have ne19 : ApartL (S15) p6 := fS15.apartL (H4.lt_of_get r8)
  have fr20 : FreshS H.next (S15) := fS15.mono g12.next
  have g21 : Grew H H13 := Grew.trans g12 gH13
  have r22 := gH13.at r8
  have q23 := q1.app (.cons sS14.one (.cons sS15.one .nil) : KdsL [.one, .one] [S14, S15])
  refine run_mc (φ := φ0) (pm := pmR 1 [] 0) 20 (ws := [⟨p6, 0, [.lit .nilslice, .lit .nilslice], false⟩]) (env := [(11, .agg [n1 0, n1 1]), (2, .ptr 0 0), (12, .agg [n1 3, n1 4])]) q23 (.cons (wR r22 q23) .nil) (sepOk_ro rfl) .nil (eC q23 (.cons (put_ne rfl b10) (.cons (put_ne rfl e7) (.cons put_same .nil)))) tb_ok ap_ok ?_
  refine all1 (by kernel_rfl) ?_
  intro vs ls H24 E24 st hE
  obtain ⟨p25, e26, r27, n28⟩ := ptr_of st.inn hE 5 1 (by kernel_rfl) (ds := [S14, S15]) (by kernel_rfl)
  have op25 : H.next ≤ p25 := Nat.le_trans g21.next (n28 (Nat.le_of_ble_eq_true rfl))
  have ne29 := apn r22 (n28 (Nat.le_of_ble_eq_true rfl))
  have ne30 : ApartL (S14) p25 := sS14.apart_new (n28 (Nat.le_of_ble_eq_true rfl))
  have ne31 : ApartL (S15) p25 := sS15.apart_new (n28 (Nat.le_of_ble_eq_true rfl))
  have b32 := eo st hE 13 (.agg [S14, S15])
  have b33 := eo st hE 2 (.ptr p6 0)
  have g34 : Grew H13 H24 := (gk st)
  have g35 : Grew H H24 := Grew.trans g21 g34
  have r36 := g34.at r22
  have s37 := sS14.grew g34
  have s38 := sS15.grew g34
  clear st hE vs ls
  refine res_call (d := (some 14)) (f := 81) (args := [.tmp 13]) (by kernel_rfl) (R := fun z H' => z = .int .i64 (sweepF ms ks).2 ∧ OnlyS S14 H24 H' ∧ SlW H' 3 (sweepF ms ks).1 S14) ?_ ?_
  ·
   show ACalls _ _ [E24 13] _ _
   rw [b32]
   exact k_sweep H24 ms hr S14 s37.toW (mx40 mxms) ks hrk S15 s38.toW (mx40 mxks) (by first | assumption | exact ApartS.symm (by assumption)) f5
  rintro z H39 ⟨rfl, o39, n39⟩
  have g40 : Grew H H39 := OnlyS.own g35 fr18 o39
  have r41 := o39.at r36 (by assumption)
  have r42 := o39.at r27 (by assumption)
  have s43 := s38.only o39 (by first | assumption | exact ApartS.symm (by assumption))
  have q44 := q23.app (.cons ⟨_, rfl⟩ .nil : KdsL [KI] [.int .i64 (sweepF ms ks).2])
  refine run_mc (φ := φ0) (pm := pmR 1 [] 0) 20 (ws := [⟨p25, 0, [n1 3, n1 4], false⟩, ⟨p6, 0, [.lit .nilslice, .lit .nilslice], true⟩]) (env := [(13, .agg [n1 3, n1 4]), (5, .ptr 0 0), (2, .ptr 1 0), (14, nI 5)]) q44 (.cons (wR r42 q44) (.cons (wO r41 q44) .nil)) (sepD (by repeat (first | exact .nil | refine .cons (by first | assumption | exact Apart.symm (by assumption)) ?_))) .nil (eC q44 (.cons (put_ne rfl b32) (.cons (put_ne rfl e26) (.cons (put_ne rfl b33) (.cons put_same .nil))))) tb_ok ap_ok ?_
  refine all1 (by kernel_rfl) ?_
  intro vs ls H45 E45 st hE
  have gz : Grew H H45 := (grew_own g40 (st.inn.kept) ⟨op6, trivial⟩)
  have hc : onceF ms ks = ((sweepF ms ks).1, ks, (sweepF ms ks).2, 0) := by unfold onceF; rw [if_pos f5]
  exact res_ex (by kernel_rfl) (end_same st.inn hE (.inr rfl) (a := .tuple [.agg [S14, S15], .int .i64 (sweepF ms ks).2, .int .i64 0]) (by kernel_rfl) gz.next (by rw [hc]; exact ⟨gz, _, _, rfl, (n39.keep st.inn.kept ⟨by assumption, trivial⟩), fr18, ((s43.keep st.inn.kept ⟨by assumption, trivial⟩)).toW, fr20, (by first | assumption | exact ApartS.symm (by assumption))⟩))
theorem k_spec_SweepOnce (H : AHeap) (ms : List (List AV)) (hr : Recs KP ms) (S : AV) (hS : SlL H 3 ms S) (mxms : ms.length ≤ 1048576) (ks : List (List AV)) (hrk : Recs KL ks) (Sk : AV) (hSk : SlL H 6 ks Sk) (mxks : ks.length ≤ 1048576) : ACalls Try.prog 43 [.agg [S, Sk]] H fun r H' => Grew H H' ∧ ∃ S' Sk', r = .tuple [.agg [S', Sk'], .int .i64 (onceF ms ks).2.2.1, .int .i64 (onceF ms ks).2.2.2] ∧ SlW H' 3 (onceF ms ks).1 S' ∧ FreshS H.next S' ∧ SlW H' 6 (onceF ms ks).2.1 Sk' ∧ FreshS H.next Sk' ∧ ApartS S' Sk' := by
 refine res_start h_spec_SweepOnce (by simp) ?_
 have q1 : KdsL [.one, .one] [S, Sk] := .cons (slOne hS) (.cons (slOne hSk) .nil)
 refine run_mc (φ := φ0) (pm := pmR 0 [] 0) 20 (ws := []) (env := [(0, .agg [n1 0, n1 1])]) q1 .nil (sepOk_ro rfl) .nil (eC q1 (.cons (t := 0) rfl .nil)) tb_ok ap_ok ?_
 refine all1 (by kernel_rfl) ?_
 intro vs ls H2 E2 st hE
 obtain ⟨p3, e4, r5, n6⟩ := ptr_of st.inn hE 1 0 (by kernel_rfl) (ds := [S, Sk]) (by kernel_rfl)
 have op3 : H.next ≤ p3 := Nat.le_trans (Nat.le_refl _) (n6 (Nat.le_of_ble_eq_true rfl))
 obtain ⟨p7, e8, r9, n10⟩ := ptr_of st.inn hE 2 1 (by kernel_rfl) (ds := [.nilslice, .nilslice]) (by kernel_rfl)
 have op7 : H.next ≤ p7 := Nat.le_trans (Nat.le_refl _) (n10 (Nat.le_of_ble_eq_true rfl))
 have ne11 : Apart p3 p7 := ⟨ptr_ne st.inn hE 1 0 2 1 (by kernel_rfl) (by kernel_rfl) (cs := [.nd 0 .one, .nd 1 .one]) (by kernel_rfl) (by decide) e4 e8⟩
 have g12 : Grew H H2 := (gk st)
 have g13 : Grew H H2 := Grew.trans (Grew.refl _) g12
 clear st hE vs ls
 refine res_call (d := (some 7)) (f := 61) (args := [.tmp 1]) (by kernel_rfl) (R := fun z H' => z = .bool (okG ms ks) ∧ H' = H2) ?_ ?_
 ·
  show ACalls _ _ [E2 1] _ _
  rw [e4]
  exact k_l06Ok H2 p3 ms hr S (hS.grew g13) (mx40 mxms) ks hrk Sk (hSk.grew g13) (mx40 mxks) r5
 rintro z H2 ⟨rfl, rfl⟩
 have q14 := q1.app (.cons ⟨_, rfl⟩ .nil : KdsL [.bool] [.bool (okG ms ks)])
 refine run_mc (φ := φ0) (pm := pmR 1 [] 0) 20 (ws := [⟨p3, 0, [n1 0, n1 1], false⟩, ⟨p7, 0, [.lit .nilslice, .lit .nilslice], true⟩]) (env := [(1, .ptr 0 0), (2, .ptr 1 0), (7, nB 2)]) q14 (.cons (wR r5 q14) (.cons (wO r9 q14) .nil)) (sepD (by repeat (first | exact .nil | refine .cons (by first | assumption | exact Apart.symm (by assumption)) ?_))) .nil (eC q14 (.cons (put_ne rfl e4) (.cons (put_ne rfl e8) (.cons put_same .nil)))) tb_ok ap_ok ?_
 refine all2 (by kernel_rfl) ?_ ?_
 ·
  intro vs ls H15 E15 st hE
  have f16 : (okG ms ks) = false := bf st 0
  have gz : Grew H H15 := (grew_own g13 (st.inn.kept) ⟨op7, trivial⟩)
  have hc : onceF ms ks = ([], [], 0, 1) := by unfold onceF; rw [if_neg (by rw [f16]; decide)]
  exact res_ex (by kernel_rfl) (end_same st.inn hE (.inr rfl) (a := .tuple [.agg [.nilslice, .nilslice], .int .i64 0, .int .i64 1]) (by kernel_rfl) gz.next (by rw [hc]; exact ⟨gz, _, _, rfl, (.nil rfl), FreshS.nil, (.nil rfl), FreshS.nil, ApartS.nil⟩))
 ·
  intro vs ls H17 E17 st hE
  have f18 : (okG ms ks) = true := bf st 0
  have b19 := eo st hE 1 (.ptr p3 0)
  have b20 := eo st hE 2 (.ptr p7 0)
  have g21 : Grew H2 H17 := (gk st)
  have g22 : Grew H H17 := Grew.trans g13 g21
  have r23 := g21.at r5
  have r24 := g21.at r9
  clear st hE vs ls
  refine res_call (d := (some 10)) (f := 78) (args := [.tmp 1]) (by kernel_rfl) (R := fun z H' => Grew H17 H' ∧ ∃ S0' S1', z = .agg [S0', S1'] ∧ SlF H' 3 ms S0' ∧ FreshS H17.next S0' ∧ SlF H' 6 ks S1' ∧ FreshS H17.next S1' ∧ ApartS S0' S1') ?_ ?_
  ·
   show ACalls _ _ [E17 1] _ _
   rw [b19]
   exact k_l06Copy H17 p3 ms hr S (hS.grew g22) mxms ks hrk Sk (hSk.grew g22) mxks r23
  rintro z H25 ⟨gH25, S26, S27, rfl, sS26, fS26, sS27, fS27, ap28⟩
  have ne29 : ApartL (S26) p3 := fS26.apartL (H17.lt_of_get r23)
  have ne30 : ApartL (S26) p7 := fS26.apartL (H17.lt_of_get r24)
  have fr31 : FreshS H.next (S26) := fS26.mono g22.next
  have ne32 : ApartL (S27) p3 := fS27.apartL (H17.lt_of_get r23)
  have ne33 : ApartL (S27) p7 := fS27.apartL (H17.lt_of_get r24)
  have fr34 : FreshS H.next (S27) := fS27.mono g22.next
  have g35 : Grew H H25 := Grew.trans g22 gH25
  have r36 := gH25.at r23
  have r37 := gH25.at r24
  have q38 := q14.app (.cons sS26.one (.cons sS27.one .nil) : KdsL [.one, .one] [S26, S27])
  refine run_mc (φ := φ0) (pm := pmR 1 [] 0) 20 (ws := [⟨p3, 0, [n1 0, n1 1], false⟩, ⟨p7, 0, [.lit .nilslice, .lit .nilslice], true⟩]) (env := [(1, .ptr 0 0), (2, .ptr 1 0), (10, .agg [n1 3, n1 4])]) q38 (.cons (wR r36 q38) (.cons (wO r37 q38) .nil)) (sepD (by repeat (first | exact .nil | refine .cons (by first | assumption | exact Apart.symm (by assumption)) ?_))) .nil (eC q38 (.cons (put_ne rfl b19) (.cons (put_ne rfl b20) (.cons put_same .nil)))) tb_ok ap_ok ?_
  refine all1 (by kernel_rfl) ?_
  intro vs ls H39 E39 st hE
  obtain ⟨p40, e41, r42, n43⟩ := ptr_of st.inn hE 5 2 (by kernel_rfl) (ds := [S26, S27]) (by kernel_rfl)
  have op40 : H.next ≤ p40 := Nat.le_trans g35.next (n43 (Nat.le_of_ble_eq_true rfl))
  have ne44 := apn r36 (n43 (Nat.le_of_ble_eq_true rfl))
  have ne45 := apn r37 (n43 (Nat.le_of_ble_eq_true rfl))
  have ne46 : ApartL (S26) p40 := sS26.apart_new (n43 (Nat.le_of_ble_eq_true rfl))
  have ne47 : ApartL (S27) p40 := sS27.apart_new (n43 (Nat.le_of_ble_eq_true rfl))
  have b48 := eo st hE 2 (.ptr p7 0)
  have g49 : Grew H25 H39 := (gk st)
  have g50 : Grew H H39 := Grew.trans g35 g49
  have r52 := g49.at r37
  have s53 := sS26.grew g49
  have s54 := sS27.grew g49
  clear st hE vs ls
  refine res_call (d := (some 11)) (f := 79) (args := [.tmp 5]) (by kernel_rfl) (R := fun z H' => z = .int .i64 (sweepF ms ks).2 ∧ OnlyS S26 H39 H' ∧ SlW H' 3 (sweepF ms ks).1 S26) ?_ ?_
  ·
   show ACalls _ _ [E39 5] _ _
   rw [e41]
   exact k_l06Sweep H39 ms hr S26 s53.toW (mx40 mxms) ks hrk S27 s54.toW (mx40 mxks) (by first | assumption | exact ApartS.symm (by assumption)) f18 p40 r42 (by assumption)
  rintro z H55 ⟨rfl, o55, n55⟩
  have g56 : Grew H H55 := OnlyS.own g50 fr31 o55
  have r57 := o55.at r42 (by assumption)
  have r58 := o55.at r52 (by assumption)
  have s59 := s54.only o55 (by first | assumption | exact ApartS.symm (by assumption))
  have q60 := q38.app (.cons ⟨_, rfl⟩ .nil : KdsL [KI] [.int .i64 (sweepF ms ks).2])
  refine run_mc (φ := φ0) (pm := pmR 1 [] 0) 20 (ws := [⟨p40, 0, [n1 3, n1 4], false⟩, ⟨p7, 0, [.lit .nilslice, .lit .nilslice], true⟩]) (env := [(5, .ptr 0 0), (2, .ptr 1 0), (11, nI 5)]) q60 (.cons (wR r57 q60) (.cons (wO r58 q60) .nil)) (sepD (by repeat (first | exact .nil | refine .cons (by first | assumption | exact Apart.symm (by assumption)) ?_))) .nil (eC q60 (.cons (put_ne rfl e41) (.cons (put_ne rfl b48) (.cons put_same .nil)))) tb_ok ap_ok ?_
  refine all1 (by kernel_rfl) ?_
  intro vs ls H61 E61 st hE
  have gz : Grew H H61 := (grew_own g56 (st.inn.kept) ⟨op7, trivial⟩)
  have hc : onceF ms ks = ((sweepF ms ks).1, ks, (sweepF ms ks).2, 0) := by unfold onceF; rw [if_pos f18]
  exact res_ex (by kernel_rfl) (end_same st.inn hE (.inr rfl) (a := .tuple [.agg [S26, S27], .int .i64 (sweepF ms ks).2, .int .i64 0]) (by kernel_rfl) gz.next (by rw [hc]; exact ⟨gz, _, _, rfl, (n55.keep st.inn.kept ⟨by assumption, trivial⟩), fr31, ((s59.keep st.inn.kept ⟨by assumption, trivial⟩)).toW, fr34, (by first | assumption | exact ApartS.symm (by assumption))⟩))
end Go.Proofs.Ytcmoeocemmeofaa
