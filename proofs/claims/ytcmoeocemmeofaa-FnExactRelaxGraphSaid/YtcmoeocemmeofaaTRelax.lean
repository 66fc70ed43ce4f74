/- Contracts: graphs that are swept until nothing changes, by both. -/
import Derived.Test.YtcmoeocemmeofaaTSweepO
set_option linter.unusedVariables false
set_option linter.unusedSimpArgs false
namespace Go.Proofs.Ytcmoeocemmeofaa
open Go.Ab
set_option maxRecDepth 100000
set_option maxHeartbeats 1000000
attribute [local irreducible] Res
theorem relI_none {ms ks : List (List AV)} {n : Nat} (h : ∀ j, j < n → ¬ (sweepF (relT ms ks j) ks).2 = 0) : relI ms ks n < 0 := by
 unfold relI; rw [idxF_none (fun j hj => decide_eq_false (h j hj))]; decide
theorem relI_at {ms ks : List (List AV)} {n i : Nat} (hi : i < n) (h : ∀ j, j < i → ¬ (sweepF (relT ms ks j) ks).2 = 0) (h0 : (sweepF (relT ms ks i) ks).2 = 0) : relI ms ks n = (i : Int) := by
 unfold relI; exact idxF_at hi (fun j hj => decide_eq_false (h j hj)) (decide_eq_true h0)
theorem k_impl_RelaxGraph (H : AHeap) (ms : List (List AV)) (hr : Recs KP ms) (S : AV) (hS : SlL H 3 ms S) (mxms : ms.length ≤ 1048576) (ks : List (List AV)) (hrk : Recs KL ks) (Sk : AV) (hSk : SlL H 6 ks Sk) (mxks : ks.length ≤ 1048576) (sw : Int) : ACalls Try.prog 46 [.agg [S, Sk], .int .i64 sw] H fun r H' => Grew H H' ∧ ∃ S' Sk', r = .tuple [.agg [S', Sk'], .int .i64 (relaxF ms ks sw).2.2.1, .int .i64 (relaxF ms ks sw).2.2.2] ∧ SlW H' 3 (relaxF ms ks sw).1 S' ∧ FreshS H.next S' ∧ SlW H' 6 (relaxF ms ks sw).2.1 Sk' ∧ FreshS H.next Sk' ∧ ApartS S' Sk' := by
 refine res_start h_impl_RelaxGraph (by simp) ?_
 have q1 : KdsL [.one, .one, KI, .bool] [S, Sk, .int .i64 sw, .bool (okG ms ks)] := .cons (slOne hS) (.cons (slOne hSk) (.cons ⟨_, rfl⟩ (.cons ⟨_, rfl⟩ .nil)))
 refine run_mc (φ := φ0) (pm := pmR 0 [(.call 64 [.agg [n1 0, n1 1]], nB 3)] 0) 20 (ws := []) (env := [(0, .agg [n1 0, n1 1]), (1, nI 2)]) q1 .nil (sepOk_ro rfl) (.cons (rule_call (args := [.agg [S, Sk]]) (dL q1) (dE q1) (fun H9 hk => k_impl_ValidGraph H9 ms hr S (hS.grew (Grew.trans (Grew.refl _) (hk.grew (Nat.le_refl _)))) (mx40 mxms) ks hrk Sk (hSk.grew (Grew.trans (Grew.refl _) (hk.grew (Nat.le_refl _)))) (mx40 mxks))) .nil) (eC q1 (.cons (t := 0) rfl (.cons (t := 1) rfl .nil))) tb_ok ap_ok ?_
 refine all4 (by kernel_rfl) ?_ ?_ ?_ ?_
 ·
  intro vs ls H2 E2 st hE
  have f3 : (okG ms ks) = false := bf st 0
  have gz : Grew H H2 := (Grew.trans (Grew.refl _) (gk st))
  have hc : relaxF ms ks sw = ([], [], 0, 1) := by unfold relaxF; rw [if_neg (by rw [f3]; decide)]
  exact res_ex (by kernel_rfl) (end_same st.inn hE (.inr rfl) (a := .tuple [.agg [.nilslice, .nilslice], .int .i64 0, .int .i64 1]) (by kernel_rfl) gz.next (by rw [hc]; exact ⟨gz, _, _, rfl, (.nil rfl), FreshS.nil, (.nil rfl), FreshS.nil, ApartS.nil⟩))
 ·
  intro vs ls H4 E4 st hE
  have f5 : 50 < sw := dt st 0
  have f6 : ¬ (sw < 0) := df st 1
  have f7 : (okG ms ks) = true := bf st 2
  have gz : Grew H H4 := (Grew.trans (Grew.refl _) (gk st))
  have hc : relaxF ms ks sw = ([], [], 0, 2) := by unfold relaxF; rw [if_pos f7, if_neg (by omega)]
  exact res_ex (by kernel_rfl) (end_same st.inn hE (.inr rfl) (a := .tuple [.agg [.nilslice, .nilslice], .int .i64 0, .int .i64 2]) (by kernel_rfl) gz.next (by rw [hc]; exact ⟨gz, _, _, rfl, (.nil rfl), FreshS.nil, (.nil rfl), FreshS.nil, ApartS.nil⟩))
 ·
  intro vs ls H8 E8 st hE
  have f9 : ¬ (50 < sw) := df st 0
  have f10 : ¬ (sw < 0) := df st 1
  have f11 : (okG ms ks) = true := bf st 2
  obtain ⟨p12, e13, r14, n15⟩ := ptr_of st.inn hE 4 1 (by kernel_rfl) (ds := [.nilslice, .nilslice]) (by kernel_rfl)
  have op12 : H.next ≤ p12 := Nat.le_trans (Nat.le_refl _) (n15 (Nat.le_of_ble_eq_true rfl))
  have b16 := eo st hE 19 (.agg [S, Sk])
  have b17 := eo st hE 1 (.int .i64 sw)
  have g18 : Grew H H8 := (gk st)
  have g19 : Grew H H8 := Grew.trans (Grew.refl _) g18
  clear st hE vs ls
  refine res_call (d := (some 20)) (f := 80) (args := [.tmp 19]) (by kernel_rfl) (R := fun z H' => Grew H8 H' ∧ ∃ S0' S1', z = .agg [S0', S1'] ∧ SlF H' 3 ms S0' ∧ FreshS H8.next S0' ∧ SlF H' 6 ks S1' ∧ FreshS H8.next S1' ∧ ApartS S0' S1') ?_ ?_
  ·
   show ACalls _ _ [E8 19] _ _
   rw [b16]
   exact k_ownGraph H8 ms hr S (hS.grew g19) mxms ks hrk Sk (hSk.grew g19) mxks
  rintro z H20 ⟨gH20, S21, S22, rfl, sS21, fS21, sS22, fS22, ap23⟩
  have ne24 : ApartL (S21) p12 := fS21.apartL (H8.lt_of_get r14)
  have fr25 : FreshS H.next (S21) := fS21.mono g19.next
  have ne26 : ApartL (S22) p12 := fS22.apartL (H8.lt_of_get r14)
  have fr27 : FreshS H.next (S22) := fS22.mono g19.next
  have g28 : Grew H H20 := Grew.trans g19 gH20
  have r29 := gH20.at r14
  have q30 := q1.app (.cons sS21.one (.cons sS22.one .nil) : KdsL [.one, .one] [S21, S22])
  refine run_mc (φ := φ0) (pm := pmR 1 [] 0) 20 (ws := [⟨p12, 0, [.lit .nilslice, .lit .nilslice], false⟩]) (env := [(19, .agg [n1 0, n1 1]), (1, nI 2), (4, .ptr 0 0), (20, .agg [n1 4, n1 5])]) q30 (.cons (wR r29 q30) .nil) (sepOk_ro rfl) .nil (eC q30 (.cons (put_ne rfl b16) (.cons (put_ne rfl b17) (.cons (put_ne rfl e13) (.cons put_same .nil))))) tb_ok ap_ok ?_
  refine all1 (by kernel_rfl) ?_
  intro vs ls H31 E31 st hE
  obtain ⟨p32, e33, r34, n35⟩ := ptr_of st.inn hE 7 1 (by kernel_rfl) (ds := [S21, S22]) (by kernel_rfl)
  have op32 : H.next ≤ p32 := Nat.le_trans g28.next (n35 (Nat.le_of_ble_eq_true rfl))
  have ne36 := apn r29 (n35 (Nat.le_of_ble_eq_true rfl))
  have ne37 : ApartL (S21) p32 := sS21.apart_new (n35 (Nat.le_of_ble_eq_true rfl))
  have ne38 : ApartL (S22) p32 := sS22.apart_new (n35 (Nat.le_of_ble_eq_true rfl))
  have b39 := eo st hE 22 (.int .i64 0)
  have b40 := eo st hE 21 (.int .i64 sw)
  have b41 := eo st hE 4 (.ptr p12 0)
  have b42 := eo st hE 1 (.int .i64 sw)
  have g43 : Grew H20 H31 := (gk st)
  have g44 : Grew H H31 := Grew.trans g28 g43
  have r45 := g43.at r29
  have s46 := sS21.grew g43
  have s47 := sS22.grew g43
  clear st hE vs ls
  refine res_loop (by kernel_rfl) (fun z E H' => ∃ (i : Nat), z + i = sw.toNat ∧ E 21 = .int .i64 sw ∧ E 7 = .ptr p32 0 ∧ E 4 = .ptr p12 0 ∧ E 1 = .int .i64 sw ∧ E 22 = .int .i64 (i : Int) ∧ Grew H H' ∧ H'.get p12 = some (.row [.nilslice, .nilslice] true) ∧ H'.get p32 = some (.row [S21, S22] true) ∧ SlW H' 3 (relT ms ks i) S21 ∧ SlF H' 6 ks S22 ∧ ∀ j, j < i → ¬ (sweepF (relT ms ks j) ks).2 = 0) (sw.toNat) ⟨0, by omega, b40, e33, b41, b42, b39, g44, r45, r34, s46.toW, s47, upTo0⟩ ?_
  rintro z48 Ei48 Hi48 ⟨i48, hz48, c48_21, c48_7, c48_4, c48_1, ci48, gt48, r48_0, r48_1, so48_0, so48_1, iv48⟩
  have q49 := q30.app (.cons ⟨_, rfl⟩ .nil : KdsL [KI] [.int .i64 (i48 : Int)])
  refine run_mc (φ := φ0) (pm := pmR 2 [] 0) 20 (ws := [⟨p12, 0, [.lit .nilslice, .lit .nilslice], false⟩, ⟨p32, 0, [n1 4, n1 5], false⟩]) (env := [(21, nI 2), (7, .ptr 1 0), (4, .ptr 0 0), (1, nI 2), (22, nI 6)]) q49 (.cons (wR r48_0 q49) (.cons (wR r48_1 q49) .nil)) (sepOk_ro rfl) .nil (eC q49 (.cons c48_21 (.cons c48_7 (.cons c48_4 (.cons c48_1 (.cons ci48 .nil)))))) tb_ok ap_ok ?_
  refine all2 (by kernel_rfl) ?_ ?_
  ·
   intro vs ls H50 E50 st hE
   have f51 : (i48 : Int) < sw := dt st 0
   have b52 := eo st hE 25 (.agg [S21, S22])
   have b53 := eo st hE 7 (.ptr p32 0)
   have b54 := eo st hE 8 (.int .i64 (i48 : Int))
   have b55 := eo st hE 4 (.ptr p12 0)
   have b56 := eo st hE 22 (.int .i64 (i48 : Int))
   have b57 := eo st hE 21 (.int .i64 sw)
   have b58 := eo st hE 1 (.int .i64 sw)
   have g59 : Grew Hi48 H50 := (gk st)
   have g60 : Grew H H50 := Grew.trans gt48 g59
   have r61 := g59.at r48_0
   have r62 := g59.at r48_1
   have s63 := so48_0.grew g59
   have s64 := so48_1.grew g59
   clear st hE vs ls
   refine res_call (d := (some 26)) (f := 81) (args := [.tmp 25]) (by kernel_rfl) (R := fun z H' => z = .int .i64 (sweepF (relT ms ks i48) ks).2 ∧ OnlyS S21 H50 H' ∧ SlW H' 3 (sweepF (relT ms ks i48) ks).1 S21) ?_ ?_
   ·
    show ACalls _ _ [E50 25] _ _
    rw [b52]
    exact k_sweep H50 (relT ms ks i48) (relT_inv hr f11 i48).1 S21 s63 (by rw [(relT_inv hr f11 i48).2.1]; exact mx40 mxms) ks hrk S22 s64.toW (mx40 mxks) (by first | assumption | exact ApartS.symm (by assumption)) (relT_inv hr f11 i48).2.2
   rintro z H65 ⟨rfl, o65, n65⟩
   have g66 : Grew H H65 := OnlyS.own g60 fr25 o65
   have r67 := o65.at r61 (by assumption)
   have r68 := o65.at r62 (by assumption)
   have s69 := s64.only o65 (by first | assumption | exact ApartS.symm (by assumption))
   have q70 := q49.app (.cons ⟨_, rfl⟩ .nil : KdsL [KI] [.int .i64 (sweepF (relT ms ks i48) ks).2])
   refine run_mc (φ := φ0) (pm := pmR 1 [] 0) 20 (ws := [⟨p32, 0, [n1 4, n1 5], false⟩, ⟨p12, 0, [.lit .nilslice, .lit .nilslice], true⟩]) (env := [(25, .agg [n1 4, n1 5]), (7, .ptr 0 0), (8, nI 6), (4, .ptr 1 0), (22, nI 6), (21, nI 2), (1, nI 2), (26, nI 7)]) q70 (.cons (wR r68 q70) (.cons (wO r67 q70) .nil)) (sepD (by repeat (first | exact .nil | refine .cons (by first | assumption | exact Apart.symm (by assumption)) ?_))) .nil (eC q70 (.cons (put_ne rfl b52) (.cons (put_ne rfl b53) (.cons (put_ne rfl b54) (.cons (put_ne rfl b55) (.cons (put_ne rfl b56) (.cons (put_ne rfl b57) (.cons (put_ne rfl b58) (.cons put_same .nil))))))))) tb_ok ap_ok ?_
   refine all2 (by kernel_rfl) ?_ ?_
   ·
    intro vs ls H71 E71 st hE
    have f72 : (sweepF (relT ms ks i48) ks).2 = 0 := dt st 0
    have gz : Grew H H71 := (grew_own g66 (st.inn.kept) ⟨op12, trivial⟩)
    have hI9 : relI ms ks sw.toNat = (i48 : Int) := relI_at (by omega) iv48 f72
    have hc : relaxF ms ks sw = (relT ms ks (i48 + 1), ks, (IntKind.wrap .i64 ((i48 : Int) + 1)), 0) := by
     unfold relaxF; rw [if_pos f11, if_pos (by omega), if_neg (by omega), hI9, show ((i48 : Nat) : Int).toNat = i48 from rfl]; congr 3; exact (wrap_i64 (by omega) (by omega)).symm
    exact res_ret (by kernel_rfl) (end_same st.inn hE (.inr rfl) (a := .tuple [.agg [S21, S22], .int .i64 (IntKind.wrap .i64 ((i48 : Int) + 1)), .int .i64 0]) (by kernel_rfl) gz.next (by rw [hc]; exact ⟨gz, _, _, rfl, (n65.keep st.inn.kept ⟨by assumption, trivial⟩), fr25, ((s69.keep st.inn.kept ⟨by assumption, trivial⟩)).toW, fr27, (by first | assumption | exact ApartS.symm (by assumption))⟩))
   ·
    intro vs ls H73 E73 st hE
    have f74 : ¬ ((sweepF (relT ms ks i48) ks).2 = 0) := df st 0
    obtain ⟨w75, hw75⟩ : ∃ z, z = (IntKind.wrap .i64 ((i48 : Int) + 1)) := ⟨_, rfl⟩
    have b76 : E73 22 = .int .i64 w75 := by rw [hw75]; exact eo st hE 22 _
    have b77 := eo st hE 21 (.int .i64 sw)
    have b78 := eo st hE 7 (.ptr p32 0)
    have b79 := eo st hE 4 (.ptr p12 0)
    have b80 := eo st hE 1 (.int .i64 sw)
    have g81 : Grew H65 H73 := (gk st)
    have g82 : Grew H H73 := Grew.trans g66 g81
    have r83 := g81.at r68
    have r84 := g81.at r67
    have s85 := n65.grew g81
    have s86 := s69.grew g81
    clear st hE vs ls
    have hz9 : z48 - 1 < z48 := by omega
    have hy9 : z48 - 1 + (i48 + 1) = sw.toNat := by omega
    have hi9 : E73 22 = .int .i64 ((i48 + 1 : Nat) : Int) := by rw [b76, hw75, wrap64 (by omega)]
    exact res_norm (by kernel_rfl) ⟨z48 - 1, hz9, i48 + 1, hy9, b77, b78, b79, b80, hi9, g82, r84, r83, (by rw [show relT ms ks (i48 + 1) = (sweepF (relT ms ks i48) ks).1 from rfl]; exact s85), s86, (upTo iv48 f74)⟩
  ·
   intro vs ls H87 E87 st hE
   have f88 : ¬ ((i48 : Int) < sw) := df st 0
   have b89 := eo st hE 22 (.int .i64 (i48 : Int))
   have b90 := eo st hE 21 (.int .i64 sw)
   obtain ⟨w91, hw91⟩ : ∃ z, z = (decide ((i48 : Int) < sw)) := ⟨_, rfl⟩
   have b92 : E87 23 = .bool w91 := by rw [hw91]; exact eo st hE 23 _
   have b93 := eo st hE 7 (.ptr p32 0)
   have b94 := eo st hE 4 (.ptr p12 0)
   have b95 := eo st hE 1 (.int .i64 sw)
   have g96 : Grew Hi48 H87 := (gk st)
   have g97 : Grew H H87 := Grew.trans gt48 g96
   have r98 := g96.at r48_0
   have r99 := g96.at r48_1
   have s100 := so48_0.grew g96
   have s101 := so48_1.grew g96
   clear st hE vs ls
   refine res_exit (id := 1) (by kernel_rfl) ?_
   have q102 := q49.app (.cons ⟨_, rfl⟩ .nil : KdsL [.bool] [.bool w91])
   refine run_mc (φ := φ0) (pm := pmR 1 [] 0) 20 (ws := [⟨p32, 0, [n1 4, n1 5], false⟩, ⟨p12, 0, [.lit .nilslice, .lit .nilslice], true⟩]) (env := [(22, nI 6), (21, nI 2), (23, nB 7), (7, .ptr 0 0), (4, .ptr 1 0), (1, nI 2)]) q102 (.cons (wR r99 q102) (.cons (wO r98 q102) .nil)) (sepD (by repeat (first | exact .nil | refine .cons (by first | assumption | exact Apart.symm (by assumption)) ?_))) .nil (eC q102 (.cons b89 (.cons b90 (.cons b92 (.cons b93 (.cons b94 (.cons b95 .nil))))))) tb_ok ap_ok ?_
   refine all1 (by kernel_rfl) ?_
   intro vs ls H103 E103 st hE
   have gz : Grew H H103 := (grew_own g97 (st.inn.kept) ⟨op12, trivial⟩)
   have hin : i48 = sw.toNat := by omega
   have hc : relaxF ms ks sw = ((relT ms ks i48), ks, sw, 0) := by
    unfold relaxF; rw [if_pos f11, if_pos (by omega), if_pos (relI_none (hin ▸ iv48)), hin]
   exact res_ex (by kernel_rfl) (end_same st.inn hE (.inr rfl) (a := .tuple [.agg [S21, S22], .int .i64 sw, .int .i64 0]) (by kernel_rfl) gz.next (by rw [hc]; exact ⟨gz, _, _, rfl, (s100.keep st.inn.kept ⟨by assumption, trivial⟩), fr25, ((s101.keep st.inn.kept ⟨by assumption, trivial⟩)).toW, fr27, (by first | assumption | exact ApartS.symm (by assumption))⟩))
 ·
  intro vs ls H104 E104 st hE
  have f105 : sw < 0 := dt st 0
  have f106 : (okG ms ks) = true := bf st 1
  have gz : Grew H H104 := (Grew.trans (Grew.refl _) (gk st))
  have hc : relaxF ms ks sw = ([], [], 0, 2) := by unfold relaxF; rw [if_pos f106, if_neg (by omega)]
  exact res_ex (by kernel_rfl) (end_same st.inn hE (.inr rfl) (a := .tuple [.agg [.nilslice, .nilslice], .int .i64 0, .int .i64 2]) (by kernel_rfl) gz.next (by rw [hc]; exact ⟨gz, _, _, rfl, (.nil rfl), FreshS.nil, (.nil rfl), FreshS.nil, ApartS.nil⟩))
theorem k_spec_RelaxGraph (H : AHeap) (ms : List (List AV)) (hr : Recs KP ms) (S : AV) (hS : SlL H 3 ms S) (mxms : ms.length ≤ 1048576) (ks : List (List AV)) (hrk : Recs KL ks) (Sk : AV) (hSk : SlL H 6 ks Sk) (mxks : ks.length ≤ 1048576) (sw : Int) : ACalls Try.prog 45 [.agg [S, Sk], .int .i64 sw] H fun r H' => Grew H H' ∧ ∃ S' Sk', r = .tuple [.agg [S', Sk'], .int .i64 (relaxF ms ks sw).2.2.1, .int .i64 (relaxF ms ks sw).2.2.2] ∧ SlW H' 3 (relaxF ms ks sw).1 S' ∧ FreshS H.next S' ∧ SlW H' 6 (relaxF ms ks sw).2.1 Sk' ∧ FreshS H.next Sk' ∧ ApartS S' Sk' := by
 refine res_start h_spec_RelaxGraph (by simp) ?_
 have q1 : KdsL [.one, .one, KI] [S, Sk, .int .i64 sw] := .cons (slOne hS) (.cons (slOne hSk) (.cons ⟨_, rfl⟩ .nil))
 refine run_mc (φ := φ0) (pm := pmR 0 [] 0) 20 (ws := []) (env := [(0, .agg [n1 0, n1 1]), (1, nI 2)]) q1 .nil (sepOk_ro rfl) .nil (eC q1 (.cons (t := 0) rfl (.cons (t := 1) rfl .nil))) tb_ok ap_ok ?_
 refine all1 (by kernel_rfl) ?_
 intro vs ls H2 E2 st hE
 obtain ⟨p3, e4, r5, n6⟩ := ptr_of st.inn hE 2 0 (by kernel_rfl) (ds := [S, Sk]) (by kernel_rfl)
 have op3 : H.next ≤ p3 := Nat.le_trans (Nat.le_refl _) (n6 (Nat.le_of_ble_eq_true rfl))
 obtain ⟨p7, e8, r9, n10⟩ := ptr_of st.inn hE 4 1 (by kernel_rfl) (ds := [.nilslice, .nilslice]) (by kernel_rfl)
 have op7 : H.next ≤ p7 := Nat.le_trans (Nat.le_refl _) (n10 (Nat.le_of_ble_eq_true rfl))
 have ne11 : Apart p3 p7 := ⟨ptr_ne st.inn hE 2 0 4 1 (by kernel_rfl) (by kernel_rfl) (cs := [.nd 0 .one, .nd 1 .one]) (by kernel_rfl) (by decide) e4 e8⟩
 have b12 := eo st hE 1 (.int .i64 sw)
 have g13 : Grew H H2 := (gk st)
 have g14 : Grew H H2 := Grew.trans (Grew.refl _) g13
 clear st hE vs ls
 refine res_call (d := (some 9)) (f := 61) (args := [.tmp 2]) (by kernel_rfl) (R := fun z H' => z = .bool (okG ms ks) ∧ H' = H2) ?_ ?_
 ·
  show ACalls _ _ [E2 2] _ _
  rw [e4]
  exact k_l06Ok H2 p3 ms hr S (hS.grew g14) (mx40 mxms) ks hrk Sk (hSk.grew g14) (mx40 mxks) r5
 rintro z H2 ⟨rfl, rfl⟩
 have q15 := q1.app (.cons ⟨_, rfl⟩ .nil : KdsL [.bool] [.bool (okG ms ks)])
 refine run_mc (φ := φ0) (pm := pmR 1 [] 0) 20 (ws := [⟨p3, 0, [n1 0, n1 1], false⟩, ⟨p7, 0, [.lit .nilslice, .lit .nilslice], true⟩]) (env := [(2, .ptr 0 0), (4, .ptr 1 0), (1, nI 2), (9, nB 3)]) q15 (.cons (wR r5 q15) (.cons (wO r9 q15) .nil)) (sepD (by repeat (first | exact .nil | refine .cons (by first | assumption | exact Apart.symm (by assumption)) ?_))) .nil (eC q15 (.cons (put_ne rfl e4) (.cons (put_ne rfl e8) (.cons (put_ne rfl b12) (.cons put_same .nil))))) tb_ok ap_ok ?_
 refine all4 (by kernel_rfl) ?_ ?_ ?_ ?_
 ·
  intro vs ls H16 E16 st hE
  have f17 : (okG ms ks) = false := bf st 0
  have gz : Grew H H16 := (grew_own g14 (st.inn.kept) ⟨op7, trivial⟩)
  have hc : relaxF ms ks sw = ([], [], 0, 1) := by unfold relaxF; rw [if_neg (by rw [f17]; decide)]
  exact res_ex (by kernel_rfl) (end_same st.inn hE (.inr rfl) (a := .tuple [.agg [.nilslice, .nilslice], .int .i64 0, .int .i64 1]) (by kernel_rfl) gz.next (by rw [hc]; exact ⟨gz, _, _, rfl, (.nil rfl), FreshS.nil, (.nil rfl), FreshS.nil, ApartS.nil⟩))
 ·
  intro vs ls H18 E18 st hE
  have f19 : 50 < sw := dt st 0
  have f20 : ¬ (sw < 0) := df st 1
  have f21 : (okG ms ks) = true := bf st 2
  have gz : Grew H H18 := (grew_own g14 (st.inn.kept) ⟨op7, trivial⟩)
  have hc : relaxF ms ks sw = ([], [], 0, 2) := by unfold relaxF; rw [if_pos f21, if_neg (by omega)]
  exact res_ex (by kernel_rfl) (end_same st.inn hE (.inr rfl) (a := .tuple [.agg [.nilslice, .nilslice], .int .i64 0, .int .i64 2]) (by kernel_rfl) gz.next (by rw [hc]; exact ⟨gz, _, _, rfl, (.nil rfl), FreshS.nil, (.nil rfl), FreshS.nil, ApartS.nil⟩))
 ·
  intro vs ls H22 E22 st hE
  have f23 : ¬ (50 < sw) := df st 0
  have f24 : ¬ (sw < 0) := df st 1
  have f25 : (okG ms ks) = true := bf st 2
  have b26 := eo st hE 2 (.ptr p3 0)
  have b27 := eo st hE 1 (.int .i64 sw)
  have b28 := eo st hE 4 (.ptr p7 0)
  have g29 : Grew H2 H22 := (gk st)
  have g30 : Grew H H22 := Grew.trans g14 g29
  have r31 := g29.at r5
  have r32 := g29.at r9
  clear st hE vs ls
  refine res_call (d := (some 16)) (f := 78) (args := [.tmp 2]) (by kernel_rfl) (R := fun z H' => Grew H22 H' ∧ ∃ S0' S1', z = .agg [S0', S1'] ∧ SlF H' 3 ms S0' ∧ FreshS H22.next S0' ∧ SlF H' 6 ks S1' ∧ FreshS H22.next S1' ∧ ApartS S0' S1') ?_ ?_
  ·
   show ACalls _ _ [E22 2] _ _
   rw [b26]
   exact k_l06Copy H22 p3 ms hr S (hS.grew g30) mxms ks hrk Sk (hSk.grew g30) mxks r31
  rintro z H33 ⟨gH33, S34, S35, rfl, sS34, fS34, sS35, fS35, ap36⟩
  have ne37 : ApartL (S34) p3 := fS34.apartL (H22.lt_of_get r31)
  have ne38 : ApartL (S34) p7 := fS34.apartL (H22.lt_of_get r32)
  have fr39 : FreshS H.next (S34) := fS34.mono g30.next
  have ne40 : ApartL (S35) p3 := fS35.apartL (H22.lt_of_get r31)
  have ne41 : ApartL (S35) p7 := fS35.apartL (H22.lt_of_get r32)
  have fr42 : FreshS H.next (S35) := fS35.mono g30.next
  have g43 : Grew H H33 := Grew.trans g30 gH33
  have r44 := gH33.at r31
  have r45 := gH33.at r32
  have q46 := q15.app (.cons sS34.one (.cons sS35.one .nil) : KdsL [.one, .one] [S34, S35])
  refine run_mc (φ := φ0) (pm := pmR 1 [] 0) 20 (ws := [⟨p3, 0, [n1 0, n1 1], false⟩, ⟨p7, 0, [.lit .nilslice, .lit .nilslice], true⟩]) (env := [(2, .ptr 0 0), (1, nI 2), (4, .ptr 1 0), (16, .agg [n1 4, n1 5])]) q46 (.cons (wR r44 q46) (.cons (wO r45 q46) .nil)) (sepD (by repeat (first | exact .nil | refine .cons (by first | assumption | exact Apart.symm (by assumption)) ?_))) .nil (eC q46 (.cons (put_ne rfl b26) (.cons (put_ne rfl b27) (.cons (put_ne rfl b28) (.cons put_same .nil))))) tb_ok ap_ok ?_
  refine all1 (by kernel_rfl) ?_
  intro vs ls H47 E47 st hE
  obtain ⟨p48, e49, r50, n51⟩ := ptr_of st.inn hE 7 2 (by kernel_rfl) (ds := [S34, S35]) (by kernel_rfl)
  have op48 : H.next ≤ p48 := Nat.le_trans g43.next (n51 (Nat.le_of_ble_eq_true rfl))
  have ne52 := apn r44 (n51 (Nat.le_of_ble_eq_true rfl))
  have ne53 := apn r45 (n51 (Nat.le_of_ble_eq_true rfl))
  have ne54 : ApartL (S34) p48 := sS34.apart_new (n51 (Nat.le_of_ble_eq_true rfl))
  have ne55 : ApartL (S35) p48 := sS35.apart_new (n51 (Nat.le_of_ble_eq_true rfl))
  have b56 := eo st hE 8 (.int .i64 0)
  have b57 := eo st hE 1 (.int .i64 sw)
  have b58 := eo st hE 4 (.ptr p7 0)
  have g59 : Grew H33 H47 := (gk st)
  have g60 : Grew H H47 := Grew.trans g43 g59
  have r62 := g59.at r45
  have s63 := sS34.grew g59
  have s64 := sS35.grew g59
  clear st hE vs ls
  refine res_loop (by kernel_rfl) (fun z E H' => ∃ (i : Nat), z + i = sw.toNat ∧ E 1 = .int .i64 sw ∧ E 7 = .ptr p48 0 ∧ E 4 = .ptr p7 0 ∧ E 8 = .int .i64 (i : Int) ∧ Grew H H' ∧ H'.get p48 = some (.row [S34, S35] true) ∧ H'.get p7 = some (.row [.nilslice, .nilslice] true) ∧ SlW H' 3 (relT ms ks i) S34 ∧ SlF H' 6 ks S35 ∧ ∀ j, j < i → ¬ (sweepF (relT ms ks j) ks).2 = 0) (sw.toNat) ⟨0, by omega, b57, e49, b58, b56, g60, r50, r62, s63.toW, s64, upTo0⟩ ?_
  rintro z65 Ei65 Hi65 ⟨i65, hz65, c65_1, c65_7, c65_4, ci65, gt65, r65_0, r65_1, so65_0, so65_1, iv65⟩
  have q66 := q46.app (.cons ⟨_, rfl⟩ .nil : KdsL [KI] [.int .i64 (i65 : Int)])
  refine run_mc (φ := φ0) (pm := pmR 1 [] 0) 20 (ws := [⟨p48, 0, [n1 4, n1 5], false⟩, ⟨p7, 0, [.lit .nilslice, .lit .nilslice], true⟩]) (env := [(1, nI 2), (7, .ptr 0 0), (4, .ptr 1 0), (8, nI 6)]) q66 (.cons (wR r65_0 q66) (.cons (wO r65_1 q66) .nil)) (sepD (by repeat (first | exact .nil | refine .cons (by first | assumption | exact Apart.symm (by assumption)) ?_))) .nil (eC q66 (.cons c65_1 (.cons c65_7 (.cons c65_4 (.cons ci65 .nil))))) tb_ok ap_ok ?_
  refine all2 (by kernel_rfl) ?_ ?_
  ·
   intro vs ls H67 E67 st hE
   have f68 : (i65 : Int) < sw := dt st 0
   have b69 := eo st hE 7 (.ptr p48 0)
   obtain ⟨w70, hw70⟩ : ∃ z, z = (IntKind.wrap .i64 ((i65 : Int) + 1)) := ⟨_, rfl⟩
   have b71 : E67 8 = .int .i64 w70 := by rw [hw70]; exact eo st hE 8 _
   have b72 := eo st hE 1 (.int .i64 sw)
   have b73 := eo st hE 4 (.ptr p7 0)
   have g74 : Grew Hi65 H67 := (gk st)
   have g75 : Grew H H67 := Grew.trans gt65 g74
   have r76 := g74.at r65_0
   have r77 := g74.at r65_1
   have s78 := so65_0.grew g74
   have s79 := so65_1.grew g74
   clear st hE vs ls
   refine res_call (d := (some 22)) (f := 79) (args := [.tmp 7]) (by kernel_rfl) (R := fun z H' => z = .int .i64 (sweepF (relT ms ks i65) ks).2 ∧ OnlyS S34 H67 H' ∧ SlW H' 3 (sweepF (relT ms ks i65) ks).1 S34) ?_ ?_
   ·
    show ACalls _ _ [E67 7] _ _
    rw [b69]
    exact k_l06Sweep H67 (relT ms ks i65) (relT_inv hr f25 i65).1 S34 s78 (by rw [(relT_inv hr f25 i65).2.1]; exact mx40 mxms) ks hrk S35 s79.toW (mx40 mxks) (by first | assumption | exact ApartS.symm (by assumption)) (relT_inv hr f25 i65).2.2 p48 r76 (by assumption)
   rintro z H80 ⟨rfl, o80, n80⟩
   have g81 : Grew H H80 := OnlyS.own g75 fr39 o80
   have r82 := o80.at r76 (by assumption)
   have r83 := o80.at r77 (by assumption)
   have s84 := s79.only o80 (by first | assumption | exact ApartS.symm (by assumption))
   have q85 := q66.app (.cons ⟨_, rfl⟩ (.cons ⟨_, rfl⟩ .nil) : KdsL [KI, KI] [.int .i64 w70, .int .i64 (sweepF (relT ms ks i65) ks).2])
   refine run_mc (φ := φ0) (pm := pmR 1 [] 0) 20 (ws := [⟨p48, 0, [n1 4, n1 5], false⟩, ⟨p7, 0, [.lit .nilslice, .lit .nilslice], true⟩]) (env := [(7, .ptr 0 0), (8, nI 7), (1, nI 2), (4, .ptr 1 0), (22, nI 8)]) q85 (.cons (wR r82 q85) (.cons (wO r83 q85) .nil)) (sepD (by repeat (first | exact .nil | refine .cons (by first | assumption | exact Apart.symm (by assumption)) ?_))) .nil (eC q85 (.cons (put_ne rfl b69) (.cons (put_ne rfl b71) (.cons (put_ne rfl b72) (.cons (put_ne rfl b73) (.cons put_same .nil)))))) tb_ok ap_ok ?_
   refine all2 (by kernel_rfl) ?_ ?_
   ·
    intro vs ls H86 E86 st hE
    have f87 : (sweepF (relT ms ks i65) ks).2 = 0 := dt st 0
    have b88 := eo st hE 8 (.int .i64 w70)
    have b89 := eo st hE 1 (.int .i64 sw)
    have b90 := eo st hE 7 (.ptr p48 0)
    have b91 := eo st hE 22 (.int .i64 (sweepF (relT ms ks i65) ks).2)
    obtain ⟨w92, hw92⟩ : ∃ z, z = (decide ((sweepF (relT ms ks i65) ks).2 = 0)) := ⟨_, rfl⟩
    have b93 : E86 23 = .bool w92 := by rw [hw92]; exact eo st hE 23 _
    have b94 := eo st hE 4 (.ptr p7 0)
    have g95 : Grew H80 H86 := (gk st)
    have g96 : Grew H H86 := Grew.trans g81 g95
    have r97 := g95.at r82
    have r98 := g95.at r83
    have s99 := n80.grew g95
    have s100 := s84.grew g95
    clear st hE vs ls
    refine res_exit (id := 0) (by kernel_rfl) ?_
    have q101 := q85.app (.cons ⟨_, rfl⟩ .nil : KdsL [.bool] [.bool w92])
    refine run_mc (φ := φ0) (pm := pmR 1 [] 0) 20 (ws := [⟨p48, 0, [n1 4, n1 5], false⟩, ⟨p7, 0, [.lit .nilslice, .lit .nilslice], true⟩]) (env := [(8, nI 7), (1, nI 2), (7, .ptr 0 0), (22, nI 8), (23, nB 9), (4, .ptr 1 0)]) q101 (.cons (wR r97 q101) (.cons (wO r98 q101) .nil)) (sepD (by repeat (first | exact .nil | refine .cons (by first | assumption | exact Apart.symm (by assumption)) ?_))) .nil (eC q101 (.cons b88 (.cons b89 (.cons b90 (.cons b91 (.cons b93 (.cons b94 .nil))))))) tb_ok ap_ok ?_
    refine all1 (by kernel_rfl) ?_
    intro vs ls H102 E102 st hE
    have gz : Grew H H102 := (grew_own g96 (st.inn.kept) ⟨op7, trivial⟩)
    have hI9 : relI ms ks sw.toNat = (i65 : Int) := relI_at (by omega) iv65 f87
    have hc : relaxF ms ks sw = (relT ms ks (i65 + 1), ks, w70, 0) := by
     unfold relaxF; rw [if_pos f25, if_pos (by omega), if_neg (by omega), hI9, show ((i65 : Nat) : Int).toNat = i65 from rfl]; congr 3; rw [hw70]; exact (wrap_i64 (by omega) (by omega)).symm
    exact res_ex (by kernel_rfl) (end_same st.inn hE (.inr rfl) (a := .tuple [.agg [S34, S35], .int .i64 w70, .int .i64 0]) (by kernel_rfl) gz.next (by rw [hc]; exact ⟨gz, _, _, rfl, (s99.keep st.inn.kept ⟨by assumption, trivial⟩), fr39, ((s100.keep st.inn.kept ⟨by assumption, trivial⟩)).toW, fr42, (by first | assumption | exact ApartS.symm (by assumption))⟩))
   ·
    intro vs ls H103 E103 st hE
    have f104 : ¬ ((sweepF (relT ms ks i65) ks).2 = 0) := df st 0
    have b105 := eo st hE 8 (.int .i64 w70)
    have b106 := eo st hE 1 (.int .i64 sw)
    have b107 := eo st hE 7 (.ptr p48 0)
    have b108 := eo st hE 4 (.ptr p7 0)
    have g109 : Grew H80 H103 := (gk st)
    have g110 : Grew H H103 := Grew.trans g81 g109
    have r111 := g109.at r82
    have r112 := g109.at r83
    have s113 := n80.grew g109
    have s114 := s84.grew g109
    clear st hE vs ls
    have hz9 : z65 - 1 < z65 := by omega
    have hy9 : z65 - 1 + (i65 + 1) = sw.toNat := by omega
    have hi9 : E103 8 = .int .i64 ((i65 + 1 : Nat) : Int) := by rw [b105, hw70, wrap64 (by omega)]
    exact res_norm (by kernel_rfl) ⟨z65 - 1, hz9, i65 + 1, hy9, b106, b107, b108, hi9, g110, r111, r112, (by rw [show relT ms ks (i65 + 1) = (sweepF (relT ms ks i65) ks).1 from rfl]; exact s113), s114, (upTo iv65 f104)⟩
  ·
   intro vs ls H115 E115 st hE
   have f116 : ¬ ((i65 : Int) < sw) := df st 0
   have b117 := eo st hE 8 (.int .i64 (i65 : Int))
   have b118 := eo st hE 1 (.int .i64 sw)
   have b119 := eo st hE 17 (.int .i64 (i65 : Int))
   have b120 := eo st hE 18 (.int .i64 sw)
   obtain ⟨w121, hw121⟩ : ∃ z, z = (decide ((i65 : Int) < sw)) := ⟨_, rfl⟩
   have b122 : E115 19 = .bool w121 := by rw [hw121]; exact eo st hE 19 _
   have b123 := eo st hE 7 (.ptr p48 0)
   have b124 := eo st hE 4 (.ptr p7 0)
   have g125 : Grew Hi65 H115 := (gk st)
   have g126 : Grew H H115 := Grew.trans gt65 g125
   have r127 := g125.at r65_0
   have r128 := g125.at r65_1
   have s129 := so65_0.grew g125
   have s130 := so65_1.grew g125
   clear st hE vs ls
   refine res_exit (id := 0) (by kernel_rfl) ?_
   have q131 := q66.app (.cons ⟨_, rfl⟩ .nil : KdsL [.bool] [.bool w121])
   refine run_mc (φ := φ0) (pm := pmR 1 [] 0) 20 (ws := [⟨p48, 0, [n1 4, n1 5], false⟩, ⟨p7, 0, [.lit .nilslice, .lit .nilslice], true⟩]) (env := [(8, nI 6), (1, nI 2), (17, nI 6), (18, nI 2), (19, nB 7), (7, .ptr 0 0), (4, .ptr 1 0)]) q131 (.cons (wR r127 q131) (.cons (wO r128 q131) .nil)) (sepD (by repeat (first | exact .nil | refine .cons (by first | assumption | exact Apart.symm (by assumption)) ?_))) .nil (eC q131 (.cons b117 (.cons b118 (.cons b119 (.cons b120 (.cons b122 (.cons b123 (.cons b124 .nil)))))))) tb_ok ap_ok ?_
   refine all1 (by kernel_rfl) ?_
   intro vs ls H132 E132 st hE
   have gz : Grew H H132 := (grew_own g126 (st.inn.kept) ⟨op7, trivial⟩)
   have hin : i65 = sw.toNat := by omega
   have hc : relaxF ms ks sw = ((relT ms ks i65), ks, (i65 : Int), 0) := by
    unfold relaxF; rw [if_pos f25, if_pos (by omega), if_pos (relI_none (hin ▸ iv65)), hin]; congr 3; omega
   exact res_ex (by kernel_rfl) (end_same st.inn hE (.inr rfl) (a := .tuple [.agg [S34, S35], .int .i64 (i65 : Int), .int .i64 0]) (by kernel_rfl) gz.next (by rw [hc]; exact ⟨gz, _, _, rfl, (s129.keep st.inn.kept ⟨by assumption, trivial⟩), fr39, ((s130.keep st.inn.kept ⟨by assumption, trivial⟩)).toW, fr42, (by first | assumption | exact ApartS.symm (by assumption))⟩))
 ·
  intro vs ls H133 E133 st hE
  have f134 : sw < 0 := dt st 0
  have f135 : (okG ms ks) = true := bf st 1
  have gz : Grew H H133 := (grew_own g14 (st.inn.kept) ⟨op7, trivial⟩)
  have hc : relaxF ms ks sw = ([], [], 0, 2) := by unfold relaxF; rw [if_pos f135, if_neg (by omega)]
  exact res_ex (by kernel_rfl) (end_same st.inn hE (.inr rfl) (a := .tuple [.agg [.nilslice, .nilslice], .int .i64 0, .int .i64 2]) (by kernel_rfl) gz.next (by rw [hc]; exact ⟨gz, _, _, rfl, (.nil rfl), FreshS.nil, (.nil rfl), FreshS.nil, ApartS.nil⟩))
end Go.Proofs.Ytcmoeocemmeofaa
