/- The law of NearestMark, walked. -/
import Derived.Test.YtgjhjemmddojfaaTMnearC
import Derived.Test.YtgjhjemmddojfaaTMapW
set_option linter.unusedVariables false
set_option linter.unusedSimpArgs false
namespace Go.Proofs.Ytgjhjemmddojfaa
open Go.Ab
set_option maxRecDepth 100000
set_option maxHeartbeats 1000000
attribute [local irreducible] Res
theorem k_toVec (a b c : Option Nat) (ha : fOk .f32 a) (hb : fOk .f32 b) (hc : fOk .f32 c) (H : AHeap) : APure Try.prog 22 [.agg [.flt .f32 a, .flt .f32 b, .flt .f32 c]] H (.agg [.flt .f32 a, .flt .f32 b, .flt .f32 c]) := by
 refine res_start h_laws_toVec (by simp) ?_
 have q1 : KdsL [KF, KF, KF] [.flt .f32 a, .flt .f32 b, .flt .f32 c] := .cons ⟨_, rfl, ha⟩ (.cons ⟨_, rfl, hb⟩ (.cons ⟨_, rfl, hc⟩ .nil))
 refine run_mc (φ := φ0) (pm := pmR 0 [] 10) 20 (ws := []) (env := [(0, .agg [nF 0, nF 1, nF 2])]) q1 .nil (sepOk_ro rfl) .nil (eC q1 (.cons (t := 0) rfl .nil)) tb_ok ap_ok ?_
 refine all1 (by kernel_rfl) ?_
 intro vs ls H2 E2 st hE
 refine res_ex (by kernel_rfl) (end_flat st.inn hE (.inr rfl) (a := .agg [.flt .f32 a, .flt .f32 b, .flt .f32 c]) (by kernel_rfl) (Grew.trans (Grew.refl _) (gk st)) rfl ⟨?_, rfl⟩)
 rfl
theorem lawExactNearestMark (H : AHeap) (vs : List AV) (h : FitArgs H [(true, [.flt .f32, .sl [.int .i32, .int .i32, .int .i32, .flt .f32, .flt .f32, .flt .f32, .flt .f32, .int .i64, .int .i64]]), (true, [.flt .f32, .flt .f32, .flt .f32]), (false, [.flt .f32])] vs) : ACalls Try.prog 14 vs H fun r _ => r = .bool true := by
 match vs, h with
 | [m, v, gg], h =>
 obtain ⟨x, ms, S, rfl, hx, hr, hS, hmx⟩ := mapArg h.1
 obtain ⟨a, b, c, rfl, ha, hb, hc⟩ := vecArg h.2.1
 obtain ⟨sc, ec, fc⟩ := h.2.2.1
 cases ec
 cases fc
 rename_i g hg
 clear h
 obtain ⟨v0, v1, v2, v3, v4, v5, v6, v7, v8, hp, o3, o4, o5, o6⟩ := partsMark (nearestF_ok x hr a b c g)
 obtain ⟨code, hcode⟩ : ∃ code, code = (nearestF x ms a b c g).2 := ⟨_, rfl⟩
 have hmk : (AV.tuple [.agg (nearestF x ms a b c g).1, .int .i64 (nearestF x ms a b c g).2]) = .tuple [.agg [.int .i32 v0, .int .i32 v1, .int .i32 v2, .flt .f32 v3, .flt .f32 v4, .flt .f32 v5, .flt .f32 v6, .int .i64 v7, .int .i64 v8], .int .i64 code] := by rw [hp, hcode]
 refine res_start h_laws_FnExactNearestMark (by simp) ?_
 obtain ⟨q1, kq1, hq1⟩ : ∃ r : Int, (∀ H9, Grew H H9 → APure Try.prog 30 [.agg [.flt .f32 x, S], .int .i64 1048576] H9 (.int .i64 r)) ∧ (r < 0 ∨ r = 1048576 - ms.length) := ⟨_, fun H9 hk => k_szLandMap H9 x hx ms S (hS.grew (Grew.trans (Grew.refl _) hk)) 1048576 (by omega) (by omega) hmx, by split <;> omega⟩
 have q2 : KdsL [KF, .one, KF, KF, KF, KF, K2, K2, K2, KF, KF, KF, KF, KI, KI, KI, KI] [.flt .f32 x, S, .flt .f32 a, .flt .f32 b, .flt .f32 c, .flt .f32 g, .int .i32 v0, .int .i32 v1, .int .i32 v2, .flt .f32 v3, .flt .f32 v4, .flt .f32 v5, .flt .f32 v6, .int .i64 v7, .int .i64 v8, .int .i64 code, .int .i64 q1] := .cons ⟨_, rfl, hx⟩ (.cons (slOne hS) (.cons ⟨_, rfl, ha⟩ (.cons ⟨_, rfl, hb⟩ (.cons ⟨_, rfl, hc⟩ (.cons ⟨_, rfl, hg⟩ (.cons ⟨_, rfl⟩ (.cons ⟨_, rfl⟩ (.cons ⟨_, rfl⟩ (.cons ⟨_, rfl, o3⟩ (.cons ⟨_, rfl, o4⟩ (.cons ⟨_, rfl, o5⟩ (.cons ⟨_, rfl, o6⟩ (.cons ⟨_, rfl⟩ (.cons ⟨_, rfl⟩ (.cons ⟨_, rfl⟩ (.cons ⟨_, rfl⟩ .nil))))))))))))))))
 refine run_mc (φ := φ0) (pm := pmR 0 [(.call 30 [.agg [nF 0, n1 1], .lit (.int .i64 1048576)], nI 16)] 0) 20 (ws := []) (env := [(0, .agg [nF 0, n1 1]), (1, .agg [nF 2, nF 3, nF 4]), (2, nF 5)]) q2 .nil (sepOk_ro rfl) (.cons (rule_call (args := [.agg [.flt .f32 x, S], .int .i64 1048576]) (dL q2) (dE q2) (fun H9 hk => kq1 H9 (hk.grew (Nat.le_refl _)))) .nil) (eC q2 (.cons (t := 0) rfl (.cons (t := 1) rfl (.cons (t := 2) rfl .nil)))) tb_ok ap_ok ?_
 refine all2 (by kernel_rfl) ?_ ?_
 ·
  intro vs ls H3 E3 st hE
  have f4 : q1 < 0 := dt st 0
  exact res_ex (by kernel_rfl) (end_same st.inn hE (.inr rfl) (a := .bool true) (by kernel_rfl) (Nat.le_trans (Nat.le_refl _) st.kept.1) rfl)
 ·
  intro vs ls H5 E5 st hE
  have f6 : ¬ (q1 < 0) := df st 0
  have mxms : ms.length ≤ 1048576 := by omega
  obtain ⟨p7, e8, r9, n10⟩ := ptr_of st.inn hE 8 2 (by kernel_rfl) (ds := [.int .i32 0, .int .i32 0, .int .i32 0, .flt .f32 (some 0), .flt .f32 (some 0), .flt .f32 (some 0), .flt .f32 (some 0), .int .i64 0, .int .i64 0]) (by kernel_rfl)
  have op7 : H.next ≤ p7 := Nat.le_trans (Nat.le_refl _) (n10 (Nat.le_of_ble_eq_true rfl))
  obtain ⟨p11, e12, r13, n14⟩ := ptr_of st.inn hE 3 0 (by kernel_rfl) (ds := [.flt .f32 x, S]) (by kernel_rfl)
  have op11 : H.next ≤ p11 := Nat.le_trans (Nat.le_refl _) (n14 (Nat.le_of_ble_eq_true rfl))
  obtain ⟨p15, e16, r17, n18⟩ := ptr_of st.inn hE 4 1 (by kernel_rfl) (ds := [.flt .f32 a, .flt .f32 b, .flt .f32 c]) (by kernel_rfl)
  have op15 : H.next ≤ p15 := Nat.le_trans (Nat.le_refl _) (n18 (Nat.le_of_ble_eq_true rfl))
  have ne19 : Apart p7 p11 := ⟨ptr_ne st.inn hE 8 2 3 0 (by kernel_rfl) (by kernel_rfl) (cs := [.lit (.int .i32 0), .lit (.int .i32 0), .lit (.int .i32 0), .lit (.flt .f32 (some 0)), .lit (.flt .f32 (some 0)), .lit (.flt .f32 (some 0)), .lit (.flt .f32 (some 0)), .lit (.int .i64 0), .lit (.int .i64 0)]) (by kernel_rfl) (by decide) e8 e12⟩
  have ne20 : Apart p7 p15 := ⟨ptr_ne st.inn hE 8 2 4 1 (by kernel_rfl) (by kernel_rfl) (cs := [.lit (.int .i32 0), .lit (.int .i32 0), .lit (.int .i32 0), .lit (.flt .f32 (some 0)), .lit (.flt .f32 (some 0)), .lit (.flt .f32 (some 0)), .lit (.flt .f32 (some 0)), .lit (.int .i64 0), .lit (.int .i64 0)]) (by kernel_rfl) (by decide) e8 e16⟩
  have ne21 : Apart p11 p15 := ⟨ptr_ne st.inn hE 3 0 4 1 (by kernel_rfl) (by kernel_rfl) (cs := [.nd 0 (.flt .f32), .nd 1 .one]) (by kernel_rfl) (by decide) e12 e16⟩
  have b22 := eo st hE 19 (.agg [.flt .f32 x, S])
  have b23 := eo st hE 21 (.agg [.flt .f32 a, .flt .f32 b, .flt .f32 c])
  have b24 := eo st hE 23 (.flt .f32 g)
  have b25 := eo st hE 2 (.flt .f32 g)
  have g26 : Grew H H5 := (gk st)
  have g27 : Grew H H5 := Grew.trans (Grew.refl _) g26
  clear st hE vs ls
  refine res_kid (free := false) (d := (some 20)) (f := 32) (args := [.tmp 19]) (by kernel_rfl) (R := fun z H' => Grew H5 H' ∧ ∃ S', z = .agg [.flt .f32 x, S'] ∧ SlW H' 9 ms S' ∧ FreshS H5.next S') ?_ ?_
  ·
   show ACalls _ _ [E5 19] _ _
   rw [b22]
   exact w_toLandMap H5 x hx ms hr S (hS.grew g27) mxms
  rintro z H29 ⟨gS28, S28, rfl, sS28, fS28⟩
  refine ⟨gS28, ?_⟩
  have ne30 : ApartL (S28) p7 := fS28.apartL (H5.lt_of_get r9)
  have ne31 : ApartL (S28) p11 := fS28.apartL (H5.lt_of_get r13)
  have ne32 : ApartL (S28) p15 := fS28.apartL (H5.lt_of_get r17)
  have fr33 : FreshS H.next (S28) := fS28.mono g27.next
  have g34 : Grew H H29 := Grew.trans g27 gS28
  have r35 := gS28.at r9
  have r36 := gS28.at r13
  have r37 := gS28.at r17
  have q38 := q2.app (.cons sS28.one .nil : KdsL [.one] [S28])
  refine run_mc (φ := φ0) (pm := pmR 2 [(.call 22 [.agg [nF 2, nF 3, nF 4]], .agg [nF 2, nF 3, nF 4]), (.call 51 [.agg [nF 0, n1 17], .agg [nF 2, nF 3, nF 4], nF 5], .tup [.agg [n2 6, n2 7, n2 8, nF 9, nF 10, nF 11, nF 12, nI 13, nI 14], nI 15])] 0) 20 (ws := [⟨p11, 0, [nF 0, n1 1], false⟩, ⟨p15, 0, [nF 2, nF 3, nF 4], false⟩, ⟨p7, 0, [.lit (.int .i32 0), .lit (.int .i32 0), .lit (.int .i32 0), .lit (.flt .f32 (some 0)), .lit (.flt .f32 (some 0)), .lit (.flt .f32 (some 0)), .lit (.flt .f32 (some 0)), .lit (.int .i64 0), .lit (.int .i64 0)], true⟩]) (env := [(19, .agg [nF 0, n1 1]), (21, .agg [nF 2, nF 3, nF 4]), (23, nF 5), (8, .ptr 2 0), (3, .ptr 0 0), (4, .ptr 1 0), (2, nF 5), (20, .agg [nF 0, n1 17])]) q38 (.cons (wR r36 q38) (.cons (wR r37 q38) (.cons (wO r35 q38) .nil))) (sepD (by repeat (first | exact .nil | refine .cons (by first | assumption | exact Apart.symm (by assumption)) ?_))) (.cons (rule_call (args := [.agg [.flt .f32 a, .flt .f32 b, .flt .f32 c]]) (dL q38) (dE q38) (fun H9 hk => k_toVec a b c ha hb hc H9)) (.cons (rule_call (args := [.agg [.flt .f32 x, S28], .agg [.flt .f32 a, .flt .f32 b, .flt .f32 c], .flt .f32 g]) (r := .tuple [.agg [.int .i32 v0, .int .i32 v1, .int .i32 v2, .flt .f32 v3, .flt .f32 v4, .flt .f32 v5, .flt .f32 v6, .int .i64 v7, .int .i64 v8], .int .i64 code]) (dL q38) (dE q38) (fun H9 hk => hmk ▸ k_spec_NearestMark H9 x hx ms hr _ ((sS28.keep hk ⟨by assumption, trivial⟩)).toL mxms a b c ha hb hc g hg)) .nil)) (eC q38 (.cons (put_ne rfl b22) (.cons (put_ne rfl b23) (.cons (put_ne rfl b24) (.cons (put_ne rfl e8) (.cons (put_ne rfl e12) (.cons (put_ne rfl e16) (.cons (put_ne rfl b25) (.cons put_same .nil))))))))) tb_ok ap_ok ?_
  refine all1 (by kernel_rfl) ?_
  intro vs ls H39 E39 st hE
  have r40 : H39.get p7 = some (.row [.int .i32 v0, .int .i32 v1, .int .i32 v2, .flt .f32 v3, .flt .f32 v4, .flt .f32 v5, .flt .f32 v6, .int .i64 v7, .int .i64 v8] true) := row_whole st.inn 2 (l := p7) (b := 0) rfl (by kernel_rfl)
  have b41 := eo st hE 27 (.agg [.flt .f32 x, S])
  have b42 := eo st hE 4 (.ptr p15 0)
  have b43 := eo st hE 2 (.flt .f32 g)
  have b44 := eo st hE 8 (.ptr p7 0)
  have b45 := eo st hE 9 (.int .i64 code)
  have b46 := eo st hE 3 (.ptr p11 0)
  have g48 : Grew H H39 := grew_own g34 st.inn.kept ⟨op7, trivial⟩
  have r49 := kept_at st.inn.kept r36 ⟨by first | assumption | exact Apart.symm (by assumption), trivial⟩
  have r50 := kept_at st.inn.kept r37 ⟨by first | assumption | exact Apart.symm (by assumption), trivial⟩
  have s51 := sS28.keep st.inn.kept ⟨by assumption, trivial⟩
  clear st hE vs ls
  refine res_call (d := (some 28)) (f := 32) (args := [.tmp 27]) (by kernel_rfl) (R := fun z H' => Grew H39 H' ∧ ∃ S', z = .agg [.flt .f32 x, S'] ∧ SlW H' 9 ms S' ∧ FreshS H39.next S') ?_ ?_
  ·
   show ACalls _ _ [E39 27] _ _
   rw [b41]
   exact w_toLandMap H39 x hx ms hr S (hS.grew g48) mxms
  rintro z H53 ⟨gS52, S52, rfl, sS52, fS52⟩
  have ne54 : ApartL (S52) p11 := fS52.apartL (H39.lt_of_get r49)
  have ne55 : ApartL (S52) p15 := fS52.apartL (H39.lt_of_get r50)
  have ne56 : ApartL (S52) p7 := fS52.apartL (H39.lt_of_get r40)
  have ne57 : ApartS (S52) (S28) := fS52.apartS s51.lt
  have fr58 : FreshS H.next (S52) := fS52.mono g48.next
  have g59 : Grew H H53 := Grew.trans g48 gS52
  have r60 := gS52.at r49
  have r61 := gS52.at r50
  have r62 := gS52.at r40
  have s63 := s51.grew gS52
  have q64 := q38.app (.cons sS52.one .nil : KdsL [.one] [S52])
  refine run_mc (φ := φ0) (pm := pmR 2 [(.call 22 [.agg [nF 2, nF 3, nF 4]], .agg [nF 2, nF 3, nF 4]), (.call 52 [.agg [nF 0, n1 18], .agg [nF 2, nF 3, nF 4], nF 5], .tup [.agg [n2 6, n2 7, n2 8, nF 9, nF 10, nF 11, nF 12, nI 13, nI 14], nI 15]), (.call 38 [.agg [n2 6, n2 7, n2 8, nF 9, nF 10, nF 11, nF 12, nI 13, nI 14], .agg [n2 6, n2 7, n2 8, nF 9, nF 10, nF 11, nF 12, nI 13, nI 14]], .lit (.bool true))] 0) 20 (ws := [⟨p11, 0, [nF 0, n1 1], false⟩, ⟨p15, 0, [nF 2, nF 3, nF 4], false⟩, ⟨p7, 0, [n2 6, n2 7, n2 8, nF 9, nF 10, nF 11, nF 12, nI 13, nI 14], true⟩]) (env := [(27, .agg [nF 0, n1 1]), (4, .ptr 1 0), (2, nF 5), (8, .ptr 2 0), (9, nI 15), (3, .ptr 0 0), (28, .agg [nF 0, n1 18])]) q64 (.cons (wR r60 q64) (.cons (wR r61 q64) (.cons (wO r62 q64) .nil))) (sepD (by repeat (first | exact .nil | refine .cons (by first | assumption | exact Apart.symm (by assumption)) ?_))) (.cons (rule_call (args := [.agg [.flt .f32 a, .flt .f32 b, .flt .f32 c]]) (dL q64) (dE q64) (fun H9 hk => k_toVec a b c ha hb hc H9)) (.cons (rule_call (args := [.agg [.flt .f32 x, S52], .agg [.flt .f32 a, .flt .f32 b, .flt .f32 c], .flt .f32 g]) (r := .tuple [.agg [.int .i32 v0, .int .i32 v1, .int .i32 v2, .flt .f32 v3, .flt .f32 v4, .flt .f32 v5, .flt .f32 v6, .int .i64 v7, .int .i64 v8], .int .i64 code]) (dL q64) (dE q64) (fun H9 hk => hmk ▸ k_impl_NearestMark H9 x hx ms hr _ ((sS52.keep hk ⟨by assumption, trivial⟩)).toL mxms a b c ha hb hc g hg)) (.cons (rule_call (args := [.agg [.int .i32 v0, .int .i32 v1, .int .i32 v2, .flt .f32 v3, .flt .f32 v4, .flt .f32 v5, .flt .f32 v6, .int .i64 v7, .int .i64 v8], .agg [.int .i32 v0, .int .i32 v1, .int .i32 v2, .flt .f32 v3, .flt .f32 v4, .flt .f32 v5, .flt .f32 v6, .int .i64 v7, .int .i64 v8]]) (dL q64) (dE q64) (fun H9 hk => k_eqMark [.int .i32 v0, .int .i32 v1, .int .i32 v2, .flt .f32 v3, .flt .f32 v4, .flt .f32 v5, .flt .f32 v6, .int .i64 v7, .int .i64 v8] (.cons ⟨_, rfl⟩ (.cons ⟨_, rfl⟩ (.cons ⟨_, rfl⟩ (.cons ⟨_, rfl, o3⟩ (.cons ⟨_, rfl, o4⟩ (.cons ⟨_, rfl, o5⟩ (.cons ⟨_, rfl, o6⟩ (.cons ⟨_, rfl⟩ (.cons ⟨_, rfl⟩ .nil))))))))) H9)) .nil))) (eC q64 (.cons (put_ne rfl b41) (.cons (put_ne rfl b42) (.cons (put_ne rfl b43) (.cons (put_ne rfl b44) (.cons (put_ne rfl b45) (.cons (put_ne rfl b46) (.cons put_same .nil)))))))) tb_ok ap_ok ?_
  refine all1 (by kernel_rfl) ?_
  intro vs ls H65 E65 st hE
  have b66 := eo st hE 47 (.agg [.flt .f32 x, S])
  have b67 := eo st hE 46 (.agg [.flt .f32 x, S52])
  have g68 : Grew H53 H65 := (gk st)
  have g69 : Grew H H65 := Grew.trans g59 g68
  have s73 := s63.grew g68
  have s74 := sS52.grew g68
  clear st hE vs ls
  refine res_kid (free := false) (d := (some 48)) (f := 32) (args := [.tmp 47]) (by kernel_rfl) (R := fun z H' => Grew H65 H' ∧ ∃ S', z = .agg [.flt .f32 x, S'] ∧ SlW H' 9 ms S' ∧ FreshS H65.next S') ?_ ?_
  ·
   show ACalls _ _ [E65 47] _ _
   rw [b66]
   exact w_toLandMap H65 x hx ms hr S (hS.grew g69) mxms
  rintro z H76 ⟨gS75, S75, rfl, sS75, fS75⟩
  refine ⟨gS75, ?_⟩
  have ne77 : ApartS (S75) (S28) := fS75.apartS s73.lt
  have ne78 : ApartS (S75) (S52) := fS75.apartS s74.lt
  have fr79 : FreshS H.next (S75) := fS75.mono g69.next
  have g80 : Grew H H76 := Grew.trans g69 gS75
  have s82 := s74.grew gS75
  have q83 := q64.app (.cons sS75.one .nil : KdsL [.one] [S75])
  refine run_mc (φ := φ0) (pm := pmR 0 [(.call 27 [.agg [nF 0, n1 18], .agg [nF 0, n1 19]], .lit (.bool true))] 0) 20 (ws := []) (env := [(47, .agg [nF 0, n1 1]), (46, .agg [nF 0, n1 18]), (48, .agg [nF 0, n1 19])]) q83 .nil (sepOk_ro rfl) (.cons (rule_call (args := [.agg [.flt .f32 x, S52], .agg [.flt .f32 x, S75]]) (dL q83) (dE q83) (fun H9 hk => k_eqLandMap H9 x hx ms hr _ _ ((s82.grew (hk.grew (Nat.le_refl _)))).toL ((sS75.grew (hk.grew (Nat.le_refl _)))).toL (mx40 mxms))) .nil) (eC q83 (.cons (put_ne rfl b66) (.cons (put_ne rfl b67) (.cons put_same .nil)))) tb_ok ap_ok ?_
  refine all1 (by kernel_rfl) ?_
  intro vs ls H84 E84 st hE
  exact res_ex (by kernel_rfl) (end_same st.inn hE (.inr rfl) (a := .bool true) (by kernel_rfl) (Nat.le_trans g80.next st.kept.1) rfl)
end Go.Proofs.Ytgjhjemmddojfaa
