/- The law of LinksApart, walked. -/
import Derived.Test.YtcmoeocemmeofaaTApartI
import Derived.Test.YtcmoeocemmeofaaTGraphW
set_option linter.unusedVariables false
set_option linter.unusedSimpArgs false
namespace Go.Proofs.Ytcmoeocemmeofaa
open Go.Ab
set_option maxRecDepth 100000
set_option maxHeartbeats 1000000
attribute [local irreducible] Res
theorem lawExactLinksApart (H : AHeap) (vs : List AV) (h : FitArgs H [(true, [.sl [.flt .f32, .flt .f32, .flt .f32], .sl [.int .i64, .int .i64, .flt .f32, .flt .f32, .flt .f32, .flt .f32]]), (false, [.int .i64]), (false, [.int .i64])] vs) : ACalls Try.prog 7 vs H fun r _ => r = .bool true := by
 match vs, h with
 | [a, b, d], h =>
 obtain ⟨ms, S, ks, Sk, rfl, hr, hS, hmx, hrk, hSk, hmxk⟩ := graphArg h.1
 obtain ⟨sb, eb, fb⟩ := h.2.1
 cases eb; cases fb
 rename_i i _
 obtain ⟨sb, eb, fb⟩ := h.2.2.1
 cases eb; cases fb
 rename_i j _
 clear h
 refine res_start h_laws_FnExactLinksApart (by simp) ?_
 obtain ⟨q1, kq1, hq1⟩ : ∃ r : Int, (∀ H9, Grew H H9 → APure Try.prog 13 [.agg [S, Sk], .int .i64 1048576] H9 (.int .i64 r)) ∧ (r = -1 ∨ (0 ≤ r ∧ r = 1048576 - (ms.length : Int) - (ks.length : Int))) := ⟨_, fun H9 hk => k_szPoseGraph H9 ms S (hS.grew (Grew.trans (Grew.refl _) hk)) hmx ks Sk (hSk.grew (Grew.trans (Grew.refl _) hk)) hmxk 1048576 (by omega) (by omega), by split <;> (try split) <;> omega⟩
 have q2 : KdsL [.one, .one, KI, KI, KI] [S, Sk, .int .i64 i, .int .i64 j, .int .i64 q1] := .cons (slOne hS) (.cons (slOne hSk) (.cons ⟨_, rfl⟩ (.cons ⟨_, rfl⟩ (.cons ⟨_, rfl⟩ .nil))))
 refine run_mc (φ := φ0) (pm := pmR 0 [(.call 13 [.agg [n1 0, n1 1], .lit (.int .i64 1048576)], nI 4)] 0) 20 (ws := []) (env := [(0, .agg [n1 0, n1 1]), (1, nI 2), (2, nI 3)]) q2 .nil (sepOk_ro rfl) (.cons (rule_call (args := [.agg [S, Sk], .int .i64 1048576]) (dL q2) (dE q2) (fun H9 hk => kq1 H9 (hk.grew (Nat.le_refl _)))) .nil) (eC q2 (.cons (t := 0) rfl (.cons (t := 1) rfl (.cons (t := 2) rfl .nil)))) tb_ok ap_ok ?_
 refine all2 (by kernel_rfl) ?_ ?_
 ·
  intro vs ls H3 E3 st hE
  have f4 : q1 < 0 := dt st 0
  exact res_ex (by kernel_rfl) (end_same st.inn hE (.inr rfl) (a := .bool true) (by kernel_rfl) (Nat.le_trans (Nat.le_refl _) st.kept.1) rfl)
 ·
  intro vs ls H5 E5 st hE
  have f6 : ¬ (q1 < 0) := df st 0
  have mxms : ms.length ≤ 1048576 := by omega
  have mxks : ks.length ≤ 1048576 := by omega
  obtain ⟨p7, e8, r9, n10⟩ := ptr_of st.inn hE 3 0 (by kernel_rfl) (ds := [S, Sk]) (by kernel_rfl)
  have op7 : H.next ≤ p7 := Nat.le_trans (Nat.le_refl _) (n10 (Nat.le_of_ble_eq_true rfl))
  have b11 := eo st hE 19 (.agg [S, Sk])
  have b12 := eo st hE 1 (.int .i64 i)
  have b13 := eo st hE 2 (.int .i64 j)
  have g14 : Grew H H5 := (gk st)
  have g15 : Grew H H5 := Grew.trans (Grew.refl _) g14
  clear st hE vs ls
  refine res_call (d := (some 20)) (f := 15) (args := [.tmp 19]) (by kernel_rfl) (R := fun z H' => Grew H5 H' ∧ ∃ S0' S1', z = .agg [S0', S1'] ∧ SlW H' 3 ms S0' ∧ FreshS H5.next S0' ∧ SlW H' 6 ks S1' ∧ FreshS H5.next S1' ∧ ApartS S0' S1') ?_ ?_
  ·
   show ACalls _ _ [E5 19] _ _
   rw [b11]
   exact k_toPoseGraph H5 ms hr S (hS.grew g15) mxms ks hrk Sk (hSk.grew g15) mxks
  rintro z H16 ⟨gH16, S17, S18, rfl, sS17, fS17, sS18, fS18, ap19⟩
  have ne20 : ApartL (S17) p7 := fS17.apartL (H5.lt_of_get r9)
  have fr21 : FreshS H.next (S17) := fS17.mono g15.next
  have ne22 : ApartL (S18) p7 := fS18.apartL (H5.lt_of_get r9)
  have fr23 : FreshS H.next (S18) := fS18.mono g15.next
  have g24 : Grew H H16 := Grew.trans g15 gH16
  have r25 := gH16.at r9
  have q26 := q2.app (.cons sS17.one (.cons sS18.one (.cons ⟨_, rfl⟩ (.cons ⟨_, rfl⟩ .nil))) : KdsL [.one, .one, KI, KI] [S17, S18, .int .i64 (apartG ms ks i j).1, .int .i64 (apartG ms ks i j).2])
  refine run_mc (φ := φ0) (pm := pmR 1 [(.call 32 [.agg [n1 5, n1 6], nI 2, nI 3], .tup [nI 7, nI 8])] 0) 20 (ws := [⟨p7, 0, [n1 0, n1 1], false⟩]) (env := [(19, .agg [n1 0, n1 1]), (1, nI 2), (2, nI 3), (3, .ptr 0 0), (20, .agg [n1 5, n1 6])]) q26 (.cons (wR r25 q26) .nil) (sepOk_ro rfl) (.cons (rule_call (args := [.agg [S17, S18], .int .i64 i, .int .i64 j]) (dL q26) (dE q26) (fun H9 hk => k_spec_LinksApart H9 ms hr S17 ((sS17.grew (hk.grew (Nat.le_refl _)))).toL (mx40 mxms) ks hrk S18 ((sS18.grew (hk.grew (Nat.le_refl _)))).toL (mx40 mxks) i j)) .nil) (eC q26 (.cons (put_ne rfl b11) (.cons (put_ne rfl b12) (.cons (put_ne rfl b13) (.cons (put_ne rfl e8) (.cons put_same .nil)))))) tb_ok ap_ok ?_
  refine all1 (by kernel_rfl) ?_
  intro vs ls H27 E27 st hE
  have b28 := eo st hE 26 (.agg [S, Sk])
  have b29 := eo st hE 1 (.int .i64 i)
  have b30 := eo st hE 2 (.int .i64 j)
  have b31 := eo st hE 8 (.int .i64 (apartG ms ks i j).1)
  have b32 := eo st hE 9 (.int .i64 (apartG ms ks i j).2)
  have b33 := eo st hE 3 (.ptr p7 0)
  have g34 : Grew H16 H27 := (gk st)
  have g35 : Grew H H27 := Grew.trans g24 g34
  have r36 := g34.at r25
  have s37 := sS17.grew g34
  have s38 := sS18.grew g34
  clear st hE vs ls
  refine res_call (d := (some 27)) (f := 15) (args := [.tmp 26]) (by kernel_rfl) (R := fun z H' => Grew H27 H' ∧ ∃ S0' S1', z = .agg [S0', S1'] ∧ SlW H' 3 ms S0' ∧ FreshS H27.next S0' ∧ SlW H' 6 ks S1' ∧ FreshS H27.next S1' ∧ ApartS S0' S1') ?_ ?_
  ·
   show ACalls _ _ [E27 26] _ _
   rw [b28]
   exact k_toPoseGraph H27 ms hr S (hS.grew g35) mxms ks hrk Sk (hSk.grew g35) mxks
  rintro z H39 ⟨gH39, S40, S41, rfl, sS40, fS40, sS41, fS41, ap42⟩
  have ne43 : ApartL (S40) p7 := fS40.apartL (H27.lt_of_get r36)
  have ne44 : ApartS (S40) (S17) := fS40.apartS s37.lt
  have ne45 : ApartS (S40) (S18) := fS40.apartS s38.lt
  have fr46 : FreshS H.next (S40) := fS40.mono g35.next
  have ne47 : ApartL (S41) p7 := fS41.apartL (H27.lt_of_get r36)
  have ne48 : ApartS (S41) (S17) := fS41.apartS s37.lt
  have ne49 : ApartS (S41) (S18) := fS41.apartS s38.lt
  have fr50 : FreshS H.next (S41) := fS41.mono g35.next
  have g51 : Grew H H39 := Grew.trans g35 gH39
  have r52 := gH39.at r36
  have s53 := s37.grew gH39
  have s54 := s38.grew gH39
  have q55 := q26.app (.cons sS40.one (.cons sS41.one .nil) : KdsL [.one, .one] [S40, S41])
  refine run_mc (φ := φ0) (pm := pmR 1 [(.call 33 [.agg [n1 9, n1 10], nI 2, nI 3], .tup [nI 7, nI 8])] 0) 20 (ws := [⟨p7, 0, [n1 0, n1 1], false⟩]) (env := [(26, .agg [n1 0, n1 1]), (1, nI 2), (2, nI 3), (8, nI 7), (9, nI 8), (3, .ptr 0 0), (27, .agg [n1 9, n1 10])]) q55 (.cons (wR r52 q55) .nil) (sepOk_ro rfl) (.cons (rule_call (args := [.agg [S40, S41], .int .i64 i, .int .i64 j]) (dL q55) (dE q55) (fun H9 hk => k_impl_LinksApart H9 ms hr S40 ((sS40.grew (hk.grew (Nat.le_refl _)))).toL (mx40 mxms) ks hrk S41 ((sS41.grew (hk.grew (Nat.le_refl _)))).toL (mx40 mxks) i j)) .nil) (eC q55 (.cons (put_ne rfl b28) (.cons (put_ne rfl b29) (.cons (put_ne rfl b30) (.cons (put_ne rfl b31) (.cons (put_ne rfl b32) (.cons (put_ne rfl b33) (.cons put_same .nil)))))))) tb_ok ap_ok ?_
  refine all1 (by kernel_rfl) ?_
  intro vs ls H56 E56 st hE
  have b57 := eo st hE 44 (.agg [S, Sk])
  have b58 := eo st hE 43 (.agg [S40, S41])
  have g59 : Grew H39 H56 := (gk st)
  have g60 : Grew H H56 := Grew.trans g51 g59
  have s62 := s53.grew g59
  have s63 := s54.grew g59
  have s64 := sS40.grew g59
  have s65 := sS41.grew g59
  clear st hE vs ls
  refine res_kid (free := false) (d := (some 45)) (f := 15) (args := [.tmp 44]) (by kernel_rfl) (R := fun z H' => Grew H56 H' ∧ ∃ S0' S1', z = .agg [S0', S1'] ∧ SlW H' 3 ms S0' ∧ FreshS H56.next S0' ∧ SlW H' 6 ks S1' ∧ FreshS H56.next S1' ∧ ApartS S0' S1') ?_ ?_
  ·
   show ACalls _ _ [E56 44] _ _
   rw [b57]
   exact k_toPoseGraph H56 ms hr S (hS.grew g60) mxms ks hrk Sk (hSk.grew g60) mxks
  rintro z H66 ⟨gH66, S67, S68, rfl, sS67, fS67, sS68, fS68, ap69⟩
  refine ⟨gH66, ?_⟩
  have ne70 : ApartS (S67) (S17) := fS67.apartS s62.lt
  have ne71 : ApartS (S67) (S18) := fS67.apartS s63.lt
  have ne72 : ApartS (S67) (S40) := fS67.apartS s64.lt
  have ne73 : ApartS (S67) (S41) := fS67.apartS s65.lt
  have fr74 : FreshS H.next (S67) := fS67.mono g60.next
  have ne75 : ApartS (S68) (S17) := fS68.apartS s62.lt
  have ne76 : ApartS (S68) (S18) := fS68.apartS s63.lt
  have ne77 : ApartS (S68) (S40) := fS68.apartS s64.lt
  have ne78 : ApartS (S68) (S41) := fS68.apartS s65.lt
  have fr79 : FreshS H.next (S68) := fS68.mono g60.next
  have g80 : Grew H H66 := Grew.trans g60 gH66
  have s83 := s64.grew gH66
  have s84 := s65.grew gH66
  have q85 := q55.app (.cons sS67.one (.cons sS68.one .nil) : KdsL [.one, .one] [S67, S68])
  refine run_mc (φ := φ0) (pm := pmR 0 [(.call 17 [.agg [n1 9, n1 10], .agg [n1 11, n1 12]], .lit (.bool true))] 0) 20 (ws := []) (env := [(44, .agg [n1 0, n1 1]), (43, .agg [n1 9, n1 10]), (45, .agg [n1 11, n1 12])]) q85 .nil (sepOk_ro rfl) (.cons (rule_call (args := [.agg [S40, S41], .agg [S67, S68]]) (dL q85) (dE q85) (fun H9 hk => k_eqPoseGraph H9 ms hr S40 S67 ((s83.grew (hk.grew (Nat.le_refl _)))).toL ((sS67.grew (hk.grew (Nat.le_refl _)))).toL (mx40 mxms) ks hrk S41 S68 ((s84.grew (hk.grew (Nat.le_refl _)))).toL ((sS68.grew (hk.grew (Nat.le_refl _)))).toL (mx40 mxks))) .nil) (eC q85 (.cons (put_ne rfl b57) (.cons (put_ne rfl b58) (.cons put_same .nil)))) tb_ok ap_ok ?_
  refine all1 (by kernel_rfl) ?_
  intro vs ls H86 E86 st hE
  exact res_ex (by kernel_rfl) (end_same st.inn hE (.inr rfl) (a := .bool true) (by kernel_rfl) (Nat.le_trans g80.next st.kept.1) rfl)
end Go.Proofs.Ytcmoeocemmeofaa
