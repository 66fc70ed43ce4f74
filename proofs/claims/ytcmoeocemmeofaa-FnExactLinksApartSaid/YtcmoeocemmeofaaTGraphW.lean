/- Contracts of the law's words for graphs: sizes, copies, comparisons. -/
import Derived.Test.YtcmoeocemmeofaaTGraphB
set_option linter.unusedVariables false
set_option linter.unusedSimpArgs false
namespace Go.Proofs.Ytcmoeocemmeofaa
open Go.Ab
set_option maxRecDepth 100000
set_option maxHeartbeats 1000000
attribute [local irreducible] Res
theorem w_toPoseS (H : AHeap) (ms : List (List AV)) (hr : Recs KP ms) (S : AV) (hS : SlL H 3 ms S) (hmax : ms.length ≤ 1048576) : ACalls Try.prog 21 [S] H fun r H' => Grew H H' ∧ SlW H' 3 ms r ∧ FreshS H.next r := by
 refine (k_toPoseS H ms hr S hS hmax).mono ?_
 rintro r H' ⟨g, l, hl, rfl, row⟩
 exact ⟨g, .sl (rest := []) (by simpa using row) rfl (Nat.le_refl _), .of_le hl⟩
theorem w_toLinkS (H : AHeap) (ms : List (List AV)) (hr : Recs KL ms) (S : AV) (hS : SlL H 6 ms S) (hmax : ms.length ≤ 1048576) : ACalls Try.prog 49 [S] H fun r H' => Grew H H' ∧ SlW H' 6 ms r ∧ FreshS H.next r := by
 refine (k_toLinkS H ms hr S hS hmax).mono ?_
 rintro r H' ⟨g, l, hl, rfl, row⟩
 exact ⟨g, .sl (rest := []) (by simpa using row) rfl (Nat.le_refl _), .of_le hl⟩
theorem k_szPoseGraph (H : AHeap) (ms : List (List AV)) (S : AV) (hS : SlL H 3 ms S) (hmx : ms.length ≤ 9223372036854775807) (ks : List (List AV)) (Sk : AV) (hSk : SlL H 6 ks Sk) (hmxk : ks.length ≤ 9223372036854775807) (left : Int) (h0 : -1 ≤ left) (h1 : left ≤ 4611686018427387904) : APure Try.prog 13 [.agg [S, Sk], .int .i64 left] H (.int .i64 (if left - ms.length < 0 then -1 else if left - ms.length - ks.length < 0 then -1 else left - ms.length - ks.length)) := by
 refine res_start h_laws_szPoseGraph (by simp) ?_
 obtain ⟨q1, kq1, hq1⟩ : ∃ r : Int, (∀ H9, Grew H H9 → APure Try.prog 18 [S, .int .i64 left] H9 (.int .i64 r)) ∧ (((left : Int) - (ms.length : Int) < 0 ∧ r = -1) ∨ (0 ≤ (left : Int) - (ms.length : Int) ∧ r = (left : Int) - (ms.length : Int))) := ⟨_, fun H9 hk => k_szPoseS H9 ms S (hS.grew (Grew.trans (Grew.refl _) hk)) left (by omega) (by omega) hmx, by split <;> omega⟩
 obtain ⟨q2, kq2, hq2⟩ : ∃ r : Int, (∀ H9, Grew H H9 → APure Try.prog 47 [Sk, .int .i64 q1] H9 (.int .i64 r)) ∧ (((q1 : Int) - (ks.length : Int) < 0 ∧ r = -1) ∨ (0 ≤ (q1 : Int) - (ks.length : Int) ∧ r = (q1 : Int) - (ks.length : Int))) := ⟨_, fun H9 hk => k_szLinkS H9 ks Sk (hSk.grew (Grew.trans (Grew.refl _) hk)) q1 (by omega) (by omega) hmxk, by split <;> omega⟩
 have q3 : KdsL [.one, .one, KI, KI, KI] [S, Sk, .int .i64 left, .int .i64 q1, .int .i64 q2] := .cons (slOne hS) (.cons (slOne hSk) (.cons ⟨_, rfl⟩ (.cons ⟨_, rfl⟩ (.cons ⟨_, rfl⟩ .nil))))
 refine run_mc (φ := φ0) (pm := pmR 0 [(.call 18 [n1 0, nI 2], nI 3), (.call 47 [n1 1, nI 3], nI 4)] 0) 20 (ws := []) (env := [(0, .agg [n1 0, n1 1]), (1, nI 2)]) q3 .nil (sepOk_ro rfl) (.cons (rule_call (args := [S, .int .i64 left]) (dL q3) (dE q3) (fun H9 hk => kq1 H9 (hk.grew (Nat.le_refl _)))) (.cons (rule_call (args := [Sk, .int .i64 q1]) (dL q3) (dE q3) (fun H9 hk => kq2 H9 (hk.grew (Nat.le_refl _)))) .nil)) (eC q3 (.cons (t := 0) rfl (.cons (t := 1) rfl .nil))) tb_ok ap_ok ?_
 refine all3 (by kernel_rfl) ?_ ?_ ?_
 ·
  intro vs ls H4 E4 st hE
  have f5 : q1 < 0 := dt st 0
  refine res_ex (by kernel_rfl) (end_flat st.inn hE (.inr rfl) (a := .int .i64 (-1)) (by kernel_rfl) (Grew.trans (Grew.refl _) (gk st)) rfl ⟨?_, rfl⟩)
  congr 1; split <;> (try split) <;> omega
 ·
  intro vs ls H6 E6 st hE
  have f7 : q2 < 0 := dt st 0
  have f8 : ¬ (q1 < 0) := df st 1
  refine res_ex (by kernel_rfl) (end_flat st.inn hE (.inr rfl) (a := .int .i64 (-1)) (by kernel_rfl) (Grew.trans (Grew.refl _) (gk st)) rfl ⟨?_, rfl⟩)
  congr 1; split <;> (try split) <;> omega
 ·
  intro vs ls H9 E9 st hE
  have f10 : ¬ (q2 < 0) := df st 0
  have f11 : ¬ (q1 < 0) := df st 1
  refine res_ex (by kernel_rfl) (end_flat st.inn hE (.inr rfl) (a := .int .i64 q2) (by kernel_rfl) (Grew.trans (Grew.refl _) (gk st)) rfl ⟨?_, rfl⟩)
  congr 1; split <;> (try split) <;> omega
theorem k_toPoseGraph (H : AHeap) (ms : List (List AV)) (hr : Recs KP ms) (S : AV) (hS : SlL H 3 ms S) (mxms : ms.length ≤ 1048576) (ks : List (List AV)) (hrk : Recs KL ks) (Sk : AV) (hSk : SlL H 6 ks Sk) (mxks : ks.length ≤ 1048576) : ACalls Try.prog 15 [.agg [S, Sk]] H fun r H' => Grew H H' ∧ ∃ S' Sk', r = .agg [S', Sk'] ∧ SlW H' 3 ms S' ∧ FreshS H.next S' ∧ SlW H' 6 ks Sk' ∧ FreshS H.next Sk' ∧ ApartS S' Sk' := by
 refine res_start h_laws_toPoseGraph (by simp) ?_
 have q1 : KdsL [.one, .one] [S, Sk] := .cons (slOne hS) (.cons (slOne hSk) .nil)
 refine run_mc (φ := φ0) (pm := pmR 0 [] 0) 20 (ws := []) (env := [(0, .agg [n1 0, n1 1])]) q1 .nil (sepOk_ro rfl) .nil (eC q1 (.cons (t := 0) rfl .nil)) tb_ok ap_ok ?_
 refine all1 (by kernel_rfl) ?_
 intro vs ls H2 E2 st hE
 obtain ⟨p3, e4, r5, n6⟩ := ptr_of st.inn hE 3 2 (by kernel_rfl) (ds := [.nilslice, .nilslice]) (by kernel_rfl)
 have op3 : H.next ≤ p3 := Nat.le_trans (Nat.le_refl _) (n6 (Nat.le_of_ble_eq_true rfl))
 obtain ⟨p7, e8, r9, n10⟩ := ptr_of st.inn hE 1 0 (by kernel_rfl) (ds := [S, Sk]) (by kernel_rfl)
 have op7 : H.next ≤ p7 := Nat.le_trans (Nat.le_refl _) (n10 (Nat.le_of_ble_eq_true rfl))
 obtain ⟨p11, e12, r13, n14⟩ := ptr_of st.inn hE 2 1 (by kernel_rfl) (ds := [.nilslice, .nilslice]) (by kernel_rfl)
 have op11 : H.next ≤ p11 := Nat.le_trans (Nat.le_refl _) (n14 (Nat.le_of_ble_eq_true rfl))
 have ne15 : Apart p3 p7 := ⟨ptr_ne st.inn hE 3 2 1 0 (by kernel_rfl) (by kernel_rfl) (cs := [.lit .nilslice, .lit .nilslice]) (by kernel_rfl) (by decide) e4 e8⟩
 have ne16 : Apart p3 p11 := ⟨ptr_ne st.inn hE 3 2 2 1 (by kernel_rfl) (by kernel_rfl) (cs := [.lit .nilslice, .lit .nilslice]) (by kernel_rfl) (by decide) e4 e12⟩
 have ne17 : Apart p7 p11 := ⟨ptr_ne st.inn hE 1 0 2 1 (by kernel_rfl) (by kernel_rfl) (cs := [.nd 0 .one, .nd 1 .one]) (by kernel_rfl) (by decide) e8 e12⟩
 have b18 := eo st hE 5 S
 have g19 : Grew H H2 := (gk st)
 have g20 : Grew H H2 := Grew.trans (Grew.refl _) g19
 clear st hE vs ls
 refine res_call (d := (some 6)) (f := 21) (args := [.tmp 5]) (by kernel_rfl) (R := fun z H' => Grew H2 H' ∧ SlW H' 3 ms z ∧ FreshS H2.next z) ?_ ?_
 ·
  show ACalls _ _ [E2 5] _ _
  rw [b18]
  exact w_toPoseS H2 ms hr S (hS.grew g20) mxms
 rintro S21 H22 ⟨gS21, sS21, fS21⟩
 have ne23 : ApartL (S21) p3 := fS21.apartL (H2.lt_of_get r5)
 have ne24 : ApartL (S21) p7 := fS21.apartL (H2.lt_of_get r9)
 have ne25 : ApartL (S21) p11 := fS21.apartL (H2.lt_of_get r13)
 have fr26 : FreshS H.next (S21) := fS21.mono g20.next
 have g27 : Grew H H22 := Grew.trans g20 gS21
 have r28 := gS21.at r5
 have r29 := gS21.at r9
 have r30 := gS21.at r13
 have q31 := q1.app (.cons sS21.one .nil : KdsL [.one] [S21])
 refine run_mc (φ := φ0) (pm := pmR 2 [] 0) 20 (ws := [⟨p7, 0, [n1 0, n1 1], false⟩, ⟨p11, 0, [.lit .nilslice, .lit .nilslice], false⟩, ⟨p3, 0, [.lit .nilslice, .lit .nilslice], true⟩]) (env := [(5, n1 0), (3, .ptr 2 0), (1, .ptr 0 0), (2, .ptr 1 0), (6, n1 2)]) q31 (.cons (wR r29 q31) (.cons (wR r30 q31) (.cons (wO r28 q31) .nil))) (sepD (by repeat (first | exact .nil | refine .cons (by first | assumption | exact Apart.symm (by assumption)) ?_))) .nil (eC q31 (.cons (put_ne rfl b18) (.cons (put_ne rfl e4) (.cons (put_ne rfl e8) (.cons (put_ne rfl e12) (.cons put_same .nil)))))) tb_ok ap_ok ?_
 refine all1 (by kernel_rfl) ?_
 intro vs ls H32 E32 st hE
 have r33 : H32.get p3 = some (.row [S21, .nilslice] true) := row_whole st.inn 2 (l := p3) (b := 0) rfl (by kernel_rfl)
 have b34 := eo st hE 9 Sk
 have b35 := eo st hE 3 (.ptr p3 0)
 have b36 := eo st hE 2 (.ptr p11 0)
 have g38 : Grew H H32 := grew_own g27 st.inn.kept ⟨op3, trivial⟩
 have r40 := kept_at st.inn.kept r30 ⟨by first | assumption | exact Apart.symm (by assumption), trivial⟩
 have s41 := sS21.keep st.inn.kept ⟨by assumption, trivial⟩
 clear st hE vs ls
 refine res_call (d := (some 10)) (f := 49) (args := [.tmp 9]) (by kernel_rfl) (R := fun z H' => Grew H32 H' ∧ SlW H' 6 ks z ∧ FreshS H32.next z) ?_ ?_
 ·
  show ACalls _ _ [E32 9] _ _
  rw [b34]
  exact w_toLinkS H32 ks hrk Sk (hSk.grew g38) mxks
 rintro S42 H43 ⟨gS42, sS42, fS42⟩
 have ne44 : ApartL (S42) p11 := fS42.apartL (H32.lt_of_get r40)
 have ne45 : ApartL (S42) p3 := fS42.apartL (H32.lt_of_get r33)
 have ne46 : ApartS (S42) (S21) := fS42.apartS s41.lt
 have fr47 : FreshS H.next (S42) := fS42.mono g38.next
 have g48 : Grew H H43 := Grew.trans g38 gS42
 have r49 := gS42.at r40
 have r50 := gS42.at r33
 have s51 := s41.grew gS42
 have q52 := q31.app (.cons sS42.one .nil : KdsL [.one] [S42])
 refine run_mc (φ := φ0) (pm := pmR 0 [] 0) 20 (ws := [⟨p3, 0, [n1 2, .lit .nilslice], true⟩, ⟨p11, 0, [.lit .nilslice, .lit .nilslice], true⟩]) (env := [(9, n1 1), (3, .ptr 0 0), (2, .ptr 1 0), (10, n1 3)]) q52 (.cons (wO r50 q52) (.cons (wO r49 q52) .nil)) (sepD (by repeat (first | exact .nil | refine .cons (by first | assumption | exact Apart.symm (by assumption)) ?_))) .nil (eC q52 (.cons (put_ne rfl b34) (.cons (put_ne rfl b35) (.cons (put_ne rfl b36) (.cons put_same .nil))))) tb_ok ap_ok ?_
 refine all1 (by kernel_rfl) ?_
 intro vs ls H53 E53 st hE
 have gz : Grew H H53 := (grew_own g48 (st.inn.kept) ⟨op3, ⟨op11, trivial⟩⟩)
 exact res_ex (by kernel_rfl) (end_same st.inn hE (.inr rfl) (a := .agg [S21, S42]) (by kernel_rfl) gz.next ⟨gz, _, _, rfl, (s51.keep st.inn.kept ⟨by assumption, ⟨by assumption, trivial⟩⟩), fr26, (sS42.keep st.inn.kept ⟨by assumption, ⟨by assumption, trivial⟩⟩), fr47, by first | assumption | exact ApartS.symm (by assumption)⟩)
theorem k_eqPoseGraph (H : AHeap) (ms : List (List AV)) (hr : Recs KP ms) (S S' : AV) (hS : SlL H 3 ms S) (hS' : SlL H 3 ms S') (hmx : ms.length < 2 ^ 40) (ks : List (List AV)) (hrk : Recs KL ks) (Sk Sk' : AV) (hSk : SlL H 6 ks Sk) (hSk' : SlL H 6 ks Sk') (hmxk : ks.length < 2 ^ 40) : APure Try.prog 17 [.agg [S, Sk], .agg [S', Sk']] H (.bool true) := by
 refine res_start h_laws_eqPoseGraph (by simp) ?_
 have q1 : KdsL [.one, .one, .one, .one] [S, Sk, S', Sk'] := .cons (slOne hS) (.cons (slOne hSk) (.cons (slOne hS') (.cons (slOne hSk') .nil)))
 refine run_mc (φ := φ0) (pm := pmR 0 [(.call 23 [n1 0, n1 2], .lit (.bool true)), (.call 55 [n1 1, n1 3], .lit (.bool true))] 0) 20 (ws := []) (env := [(0, .agg [n1 0, n1 1]), (1, .agg [n1 2, n1 3])]) q1 .nil (sepOk_ro rfl) (.cons (rule_call (args := [S, S']) (dL q1) (dE q1) (fun H9 hk => k_eqPoseS H9 ms hr _ _ (hS.grew (Grew.trans (Grew.refl _) (hk.grew (Nat.le_refl _)))) (hS'.grew (Grew.trans (Grew.refl _) (hk.grew (Nat.le_refl _)))) hmx)) (.cons (rule_call (args := [Sk, Sk']) (dL q1) (dE q1) (fun H9 hk => k_eqLinkS H9 ks hrk _ _ (hSk.grew (Grew.trans (Grew.refl _) (hk.grew (Nat.le_refl _)))) (hSk'.grew (Grew.trans (Grew.refl _) (hk.grew (Nat.le_refl _)))) hmxk)) .nil)) (eC q1 (.cons (t := 0) rfl (.cons (t := 1) rfl .nil))) tb_ok ap_ok ?_
 refine all1 (by kernel_rfl) ?_
 intro vs ls H2 E2 st hE
 refine res_ex (by kernel_rfl) (end_flat st.inn hE (.inr rfl) (a := .bool true) (by kernel_rfl) (Grew.trans (Grew.refl _) (gk st)) rfl ⟨?_, rfl⟩)
 rfl
theorem graphArg {H : AHeap} {a : AV} (h : FitArg H (true, [.sl [.flt .f32, .flt .f32, .flt .f32], .sl [.int .i64, .int .i64, .flt .f32, .flt .f32, .flt .f32, .flt .f32]]) a) : ∃ (ms : List (List AV)) (S : AV) (ks : List (List AV)) (Sk : AV), a = .agg [S, Sk] ∧ Recs KP ms ∧ SlL H 3 ms S ∧ ms.length ≤ 9223372036854775807 ∧ Recs KL ks ∧ SlL H 6 ks Sk ∧ ks.length ≤ 9223372036854775807 := by
 obtain ⟨cs, rfl, hl, hc⟩ := h
 match cs, hl with
 | [c0, c1], _ =>
  have h0 := hc 0 _ _ rfl rfl
  have h1 := hc 1 _ _ rfl rfl
  obtain ⟨ms, g1, g2, g3⟩ := slArg (ks := KP) (sz := 3) h0 rfl rfl
  obtain ⟨ks, k1, k2, k3⟩ := slArg (ks := KL) (sz := 6) h1 rfl rfl
  exact ⟨ms, c0, ks, c1, rfl, g1, g2, g3, k1, k2, k3⟩
end Go.Proofs.Ytcmoeocemmeofaa
