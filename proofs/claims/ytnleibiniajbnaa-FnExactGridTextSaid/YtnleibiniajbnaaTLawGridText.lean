/- The law of GridText, walked. -/
import Derived.Test.YtnleibiniajbnaaTGridT
set_option linter.unusedVariables false
set_option linter.unusedSimpArgs false
namespace Go.Proofs.Ytnleibiniajbnaa
open Go.Ab
set_option maxRecDepth 100000
set_option maxHeartbeats 1000000
attribute [local irreducible] Res
theorem gridArg {H : AHeap} {a : AV} (h : FitArg H (true, [.int .i64, .int .i64, .sl [.int .u8]]) a) : ∃ (x y : Int) (ms : List (List AV)) (S : AV), a = .agg [.int .i64 x, .int .i64 y, S] ∧ RngB ms ∧ SlL H 1 ms S ∧ ms.length ≤ 9223372036854775807 := by
 obtain ⟨cs, rfl, hl, hc⟩ := h
 match cs, hl with
 | [c0, c1, c2], _ =>
  have h0 := hc 0 _ _ rfl rfl
  have h1 := hc 1 _ _ rfl rfl
  have h2 := hc 2 _ _ rfl rfl
  cases h0; cases h1

  refine ⟨_, _, _, c2, rfl, (slArgB h2).choose_spec.1, (slArgB h2).choose_spec.2.1, (slArgB h2).choose_spec.2.2⟩
open Classical in
theorem lawExactGridText (H : AHeap) (vs : List AV) (h : FitArgs H [(true, [.int .i64, .int .i64, .sl [.int .u8]])] vs) : ACalls Try.prog 7 vs H fun r _ => r = .bool true := by
 match vs, h with
 | [a], h =>
 obtain ⟨x, y, ms, S, rfl, hg, hS, hmx⟩ := gridArg h.1
 clear h
 refine res_start h_laws_FnExactGridText (by simp) ?_
 obtain ⟨q1, kq1, hq1⟩ : ∃ r : Int, (∀ H9, Grew H H9 → APure Try.prog 13 [.agg [.int .i64 x, .int .i64 y, S], .int .i64 1048576] H9 (.int .i64 r)) ∧ (r = -1 ∨ (0 ≤ r ∧ r = 1048576 - (ms.length : Int))) := ⟨_, fun H9 hk => k_szGrid H9 x y ms S (hS.grew (Grew.trans (Grew.refl _) hk)) hmx 1048576 (by omega) (by omega), by split <;> omega⟩
 have q2 : KdsL [.one, KI, KI, KI] [S, .int .i64 x, .int .i64 y, .int .i64 q1] := .cons (slOne hS) (.cons ⟨_, rfl⟩ (.cons ⟨_, rfl⟩ (.cons ⟨_, rfl⟩ .nil)))
 refine run_mc (φ := φ0) (pm := pmR 0 [(.call 13 [.agg [nI 1, nI 2, n1 0], .lit (.int .i64 1048576)], nI 3)] 0) 20 (ws := []) (env := [(0, .agg [nI 1, nI 2, n1 0])]) q2 .nil (sepOk_ro rfl) (.cons (rule_call (args := [.agg [.int .i64 x, .int .i64 y, S], .int .i64 1048576]) (dL q2) (dE q2) (fun H9 hk => kq1 H9 (hk.grew (Nat.le_refl _)))) .nil) (eC q2 (.cons (t := 0) rfl .nil)) tb_ok ap_ok ?_
 refine all2 (by kernel_rfl) ?_ ?_
 ·
  intro vs ls H3 E3 st hE
  have f4 : q1 < 0 := dt st 0
  exact res_ex (by kernel_rfl) (end_same st.inn hE (.inr rfl) (a := .bool true) (by kernel_rfl) (Nat.le_trans (Nat.le_refl _) st.kept.1) rfl)
 ·
  intro vs ls H5 E5 st hE
  have f6 : ¬ (q1 < 0) := df st 0
  have mxms : ms.length ≤ 1048576 := by omega
  obtain ⟨p7, e8, r9, n10⟩ := ptr_of st.inn hE 1 0 (by kernel_rfl) (ds := [.int .i64 x, .int .i64 y, S]) (by kernel_rfl)
  have op7 : H.next ≤ p7 := Nat.le_trans (Nat.le_refl _) (n10 (Nat.le_of_ble_eq_true rfl))
  have b11 := eo st hE 12 (.agg [.int .i64 x, .int .i64 y, S])
  have g12 : Grew H H5 := (gk st)
  have g13 : Grew H H5 := Grew.trans (Grew.refl _) g12
  clear st hE vs ls
  refine res_call (d := (some 13)) (f := 15) (args := [.tmp 12]) (by kernel_rfl) (R := fun z H' => Grew H5 H' ∧ ∃ S', z = .agg [.int .i64 x, .int .i64 y, S'] ∧ SlW H' 1 ms S' ∧ FreshS H5.next S') ?_ ?_
  ·
   show ACalls _ _ [E5 12] _ _
   rw [b11]
   exact k_toGrid H5 x y ms hg.recs S (hS.grew g13) mxms
  rintro z H14 ⟨gH14, S15, rfl, sS15, fS15⟩
  have ne16 : ApartL (S15) p7 := fS15.apartL (H5.lt_of_get r9)
  have fr17 : FreshS H.next (S15) := fS15.mono g13.next
  have g18 : Grew H H14 := Grew.trans g13 gH14
  have r19 := gH14.at r9
  have q20 := q2.app (.cons sS15.one .nil : KdsL [.one] [S15])
  refine run_mc (φ := φ0) (pm := pmR 1 [] 0) 20 (ws := [⟨p7, 0, [nI 1, nI 2, n1 0], false⟩]) (env := [(12, .agg [nI 1, nI 2, n1 0]), (1, .ptr 0 0), (13, .agg [nI 1, nI 2, n1 4])]) q20 (.cons (wR r19 q20) .nil) (sepOk_ro rfl) .nil (eC q20 (.cons (put_ne rfl b11) (.cons (put_ne rfl e8) (.cons put_same .nil)))) tb_ok ap_ok ?_
  refine all1 (by kernel_rfl) ?_
  intro vs ls H21 E21 st hE
  have b22 := eo st hE 13 (.agg [.int .i64 x, .int .i64 y, S15])
  have b23 := eo st hE 1 (.ptr p7 0)
  have g24 : Grew H14 H21 := (gk st)
  have g25 : Grew H H21 := Grew.trans g18 g24
  have r26 := g24.at r19
  have s27 := sS15.grew g24
  clear st hE vs ls
  refine res_call (d := (some 14)) (f := 30) (args := [.tmp 13]) (by kernel_rfl) (R := fun z H' => z = .str (gridS x y ms) ∧ Grew H21 H') ?_ ?_
  ·
   show ACalls _ _ [E21 13] _ _
   rw [b22]
   exact k_spec_GridText H21 x y ms hg.recs S15 s27.toL (mx40 mxms)
  rintro z H28 ⟨rfl, gH28⟩
  have g29 : Grew H H28 := Grew.trans g25 gH28
  have r30 := gH28.at r26
  have s31 := s27.grew gH28
  have q32 := q20.app (.cons ⟨_, rfl⟩ .nil : KdsL [.str] [.str (gridS x y ms)])
  refine run_mc (φ := φ0) (pm := pmR 1 [] 0) 20 (ws := [⟨p7, 0, [nI 1, nI 2, n1 0], false⟩]) (env := [(13, .agg [nI 1, nI 2, n1 4]), (1, .ptr 0 0), (14, .nd 5 .str)]) q32 (.cons (wR r30 q32) .nil) (sepOk_ro rfl) .nil (eC q32 (.cons (put_ne rfl b22) (.cons (put_ne rfl b23) (.cons put_same .nil)))) tb_ok ap_ok ?_
  refine all1 (by kernel_rfl) ?_
  intro vs ls H33 E33 st hE
  have b34 := eo st hE 15 (.agg [.int .i64 x, .int .i64 y, S])
  have b35 := eo st hE 4 (.str (gridS x y ms))
  have b36 := eo st hE 1 (.ptr p7 0)
  have g37 : Grew H28 H33 := (gk st)
  have g38 : Grew H H33 := Grew.trans g29 g37
  have r39 := g37.at r30
  have s40 := s31.grew g37
  clear st hE vs ls
  refine res_call (d := (some 16)) (f := 15) (args := [.tmp 15]) (by kernel_rfl) (R := fun z H' => Grew H33 H' ∧ ∃ S', z = .agg [.int .i64 x, .int .i64 y, S'] ∧ SlW H' 1 ms S' ∧ FreshS H33.next S') ?_ ?_
  ·
   show ACalls _ _ [E33 15] _ _
   rw [b34]
   exact k_toGrid H33 x y ms hg.recs S (hS.grew g38) mxms
  rintro z H41 ⟨gH41, S42, rfl, sS42, fS42⟩
  have ne43 : ApartL (S42) p7 := fS42.apartL (H33.lt_of_get r39)
  have ne44 : ApartS (S42) (S15) := fS42.apartS s40.lt
  have fr45 : FreshS H.next (S42) := fS42.mono g38.next
  have g46 : Grew H H41 := Grew.trans g38 gH41
  have r47 := gH41.at r39
  have s48 := s40.grew gH41
  have q49 := q32.app (.cons sS42.one .nil : KdsL [.one] [S42])
  refine run_mc (φ := φ0) (pm := pmR 1 [] 0) 20 (ws := [⟨p7, 0, [nI 1, nI 2, n1 0], false⟩]) (env := [(15, .agg [nI 1, nI 2, n1 0]), (4, .nd 5 .str), (1, .ptr 0 0), (16, .agg [nI 1, nI 2, n1 6])]) q49 (.cons (wR r47 q49) .nil) (sepOk_ro rfl) .nil (eC q49 (.cons (put_ne rfl b34) (.cons (put_ne rfl b35) (.cons (put_ne rfl b36) (.cons put_same .nil))))) tb_ok ap_ok ?_
  refine all1 (by kernel_rfl) ?_
  intro vs ls H50 E50 st hE
  obtain ⟨p51, e52, r53, n54⟩ := ptr_of st.inn hE 5 1 (by kernel_rfl) (ds := [.int .i64 x, .int .i64 y, S42]) (by kernel_rfl)
  have op51 : H.next ≤ p51 := Nat.le_trans g46.next (n54 (Nat.le_of_ble_eq_true rfl))
  have ne55 := apn r47 (n54 (Nat.le_of_ble_eq_true rfl))
  have ne56 : ApartL (S15) p51 := s48.apart_new (n54 (Nat.le_of_ble_eq_true rfl))
  have ne57 : ApartL (S42) p51 := sS42.apart_new (n54 (Nat.le_of_ble_eq_true rfl))
  have b58 := eo st hE 17 (.agg [.int .i64 x, .int .i64 y, S42])
  have b59 := eo st hE 4 (.str (gridS x y ms))
  have b60 := eo st hE 1 (.ptr p7 0)
  have g61 : Grew H41 H50 := (gk st)
  have g62 : Grew H H50 := Grew.trans g46 g61
  have r63 := g61.at r47
  have s64 := s48.grew g61
  have s65 := sS42.grew g61
  clear st hE vs ls
  refine res_call (d := (some 18)) (f := 31) (args := [.tmp 17]) (by kernel_rfl) (R := fun z H' => z = .str (gridS x y ms) ∧ Grew H50 H') ?_ ?_
  ·
   show ACalls _ _ [E50 17] _ _
   rw [b58]
   exact k_impl_GridText H50 x y ms hg.recs S42 s65.toL (mx40 mxms)
  rintro z H66 ⟨rfl, gH66⟩
  have g67 : Grew H H66 := Grew.trans g62 gH66
  have r68 := gH66.at r63
  have r69 := gH66.at r53
  have s70 := s64.grew gH66
  have s71 := s65.grew gH66
  refine run_mc (φ := φ0) (pm := pmR 2 [] 0) 20 (ws := [⟨p7, 0, [nI 1, nI 2, n1 0], false⟩, ⟨p51, 0, [nI 1, nI 2, n1 6], false⟩]) (env := [(17, .agg [nI 1, nI 2, n1 6]), (4, .nd 5 .str), (5, .ptr 1 0), (1, .ptr 0 0), (18, .nd 5 .str)]) q49 (.cons (wR r68 q49) (.cons (wR r69 q49) .nil)) (sepOk_ro rfl) .nil (eC q49 (.cons (put_ne rfl b58) (.cons (put_ne rfl b59) (.cons (put_ne rfl e52) (.cons (put_ne rfl b60) (.cons put_same .nil)))))) tb_ok ap_ok ?_
  refine all1 (by kernel_rfl) ?_
  intro vs ls H73 E73 st hE
  have b74 := eo st hE 23 (.agg [.int .i64 x, .int .i64 y, S])
  have b75 := eo st hE 22 (.agg [.int .i64 x, .int .i64 y, S42])
  have g76 : Grew H66 H73 := (gk st)
  have g77 : Grew H H73 := Grew.trans g67 g76
  have s80 := s70.grew g76
  have s81 := s71.grew g76
  clear st hE vs ls
  refine res_kid (free := false) (d := (some 24)) (f := 15) (args := [.tmp 23]) (by kernel_rfl) (R := fun z H' => Grew H73 H' ∧ ∃ S', z = .agg [.int .i64 x, .int .i64 y, S'] ∧ SlW H' 1 ms S' ∧ FreshS H73.next S') ?_ ?_
  ·
   show ACalls _ _ [E73 23] _ _
   rw [b74]
   exact k_toGrid H73 x y ms hg.recs S (hS.grew g77) mxms
  rintro z H82 ⟨gH82, S83, rfl, sS83, fS83⟩
  refine ⟨gH82, ?_⟩
  have ne84 : ApartS (S83) (S15) := fS83.apartS s80.lt
  have ne85 : ApartS (S83) (S42) := fS83.apartS s81.lt
  have fr86 : FreshS H.next (S83) := fS83.mono g77.next
  have g87 : Grew H H82 := Grew.trans g77 gH82
  have s89 := s81.grew gH82
  have q90 := q49.app (.cons sS83.one .nil : KdsL [.one] [S83])
  refine run_mc (φ := φ0) (pm := pmR 0 [(.call 17 [.agg [nI 1, nI 2, n1 6], .agg [nI 1, nI 2, n1 7]], .lit (.bool true))] 0) 20 (ws := []) (env := [(23, .agg [nI 1, nI 2, n1 0]), (22, .agg [nI 1, nI 2, n1 6]), (24, .agg [nI 1, nI 2, n1 7])]) q90 .nil (sepOk_ro rfl) (.cons (rule_call (args := [.agg [.int .i64 x, .int .i64 y, S42], .agg [.int .i64 x, .int .i64 y, S83]]) (dL q90) (dE q90) (fun H9 hk => k_eqGrid H9 x y ms hg.recs S42 S83 ((s89.grew (hk.grew (Nat.le_refl _)))).toL ((sS83.grew (hk.grew (Nat.le_refl _)))).toL (mx40 mxms))) .nil) (eC q90 (.cons (put_ne rfl b74) (.cons (put_ne rfl b75) (.cons put_same .nil)))) tb_ok ap_ok ?_
  refine all1 (by kernel_rfl) ?_
  intro vs ls H91 E91 st hE
  exact res_ex (by kernel_rfl) (end_same st.inn hE (.inr rfl) (a := .bool true) (by kernel_rfl) (Nat.le_trans g87.next st.kept.1) rfl)
end Go.Proofs.Ytnleibiniajbnaa
