/- The law of RelaxGraph, walked. -/
import Derived.Test.YtcmoeocemmeofaaTRelax
import Derived.Test.YtcmoeocemmeofaaTGraphM
set_option linter.unusedVariables false
set_option linter.unusedSimpArgs false
namespace Go.Proofs.Ytcmoeocemmeofaa
open Go.Ab
set_option maxRecDepth 100000
set_option maxHeartbeats 1000000
attribute [local irreducible] Res
theorem res_ok {ms ks P Q : List (List AV)} {sw n c : Int} (h : relaxF ms ks sw = (P, Q, n, c)) (hr : Recs KP ms) (hrk : Recs KL ks) (h1 : ms.length ≤ 1048576) (h2 : ks.length ≤ 1048576) : Recs KP P ∧ Recs KL Q ∧ P.length ≤ 1048576 ∧ Q.length ≤ 1048576 := by
 unfold relaxF at h
 split at h
 ·
  rename_i hg
  have hi := relT_inv hr hg
  split at h
  ·
   split at h
   ·
    cases h; exact ⟨(hi _).1, hrk, by rw [(hi _).2.1]; exact h1, h2⟩
   ·
    cases h; exact ⟨(hi _).1, hrk, by rw [(hi _).2.1]; exact h1, h2⟩
  ·
   cases h; exact ⟨.nil, .nil, by decide, by decide⟩
 ·
  cases h; exact ⟨.nil, .nil, by decide, by decide⟩
theorem lawExactRelaxGraph (H : AHeap) (vs : List AV) (h : FitArgs H [(true, [.sl [.flt .f32, .flt .f32, .flt .f32], .sl [.int .i64, .int .i64, .flt .f32, .flt .f32, .flt .f32, .flt .f32]]), (false, [.int .i64])] vs) : ACalls Try.prog 12 vs H fun r _ => r = .bool true := by
 match vs, h with
 | [a, b], h =>
 obtain ⟨ms, S, ks, Sk, rfl, hr, hS, hmx, hrk, hSk, hmxk⟩ := graphArg h.1
 obtain ⟨sb, eb, fb⟩ := h.2.1
 cases eb; cases fb
 rename_i sw _
 clear h
 obtain ⟨P, Q, n, c, hadd⟩ : ∃ P Q n c, relaxF ms ks sw = (P, Q, n, c) := ⟨_, _, _, _, rfl⟩
 refine res_start h_laws_FnExactRelaxGraph (by simp) ?_
 obtain ⟨q1, kq1, hq1⟩ : ∃ r : Int, (∀ H9, Grew H H9 → APure Try.prog 13 [.agg [S, Sk], .int .i64 1048576] H9 (.int .i64 r)) ∧ (r = -1 ∨ (0 ≤ r ∧ r = 1048576 - (ms.length : Int) - (ks.length : Int))) := ⟨_, fun H9 hk => k_szPoseGraph H9 ms S (hS.grew (Grew.trans (Grew.refl _) hk)) hmx ks Sk (hSk.grew (Grew.trans (Grew.refl _) hk)) hmxk 1048576 (by omega) (by omega), by split <;> (try split) <;> omega⟩
 have q2 : KdsL [.one, .one, KI, KI, KI, KI] [S, Sk, .int .i64 sw, .int .i64 n, .int .i64 c, .int .i64 q1] := .cons (slOne hS) (.cons (slOne hSk) (.cons ⟨_, rfl⟩ (.cons ⟨_, rfl⟩ (.cons ⟨_, rfl⟩ (.cons ⟨_, rfl⟩ .nil)))))
 refine run_mc (φ := φ0) (pm := pmR 0 [(.call 13 [.agg [n1 0, n1 1], .lit (.int .i64 1048576)], nI 5)] 0) 20 (ws := []) (env := [(0, .agg [n1 0, n1 1]), (1, nI 2)]) q2 .nil (sepOk_ro rfl) (.cons (rule_call (args := [.agg [S, Sk], .int .i64 1048576]) (dL q2) (dE q2) (fun H9 hk => kq1 H9 (hk.grew (Nat.le_refl _)))) .nil) (eC q2 (.cons (t := 0) rfl (.cons (t := 1) rfl .nil))) tb_ok ap_ok ?_
 refine all2 (by kernel_rfl) ?_ ?_
 ·
  intro vs ls H3 E3 st hE
  have f4 : q1 < 0 := dt st 0
  exact res_ex (by kernel_rfl) (end_same st.inn hE (.inr rfl) (a := .bool true) (by kernel_rfl) (Nat.le_trans (Nat.le_refl _) st.kept.1) rfl)
 ·
  intro vs ls H5 E5 st hE
  have f6 : ¬ (q1 < 0) := df st 0
  have mxms : ms.length ≤ 1048576 := by omega
  have mxks : ks.length ≤ 1048576 := by omega
  obtain ⟨hP, hQ, mxP, mxQ⟩ := res_ok hadd hr hrk mxms mxks
  obtain ⟨p7, e8, r9, n10⟩ := ptr_of st.inn hE 2 0 (by kernel_rfl) (ds := [S, Sk]) (by kernel_rfl)
  have op7 : H.next ≤ p7 := Nat.le_trans (Nat.le_refl _) (n10 (Nat.le_of_ble_eq_true rfl))
  have b11 := eo st hE 25 (.agg [S, Sk])
  have b12 := eo st hE 1 (.int .i64 sw)
  have g13 : Grew H H5 := (gk st)
  have g14 : Grew H H5 := Grew.trans (Grew.refl _) g13
  clear st hE vs ls
  refine res_call (d := (some 26)) (f := 15) (args := [.tmp 25]) (by kernel_rfl) (R := fun z H' => Grew H5 H' ∧ ∃ S0' S1', z = .agg [S0', S1'] ∧ SlW H' 3 ms S0' ∧ FreshS H5.next S0' ∧ SlW H' 6 ks S1' ∧ FreshS H5.next S1' ∧ ApartS S0' S1') ?_ ?_
  ·
   show ACalls _ _ [E5 25] _ _
   rw [b11]
   exact k_toPoseGraph H5 ms hr S (hS.grew g14) mxms ks hrk Sk (hSk.grew g14) mxks
  rintro z H15 ⟨gH15, S16, S17, rfl, sS16, fS16, sS17, fS17, ap18⟩
  have ne19 : ApartL (S16) p7 := fS16.apartL (H5.lt_of_get r9)
  have fr20 : FreshS H.next (S16) := fS16.mono g14.next
  have ne21 : ApartL (S17) p7 := fS17.apartL (H5.lt_of_get r9)
  have fr22 : FreshS H.next (S17) := fS17.mono g14.next
  have g23 : Grew H H15 := Grew.trans g14 gH15
  have r24 := gH15.at r9
  have q25 := q2.app (.cons sS16.one (.cons sS17.one .nil) : KdsL [.one, .one] [S16, S17])
  refine run_mc (φ := φ0) (pm := pmR 1 [] 0) 20 (ws := [⟨p7, 0, [n1 0, n1 1], false⟩]) (env := [(25, .agg [n1 0, n1 1]), (1, nI 2), (2, .ptr 0 0), (26, .agg [n1 6, n1 7])]) q25 (.cons (wR r24 q25) .nil) (sepOk_ro rfl) .nil (eC q25 (.cons (put_ne rfl b11) (.cons (put_ne rfl b12) (.cons (put_ne rfl e8) (.cons put_same .nil))))) tb_ok ap_ok ?_
  refine all1 (by kernel_rfl) ?_
  intro vs ls H26 E26 st hE
  have b27 := eo st hE 26 (.agg [S16, S17])
  have b28 := eo st hE 27 (.int .i64 sw)
  have b29 := eo st hE 2 (.ptr p7 0)
  have b30 := eo st hE 1 (.int .i64 sw)
  have g31 : Grew H15 H26 := (gk st)
  have g32 : Grew H H26 := Grew.trans g23 g31
  have r33 := g31.at r24
  have s34 := sS16.grew g31
  have s35 := sS17.grew g31
  clear st hE vs ls
  refine res_call (d := (some 28)) (f := 45) (args := [.tmp 26, .tmp 27]) (by kernel_rfl) (R := fun z H' => Grew H26 H' ∧ ∃ S' Sk', z = .tuple [.agg [S', Sk'], .int .i64 n, .int .i64 c] ∧ SlW H' 3 P S' ∧ FreshS H26.next S' ∧ SlW H' 6 Q Sk' ∧ FreshS H26.next Sk' ∧ ApartS S' Sk') ?_ ?_
  ·
   show ACalls _ _ [E26 26, E26 27] _ _
   rw [b27, b28]
   exact (by have h := k_spec_RelaxGraph H26 ms hr S16 s34.toL mxms ks hrk S17 s35.toL mxks sw; rw [hadd] at h; exact h)
  rintro z H36 ⟨gH36, S37, S38, rfl, sS37, fS37, sS38, fS38, ap39⟩
  have ne40 : ApartL (S37) p7 := fS37.apartL (H26.lt_of_get r33)
  have ne41 : ApartS (S37) (S16) := fS37.apartS s34.lt
  have ne42 : ApartS (S37) (S17) := fS37.apartS s35.lt
  have fr43 : FreshS H.next (S37) := fS37.mono g32.next
  have ne44 : ApartL (S38) p7 := fS38.apartL (H26.lt_of_get r33)
  have ne45 : ApartS (S38) (S16) := fS38.apartS s34.lt
  have ne46 : ApartS (S38) (S17) := fS38.apartS s35.lt
  have fr47 : FreshS H.next (S38) := fS38.mono g32.next
  have g48 : Grew H H36 := Grew.trans g32 gH36
  have r49 := gH36.at r33
  have s50 := s34.grew gH36
  have s51 := s35.grew gH36
  have q52 := q25.app (.cons sS37.one (.cons sS38.one .nil) : KdsL [.one, .one] [S37, S38])
  refine run_mc (φ := φ0) (pm := pmR 1 [] 0) 20 (ws := [⟨p7, 0, [n1 0, n1 1], false⟩]) (env := [(26, .agg [n1 6, n1 7]), (27, nI 2), (2, .ptr 0 0), (1, nI 2), (28, .tup [.agg [n1 8, n1 9], nI 3, nI 4])]) q52 (.cons (wR r49 q52) .nil) (sepOk_ro rfl) .nil (eC q52 (.cons (put_ne rfl b27) (.cons (put_ne rfl b28) (.cons (put_ne rfl b29) (.cons (put_ne rfl b30) (.cons put_same .nil)))))) tb_ok ap_ok ?_
  refine all1 (by kernel_rfl) ?_
  intro vs ls H53 E53 st hE
  obtain ⟨p54, e55, r56, n57⟩ := ptr_of st.inn hE 6 1 (by kernel_rfl) (ds := [S37, S38]) (by kernel_rfl)
  have op54 : H.next ≤ p54 := Nat.le_trans g48.next (n57 (Nat.le_of_ble_eq_true rfl))
  have ne58 := apn r49 (n57 (Nat.le_of_ble_eq_true rfl))
  have ne59 : ApartL (S16) p54 := s50.apart_new (n57 (Nat.le_of_ble_eq_true rfl))
  have ne60 : ApartL (S17) p54 := s51.apart_new (n57 (Nat.le_of_ble_eq_true rfl))
  have ne61 : ApartL (S37) p54 := sS37.apart_new (n57 (Nat.le_of_ble_eq_true rfl))
  have ne62 : ApartL (S38) p54 := sS38.apart_new (n57 (Nat.le_of_ble_eq_true rfl))
  have b63 := eo st hE 32 (.agg [S, Sk])
  have b64 := eo st hE 1 (.int .i64 sw)
  have b65 := eo st hE 7 (.int .i64 n)
  have b66 := eo st hE 8 (.int .i64 c)
  have b67 := eo st hE 2 (.ptr p7 0)
  have g68 : Grew H36 H53 := (gk st)
  have g69 : Grew H H53 := Grew.trans g48 g68
  have r70 := g68.at r49
  have s71 := s50.grew g68
  have s72 := s51.grew g68
  have s73 := sS37.grew g68
  have s74 := sS38.grew g68
  clear st hE vs ls
  refine res_call (d := (some 33)) (f := 15) (args := [.tmp 32]) (by kernel_rfl) (R := fun z H' => Grew H53 H' ∧ ∃ S0' S1', z = .agg [S0', S1'] ∧ SlW H' 3 ms S0' ∧ FreshS H53.next S0' ∧ SlW H' 6 ks S1' ∧ FreshS H53.next S1' ∧ ApartS S0' S1') ?_ ?_
  ·
   show ACalls _ _ [E53 32] _ _
   rw [b63]
   exact k_toPoseGraph H53 ms hr S (hS.grew g69) mxms ks hrk Sk (hSk.grew g69) mxks
  rintro z H75 ⟨gH75, S76, S77, rfl, sS76, fS76, sS77, fS77, ap78⟩
  have ne79 : ApartL (S76) p7 := fS76.apartL (H53.lt_of_get r70)
  have ne80 : ApartL (S76) p54 := fS76.apartL (H53.lt_of_get r56)
  have ne81 : ApartS (S76) (S16) := fS76.apartS s71.lt
  have ne82 : ApartS (S76) (S17) := fS76.apartS s72.lt
  have ne83 : ApartS (S76) (S37) := fS76.apartS s73.lt
  have ne84 : ApartS (S76) (S38) := fS76.apartS s74.lt
  have fr85 : FreshS H.next (S76) := fS76.mono g69.next
  have ne86 : ApartL (S77) p7 := fS77.apartL (H53.lt_of_get r70)
  have ne87 : ApartL (S77) p54 := fS77.apartL (H53.lt_of_get r56)
  have ne88 : ApartS (S77) (S16) := fS77.apartS s71.lt
  have ne89 : ApartS (S77) (S17) := fS77.apartS s72.lt
  have ne90 : ApartS (S77) (S37) := fS77.apartS s73.lt
  have ne91 : ApartS (S77) (S38) := fS77.apartS s74.lt
  have fr92 : FreshS H.next (S77) := fS77.mono g69.next
  have g93 : Grew H H75 := Grew.trans g69 gH75
  have r94 := gH75.at r70
  have r95 := gH75.at r56
  have s96 := s71.grew gH75
  have s97 := s72.grew gH75
  have s98 := s73.grew gH75
  have s99 := s74.grew gH75
  have q100 := q52.app (.cons sS76.one (.cons sS77.one .nil) : KdsL [.one, .one] [S76, S77])
  refine run_mc (φ := φ0) (pm := pmR 2 [] 0) 20 (ws := [⟨p7, 0, [n1 0, n1 1], false⟩, ⟨p54, 0, [n1 8, n1 9], false⟩]) (env := [(32, .agg [n1 0, n1 1]), (1, nI 2), (6, .ptr 1 0), (7, nI 3), (8, nI 4), (2, .ptr 0 0), (33, .agg [n1 10, n1 11])]) q100 (.cons (wR r94 q100) (.cons (wR r95 q100) .nil)) (sepOk_ro rfl) .nil (eC q100 (.cons (put_ne rfl b63) (.cons (put_ne rfl b64) (.cons (put_ne rfl e55) (.cons (put_ne rfl b65) (.cons (put_ne rfl b66) (.cons (put_ne rfl b67) (.cons put_same .nil)))))))) tb_ok ap_ok ?_
  refine all1 (by kernel_rfl) ?_
  intro vs ls H101 E101 st hE
  obtain ⟨p102, e103, r104, n105⟩ := ptr_of st.inn hE 9 2 (by kernel_rfl) (ds := [S76, S77]) (by kernel_rfl)
  have op102 : H.next ≤ p102 := Nat.le_trans g93.next (n105 (Nat.le_of_ble_eq_true rfl))
  have ne106 := apn r94 (n105 (Nat.le_of_ble_eq_true rfl))
  have ne107 := apn r95 (n105 (Nat.le_of_ble_eq_true rfl))
  have ne108 : ApartL (S16) p102 := s96.apart_new (n105 (Nat.le_of_ble_eq_true rfl))
  have ne109 : ApartL (S17) p102 := s97.apart_new (n105 (Nat.le_of_ble_eq_true rfl))
  have ne110 : ApartL (S37) p102 := s98.apart_new (n105 (Nat.le_of_ble_eq_true rfl))
  have ne111 : ApartL (S38) p102 := s99.apart_new (n105 (Nat.le_of_ble_eq_true rfl))
  have ne112 : ApartL (S76) p102 := sS76.apart_new (n105 (Nat.le_of_ble_eq_true rfl))
  have ne113 : ApartL (S77) p102 := sS77.apart_new (n105 (Nat.le_of_ble_eq_true rfl))
  have b114 := eo st hE 35 (.agg [S76, S77])
  have b115 := eo st hE 36 (.int .i64 sw)
  have b116 := eo st hE 6 (.ptr p54 0)
  have b117 := eo st hE 7 (.int .i64 n)
  have b118 := eo st hE 8 (.int .i64 c)
  have b119 := eo st hE 2 (.ptr p7 0)
  have b120 := eo st hE 1 (.int .i64 sw)
  have g121 : Grew H75 H101 := (gk st)
  have g122 : Grew H H101 := Grew.trans g93 g121
  have r123 := g121.at r94
  have r124 := g121.at r95
  have s125 := s96.grew g121
  have s126 := s97.grew g121
  have s127 := s98.grew g121
  have s128 := s99.grew g121
  have s129 := sS76.grew g121
  have s130 := sS77.grew g121
  clear st hE vs ls
  refine res_call (d := (some 37)) (f := 46) (args := [.tmp 35, .tmp 36]) (by kernel_rfl) (R := fun z H' => Grew H101 H' ∧ ∃ S' Sk', z = .tuple [.agg [S', Sk'], .int .i64 n, .int .i64 c] ∧ SlW H' 3 P S' ∧ FreshS H101.next S' ∧ SlW H' 6 Q Sk' ∧ FreshS H101.next Sk' ∧ ApartS S' Sk') ?_ ?_
  ·
   show ACalls _ _ [E101 35, E101 36] _ _
   rw [b114, b115]
   exact (by have h := k_impl_RelaxGraph H101 ms hr S76 s129.toL mxms ks hrk S77 s130.toL mxks sw; rw [hadd] at h; exact h)
  rintro z H131 ⟨gH131, S132, S133, rfl, sS132, fS132, sS133, fS133, ap134⟩
  have ne135 : ApartL (S132) p7 := fS132.apartL (H101.lt_of_get r123)
  have ne136 : ApartL (S132) p54 := fS132.apartL (H101.lt_of_get r124)
  have ne137 : ApartL (S132) p102 := fS132.apartL (H101.lt_of_get r104)
  have ne138 : ApartS (S132) (S16) := fS132.apartS s125.lt
  have ne139 : ApartS (S132) (S17) := fS132.apartS s126.lt
  have ne140 : ApartS (S132) (S37) := fS132.apartS s127.lt
  have ne141 : ApartS (S132) (S38) := fS132.apartS s128.lt
  have ne142 : ApartS (S132) (S76) := fS132.apartS s129.lt
  have ne143 : ApartS (S132) (S77) := fS132.apartS s130.lt
  have fr144 : FreshS H.next (S132) := fS132.mono g122.next
  have ne145 : ApartL (S133) p7 := fS133.apartL (H101.lt_of_get r123)
  have ne146 : ApartL (S133) p54 := fS133.apartL (H101.lt_of_get r124)
  have ne147 : ApartL (S133) p102 := fS133.apartL (H101.lt_of_get r104)
  have ne148 : ApartS (S133) (S16) := fS133.apartS s125.lt
  have ne149 : ApartS (S133) (S17) := fS133.apartS s126.lt
  have ne150 : ApartS (S133) (S37) := fS133.apartS s127.lt
  have ne151 : ApartS (S133) (S38) := fS133.apartS s128.lt
  have ne152 : ApartS (S133) (S76) := fS133.apartS s129.lt
  have ne153 : ApartS (S133) (S77) := fS133.apartS s130.lt
  have fr154 : FreshS H.next (S133) := fS133.mono g122.next
  have g155 : Grew H H131 := Grew.trans g122 gH131
  have r156 := gH131.at r123
  have r157 := gH131.at r124
  have r158 := gH131.at r104
  have s159 := s125.grew gH131
  have s160 := s126.grew gH131
  have s161 := s127.grew gH131
  have s162 := s128.grew gH131
  have s163 := s129.grew gH131
  have s164 := s130.grew gH131
  have q165 := q100.app (.cons sS132.one (.cons sS133.one .nil) : KdsL [.one, .one] [S132, S133])
  refine run_mc (φ := φ0) (pm := pmR 3 [(.call 17 [.agg [n1 12, n1 13], .agg [n1 8, n1 9]], .lit (.bool true))] 0) 20 (ws := [⟨p7, 0, [n1 0, n1 1], false⟩, ⟨p54, 0, [n1 8, n1 9], false⟩, ⟨p102, 0, [n1 10, n1 11], false⟩]) (env := [(35, .agg [n1 10, n1 11]), (36, nI 2), (6, .ptr 1 0), (7, nI 3), (8, nI 4), (9, .ptr 2 0), (2, .ptr 0 0), (1, nI 2), (37, .tup [.agg [n1 12, n1 13], nI 3, nI 4])]) q165 (.cons (wR r156 q165) (.cons (wR r157 q165) (.cons (wR r158 q165) .nil))) (sepOk_ro rfl) (.cons (rule_call (args := [.agg [S132, S133], .agg [S37, S38]]) (dL q165) (dE q165) (fun H9 hk => k_eqPoseGraph H9 P hP S132 S37 ((sS132.grew (hk.grew (Nat.le_refl _)))).toL ((s161.grew (hk.grew (Nat.le_refl _)))).toL (mx40 mxP) Q hQ S133 S38 ((sS133.grew (hk.grew (Nat.le_refl _)))).toL ((s162.grew (hk.grew (Nat.le_refl _)))).toL (mx40 mxQ))) .nil) (eC q165 (.cons (put_ne rfl b114) (.cons (put_ne rfl b115) (.cons (put_ne rfl b116) (.cons (put_ne rfl b117) (.cons (put_ne rfl b118) (.cons (put_ne rfl e103) (.cons (put_ne rfl b119) (.cons (put_ne rfl b120) (.cons put_same .nil)))))))))) tb_ok ap_ok ?_
  refine all1 (by kernel_rfl) ?_
  intro vs ls H166 E166 st hE
  obtain ⟨p167, e168, r169, n170⟩ := ptr_of st.inn hE 10 3 (by kernel_rfl) (ds := [S132, S133]) (by kernel_rfl)
  have op167 : H.next ≤ p167 := Nat.le_trans g155.next (n170 (Nat.le_of_ble_eq_true rfl))
  have ne171 := apn r156 (n170 (Nat.le_of_ble_eq_true rfl))
  have ne172 := apn r157 (n170 (Nat.le_of_ble_eq_true rfl))
  have ne173 := apn r158 (n170 (Nat.le_of_ble_eq_true rfl))
  have ne174 : ApartL (S16) p167 := s159.apart_new (n170 (Nat.le_of_ble_eq_true rfl))
  have ne175 : ApartL (S17) p167 := s160.apart_new (n170 (Nat.le_of_ble_eq_true rfl))
  have ne176 : ApartL (S37) p167 := s161.apart_new (n170 (Nat.le_of_ble_eq_true rfl))
  have ne177 : ApartL (S38) p167 := s162.apart_new (n170 (Nat.le_of_ble_eq_true rfl))
  have ne178 : ApartL (S76) p167 := s163.apart_new (n170 (Nat.le_of_ble_eq_true rfl))
  have ne179 : ApartL (S77) p167 := s164.apart_new (n170 (Nat.le_of_ble_eq_true rfl))
  have ne180 : ApartL (S132) p167 := sS132.apart_new (n170 (Nat.le_of_ble_eq_true rfl))
  have ne181 : ApartL (S133) p167 := sS133.apart_new (n170 (Nat.le_of_ble_eq_true rfl))
  have b182 := eo st hE 56 (.agg [S, Sk])
  have b183 := eo st hE 55 (.agg [S76, S77])
  have b184 := eo st hE 9 (.ptr p102 0)
  have b185 := eo st hE 6 (.ptr p54 0)
  have b186 := eo st hE 11 (.int .i64 n)
  have b187 := eo st hE 7 (.int .i64 n)
  have b188 := eo st hE 12 (.int .i64 c)
  have b189 := eo st hE 8 (.int .i64 c)
  have b190 := eo st hE 2 (.ptr p7 0)
  have b191 := eo st hE 1 (.int .i64 sw)
  have g192 : Grew H131 H166 := (gk st)
  have g193 : Grew H H166 := Grew.trans g155 g192
  have r194 := g192.at r156
  have r195 := g192.at r157
  have r196 := g192.at r158
  have s197 := s159.grew g192
  have s198 := s160.grew g192
  have s199 := s161.grew g192
  have s200 := s162.grew g192
  have s201 := s163.grew g192
  have s202 := s164.grew g192
  have s203 := sS132.grew g192
  have s204 := sS133.grew g192
  clear st hE vs ls
  refine res_kid (free := false) (d := (some 57)) (f := 15) (args := [.tmp 56]) (by kernel_rfl) (R := fun z H' => Grew H166 H' ∧ ∃ S0' S1', z = .agg [S0', S1'] ∧ SlW H' 3 ms S0' ∧ FreshS H166.next S0' ∧ SlW H' 6 ks S1' ∧ FreshS H166.next S1' ∧ ApartS S0' S1') ?_ ?_
  ·
   show ACalls _ _ [E166 56] _ _
   rw [b182]
   exact k_toPoseGraph H166 ms hr S (hS.grew g193) mxms ks hrk Sk (hSk.grew g193) mxks
  rintro z H205 ⟨gH205, S206, S207, rfl, sS206, fS206, sS207, fS207, ap208⟩
  refine ⟨gH205, ?_⟩
  have ne209 : ApartL (S206) p7 := fS206.apartL (H166.lt_of_get r194)
  have ne210 : ApartL (S206) p54 := fS206.apartL (H166.lt_of_get r195)
  have ne211 : ApartL (S206) p102 := fS206.apartL (H166.lt_of_get r196)
  have ne212 : ApartL (S206) p167 := fS206.apartL (H166.lt_of_get r169)
  have ne213 : ApartS (S206) (S16) := fS206.apartS s197.lt
  have ne214 : ApartS (S206) (S17) := fS206.apartS s198.lt
  have ne215 : ApartS (S206) (S37) := fS206.apartS s199.lt
  have ne216 : ApartS (S206) (S38) := fS206.apartS s200.lt
  have ne217 : ApartS (S206) (S76) := fS206.apartS s201.lt
  have ne218 : ApartS (S206) (S77) := fS206.apartS s202.lt
  have ne219 : ApartS (S206) (S132) := fS206.apartS s203.lt
  have ne220 : ApartS (S206) (S133) := fS206.apartS s204.lt
  have fr221 : FreshS H.next (S206) := fS206.mono g193.next
  have ne222 : ApartL (S207) p7 := fS207.apartL (H166.lt_of_get r194)
  have ne223 : ApartL (S207) p54 := fS207.apartL (H166.lt_of_get r195)
  have ne224 : ApartL (S207) p102 := fS207.apartL (H166.lt_of_get r196)
  have ne225 : ApartL (S207) p167 := fS207.apartL (H166.lt_of_get r169)
  have ne226 : ApartS (S207) (S16) := fS207.apartS s197.lt
  have ne227 : ApartS (S207) (S17) := fS207.apartS s198.lt
  have ne228 : ApartS (S207) (S37) := fS207.apartS s199.lt
  have ne229 : ApartS (S207) (S38) := fS207.apartS s200.lt
  have ne230 : ApartS (S207) (S76) := fS207.apartS s201.lt
  have ne231 : ApartS (S207) (S77) := fS207.apartS s202.lt
  have ne232 : ApartS (S207) (S132) := fS207.apartS s203.lt
  have ne233 : ApartS (S207) (S133) := fS207.apartS s204.lt
  have fr234 : FreshS H.next (S207) := fS207.mono g193.next
  have g235 : Grew H H205 := Grew.trans g193 gH205
  have r236 := gH205.at r194
  have r237 := gH205.at r195
  have r238 := gH205.at r196
  have r239 := gH205.at r169
  have s240 := s197.grew gH205
  have s241 := s198.grew gH205
  have s242 := s199.grew gH205
  have s243 := s200.grew gH205
  have s244 := s201.grew gH205
  have s245 := s202.grew gH205
  have s246 := s203.grew gH205
  have s247 := s204.grew gH205
  have q248 := q165.app (.cons sS206.one (.cons sS207.one .nil) : KdsL [.one, .one] [S206, S207])
  refine run_mc (φ := φ0) (pm := pmR 4 [(.call 17 [.agg [n1 10, n1 11], .agg [n1 14, n1 15]], .lit (.bool true))] 0) 20 (ws := [⟨p7, 0, [n1 0, n1 1], false⟩, ⟨p54, 0, [n1 8, n1 9], false⟩, ⟨p102, 0, [n1 10, n1 11], false⟩, ⟨p167, 0, [n1 12, n1 13], false⟩]) (env := [(56, .agg [n1 0, n1 1]), (55, .agg [n1 10, n1 11]), (9, .ptr 2 0), (10, .ptr 3 0), (6, .ptr 1 0), (11, nI 3), (7, nI 3), (12, nI 4), (8, nI 4), (2, .ptr 0 0), (1, nI 2), (57, .agg [n1 14, n1 15])]) q248 (.cons (wR r236 q248) (.cons (wR r237 q248) (.cons (wR r238 q248) (.cons (wR r239 q248) .nil)))) (sepOk_ro rfl) (.cons (rule_call (args := [.agg [S76, S77], .agg [S206, S207]]) (dL q248) (dE q248) (fun H9 hk => k_eqPoseGraph H9 ms hr S76 S206 ((s244.grew (hk.grew (Nat.le_refl _)))).toL ((sS206.grew (hk.grew (Nat.le_refl _)))).toL (mx40 mxms) ks hrk S77 S207 ((s245.grew (hk.grew (Nat.le_refl _)))).toL ((sS207.grew (hk.grew (Nat.le_refl _)))).toL (mx40 mxks))) .nil) (eC q248 (.cons (put_ne rfl b182) (.cons (put_ne rfl b183) (.cons (put_ne rfl b184) (.cons (put_ne rfl e168) (.cons (put_ne rfl b185) (.cons (put_ne rfl b186) (.cons (put_ne rfl b187) (.cons (put_ne rfl b188) (.cons (put_ne rfl b189) (.cons (put_ne rfl b190) (.cons (put_ne rfl b191) (.cons put_same .nil))))))))))))) tb_ok ap_ok ?_
  refine all1 (by kernel_rfl) ?_
  intro vs ls H249 E249 st hE
  have b250 := eo st hE 60 (.agg [S76, S77])
  have b251 := eo st hE 61 (.int .i64 1)
  have b252 := eo st hE 13 (.int .i64 1)
  have b253 := eo st hE 10 (.ptr p167 0)
  have b254 := eo st hE 6 (.ptr p54 0)
  have b255 := eo st hE 11 (.int .i64 n)
  have b256 := eo st hE 7 (.int .i64 n)
  have b257 := eo st hE 12 (.int .i64 c)
  have b258 := eo st hE 8 (.int .i64 c)
  have b259 := eo st hE 2 (.ptr p7 0)
  have b260 := eo st hE 1 (.int .i64 sw)
  have g261 : Grew H205 H249 := (gk st)
  have g262 : Grew H H249 := Grew.trans g235 g261
  have r263 := g261.at r236
  have r264 := g261.at r237
  have r266 := g261.at r239
  have s267 := s240.grew g261
  have s268 := s241.grew g261
  have s269 := s242.grew g261
  have s270 := s243.grew g261
  have s271 := s244.grew g261
  have s272 := s245.grew g261
  have s273 := s246.grew g261
  have s274 := s247.grew g261
  have s275 := sS206.grew g261
  have s276 := sS207.grew g261
  clear st hE vs ls
  refine res_call (d := (some 62)) (f := 38) (args := [.tmp 60, .tmp 61]) (by kernel_rfl) (R := fun z H' => z = .int .i64 (1 + 3 * (ms.length : Int) + 6 * (ks.length : Int)) ∧ Only2 S76 S77 H249 H' ∧ SlW H' 3 (mksPose 1 ms.length) S76 ∧ SlW H' 6 (mksLink (1 + 3 * (ms.length : Int)) ks.length) S77) ?_ ?_
  ·
   show ACalls _ _ [E249 60, E249 61] _ _
   rw [b250, b251]
   exact w_markPoseGraph H249 ms hr S76 s271 mxms ks hrk S77 s272 mxks (by first | assumption | exact ApartS.symm (by assumption)) 1 (by decide) (by decide)
  rintro z H277 ⟨rfl, oH277, nH277, mH277⟩
  have g278 : Grew H H277 := Only2.own g262 fr85 fr92 oH277
  have r279 := oH277.at r263 (by assumption) (by assumption)
  have r280 := oH277.at r264 (by assumption) (by assumption)
  have r281 := oH277.at r266 (by assumption) (by assumption)
  have s282 := s267.only2 oH277 (by first | assumption | exact ApartS.symm (by assumption)) (by first | assumption | exact ApartS.symm (by assumption))
  have s283 := s268.only2 oH277 (by first | assumption | exact ApartS.symm (by assumption)) (by first | assumption | exact ApartS.symm (by assumption))
  have s284 := s269.only2 oH277 (by first | assumption | exact ApartS.symm (by assumption)) (by first | assumption | exact ApartS.symm (by assumption))
  have s285 := s270.only2 oH277 (by first | assumption | exact ApartS.symm (by assumption)) (by first | assumption | exact ApartS.symm (by assumption))
  have s286 := s273.only2 oH277 (by first | assumption | exact ApartS.symm (by assumption)) (by first | assumption | exact ApartS.symm (by assumption))
  have s287 := s274.only2 oH277 (by first | assumption | exact ApartS.symm (by assumption)) (by first | assumption | exact ApartS.symm (by assumption))
  have s288 := s275.only2 oH277 (by first | assumption | exact ApartS.symm (by assumption)) (by first | assumption | exact ApartS.symm (by assumption))
  have s289 := s276.only2 oH277 (by first | assumption | exact ApartS.symm (by assumption)) (by first | assumption | exact ApartS.symm (by assumption))
  have q290 := q248.app (.cons ⟨_, rfl⟩ .nil : KdsL [KI] [.int .i64 (1 + 3 * (ms.length : Int) + 6 * (ks.length : Int))])
  refine run_mc (φ := φ0) (pm := pmR 3 [(.call 17 [.agg [n1 12, n1 13], .agg [n1 8, n1 9]], .lit (.bool true))] 0) 20 (ws := [⟨p7, 0, [n1 0, n1 1], false⟩, ⟨p54, 0, [n1 8, n1 9], false⟩, ⟨p167, 0, [n1 12, n1 13], false⟩]) (env := [(60, .agg [n1 10, n1 11]), (61, .lit (.int .i64 1)), (13, .lit (.int .i64 1)), (10, .ptr 2 0), (6, .ptr 1 0), (11, nI 3), (7, nI 3), (12, nI 4), (8, nI 4), (2, .ptr 0 0), (1, nI 2), (62, nI 16)]) q290 (.cons (wR r279 q290) (.cons (wR r280 q290) (.cons (wR r281 q290) .nil))) (sepOk_ro rfl) (.cons (rule_call (args := [.agg [S132, S133], .agg [S37, S38]]) (dL q290) (dE q290) (fun H9 hk => k_eqPoseGraph H9 P hP S132 S37 ((s286.grew (hk.grew (Nat.le_refl _)))).toL ((s284.grew (hk.grew (Nat.le_refl _)))).toL (mx40 mxP) Q hQ S133 S38 ((s287.grew (hk.grew (Nat.le_refl _)))).toL ((s285.grew (hk.grew (Nat.le_refl _)))).toL (mx40 mxQ))) .nil) (eC q290 (.cons (put_ne rfl b250) (.cons (put_ne rfl b251) (.cons (put_ne rfl b252) (.cons (put_ne rfl b253) (.cons (put_ne rfl b254) (.cons (put_ne rfl b255) (.cons (put_ne rfl b256) (.cons (put_ne rfl b257) (.cons (put_ne rfl b258) (.cons (put_ne rfl b259) (.cons (put_ne rfl b260) (.cons put_same .nil))))))))))))) tb_ok ap_ok ?_
  refine all2 (by kernel_rfl) ?_ ?_
  ·
   intro vs ls H291 E291 st hE
   have f292 : (1 + 3 * (ms.length : Int) + 6 * (ks.length : Int)) < 0 := dt st 0
   exact absurd f292 (by omega)
  ·
   intro vs ls H293 E293 st hE
   have f294 : ¬ ((1 + 3 * (ms.length : Int) + 6 * (ks.length : Int)) < 0) := df st 0
   have b295 := eo st hE 81 (.agg [S132, S133])
   have b296 := eo st hE 82 (.int .i64 1)
   have b297 := eo st hE 10 (.ptr p167 0)
   have b298 := eo st hE 14 (.int .i64 1)
   have b299 := eo st hE 2 (.ptr p7 0)
   have b300 := eo st hE 1 (.int .i64 sw)
   have b301 := eo st hE 6 (.ptr p54 0)
   have b302 := eo st hE 7 (.int .i64 n)
   have b303 := eo st hE 8 (.int .i64 c)
   have g304 : Grew H277 H293 := (gk st)
   have g305 : Grew H H293 := Grew.trans g278 g304
   have r306 := g304.at r279
   have r307 := g304.at r280
   have r308 := g304.at r281
   have s309 := s282.grew g304
   have s310 := s283.grew g304
   have s311 := s284.grew g304
   have s312 := s285.grew g304
   have s313 := nH277.grew g304
   have s314 := mH277.grew g304
   have s315 := s286.grew g304
   have s316 := s287.grew g304
   have s317 := s288.grew g304
   have s318 := s289.grew g304
   clear st hE vs ls
   refine res_call (d := (some 83)) (f := 38) (args := [.tmp 81, .tmp 82]) (by kernel_rfl) (R := fun z H' => z = .int .i64 (1 + 3 * (P.length : Int) + 6 * (Q.length : Int)) ∧ Only2 S132 S133 H293 H' ∧ SlW H' 3 (mksPose 1 P.length) S132 ∧ SlW H' 6 (mksLink (1 + 3 * (P.length : Int)) Q.length) S133) ?_ ?_
   ·
    show ACalls _ _ [E293 81, E293 82] _ _
    rw [b295, b296]
    exact w_markPoseGraph H293 P hP S132 s315 mxP Q hQ S133 s316 mxQ (by first | assumption | exact ApartS.symm (by assumption)) 1 (by decide) (by decide)
   rintro z H319 ⟨rfl, oH319, nH319, mH319⟩
   have g320 : Grew H H319 := Only2.own g305 fr144 fr154 oH319
   have r321 := oH319.at r306 (by assumption) (by assumption)
   have r322 := oH319.at r307 (by assumption) (by assumption)
   have r323 := oH319.at r308 (by assumption) (by assumption)
   have s324 := s309.only2 oH319 (by first | assumption | exact ApartS.symm (by assumption)) (by first | assumption | exact ApartS.symm (by assumption))
   have s325 := s310.only2 oH319 (by first | assumption | exact ApartS.symm (by assumption)) (by first | assumption | exact ApartS.symm (by assumption))
   have s326 := s311.only2 oH319 (by first | assumption | exact ApartS.symm (by assumption)) (by first | assumption | exact ApartS.symm (by assumption))
   have s327 := s312.only2 oH319 (by first | assumption | exact ApartS.symm (by assumption)) (by first | assumption | exact ApartS.symm (by assumption))
   have s328 := s313.only2 oH319 (by first | assumption | exact ApartS.symm (by assumption)) (by first | assumption | exact ApartS.symm (by assumption))
   have s329 := s314.only2 oH319 (by first | assumption | exact ApartS.symm (by assumption)) (by first | assumption | exact ApartS.symm (by assumption))
   have s330 := s317.only2 oH319 (by first | assumption | exact ApartS.symm (by assumption)) (by first | assumption | exact ApartS.symm (by assumption))
   have s331 := s318.only2 oH319 (by first | assumption | exact ApartS.symm (by assumption)) (by first | assumption | exact ApartS.symm (by assumption))
   have q332 := q290.app (.cons ⟨_, rfl⟩ .nil : KdsL [KI] [.int .i64 (1 + 3 * (P.length : Int) + 6 * (Q.length : Int))])
   refine run_mc (φ := φ0) (pm := pmR 3 [(.call 39 [.agg [n1 12, n1 13], .lit (.int .i64 1)], nI 17)] 0) 20 (ws := [⟨p7, 0, [n1 0, n1 1], false⟩, ⟨p54, 0, [n1 8, n1 9], false⟩, ⟨p167, 0, [n1 12, n1 13], false⟩]) (env := [(81, .agg [n1 12, n1 13]), (82, .lit (.int .i64 1)), (10, .ptr 2 0), (14, .lit (.int .i64 1)), (2, .ptr 0 0), (1, nI 2), (6, .ptr 1 0), (7, nI 3), (8, nI 4), (83, nI 17)]) q332 (.cons (wR r321 q332) (.cons (wR r322 q332) (.cons (wR r323 q332) .nil))) (sepOk_ro rfl) (.cons (rule_call (args := [.agg [S132, S133], .int .i64 1]) (r := .int .i64 (1 + 3 * (P.length : Int) + 6 * (Q.length : Int))) (dL q332) (dE q332) (fun H9 hk => w_heldPoseGraph H9 1 P.length Q.length S132 S133 ((nH319.grew (hk.grew (Nat.le_refl _)))).toL ((mH319.grew (hk.grew (Nat.le_refl _)))).toL (by decide) (by decide) mxP mxQ)) .nil) (eC q332 (.cons (put_ne rfl b295) (.cons (put_ne rfl b296) (.cons (put_ne rfl b297) (.cons (put_ne rfl b298) (.cons (put_ne rfl b299) (.cons (put_ne rfl b300) (.cons (put_ne rfl b301) (.cons (put_ne rfl b302) (.cons (put_ne rfl b303) (.cons put_same .nil))))))))))) tb_ok ap_ok ?_
   refine all2 (by kernel_rfl) ?_ ?_
   ·
    intro vs ls H333 E333 st hE
    have f334 : (1 + 3 * (P.length : Int) + 6 * (Q.length : Int)) < 0 := dt st 0
    exact absurd f334 (by omega)
   ·
    intro vs ls H335 E335 st hE
    have f336 : ¬ ((1 + 3 * (P.length : Int) + 6 * (Q.length : Int)) < 0) := df st 0
    have b337 := eo st hE 93 (.agg [S, Sk])
    have b338 := eo st hE 1 (.int .i64 sw)
    have b339 := eo st hE 6 (.ptr p54 0)
    have b340 := eo st hE 7 (.int .i64 n)
    have b341 := eo st hE 8 (.int .i64 c)
    have b342 := eo st hE 10 (.ptr p167 0)
    have b343 := eo st hE 15 (.int .i64 (1 + 3 * (P.length : Int) + 6 * (Q.length : Int)))
    have b344 := eo st hE 14 (.int .i64 (1 + 3 * (P.length : Int) + 6 * (Q.length : Int)))
    have g345 : Grew H319 H335 := (gk st)
    have g346 : Grew H H335 := Grew.trans g320 g345
    have r348 := g345.at r322
    have r349 := g345.at r323
    have s350 := s324.grew g345
    have s351 := s325.grew g345
    have s352 := s326.grew g345
    have s353 := s327.grew g345
    have s354 := s328.grew g345
    have s355 := s329.grew g345
    have s356 := nH319.grew g345
    have s357 := mH319.grew g345
    have s358 := s330.grew g345
    have s359 := s331.grew g345
    clear st hE vs ls
    refine res_call (d := (some 94)) (f := 15) (args := [.tmp 93]) (by kernel_rfl) (R := fun z H' => Grew H335 H' ∧ ∃ S0' S1', z = .agg [S0', S1'] ∧ SlW H' 3 ms S0' ∧ FreshS H335.next S0' ∧ SlW H' 6 ks S1' ∧ FreshS H335.next S1' ∧ ApartS S0' S1') ?_ ?_
    ·
     show ACalls _ _ [E335 93] _ _
     rw [b337]
     exact k_toPoseGraph H335 ms hr S (hS.grew g346) mxms ks hrk Sk (hSk.grew g346) mxks
    rintro z H360 ⟨gH360, S361, S362, rfl, sS361, fS361, sS362, fS362, ap363⟩
    have ne364 : ApartL (S361) p54 := fS361.apartL (H335.lt_of_get r348)
    have ne365 : ApartL (S361) p167 := fS361.apartL (H335.lt_of_get r349)
    have ne366 : ApartS (S361) (S16) := fS361.apartS s350.lt
    have ne367 : ApartS (S361) (S17) := fS361.apartS s351.lt
    have ne368 : ApartS (S361) (S37) := fS361.apartS s352.lt
    have ne369 : ApartS (S361) (S38) := fS361.apartS s353.lt
    have ne370 : ApartS (S361) (S76) := fS361.apartS s354.lt
    have ne371 : ApartS (S361) (S77) := fS361.apartS s355.lt
    have ne372 : ApartS (S361) (S132) := fS361.apartS s356.lt
    have ne373 : ApartS (S361) (S133) := fS361.apartS s357.lt
    have ne374 : ApartS (S361) (S206) := fS361.apartS s358.lt
    have ne375 : ApartS (S361) (S207) := fS361.apartS s359.lt
    have fr376 : FreshS H.next (S361) := fS361.mono g346.next
    have ne377 : ApartL (S362) p54 := fS362.apartL (H335.lt_of_get r348)
    have ne378 : ApartL (S362) p167 := fS362.apartL (H335.lt_of_get r349)
    have ne379 : ApartS (S362) (S16) := fS362.apartS s350.lt
    have ne380 : ApartS (S362) (S17) := fS362.apartS s351.lt
    have ne381 : ApartS (S362) (S37) := fS362.apartS s352.lt
    have ne382 : ApartS (S362) (S38) := fS362.apartS s353.lt
    have ne383 : ApartS (S362) (S76) := fS362.apartS s354.lt
    have ne384 : ApartS (S362) (S77) := fS362.apartS s355.lt
    have ne385 : ApartS (S362) (S132) := fS362.apartS s356.lt
    have ne386 : ApartS (S362) (S133) := fS362.apartS s357.lt
    have ne387 : ApartS (S362) (S206) := fS362.apartS s358.lt
    have ne388 : ApartS (S362) (S207) := fS362.apartS s359.lt
    have fr389 : FreshS H.next (S362) := fS362.mono g346.next
    have g390 : Grew H H360 := Grew.trans g346 gH360
    have r391 := gH360.at r348
    have r392 := gH360.at r349
    have s393 := s350.grew gH360
    have s394 := s351.grew gH360
    have s395 := s352.grew gH360
    have s396 := s353.grew gH360
    have s397 := s354.grew gH360
    have s398 := s355.grew gH360
    have s399 := s356.grew gH360
    have s400 := s357.grew gH360
    have s401 := s358.grew gH360
    have s402 := s359.grew gH360
    have q403 := q332.app (.cons sS361.one (.cons sS362.one .nil) : KdsL [.one, .one] [S361, S362])
    refine run_mc (φ := φ0) (pm := pmR 2 [] 0) 20 (ws := [⟨p54, 0, [n1 8, n1 9], false⟩, ⟨p167, 0, [n1 12, n1 13], false⟩]) (env := [(93, .agg [n1 0, n1 1]), (1, nI 2), (6, .ptr 0 0), (7, nI 3), (8, nI 4), (10, .ptr 1 0), (15, nI 17), (14, nI 17), (94, .agg [n1 18, n1 19])]) q403 (.cons (wR r391 q403) (.cons (wR r392 q403) .nil)) (sepOk_ro rfl) .nil (eC q403 (.cons (put_ne rfl b337) (.cons (put_ne rfl b338) (.cons (put_ne rfl b339) (.cons (put_ne rfl b340) (.cons (put_ne rfl b341) (.cons (put_ne rfl b342) (.cons (put_ne rfl b343) (.cons (put_ne rfl b344) (.cons put_same .nil)))))))))) tb_ok ap_ok ?_
    refine all1 (by kernel_rfl) ?_
    intro vs ls H404 E404 st hE
    have b405 := eo st hE 94 (.agg [S361, S362])
    have b406 := eo st hE 95 (.int .i64 sw)
    have b407 := eo st hE 6 (.ptr p54 0)
    have b408 := eo st hE 7 (.int .i64 n)
    have b409 := eo st hE 8 (.int .i64 c)
    have b410 := eo st hE 10 (.ptr p167 0)
    have b411 := eo st hE 15 (.int .i64 (1 + 3 * (P.length : Int) + 6 * (Q.length : Int)))
    have b412 := eo st hE 14 (.int .i64 (1 + 3 * (P.length : Int) + 6 * (Q.length : Int)))
    have g413 : Grew H360 H404 := (gk st)
    have g414 : Grew H H404 := Grew.trans g390 g413
    have r415 := g413.at r391
    have r416 := g413.at r392
    have s417 := s393.grew g413
    have s418 := s394.grew g413
    have s419 := s395.grew g413
    have s420 := s396.grew g413
    have s421 := s397.grew g413
    have s422 := s398.grew g413
    have s423 := s399.grew g413
    have s424 := s400.grew g413
    have s425 := s401.grew g413
    have s426 := s402.grew g413
    have s427 := sS361.grew g413
    have s428 := sS362.grew g413
    clear st hE vs ls
    refine res_call (d := (some 96)) (f := 46) (args := [.tmp 94, .tmp 95]) (by kernel_rfl) (R := fun z H' => Grew H404 H' ∧ ∃ S' Sk', z = .tuple [.agg [S', Sk'], .int .i64 n, .int .i64 c] ∧ SlW H' 3 P S' ∧ FreshS H404.next S' ∧ SlW H' 6 Q Sk' ∧ FreshS H404.next Sk' ∧ ApartS S' Sk') ?_ ?_
    ·
     show ACalls _ _ [E404 94, E404 95] _ _
     rw [b405, b406]
     exact (by have h := k_impl_RelaxGraph H404 ms hr S361 s427.toL mxms ks hrk S362 s428.toL mxks sw; rw [hadd] at h; exact h)
    rintro z H429 ⟨gH429, S430, S431, rfl, sS430, fS430, sS431, fS431, ap432⟩
    have ne433 : ApartL (S430) p54 := fS430.apartL (H404.lt_of_get r415)
    have ne434 : ApartL (S430) p167 := fS430.apartL (H404.lt_of_get r416)
    have ne435 : ApartS (S430) (S16) := fS430.apartS s417.lt
    have ne436 : ApartS (S430) (S17) := fS430.apartS s418.lt
    have ne437 : ApartS (S430) (S37) := fS430.apartS s419.lt
    have ne438 : ApartS (S430) (S38) := fS430.apartS s420.lt
    have ne439 : ApartS (S430) (S76) := fS430.apartS s421.lt
    have ne440 : ApartS (S430) (S77) := fS430.apartS s422.lt
    have ne441 : ApartS (S430) (S132) := fS430.apartS s423.lt
    have ne442 : ApartS (S430) (S133) := fS430.apartS s424.lt
    have ne443 : ApartS (S430) (S206) := fS430.apartS s425.lt
    have ne444 : ApartS (S430) (S207) := fS430.apartS s426.lt
    have ne445 : ApartS (S430) (S361) := fS430.apartS s427.lt
    have ne446 : ApartS (S430) (S362) := fS430.apartS s428.lt
    have fr447 : FreshS H.next (S430) := fS430.mono g414.next
    have ne448 : ApartL (S431) p54 := fS431.apartL (H404.lt_of_get r415)
    have ne449 : ApartL (S431) p167 := fS431.apartL (H404.lt_of_get r416)
    have ne450 : ApartS (S431) (S16) := fS431.apartS s417.lt
    have ne451 : ApartS (S431) (S17) := fS431.apartS s418.lt
    have ne452 : ApartS (S431) (S37) := fS431.apartS s419.lt
    have ne453 : ApartS (S431) (S38) := fS431.apartS s420.lt
    have ne454 : ApartS (S431) (S76) := fS431.apartS s421.lt
    have ne455 : ApartS (S431) (S77) := fS431.apartS s422.lt
    have ne456 : ApartS (S431) (S132) := fS431.apartS s423.lt
    have ne457 : ApartS (S431) (S133) := fS431.apartS s424.lt
    have ne458 : ApartS (S431) (S206) := fS431.apartS s425.lt
    have ne459 : ApartS (S431) (S207) := fS431.apartS s426.lt
    have ne460 : ApartS (S431) (S361) := fS431.apartS s427.lt
    have ne461 : ApartS (S431) (S362) := fS431.apartS s428.lt
    have fr462 : FreshS H.next (S431) := fS431.mono g414.next
    have g463 : Grew H H429 := Grew.trans g414 gH429
    have r464 := gH429.at r415
    have r465 := gH429.at r416
    have s468 := s419.grew gH429
    have s469 := s420.grew gH429
    have s472 := s423.grew gH429
    have s473 := s424.grew gH429
    have q478 := q403.app (.cons sS430.one (.cons sS431.one .nil) : KdsL [.one, .one] [S430, S431])
    refine run_mc (φ := φ0) (pm := pmR 2 [(.call 17 [.agg [n1 20, n1 21], .agg [n1 8, n1 9]], .lit (.bool true)), (.call 39 [.agg [n1 12, n1 13], .lit (.int .i64 1)], nI 17)] 0) 20 (ws := [⟨p54, 0, [n1 8, n1 9], false⟩, ⟨p167, 0, [n1 12, n1 13], false⟩]) (env := [(94, .agg [n1 18, n1 19]), (95, nI 2), (6, .ptr 0 0), (7, nI 3), (8, nI 4), (10, .ptr 1 0), (15, nI 17), (14, nI 17), (96, .tup [.agg [n1 20, n1 21], nI 3, nI 4])]) q478 (.cons (wR r464 q478) (.cons (wR r465 q478) .nil)) (sepOk_ro rfl) (.cons (rule_call (args := [.agg [S430, S431], .agg [S37, S38]]) (dL q478) (dE q478) (fun H9 hk => k_eqPoseGraph H9 P hP S430 S37 ((sS430.grew (hk.grew (Nat.le_refl _)))).toL ((s468.grew (hk.grew (Nat.le_refl _)))).toL (mx40 mxP) Q hQ S431 S38 ((sS431.grew (hk.grew (Nat.le_refl _)))).toL ((s469.grew (hk.grew (Nat.le_refl _)))).toL (mx40 mxQ))) (.cons (rule_call (args := [.agg [S132, S133], .int .i64 1]) (r := .int .i64 (1 + 3 * (P.length : Int) + 6 * (Q.length : Int))) (dL q478) (dE q478) (fun H9 hk => w_heldPoseGraph H9 1 P.length Q.length S132 S133 ((s472.grew (hk.grew (Nat.le_refl _)))).toL ((s473.grew (hk.grew (Nat.le_refl _)))).toL (by decide) (by decide) mxP mxQ)) .nil)) (eC q478 (.cons (put_ne rfl b405) (.cons (put_ne rfl b406) (.cons (put_ne rfl b407) (.cons (put_ne rfl b408) (.cons (put_ne rfl b409) (.cons (put_ne rfl b410) (.cons (put_ne rfl b411) (.cons (put_ne rfl b412) (.cons put_same .nil)))))))))) tb_ok ap_ok ?_
    refine all2 (by kernel_rfl) ?_ ?_
    ·
     intro vs ls H479 E479 st hE
     have f480 : (1 + 3 * (P.length : Int) + 6 * (Q.length : Int)) < 0 := dt st 0
     exact absurd f480 (by omega)
    ·
     intro vs ls H481 E481 st hE
     have f482 : ¬ ((1 + 3 * (P.length : Int) + 6 * (Q.length : Int)) < 0) := df st 0
     exact res_ex (by kernel_rfl) (end_same st.inn hE (.inr rfl) (a := .bool true) (by kernel_rfl) (Nat.le_trans g463.next st.kept.1) rfl)
end Go.Proofs.Ytcmoeocemmeofaa
