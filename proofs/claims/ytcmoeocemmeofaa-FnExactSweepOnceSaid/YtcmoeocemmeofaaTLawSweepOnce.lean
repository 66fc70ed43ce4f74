/- The law of SweepOnce, walked. -/
import Derived.Test.YtcmoeocemmeofaaTSweepO
import Derived.Test.YtcmoeocemmeofaaTGraphM
set_option linter.unusedVariables false
set_option linter.unusedSimpArgs false
namespace Go.Proofs.Ytcmoeocemmeofaa
open Go.Ab
set_option maxRecDepth 100000
set_option maxHeartbeats 1000000
attribute [local irreducible] Res
theorem res_ok {ms ks P Q : List (List AV)} {n c : Int} (h : onceF ms ks = (P, Q, n, c)) (hr : Recs KP ms) (hrk : Recs KL ks) (h1 : ms.length ≤ 1048576) (h2 : ks.length ≤ 1048576) : Recs KP P ∧ Recs KL Q ∧ P.length ≤ 1048576 ∧ Q.length ≤ 1048576 := by
 unfold onceF at h
 split at h
 ·
  rename_i hg
  cases h
  have hi := sweepF_inv hr hg
  exact ⟨hi.1, hrk, by rw [hi.2.1]; exact h1, h2⟩
 ·
  cases h; exact ⟨.nil, .nil, by decide, by decide⟩
theorem lawExactSweepOnce (H : AHeap) (vs : List AV) (h : FitArgs H [(true, [.sl [.flt .f32, .flt .f32, .flt .f32], .sl [.int .i64, .int .i64, .flt .f32, .flt .f32, .flt .f32, .flt .f32]])] vs) : ACalls Try.prog 11 vs H fun r _ => r = .bool true := by
 match vs, h with
 | [a], h =>
 obtain ⟨ms, S, ks, Sk, rfl, hr, hS, hmx, hrk, hSk, hmxk⟩ := graphArg h.1
 clear h
 obtain ⟨P, Q, n, c, hadd⟩ : ∃ P Q n c, onceF ms ks = (P, Q, n, c) := ⟨_, _, _, _, rfl⟩
 refine res_start h_laws_FnExactSweepOnce (by simp) ?_
 obtain ⟨q1, kq1, hq1⟩ : ∃ r : Int, (∀ H9, Grew H H9 → APure Try.prog 13 [.agg [S, Sk], .int .i64 1048576] H9 (.int .i64 r)) ∧ (r = -1 ∨ (0 ≤ r ∧ r = 1048576 - (ms.length : Int) - (ks.length : Int))) := ⟨_, fun H9 hk => k_szPoseGraph H9 ms S (hS.grew (Grew.trans (Grew.refl _) hk)) hmx ks Sk (hSk.grew (Grew.trans (Grew.refl _) hk)) hmxk 1048576 (by omega) (by omega), by split <;> (try split) <;> omega⟩
 have q2 : KdsL [.one, .one, KI, KI, KI] [S, Sk, .int .i64 n, .int .i64 c, .int .i64 q1] := .cons (slOne hS) (.cons (slOne hSk) (.cons ⟨_, rfl⟩ (.cons ⟨_, rfl⟩ (.cons ⟨_, rfl⟩ .nil))))
 refine run_mc (φ := φ0) (pm := pmR 0 [(.call 13 [.agg [n1 0, n1 1], .lit (.int .i64 1048576)], nI 4)] 0) 20 (ws := []) (env := [(0, .agg [n1 0, n1 1])]) q2 .nil (sepOk_ro rfl) (.cons (rule_call (args := [.agg [S, Sk], .int .i64 1048576]) (dL q2) (dE q2) (fun H9 hk => kq1 H9 (hk.grew (Nat.le_refl _)))) .nil) (eC q2 (.cons (t := 0) rfl .nil)) tb_ok ap_ok ?_
 refine all2 (by kernel_rfl) ?_ ?_
 ·
  intro vs ls H3 E3 st hE
  have f4 : q1 < 0 := dt st 0
  exact res_ex (by kernel_rfl) (end_same st.inn hE (.inr rfl) (a := .bool true) (by kernel_rfl) (Nat.le_trans (Nat.le_refl _) st.kept.1) rfl)
 ·
  intro vs ls H5 E5 st hE
  have f6 : ¬ (q1 < 0) := df st 0
  have mxms : ms.length ≤ 1048576 := by omega
  have mxks : ks.length ≤ 1048576 := by omega
  obtain ⟨hP, hQ, mxP, mxQ⟩ := res_ok hadd hr hrk mxms mxks
  obtain ⟨p7, e8, r9, n10⟩ := ptr_of st.inn hE 1 0 (by kernel_rfl) (ds := [S, Sk]) (by kernel_rfl)
  have op7 : H.next ≤ p7 := Nat.le_trans (Nat.le_refl _) (n10 (Nat.le_of_ble_eq_true rfl))
  have b11 := eo st hE 23 (.agg [S, Sk])
  have g12 : Grew H H5 := (gk st)
  have g13 : Grew H H5 := Grew.trans (Grew.refl _) g12
  clear st hE vs ls
  refine res_call (d := (some 24)) (f := 15) (args := [.tmp 23]) (by kernel_rfl) (R := fun z H' => Grew H5 H' ∧ ∃ S0' S1', z = .agg [S0', S1'] ∧ SlW H' 3 ms S0' ∧ FreshS H5.next S0' ∧ SlW H' 6 ks S1' ∧ FreshS H5.next S1' ∧ ApartS S0' S1') ?_ ?_
  ·
   show ACalls _ _ [E5 23] _ _
   rw [b11]
   exact k_toPoseGraph H5 ms hr S (hS.grew g13) mxms ks hrk Sk (hSk.grew g13) mxks
  rintro z H14 ⟨gH14, S15, S16, rfl, sS15, fS15, sS16, fS16, ap17⟩
  have ne18 : ApartL (S15) p7 := fS15.apartL (H5.lt_of_get r9)
  have fr19 : FreshS H.next (S15) := fS15.mono g13.next
  have ne20 : ApartL (S16) p7 := fS16.apartL (H5.lt_of_get r9)
  have fr21 : FreshS H.next (S16) := fS16.mono g13.next
  have g22 : Grew H H14 := Grew.trans g13 gH14
  have r23 := gH14.at r9
  have q24 := q2.app (.cons sS15.one (.cons sS16.one .nil) : KdsL [.one, .one] [S15, S16])
  refine run_mc (φ := φ0) (pm := pmR 1 [] 0) 20 (ws := [⟨p7, 0, [n1 0, n1 1], false⟩]) (env := [(23, .agg [n1 0, n1 1]), (1, .ptr 0 0), (24, .agg [n1 5, n1 6])]) q24 (.cons (wR r23 q24) .nil) (sepOk_ro rfl) .nil (eC q24 (.cons (put_ne rfl b11) (.cons (put_ne rfl e8) (.cons put_same .nil)))) tb_ok ap_ok ?_
  refine all1 (by kernel_rfl) ?_
  intro vs ls H25 E25 st hE
  have b26 := eo st hE 24 (.agg [S15, S16])
  have b27 := eo st hE 1 (.ptr p7 0)
  have g28 : Grew H14 H25 := (gk st)
  have g29 : Grew H H25 := Grew.trans g22 g28
  have r30 := g28.at r23
  have s31 := sS15.grew g28
  have s32 := sS16.grew g28
  clear st hE vs ls
  refine res_call (d := (some 25)) (f := 43) (args := [.tmp 24]) (by kernel_rfl) (R := fun z H' => Grew H25 H' ∧ ∃ S' Sk', z = .tuple [.agg [S', Sk'], .int .i64 n, .int .i64 c] ∧ SlW H' 3 P S' ∧ FreshS H25.next S' ∧ SlW H' 6 Q Sk' ∧ FreshS H25.next Sk' ∧ ApartS S' Sk') ?_ ?_
  ·
   show ACalls _ _ [E25 24] _ _
   rw [b26]
   exact (by have h := k_spec_SweepOnce H25 ms hr S15 s31.toL mxms ks hrk S16 s32.toL mxks; rw [hadd] at h; exact h)
  rintro z H33 ⟨gH33, S34, S35, rfl, sS34, fS34, sS35, fS35, ap36⟩
  have ne37 : ApartL (S34) p7 := fS34.apartL (H25.lt_of_get r30)
  have ne38 : ApartS (S34) (S15) := fS34.apartS s31.lt
  have ne39 : ApartS (S34) (S16) := fS34.apartS s32.lt
  have fr40 : FreshS H.next (S34) := fS34.mono g29.next
  have ne41 : ApartL (S35) p7 := fS35.apartL (H25.lt_of_get r30)
  have ne42 : ApartS (S35) (S15) := fS35.apartS s31.lt
  have ne43 : ApartS (S35) (S16) := fS35.apartS s32.lt
  have fr44 : FreshS H.next (S35) := fS35.mono g29.next
  have g45 : Grew H H33 := Grew.trans g29 gH33
  have r46 := gH33.at r30
  have s47 := s31.grew gH33
  have s48 := s32.grew gH33
  have q49 := q24.app (.cons sS34.one (.cons sS35.one .nil) : KdsL [.one, .one] [S34, S35])
  refine run_mc (φ := φ0) (pm := pmR 1 [] 0) 20 (ws := [⟨p7, 0, [n1 0, n1 1], false⟩]) (env := [(24, .agg [n1 5, n1 6]), (1, .ptr 0 0), (25, .tup [.agg [n1 7, n1 8], nI 2, nI 3])]) q49 (.cons (wR r46 q49) .nil) (sepOk_ro rfl) .nil (eC q49 (.cons (put_ne rfl b26) (.cons (put_ne rfl b27) (.cons put_same .nil)))) tb_ok ap_ok ?_
  refine all1 (by kernel_rfl) ?_
  intro vs ls H50 E50 st hE
  obtain ⟨p51, e52, r53, n54⟩ := ptr_of st.inn hE 4 1 (by kernel_rfl) (ds := [S34, S35]) (by kernel_rfl)
  have op51 : H.next ≤ p51 := Nat.le_trans g45.next (n54 (Nat.le_of_ble_eq_true rfl))
  have ne55 := apn r46 (n54 (Nat.le_of_ble_eq_true rfl))
  have ne56 : ApartL (S15) p51 := s47.apart_new (n54 (Nat.le_of_ble_eq_true rfl))
  have ne57 : ApartL (S16) p51 := s48.apart_new (n54 (Nat.le_of_ble_eq_true rfl))
  have ne58 : ApartL (S34) p51 := sS34.apart_new (n54 (Nat.le_of_ble_eq_true rfl))
  have ne59 : ApartL (S35) p51 := sS35.apart_new (n54 (Nat.le_of_ble_eq_true rfl))
  have b60 := eo st hE 29 (.agg [S, Sk])
  have b61 := eo st hE 5 (.int .i64 n)
  have b62 := eo st hE 6 (.int .i64 c)
  have b63 := eo st hE 1 (.ptr p7 0)
  have g64 : Grew H33 H50 := (gk st)
  have g65 : Grew H H50 := Grew.trans g45 g64
  have r66 := g64.at r46
  have s67 := s47.grew g64
  have s68 := s48.grew g64
  have s69 := sS34.grew g64
  have s70 := sS35.grew g64
  clear st hE vs ls
  refine res_call (d := (some 30)) (f := 15) (args := [.tmp 29]) (by kernel_rfl) (R := fun z H' => Grew H50 H' ∧ ∃ S0' S1', z = .agg [S0', S1'] ∧ SlW H' 3 ms S0' ∧ FreshS H50.next S0' ∧ SlW H' 6 ks S1' ∧ FreshS H50.next S1' ∧ ApartS S0' S1') ?_ ?_
  ·
   show ACalls _ _ [E50 29] _ _
   rw [b60]
   exact k_toPoseGraph H50 ms hr S (hS.grew g65) mxms ks hrk Sk (hSk.grew g65) mxks
  rintro z H71 ⟨gH71, S72, S73, rfl, sS72, fS72, sS73, fS73, ap74⟩
  have ne75 : ApartL (S72) p7 := fS72.apartL (H50.lt_of_get r66)
  have ne76 : ApartL (S72) p51 := fS72.apartL (H50.lt_of_get r53)
  have ne77 : ApartS (S72) (S15) := fS72.apartS s67.lt
  have ne78 : ApartS (S72) (S16) := fS72.apartS s68.lt
  have ne79 : ApartS (S72) (S34) := fS72.apartS s69.lt
  have ne80 : ApartS (S72) (S35) := fS72.apartS s70.lt
  have fr81 : FreshS H.next (S72) := fS72.mono g65.next
  have ne82 : ApartL (S73) p7 := fS73.apartL (H50.lt_of_get r66)
  have ne83 : ApartL (S73) p51 := fS73.apartL (H50.lt_of_get r53)
  have ne84 : ApartS (S73) (S15) := fS73.apartS s67.lt
  have ne85 : ApartS (S73) (S16) := fS73.apartS s68.lt
  have ne86 : ApartS (S73) (S34) := fS73.apartS s69.lt
  have ne87 : ApartS (S73) (S35) := fS73.apartS s70.lt
  have fr88 : FreshS H.next (S73) := fS73.mono g65.next
  have g89 : Grew H H71 := Grew.trans g65 gH71
  have r90 := gH71.at r66
  have r91 := gH71.at r53
  have s92 := s67.grew gH71
  have s93 := s68.grew gH71
  have s94 := s69.grew gH71
  have s95 := s70.grew gH71
  have q96 := q49.app (.cons sS72.one (.cons sS73.one .nil) : KdsL [.one, .one] [S72, S73])
  refine run_mc (φ := φ0) (pm := pmR 2 [] 0) 20 (ws := [⟨p7, 0, [n1 0, n1 1], false⟩, ⟨p51, 0, [n1 7, n1 8], false⟩]) (env := [(29, .agg [n1 0, n1 1]), (4, .ptr 1 0), (5, nI 2), (6, nI 3), (1, .ptr 0 0), (30, .agg [n1 9, n1 10])]) q96 (.cons (wR r90 q96) (.cons (wR r91 q96) .nil)) (sepOk_ro rfl) .nil (eC q96 (.cons (put_ne rfl b60) (.cons (put_ne rfl e52) (.cons (put_ne rfl b61) (.cons (put_ne rfl b62) (.cons (put_ne rfl b63) (.cons put_same .nil))))))) tb_ok ap_ok ?_
  refine all1 (by kernel_rfl) ?_
  intro vs ls H97 E97 st hE
  obtain ⟨p98, e99, r100, n101⟩ := ptr_of st.inn hE 7 2 (by kernel_rfl) (ds := [S72, S73]) (by kernel_rfl)
  have op98 : H.next ≤ p98 := Nat.le_trans g89.next (n101 (Nat.le_of_ble_eq_true rfl))
  have ne102 := apn r90 (n101 (Nat.le_of_ble_eq_true rfl))
  have ne103 := apn r91 (n101 (Nat.le_of_ble_eq_true rfl))
  have ne104 : ApartL (S15) p98 := s92.apart_new (n101 (Nat.le_of_ble_eq_true rfl))
  have ne105 : ApartL (S16) p98 := s93.apart_new (n101 (Nat.le_of_ble_eq_true rfl))
  have ne106 : ApartL (S34) p98 := s94.apart_new (n101 (Nat.le_of_ble_eq_true rfl))
  have ne107 : ApartL (S35) p98 := s95.apart_new (n101 (Nat.le_of_ble_eq_true rfl))
  have ne108 : ApartL (S72) p98 := sS72.apart_new (n101 (Nat.le_of_ble_eq_true rfl))
  have ne109 : ApartL (S73) p98 := sS73.apart_new (n101 (Nat.le_of_ble_eq_true rfl))
  have b110 := eo st hE 32 (.agg [S72, S73])
  have b111 := eo st hE 4 (.ptr p51 0)
  have b112 := eo st hE 5 (.int .i64 n)
  have b113 := eo st hE 6 (.int .i64 c)
  have b114 := eo st hE 1 (.ptr p7 0)
  have g115 : Grew H71 H97 := (gk st)
  have g116 : Grew H H97 := Grew.trans g89 g115
  have r117 := g115.at r90
  have r118 := g115.at r91
  have s119 := s92.grew g115
  have s120 := s93.grew g115
  have s121 := s94.grew g115
  have s122 := s95.grew g115
  have s123 := sS72.grew g115
  have s124 := sS73.grew g115
  clear st hE vs ls
  refine res_call (d := (some 33)) (f := 44) (args := [.tmp 32]) (by kernel_rfl) (R := fun z H' => Grew H97 H' ∧ ∃ S' Sk', z = .tuple [.agg [S', Sk'], .int .i64 n, .int .i64 c] ∧ SlW H' 3 P S' ∧ FreshS H97.next S' ∧ SlW H' 6 Q Sk' ∧ FreshS H97.next Sk' ∧ ApartS S' Sk') ?_ ?_
  ·
   show ACalls _ _ [E97 32] _ _
   rw [b110]
   exact (by have h := k_impl_SweepOnce H97 ms hr S72 s123.toL mxms ks hrk S73 s124.toL mxks; rw [hadd] at h; exact h)
  rintro z H125 ⟨gH125, S126, S127, rfl, sS126, fS126, sS127, fS127, ap128⟩
  have ne129 : ApartL (S126) p7 := fS126.apartL (H97.lt_of_get r117)
  have ne130 : ApartL (S126) p51 := fS126.apartL (H97.lt_of_get r118)
  have ne131 : ApartL (S126) p98 := fS126.apartL (H97.lt_of_get r100)
  have ne132 : ApartS (S126) (S15) := fS126.apartS s119.lt
  have ne133 : ApartS (S126) (S16) := fS126.apartS s120.lt
  have ne134 : ApartS (S126) (S34) := fS126.apartS s121.lt
  have ne135 : ApartS (S126) (S35) := fS126.apartS s122.lt
  have ne136 : ApartS (S126) (S72) := fS126.apartS s123.lt
  have ne137 : ApartS (S126) (S73) := fS126.apartS s124.lt
  have fr138 : FreshS H.next (S126) := fS126.mono g116.next
  have ne139 : ApartL (S127) p7 := fS127.apartL (H97.lt_of_get r117)
  have ne140 : ApartL (S127) p51 := fS127.apartL (H97.lt_of_get r118)
  have ne141 : ApartL (S127) p98 := fS127.apartL (H97.lt_of_get r100)
  have ne142 : ApartS (S127) (S15) := fS127.apartS s119.lt
  have ne143 : ApartS (S127) (S16) := fS127.apartS s120.lt
  have ne144 : ApartS (S127) (S34) := fS127.apartS s121.lt
  have ne145 : ApartS (S127) (S35) := fS127.apartS s122.lt
  have ne146 : ApartS (S127) (S72) := fS127.apartS s123.lt
  have ne147 : ApartS (S127) (S73) := fS127.apartS s124.lt
  have fr148 : FreshS H.next (S127) := fS127.mono g116.next
  have g149 : Grew H H125 := Grew.trans g116 gH125
  have r150 := gH125.at r117
  have r151 := gH125.at r118
  have r152 := gH125.at r100
  have s153 := s119.grew gH125
  have s154 := s120.grew gH125
  have s155 := s121.grew gH125
  have s156 := s122.grew gH125
  have s157 := s123.grew gH125
  have s158 := s124.grew gH125
  have q159 := q96.app (.cons sS126.one (.cons sS127.one .nil) : KdsL [.one, .one] [S126, S127])
  refine run_mc (φ := φ0) (pm := pmR 3 [(.call 17 [.agg [n1 11, n1 12], .agg [n1 7, n1 8]], .lit (.bool true))] 0) 20 (ws := [⟨p7, 0, [n1 0, n1 1], false⟩, ⟨p51, 0, [n1 7, n1 8], false⟩, ⟨p98, 0, [n1 9, n1 10], false⟩]) (env := [(32, .agg [n1 9, n1 10]), (4, .ptr 1 0), (5, nI 2), (6, nI 3), (7, .ptr 2 0), (1, .ptr 0 0), (33, .tup [.agg [n1 11, n1 12], nI 2, nI 3])]) q159 (.cons (wR r150 q159) (.cons (wR r151 q159) (.cons (wR r152 q159) .nil))) (sepOk_ro rfl) (.cons (rule_call (args := [.agg [S126, S127], .agg [S34, S35]]) (dL q159) (dE q159) (fun H9 hk => k_eqPoseGraph H9 P hP S126 S34 ((sS126.grew (hk.grew (Nat.le_refl _)))).toL ((s155.grew (hk.grew (Nat.le_refl _)))).toL (mx40 mxP) Q hQ S127 S35 ((sS127.grew (hk.grew (Nat.le_refl _)))).toL ((s156.grew (hk.grew (Nat.le_refl _)))).toL (mx40 mxQ))) .nil) (eC q159 (.cons (put_ne rfl b110) (.cons (put_ne rfl b111) (.cons (put_ne rfl b112) (.cons (put_ne rfl b113) (.cons (put_ne rfl e99) (.cons (put_ne rfl b114) (.cons put_same .nil)))))))) tb_ok ap_ok ?_
  refine all1 (by kernel_rfl) ?_
  intro vs ls H160 E160 st hE
  obtain ⟨p161, e162, r163, n164⟩ := ptr_of st.inn hE 8 3 (by kernel_rfl) (ds := [S126, S127]) (by kernel_rfl)
  have op161 : H.next ≤ p161 := Nat.le_trans g149.next (n164 (Nat.le_of_ble_eq_true rfl))
  have ne165 := apn r150 (n164 (Nat.le_of_ble_eq_true rfl))
  have ne166 := apn r151 (n164 (Nat.le_of_ble_eq_true rfl))
  have ne167 := apn r152 (n164 (Nat.le_of_ble_eq_true rfl))
  have ne168 : ApartL (S15) p161 := s153.apart_new (n164 (Nat.le_of_ble_eq_true rfl))
  have ne169 : ApartL (S16) p161 := s154.apart_new (n164 (Nat.le_of_ble_eq_true rfl))
  have ne170 : ApartL (S34) p161 := s155.apart_new (n164 (Nat.le_of_ble_eq_true rfl))
  have ne171 : ApartL (S35) p161 := s156.apart_new (n164 (Nat.le_of_ble_eq_true rfl))
  have ne172 : ApartL (S72) p161 := s157.apart_new (n164 (Nat.le_of_ble_eq_true rfl))
  have ne173 : ApartL (S73) p161 := s158.apart_new (n164 (Nat.le_of_ble_eq_true rfl))
  have ne174 : ApartL (S126) p161 := sS126.apart_new (n164 (Nat.le_of_ble_eq_true rfl))
  have ne175 : ApartL (S127) p161 := sS127.apart_new (n164 (Nat.le_of_ble_eq_true rfl))
  have b176 := eo st hE 52 (.agg [S, Sk])
  have b177 := eo st hE 51 (.agg [S72, S73])
  have b178 := eo st hE 7 (.ptr p98 0)
  have b179 := eo st hE 4 (.ptr p51 0)
  have b180 := eo st hE 9 (.int .i64 n)
  have b181 := eo st hE 5 (.int .i64 n)
  have b182 := eo st hE 10 (.int .i64 c)
  have b183 := eo st hE 6 (.int .i64 c)
  have b184 := eo st hE 1 (.ptr p7 0)
  have g185 : Grew H125 H160 := (gk st)
  have g186 : Grew H H160 := Grew.trans g149 g185
  have r187 := g185.at r150
  have r188 := g185.at r151
  have r189 := g185.at r152
  have s190 := s153.grew g185
  have s191 := s154.grew g185
  have s192 := s155.grew g185
  have s193 := s156.grew g185
  have s194 := s157.grew g185
  have s195 := s158.grew g185
  have s196 := sS126.grew g185
  have s197 := sS127.grew g185
  clear st hE vs ls
  refine res_kid (free := false) (d := (some 53)) (f := 15) (args := [.tmp 52]) (by kernel_rfl) (R := fun z H' => Grew H160 H' ∧ ∃ S0' S1', z = .agg [S0', S1'] ∧ SlW H' 3 ms S0' ∧ FreshS H160.next S0' ∧ SlW H' 6 ks S1' ∧ FreshS H160.next S1' ∧ ApartS S0' S1') ?_ ?_
  ·
   show ACalls _ _ [E160 52] _ _
   rw [b176]
   exact k_toPoseGraph H160 ms hr S (hS.grew g186) mxms ks hrk Sk (hSk.grew g186) mxks
  rintro z H198 ⟨gH198, S199, S200, rfl, sS199, fS199, sS200, fS200, ap201⟩
  refine ⟨gH198, ?_⟩
  have ne202 : ApartL (S199) p7 := fS199.apartL (H160.lt_of_get r187)
  have ne203 : ApartL (S199) p51 := fS199.apartL (H160.lt_of_get r188)
  have ne204 : ApartL (S199) p98 := fS199.apartL (H160.lt_of_get r189)
  have ne205 : ApartL (S199) p161 := fS199.apartL (H160.lt_of_get r163)
  have ne206 : ApartS (S199) (S15) := fS199.apartS s190.lt
  have ne207 : ApartS (S199) (S16) := fS199.apartS s191.lt
  have ne208 : ApartS (S199) (S34) := fS199.apartS s192.lt
  have ne209 : ApartS (S199) (S35) := fS199.apartS s193.lt
  have ne210 : ApartS (S199) (S72) := fS199.apartS s194.lt
  have ne211 : ApartS (S199) (S73) := fS199.apartS s195.lt
  have ne212 : ApartS (S199) (S126) := fS199.apartS s196.lt
  have ne213 : ApartS (S199) (S127) := fS199.apartS s197.lt
  have fr214 : FreshS H.next (S199) := fS199.mono g186.next
  have ne215 : ApartL (S200) p7 := fS200.apartL (H160.lt_of_get r187)
  have ne216 : ApartL (S200) p51 := fS200.apartL (H160.lt_of_get r188)
  have ne217 : ApartL (S200) p98 := fS200.apartL (H160.lt_of_get r189)
  have ne218 : ApartL (S200) p161 := fS200.apartL (H160.lt_of_get r163)
  have ne219 : ApartS (S200) (S15) := fS200.apartS s190.lt
  have ne220 : ApartS (S200) (S16) := fS200.apartS s191.lt
  have ne221 : ApartS (S200) (S34) := fS200.apartS s192.lt
  have ne222 : ApartS (S200) (S35) := fS200.apartS s193.lt
  have ne223 : ApartS (S200) (S72) := fS200.apartS s194.lt
  have ne224 : ApartS (S200) (S73) := fS200.apartS s195.lt
  have ne225 : ApartS (S200) (S126) := fS200.apartS s196.lt
  have ne226 : ApartS (S200) (S127) := fS200.apartS s197.lt
  have fr227 : FreshS H.next (S200) := fS200.mono g186.next
  have g228 : Grew H H198 := Grew.trans g186 gH198
  have r229 := gH198.at r187
  have r230 := gH198.at r188
  have r231 := gH198.at r189
  have r232 := gH198.at r163
  have s233 := s190.grew gH198
  have s234 := s191.grew gH198
  have s235 := s192.grew gH198
  have s236 := s193.grew gH198
  have s237 := s194.grew gH198
  have s238 := s195.grew gH198
  have s239 := s196.grew gH198
  have s240 := s197.grew gH198
  have q241 := q159.app (.cons sS199.one (.cons sS200.one .nil) : KdsL [.one, .one] [S199, S200])
  refine run_mc (φ := φ0) (pm := pmR 4 [(.call 17 [.agg [n1 9, n1 10], .agg [n1 13, n1 14]], .lit (.bool true))] 0) 20 (ws := [⟨p7, 0, [n1 0, n1 1], false⟩, ⟨p51, 0, [n1 7, n1 8], false⟩, ⟨p98, 0, [n1 9, n1 10], false⟩, ⟨p161, 0, [n1 11, n1 12], false⟩]) (env := [(52, .agg [n1 0, n1 1]), (51, .agg [n1 9, n1 10]), (7, .ptr 2 0), (8, .ptr 3 0), (4, .ptr 1 0), (9, nI 2), (5, nI 2), (10, nI 3), (6, nI 3), (1, .ptr 0 0), (53, .agg [n1 13, n1 14])]) q241 (.cons (wR r229 q241) (.cons (wR r230 q241) (.cons (wR r231 q241) (.cons (wR r232 q241) .nil)))) (sepOk_ro rfl) (.cons (rule_call (args := [.agg [S72, S73], .agg [S199, S200]]) (dL q241) (dE q241) (fun H9 hk => k_eqPoseGraph H9 ms hr S72 S199 ((s237.grew (hk.grew (Nat.le_refl _)))).toL ((sS199.grew (hk.grew (Nat.le_refl _)))).toL (mx40 mxms) ks hrk S73 S200 ((s238.grew (hk.grew (Nat.le_refl _)))).toL ((sS200.grew (hk.grew (Nat.le_refl _)))).toL (mx40 mxks))) .nil) (eC q241 (.cons (put_ne rfl b176) (.cons (put_ne rfl b177) (.cons (put_ne rfl b178) (.cons (put_ne rfl e162) (.cons (put_ne rfl b179) (.cons (put_ne rfl b180) (.cons (put_ne rfl b181) (.cons (put_ne rfl b182) (.cons (put_ne rfl b183) (.cons (put_ne rfl b184) (.cons put_same .nil)))))))))))) tb_ok ap_ok ?_
  refine all1 (by kernel_rfl) ?_
  intro vs ls H242 E242 st hE
  have b243 := eo st hE 56 (.agg [S72, S73])
  have b244 := eo st hE 57 (.int .i64 1)
  have b245 := eo st hE 11 (.int .i64 1)
  have b246 := eo st hE 8 (.ptr p161 0)
  have b247 := eo st hE 4 (.ptr p51 0)
  have b248 := eo st hE 9 (.int .i64 n)
  have b249 := eo st hE 5 (.int .i64 n)
  have b250 := eo st hE 10 (.int .i64 c)
  have b251 := eo st hE 6 (.int .i64 c)
  have b252 := eo st hE 1 (.ptr p7 0)
  have g253 : Grew H198 H242 := (gk st)
  have g254 : Grew H H242 := Grew.trans g228 g253
  have r255 := g253.at r229
  have r256 := g253.at r230
  have r258 := g253.at r232
  have s259 := s233.grew g253
  have s260 := s234.grew g253
  have s261 := s235.grew g253
  have s262 := s236.grew g253
  have s263 := s237.grew g253
  have s264 := s238.grew g253
  have s265 := s239.grew g253
  have s266 := s240.grew g253
  have s267 := sS199.grew g253
  have s268 := sS200.grew g253
  clear st hE vs ls
  refine res_call (d := (some 58)) (f := 38) (args := [.tmp 56, .tmp 57]) (by kernel_rfl) (R := fun z H' => z = .int .i64 (1 + 3 * (ms.length : Int) + 6 * (ks.length : Int)) ∧ Only2 S72 S73 H242 H' ∧ SlW H' 3 (mksPose 1 ms.length) S72 ∧ SlW H' 6 (mksLink (1 + 3 * (ms.length : Int)) ks.length) S73) ?_ ?_
  ·
   show ACalls _ _ [E242 56, E242 57] _ _
   rw [b243, b244]
   exact w_markPoseGraph H242 ms hr S72 s263 mxms ks hrk S73 s264 mxks (by first | assumption | exact ApartS.symm (by assumption)) 1 (by decide) (by decide)
  rintro z H269 ⟨rfl, oH269, nH269, mH269⟩
  have g270 : Grew H H269 := Only2.own g254 fr81 fr88 oH269
  have r271 := oH269.at r255 (by assumption) (by assumption)
  have r272 := oH269.at r256 (by assumption) (by assumption)
  have r273 := oH269.at r258 (by assumption) (by assumption)
  have s274 := s259.only2 oH269 (by first | assumption | exact ApartS.symm (by assumption)) (by first | assumption | exact ApartS.symm (by assumption))
  have s275 := s260.only2 oH269 (by first | assumption | exact ApartS.symm (by assumption)) (by first | assumption | exact ApartS.symm (by assumption))
  have s276 := s261.only2 oH269 (by first | assumption | exact ApartS.symm (by assumption)) (by first | assumption | exact ApartS.symm (by assumption))
  have s277 := s262.only2 oH269 (by first | assumption | exact ApartS.symm (by assumption)) (by first | assumption | exact ApartS.symm (by assumption))
  have s278 := s265.only2 oH269 (by first | assumption | exact ApartS.symm (by assumption)) (by first | assumption | exact ApartS.symm (by assumption))
  have s279 := s266.only2 oH269 (by first | assumption | exact ApartS.symm (by assumption)) (by first | assumption | exact ApartS.symm (by assumption))
  have s280 := s267.only2 oH269 (by first | assumption | exact ApartS.symm (by assumption)) (by first | assumption | exact ApartS.symm (by assumption))
  have s281 := s268.only2 oH269 (by first | assumption | exact ApartS.symm (by assumption)) (by first | assumption | exact ApartS.symm (by assumption))
  have q282 := q241.app (.cons ⟨_, rfl⟩ .nil : KdsL [KI] [.int .i64 (1 + 3 * (ms.length : Int) + 6 * (ks.length : Int))])
  refine run_mc (φ := φ0) (pm := pmR 3 [(.call 17 [.agg [n1 11, n1 12], .agg [n1 7, n1 8]], .lit (.bool true))] 0) 20 (ws := [⟨p7, 0, [n1 0, n1 1], false⟩, ⟨p51, 0, [n1 7, n1 8], false⟩, ⟨p161, 0, [n1 11, n1 12], false⟩]) (env := [(56, .agg [n1 9, n1 10]), (57, .lit (.int .i64 1)), (11, .lit (.int .i64 1)), (8, .ptr 2 0), (4, .ptr 1 0), (9, nI 2), (5, nI 2), (10, nI 3), (6, nI 3), (1, .ptr 0 0), (58, nI 15)]) q282 (.cons (wR r271 q282) (.cons (wR r272 q282) (.cons (wR r273 q282) .nil))) (sepOk_ro rfl) (.cons (rule_call (args := [.agg [S126, S127], .agg [S34, S35]]) (dL q282) (dE q282) (fun H9 hk => k_eqPoseGraph H9 P hP S126 S34 ((s278.grew (hk.grew (Nat.le_refl _)))).toL ((s276.grew (hk.grew (Nat.le_refl _)))).toL (mx40 mxP) Q hQ S127 S35 ((s279.grew (hk.grew (Nat.le_refl _)))).toL ((s277.grew (hk.grew (Nat.le_refl _)))).toL (mx40 mxQ))) .nil) (eC q282 (.cons (put_ne rfl b243) (.cons (put_ne rfl b244) (.cons (put_ne rfl b245) (.cons (put_ne rfl b246) (.cons (put_ne rfl b247) (.cons (put_ne rfl b248) (.cons (put_ne rfl b249) (.cons (put_ne rfl b250) (.cons (put_ne rfl b251) (.cons (put_ne rfl b252) (.cons put_same .nil)))))))))))) tb_ok ap_ok ?_
  refine all2 (by kernel_rfl) ?_ ?_
  ·
   intro vs ls H283 E283 st hE
   have f284 : (1 + 3 * (ms.length : Int) + 6 * (ks.length : Int)) < 0 := dt st 0
   exact absurd f284 (by omega)
  ·
   intro vs ls H285 E285 st hE
   have f286 : ¬ ((1 + 3 * (ms.length : Int) + 6 * (ks.length : Int)) < 0) := df st 0
   have b287 := eo st hE 77 (.agg [S126, S127])
   have b288 := eo st hE 78 (.int .i64 1)
   have b289 := eo st hE 8 (.ptr p161 0)
   have b290 := eo st hE 12 (.int .i64 1)
   have b291 := eo st hE 1 (.ptr p7 0)
   have b292 := eo st hE 4 (.ptr p51 0)
   have b293 := eo st hE 5 (.int .i64 n)
   have b294 := eo st hE 6 (.int .i64 c)
   have g295 : Grew H269 H285 := (gk st)
   have g296 : Grew H H285 := Grew.trans g270 g295
   have r297 := g295.at r271
   have r298 := g295.at r272
   have r299 := g295.at r273
   have s300 := s274.grew g295
   have s301 := s275.grew g295
   have s302 := s276.grew g295
   have s303 := s277.grew g295
   have s304 := nH269.grew g295
   have s305 := mH269.grew g295
   have s306 := s278.grew g295
   have s307 := s279.grew g295
   have s308 := s280.grew g295
   have s309 := s281.grew g295
   clear st hE vs ls
   refine res_call (d := (some 79)) (f := 38) (args := [.tmp 77, .tmp 78]) (by kernel_rfl) (R := fun z H' => z = .int .i64 (1 + 3 * (P.length : Int) + 6 * (Q.length : Int)) ∧ Only2 S126 S127 H285 H' ∧ SlW H' 3 (mksPose 1 P.length) S126 ∧ SlW H' 6 (mksLink (1 + 3 * (P.length : Int)) Q.length) S127) ?_ ?_
   ·
    show ACalls _ _ [E285 77, E285 78] _ _
    rw [b287, b288]
    exact w_markPoseGraph H285 P hP S126 s306 mxP Q hQ S127 s307 mxQ (by first | assumption | exact ApartS.symm (by assumption)) 1 (by decide) (by decide)
   rintro z H310 ⟨rfl, oH310, nH310, mH310⟩
   have g311 : Grew H H310 := Only2.own g296 fr138 fr148 oH310
   have r312 := oH310.at r297 (by assumption) (by assumption)
   have r313 := oH310.at r298 (by assumption) (by assumption)
   have r314 := oH310.at r299 (by assumption) (by assumption)
   have s315 := s300.only2 oH310 (by first | assumption | exact ApartS.symm (by assumption)) (by first | assumption | exact ApartS.symm (by assumption))
   have s316 := s301.only2 oH310 (by first | assumption | exact ApartS.symm (by assumption)) (by first | assumption | exact ApartS.symm (by assumption))
   have s317 := s302.only2 oH310 (by first | assumption | exact ApartS.symm (by assumption)) (by first | assumption | exact ApartS.symm (by assumption))
   have s318 := s303.only2 oH310 (by first | assumption | exact ApartS.symm (by assumption)) (by first | assumption | exact ApartS.symm (by assumption))
   have s319 := s304.only2 oH310 (by first | assumption | exact ApartS.symm (by assumption)) (by first | assumption | exact ApartS.symm (by assumption))
   have s320 := s305.only2 oH310 (by first | assumption | exact ApartS.symm (by assumption)) (by first | assumption | exact ApartS.symm (by assumption))
   have s321 := s308.only2 oH310 (by first | assumption | exact ApartS.symm (by assumption)) (by first | assumption | exact ApartS.symm (by assumption))
   have s322 := s309.only2 oH310 (by first | assumption | exact ApartS.symm (by assumption)) (by first | assumption | exact ApartS.symm (by assumption))
   have q323 := q282.app (.cons ⟨_, rfl⟩ .nil : KdsL [KI] [.int .i64 (1 + 3 * (P.length : Int) + 6 * (Q.length : Int))])
   refine run_mc (φ := φ0) (pm := pmR 3 [(.call 39 [.agg [n1 11, n1 12], .lit (.int .i64 1)], nI 16)] 0) 20 (ws := [⟨p7, 0, [n1 0, n1 1], false⟩, ⟨p51, 0, [n1 7, n1 8], false⟩, ⟨p161, 0, [n1 11, n1 12], false⟩]) (env := [(77, .agg [n1 11, n1 12]), (78, .lit (.int .i64 1)), (8, .ptr 2 0), (12, .lit (.int .i64 1)), (1, .ptr 0 0), (4, .ptr 1 0), (5, nI 2), (6, nI 3), (79, nI 16)]) q323 (.cons (wR r312 q323) (.cons (wR r313 q323) (.cons (wR r314 q323) .nil))) (sepOk_ro rfl) (.cons (rule_call (args := [.agg [S126, S127], .int .i64 1]) (r := .int .i64 (1 + 3 * (P.length : Int) + 6 * (Q.length : Int))) (dL q323) (dE q323) (fun H9 hk => w_heldPoseGraph H9 1 P.length Q.length S126 S127 ((nH310.grew (hk.grew (Nat.le_refl _)))).toL ((mH310.grew (hk.grew (Nat.le_refl _)))).toL (by decide) (by decide) mxP mxQ)) .nil) (eC q323 (.cons (put_ne rfl b287) (.cons (put_ne rfl b288) (.cons (put_ne rfl b289) (.cons (put_ne rfl b290) (.cons (put_ne rfl b291) (.cons (put_ne rfl b292) (.cons (put_ne rfl b293) (.cons (put_ne rfl b294) (.cons put_same .nil)))))))))) tb_ok ap_ok ?_
   refine all2 (by kernel_rfl) ?_ ?_
   ·
    intro vs ls H324 E324 st hE
    have f325 : (1 + 3 * (P.length : Int) + 6 * (Q.length : Int)) < 0 := dt st 0
    exact absurd f325 (by omega)
   ·
    intro vs ls H326 E326 st hE
    have f327 : ¬ ((1 + 3 * (P.length : Int) + 6 * (Q.length : Int)) < 0) := df st 0
    have b328 := eo st hE 89 (.agg [S, Sk])
    have b329 := eo st hE 4 (.ptr p51 0)
    have b330 := eo st hE 5 (.int .i64 n)
    have b331 := eo st hE 6 (.int .i64 c)
    have b332 := eo st hE 8 (.ptr p161 0)
    have b333 := eo st hE 13 (.int .i64 (1 + 3 * (P.length : Int) + 6 * (Q.length : Int)))
    have b334 := eo st hE 12 (.int .i64 (1 + 3 * (P.length : Int) + 6 * (Q.length : Int)))
    have g335 : Grew H310 H326 := (gk st)
    have g336 : Grew H H326 := Grew.trans g311 g335
    have r338 := g335.at r313
    have r339 := g335.at r314
    have s340 := s315.grew g335
    have s341 := s316.grew g335
    have s342 := s317.grew g335
    have s343 := s318.grew g335
    have s344 := s319.grew g335
    have s345 := s320.grew g335
    have s346 := nH310.grew g335
    have s347 := mH310.grew g335
    have s348 := s321.grew g335
    have s349 := s322.grew g335
    clear st hE vs ls
    refine res_call (d := (some 90)) (f := 15) (args := [.tmp 89]) (by kernel_rfl) (R := fun z H' => Grew H326 H' ∧ ∃ S0' S1', z = .agg [S0', S1'] ∧ SlW H' 3 ms S0' ∧ FreshS H326.next S0' ∧ SlW H' 6 ks S1' ∧ FreshS H326.next S1' ∧ ApartS S0' S1') ?_ ?_
    ·
     show ACalls _ _ [E326 89] _ _
     rw [b328]
     exact k_toPoseGraph H326 ms hr S (hS.grew g336) mxms ks hrk Sk (hSk.grew g336) mxks
    rintro z H350 ⟨gH350, S351, S352, rfl, sS351, fS351, sS352, fS352, ap353⟩
    have ne354 : ApartL (S351) p51 := fS351.apartL (H326.lt_of_get r338)
    have ne355 : ApartL (S351) p161 := fS351.apartL (H326.lt_of_get r339)
    have ne356 : ApartS (S351) (S15) := fS351.apartS s340.lt
    have ne357 : ApartS (S351) (S16) := fS351.apartS s341.lt
    have ne358 : ApartS (S351) (S34) := fS351.apartS s342.lt
    have ne359 : ApartS (S351) (S35) := fS351.apartS s343.lt
    have ne360 : ApartS (S351) (S72) := fS351.apartS s344.lt
    have ne361 : ApartS (S351) (S73) := fS351.apartS s345.lt
    have ne362 : ApartS (S351) (S126) := fS351.apartS s346.lt
    have ne363 : ApartS (S351) (S127) := fS351.apartS s347.lt
    have ne364 : ApartS (S351) (S199) := fS351.apartS s348.lt
    have ne365 : ApartS (S351) (S200) := fS351.apartS s349.lt
    have fr366 : FreshS H.next (S351) := fS351.mono g336.next
    have ne367 : ApartL (S352) p51 := fS352.apartL (H326.lt_of_get r338)
    have ne368 : ApartL (S352) p161 := fS352.apartL (H326.lt_of_get r339)
    have ne369 : ApartS (S352) (S15) := fS352.apartS s340.lt
    have ne370 : ApartS (S352) (S16) := fS352.apartS s341.lt
    have ne371 : ApartS (S352) (S34) := fS352.apartS s342.lt
    have ne372 : ApartS (S352) (S35) := fS352.apartS s343.lt
    have ne373 : ApartS (S352) (S72) := fS352.apartS s344.lt
    have ne374 : ApartS (S352) (S73) := fS352.apartS s345.lt
    have ne375 : ApartS (S352) (S126) := fS352.apartS s346.lt
    have ne376 : ApartS (S352) (S127) := fS352.apartS s347.lt
    have ne377 : ApartS (S352) (S199) := fS352.apartS s348.lt
    have ne378 : ApartS (S352) (S200) := fS352.apartS s349.lt
    have fr379 : FreshS H.next (S352) := fS352.mono g336.next
    have g380 : Grew H H350 := Grew.trans g336 gH350
    have r381 := gH350.at r338
    have r382 := gH350.at r339
    have s383 := s340.grew gH350
    have s384 := s341.grew gH350
    have s385 := s342.grew gH350
    have s386 := s343.grew gH350
    have s387 := s344.grew gH350
    have s388 := s345.grew gH350
    have s389 := s346.grew gH350
    have s390 := s347.grew gH350
    have s391 := s348.grew gH350
    have s392 := s349.grew gH350
    have q393 := q323.app (.cons sS351.one (.cons sS352.one .nil) : KdsL [.one, .one] [S351, S352])
    refine run_mc (φ := φ0) (pm := pmR 2 [] 0) 20 (ws := [⟨p51, 0, [n1 7, n1 8], false⟩, ⟨p161, 0, [n1 11, n1 12], false⟩]) (env := [(89, .agg [n1 0, n1 1]), (4, .ptr 0 0), (5, nI 2), (6, nI 3), (8, .ptr 1 0), (13, nI 16), (12, nI 16), (90, .agg [n1 17, n1 18])]) q393 (.cons (wR r381 q393) (.cons (wR r382 q393) .nil)) (sepOk_ro rfl) .nil (eC q393 (.cons (put_ne rfl b328) (.cons (put_ne rfl b329) (.cons (put_ne rfl b330) (.cons (put_ne rfl b331) (.cons (put_ne rfl b332) (.cons (put_ne rfl b333) (.cons (put_ne rfl b334) (.cons put_same .nil))))))))) tb_ok ap_ok ?_
    refine all1 (by kernel_rfl) ?_
    intro vs ls H394 E394 st hE
    have b395 := eo st hE 90 (.agg [S351, S352])
    have b396 := eo st hE 4 (.ptr p51 0)
    have b397 := eo st hE 5 (.int .i64 n)
    have b398 := eo st hE 6 (.int .i64 c)
    have b399 := eo st hE 8 (.ptr p161 0)
    have b400 := eo st hE 13 (.int .i64 (1 + 3 * (P.length : Int) + 6 * (Q.length : Int)))
    have b401 := eo st hE 12 (.int .i64 (1 + 3 * (P.length : Int) + 6 * (Q.length : Int)))
    have g402 : Grew H350 H394 := (gk st)
    have g403 : Grew H H394 := Grew.trans g380 g402
    have r404 := g402.at r381
    have r405 := g402.at r382
    have s406 := s383.grew g402
    have s407 := s384.grew g402
    have s408 := s385.grew g402
    have s409 := s386.grew g402
    have s410 := s387.grew g402
    have s411 := s388.grew g402
    have s412 := s389.grew g402
    have s413 := s390.grew g402
    have s414 := s391.grew g402
    have s415 := s392.grew g402
    have s416 := sS351.grew g402
    have s417 := sS352.grew g402
    clear st hE vs ls
    refine res_call (d := (some 91)) (f := 44) (args := [.tmp 90]) (by kernel_rfl) (R := fun z H' => Grew H394 H' ∧ ∃ S' Sk', z = .tuple [.agg [S', Sk'], .int .i64 n, .int .i64 c] ∧ SlW H' 3 P S' ∧ FreshS H394.next S' ∧ SlW H' 6 Q Sk' ∧ FreshS H394.next Sk' ∧ ApartS S' Sk') ?_ ?_
    ·
     show ACalls _ _ [E394 90] _ _
     rw [b395]
     exact (by have h := k_impl_SweepOnce H394 ms hr S351 s416.toL mxms ks hrk S352 s417.toL mxks; rw [hadd] at h; exact h)
    rintro z H418 ⟨gH418, S419, S420, rfl, sS419, fS419, sS420, fS420, ap421⟩
    have ne422 : ApartL (S419) p51 := fS419.apartL (H394.lt_of_get r404)
    have ne423 : ApartL (S419) p161 := fS419.apartL (H394.lt_of_get r405)
    have ne424 : ApartS (S419) (S15) := fS419.apartS s406.lt
    have ne425 : ApartS (S419) (S16) := fS419.apartS s407.lt
    have ne426 : ApartS (S419) (S34) := fS419.apartS s408.lt
    have ne427 : ApartS (S419) (S35) := fS419.apartS s409.lt
    have ne428 : ApartS (S419) (S72) := fS419.apartS s410.lt
    have ne429 : ApartS (S419) (S73) := fS419.apartS s411.lt
    have ne430 : ApartS (S419) (S126) := fS419.apartS s412.lt
    have ne431 : ApartS (S419) (S127) := fS419.apartS s413.lt
    have ne432 : ApartS (S419) (S199) := fS419.apartS s414.lt
    have ne433 : ApartS (S419) (S200) := fS419.apartS s415.lt
    have ne434 : ApartS (S419) (S351) := fS419.apartS s416.lt
    have ne435 : ApartS (S419) (S352) := fS419.apartS s417.lt
    have fr436 : FreshS H.next (S419) := fS419.mono g403.next
    have ne437 : ApartL (S420) p51 := fS420.apartL (H394.lt_of_get r404)
    have ne438 : ApartL (S420) p161 := fS420.apartL (H394.lt_of_get r405)
    have ne439 : ApartS (S420) (S15) := fS420.apartS s406.lt
    have ne440 : ApartS (S420) (S16) := fS420.apartS s407.lt
    have ne441 : ApartS (S420) (S34) := fS420.apartS s408.lt
    have ne442 : ApartS (S420) (S35) := fS420.apartS s409.lt
    have ne443 : ApartS (S420) (S72) := fS420.apartS s410.lt
    have ne444 : ApartS (S420) (S73) := fS420.apartS s411.lt
    have ne445 : ApartS (S420) (S126) := fS420.apartS s412.lt
    have ne446 : ApartS (S420) (S127) := fS420.apartS s413.lt
    have ne447 : ApartS (S420) (S199) := fS420.apartS s414.lt
    have ne448 : ApartS (S420) (S200) := fS420.apartS s415.lt
    have ne449 : ApartS (S420) (S351) := fS420.apartS s416.lt
    have ne450 : ApartS (S420) (S352) := fS420.apartS s417.lt
    have fr451 : FreshS H.next (S420) := fS420.mono g403.next
    have g452 : Grew H H418 := Grew.trans g403 gH418
    have r453 := gH418.at r404
    have r454 := gH418.at r405
    have s457 := s408.grew gH418
    have s458 := s409.grew gH418
    have s461 := s412.grew gH418
    have s462 := s413.grew gH418
    have q467 := q393.app (.cons sS419.one (.cons sS420.one .nil) : KdsL [.one, .one] [S419, S420])
    refine run_mc (φ := φ0) (pm := pmR 2 [(.call 17 [.agg [n1 19, n1 20], .agg [n1 7, n1 8]], .lit (.bool true)), (.call 39 [.agg [n1 11, n1 12], .lit (.int .i64 1)], nI 16)] 0) 20 (ws := [⟨p51, 0, [n1 7, n1 8], false⟩, ⟨p161, 0, [n1 11, n1 12], false⟩]) (env := [(90, .agg [n1 17, n1 18]), (4, .ptr 0 0), (5, nI 2), (6, nI 3), (8, .ptr 1 0), (13, nI 16), (12, nI 16), (91, .tup [.agg [n1 19, n1 20], nI 2, nI 3])]) q467 (.cons (wR r453 q467) (.cons (wR r454 q467) .nil)) (sepOk_ro rfl) (.cons (rule_call (args := [.agg [S419, S420], .agg [S34, S35]]) (dL q467) (dE q467) (fun H9 hk => k_eqPoseGraph H9 P hP S419 S34 ((sS419.grew (hk.grew (Nat.le_refl _)))).toL ((s457.grew (hk.grew (Nat.le_refl _)))).toL (mx40 mxP) Q hQ S420 S35 ((sS420.grew (hk.grew (Nat.le_refl _)))).toL ((s458.grew (hk.grew (Nat.le_refl _)))).toL (mx40 mxQ))) (.cons (rule_call (args := [.agg [S126, S127], .int .i64 1]) (r := .int .i64 (1 + 3 * (P.length : Int) + 6 * (Q.length : Int))) (dL q467) (dE q467) (fun H9 hk => w_heldPoseGraph H9 1 P.length Q.length S126 S127 ((s461.grew (hk.grew (Nat.le_refl _)))).toL ((s462.grew (hk.grew (Nat.le_refl _)))).toL (by decide) (by decide) mxP mxQ)) .nil)) (eC q467 (.cons (put_ne rfl b395) (.cons (put_ne rfl b396) (.cons (put_ne rfl b397) (.cons (put_ne rfl b398) (.cons (put_ne rfl b399) (.cons (put_ne rfl b400) (.cons (put_ne rfl b401) (.cons put_same .nil))))))))) tb_ok ap_ok ?_
    refine all2 (by kernel_rfl) ?_ ?_
    ·
     intro vs ls H468 E468 st hE
     have f469 : (1 + 3 * (P.length : Int) + 6 * (Q.length : Int)) < 0 := dt st 0
     exact absurd f469 (by omega)
    ·
     intro vs ls H470 E470 st hE
     have f471 : ¬ ((1 + 3 * (P.length : Int) + 6 * (Q.length : Int)) < 0) := df st 0
     exact res_ex (by kernel_rfl) (end_same st.inn hE (.inr rfl) (a := .bool true) (by kernel_rfl) (Nat.le_trans g452.next st.kept.1) rfl)
end Go.Proofs.Ytcmoeocemmeofaa
