/- The law of InsertReading, walked. -/
import Derived.Test.YtnleibiniajbnaaTMfC
import Derived.Test.YtnleibiniajbnaaTToR
import Derived.Test.YtnleibiniajbnaaSxE
set_option linter.unusedVariables false
set_option linter.unusedSimpArgs false
namespace Go.Proofs.Ytnleibiniajbnaa
open Go.Ab
set_option maxRecDepth 100000
set_option maxHeartbeats 1000000
attribute [local irreducible] Res
theorem feedArg {H : AHeap} {a : AV} (h : FitArg H (false, [.sl [.int .i64, .int .i16, .int .i16, .int .i16]]) a) : ∃ ms, Recs KR ms ∧ SlL H 4 ms a ∧ ms.length ≤ 9223372036854775807 := by
 obtain ⟨_, e9, h9⟩ := h
 injection e9 with e9 _
 subst e9
 exact slArg (ks := KR) (sz := 4) h9 rfl rfl
theorem readArg {H : AHeap} {a : AV} (h : FitArg H (true, [.int .i64, .int .i16, .int .i16, .int .i16]) a) : ∃ rt rx ry rz : Int, a = .agg [.int .i64 rt, .int .i16 rx, .int .i16 ry, .int .i16 rz] := by
 obtain ⟨cs, rfl, hl, hc⟩ := h
 match cs, hl with
 | [c0, c1, c2, c3], _ =>
  have h0 := hc 0 _ _ rfl rfl
  have h1 := hc 1 _ _ rfl rfl
  have h2 := hc 2 _ _ rfl rfl
  have h3 := hc 3 _ _ rfl rfl
  cases h0; cases h1; cases h2; cases h3
  exact ⟨_, _, _, _, rfl⟩
theorem lawExactInsertReading (H : AHeap) (vs : List AV) (h : FitArgs H [(false, [.sl [.int .i64, .int .i16, .int .i16, .int .i16]]), (true, [.int .i64, .int .i16, .int .i16, .int .i16])] vs) : ACalls Try.prog 10 vs H fun r _ => r = .bool true := by
 match vs, h with
 | [SA, q], h =>
 obtain ⟨A, hrA, hSA, hmxA⟩ := feedArg h.1
 obtain ⟨rt, rx, ry, rz, rfl⟩ := readArg h.2.1
 clear h
 obtain ⟨L, c, hV⟩ : ∃ L c, insV A rt rx ry rz = (L, c) := ⟨_, _, rfl⟩
 obtain ⟨hL, mxL0⟩ := insV_ok hrA hV
 have mxL : L.length ≤ 1048576 := by omega
 refine res_start h_laws_FnExactInsertReading (by simp) ?_
 obtain ⟨q1, kq1, hq1⟩ : ∃ r : Int, (∀ H9, Grew H H9 → APure Try.prog 40 [SA, .int .i64 1048576] H9 (.int .i64 r)) ∧ (((1048576 : Int) - (A.length : Int) < 0 ∧ r = -1) ∨ (0 ≤ (1048576 : Int) - (A.length : Int) ∧ r = (1048576 : Int) - (A.length : Int))) := ⟨_, fun H9 hk => k_szReadingS H9 A SA (hSA.grew (Grew.trans (Grew.refl _) hk)) 1048576 om om hmxA, by split <;> omega⟩
 have q2 : KdsL [.one, KI, .int .i16, .int .i16, .int .i16, KI, KI] [SA, .int .i64 rt, .int .i16 rx, .int .i16 ry, .int .i16 rz, .int .i64 c, .int .i64 q1] := kL
 refine rD 0 0 [(.call 40 [n1 0, .lit (.int .i64 1048576)], nI 6)] [] [(0, n1 0), (1, .agg [nI 1, .nd 2 (.int .i16), .nd 3 (.int .i16), .nd 4 (.int .i16)])] q2 (.cons (rule_call (args := [SA, .int .i64 1048576]) (dL q2) (dE q2) (fun H9 hk => kq1 H9 (hk.grew (Nat.le_refl _)))) .nil) (.cons (t := 0) rfl (.cons (t := 1) rfl .nil)) ?_
 refine all2 kr ?_ ?_
 ·
  intro vs ls H3 E3 st hE
  have f4 : q1 < 0 := dt st 0
  exact res_ex kr (end_same st.inn hE (.inr rfl) (a := .bool true) kr (Nat.le_trans (Nat.le_refl _) st.kept.1) rfl)
 ·
  intro vs ls H5 E5 st hE
  have f6 : ¬ (q1 < 0) := df st 0
  obtain ⟨p7, e8, r9, n10⟩ := pO st hE 3 0 [.int .i64 rt, .int .i16 rx, .int .i16 ry, .int .i16 rz]
  have op7 : H.next ≤ p7 := Nat.le_trans (Nat.le_refl _) (oM n10)
  have b11 := eo st hE 22 SA
  have B1 := es st hE [(22, SA), (24, .agg [.int .i64 rt, .int .i16 rx, .int .i16 ry, .int .i16 rz]), (0, SA)]
  have g14 : Grew H H5 := (gk st)
  have g15 : Grew H H5 := Grew.trans (Grew.refl _) g14
  have mxA : A.length ≤ 1048576 := by omega
  refine res_kid (free := false) (d := (some 23)) (f := 42) (args := [.tmp 22]) kr (R := fun z H' => Grew H5 H' ∧ SlW H' 4 A z ∧ FreshS H5.next z) ?_ ?_
  ·
   show ACalls _ _ [E5 22] _ _
   rw [b11]
   exact w_toReadingS H5 A hrA SA (hSA.grew g15) mxA
  rintro S16 H17 ⟨gS16, sS16, fS16⟩
  refine ⟨gS16, ?_⟩
  have ne18 : ApartL (S16) p7 := fS16.apartL (H5.lt_of_get r9)
  have fr19 : FreshS H.next (S16) := fS16.mono g15.next
  have g20 := Grew.trans g15 gS16
  have r21 := gS16.at r9
  have q22 := q2.app (kL : KdsL [.one] [S16])
  refine run_mc (φ := φ0) (pm := pmR 1 [(.call 45 [.agg [nI 1, .nd 2 (.int .i16), .nd 3 (.int .i16), .nd 4 (.int .i16)]], .agg [nI 1, .nd 2 (.int .i16), .nd 3 (.int .i16), .nd 4 (.int .i16)])] 0) 20 (ws := [wf p7 [nI 1, .nd 2 (.int .i16), .nd 3 (.int .i16), .nd 4 (.int .i16)]]) (env := [(22, n1 0), (24, .agg [nI 1, .nd 2 (.int .i16), .nd 3 (.int .i16), .nd 4 (.int .i16)]), (0, n1 0), (3, .ptr 0 0), (23, n1 7)]) q22 (.cons (wR r21 q22) .nil) (sepOk_ro rfl) (.cons (rule_call (args := [.agg [.int .i64 rt, .int .i16 rx, .int .i16 ry, .int .i16 rz]]) (dL q22) (dE q22) (fun H9 hk => k_toReading H9 rt rx ry rz)) .nil) (eC q22 (sc (sp B1) (.cons (put_ne rfl e8) (.cons put_same .nil)))) tb_ok ap_ok ?_
  refine all1 kr fun vs ls H23 E23 st hE => ?_
  have b24 := eo st hE 23 S16
  have b25 := eo st hE 25 (.agg [.int .i64 rt, .int .i16 rx, .int .i16 ry, .int .i16 rz])
  have B2 := es st hE [(23, S16), (25, .agg [.int .i64 rt, .int .i16 rx, .int .i16 ry, .int .i16 rz]), (0, SA), (3, .ptr p7 0)]
  have g28 : Grew H17 H23 := (gk st)
  have g29 := Grew.trans g20 g28
  have r30 := g28.at r21
  have s31 := sS16.grew g28
  refine res_kid (free := false) (d := (some 26)) (f := 44) (args := [.tmp 23, .tmp 25]) kr (R := fun z H' => Grew H23 H' ∧ ∃ S', z = .tuple [S', .int .i64 c] ∧ SlW H' 4 L S' ∧ FreshS H23.next S') ?_ ?_
  ·
   show ACalls _ _ [E23 23, E23 25] _ _
   rw [b24, b25]
   exact (by have h9 := k_spec_InsertReading H23 A hrA S16 s31.toL mxA rt rx ry rz; rw [hV] at h9; exact h9)
  rintro z H32 ⟨gH32, S33, rfl, sS33, fS33⟩
  refine ⟨gH32, ?_⟩
  have ne34 : ApartL (S33) p7 := fS33.apartL (H23.lt_of_get r30)
  have ne35 : ApartS (S33) (S16) := fS33.apartS s31.lt
  have fr36 : FreshS H.next (S33) := fS33.mono g29.next
  have g37 := Grew.trans g29 gH32
  have r38 := gH32.at r30
  have s39 := s31.grew gH32
  have q40 := q22.app (kL : KdsL [.one] [S33])
  refine run_mc (φ := φ0) (pm := pmR 1 [] 0) 20 (ws := [wf p7 [nI 1, .nd 2 (.int .i16), .nd 3 (.int .i16), .nd 4 (.int .i16)]]) (env := [(23, n1 7), (25, .agg [nI 1, .nd 2 (.int .i16), .nd 3 (.int .i16), .nd 4 (.int .i16)]), (0, n1 0), (3, .ptr 0 0), (26, .tup [n1 8, nI 5])]) q40 (.cons (wR r38 q40) .nil) (sepOk_ro rfl) .nil (eC q40 (sc (sp B2) (.cons put_same .nil))) tb_ok ap_ok ?_
  refine all1 kr fun vs ls H41 E41 st hE => ?_
  have b42 := eo st hE 29 SA
  have B3 := es st hE [(29, SA), (3, .ptr p7 0), (6, S33), (7, .int .i64 c), (0, SA)]
  have g47 : Grew H32 H41 := (gk st)
  have g48 := Grew.trans g37 g47
  have r49 := g47.at r38
  have s50 := s39.grew g47
  have s51 := sS33.grew g47
  refine res_call (d := (some 30)) (f := 42) (args := [.tmp 29]) kr (R := fun z H' => Grew H41 H' ∧ SlW H' 4 A z ∧ FreshS H41.next z) ?_ ?_
  ·
   show ACalls _ _ [E41 29] _ _
   rw [b42]
   exact w_toReadingS H41 A hrA SA (hSA.grew g48) mxA
  rintro S52 H53 ⟨gS52, sS52, fS52⟩
  have ne54 : ApartL (S52) p7 := fS52.apartL (H41.lt_of_get r49)
  have ne55 : ApartS (S52) (S16) := fS52.apartS s50.lt
  have ne56 : ApartS (S52) (S33) := fS52.apartS s51.lt
  have fr57 : FreshS H.next (S52) := fS52.mono g48.next
  have g58 := Grew.trans g48 gS52
  have r59 := gS52.at r49
  have s60 := s50.grew gS52
  have s61 := s51.grew gS52
  have q62 := q40.app (kL : KdsL [.one] [S52])
  refine run_mc (φ := φ0) (pm := pmR 1 [(.call 45 [.agg [nI 1, .nd 2 (.int .i16), .nd 3 (.int .i16), .nd 4 (.int .i16)]], .agg [nI 1, .nd 2 (.int .i16), .nd 3 (.int .i16), .nd 4 (.int .i16)])] 0) 20 (ws := [wf p7 [nI 1, .nd 2 (.int .i16), .nd 3 (.int .i16), .nd 4 (.int .i16)]]) (env := [(29, n1 0), (3, .ptr 0 0), (6, n1 8), (7, nI 5), (0, n1 0), (30, n1 9)]) q62 (.cons (wR r59 q62) .nil) (sepOk_ro rfl) (.cons (rule_call (args := [.agg [.int .i64 rt, .int .i16 rx, .int .i16 ry, .int .i16 rz]]) (dL q62) (dE q62) (fun H9 hk => k_toReading H9 rt rx ry rz)) .nil) (eC q62 (sc (sp B3) (.cons put_same .nil))) tb_ok ap_ok ?_
  refine all1 kr fun vs ls H63 E63 st hE => ?_
  have b64 := eo st hE 32 S52
  have b65 := eo st hE 34 (.agg [.int .i64 rt, .int .i16 rx, .int .i16 ry, .int .i16 rz])
  have B4 := es st hE [(32, S52), (34, .agg [.int .i64 rt, .int .i16 rx, .int .i16 ry, .int .i16 rz]), (6, S33), (7, .int .i64 c), (8, S52), (0, SA), (3, .ptr p7 0)]
  have g71 : Grew H53 H63 := (gk st)
  have g72 := Grew.trans g58 g71
  have r73 := g71.at r59
  have s74 := s60.grew g71
  have s75 := s61.grew g71
  have s76 := sS52.grew g71
  refine res_call (d := (some 35)) (f := 46) (args := [.tmp 32, .tmp 34]) kr (R := fun z H' => Grew H63 H' ∧ ∃ S', z = .tuple [S', .int .i64 c] ∧ SlW H' 4 L S' ∧ FreshS H63.next S') ?_ ?_
  ·
   show ACalls _ _ [E63 32, E63 34] _ _
   rw [b64, b65]
   exact (by have h9 := k_impl_InsertReading H63 A hrA S52 s76.toL mxA rt rx ry rz; rw [hV] at h9; exact h9)
  rintro z H77 ⟨gH77, S78, rfl, sS78, fS78⟩
  have ne79 : ApartL (S78) p7 := fS78.apartL (H63.lt_of_get r73)
  have ne80 : ApartS (S78) (S16) := fS78.apartS s74.lt
  have ne81 : ApartS (S78) (S33) := fS78.apartS s75.lt
  have ne82 : ApartS (S78) (S52) := fS78.apartS s76.lt
  have fr83 : FreshS H.next (S78) := fS78.mono g72.next
  have g84 := Grew.trans g72 gH77
  have r85 := gH77.at r73
  have s86 := s74.grew gH77
  have s87 := s75.grew gH77
  have s88 := s76.grew gH77
  have q89 := q62.app (kL : KdsL [.one] [S78])
  refine run_mc (φ := φ0) (pm := pmR 1 [(.call 35 [n1 10, n1 8], .lit (.bool true))] 0) 20 (ws := [wf p7 [nI 1, .nd 2 (.int .i16), .nd 3 (.int .i16), .nd 4 (.int .i16)]]) (env := [(32, n1 9), (34, .agg [nI 1, .nd 2 (.int .i16), .nd 3 (.int .i16), .nd 4 (.int .i16)]), (6, n1 8), (7, nI 5), (8, n1 9), (0, n1 0), (3, .ptr 0 0), (35, .tup [n1 10, nI 5])]) q89 (.cons (wR r85 q89) .nil) (sepOk_ro rfl) (.cons (rule_call (args := [S78, S33]) (dL q89) (dE q89) (fun H9 hk => k_eqReadingS H9 L hL _ _ ((sS78.grew (hk.grew (Nat.le_refl _)))).toL ((s87.grew (hk.grew (Nat.le_refl _)))).toL (mx40 mxL))) .nil) (eC q89 (sc (sp B4) (.cons put_same .nil))) tb_ok ap_ok ?_
  refine all1 kr fun vs ls H90 E90 st hE => ?_
  have b91 := eo st hE 48 SA
  have B5 := es st hE [(48, SA), (47, S52), (8, S52), (9, S78), (6, S33), (10, .int .i64 c), (7, .int .i64 c), (0, SA), (3, .ptr p7 0)]
  have g100 : Grew H77 H90 := (gk st)
  have g101 := Grew.trans g84 g100
  have r102 := g100.at r85
  have s103 := s86.grew g100
  have s104 := s87.grew g100
  have s105 := s88.grew g100
  have s106 := sS78.grew g100
  refine res_call (d := (some 49)) (f := 42) (args := [.tmp 48]) kr (R := fun z H' => Grew H90 H' ∧ SlW H' 4 A z ∧ FreshS H90.next z) ?_ ?_
  ·
   show ACalls _ _ [E90 48] _ _
   rw [b91]
   exact w_toReadingS H90 A hrA SA (hSA.grew g101) mxA
  rintro S107 H108 ⟨gS107, sS107, fS107⟩
  have ne109 : ApartL (S107) p7 := fS107.apartL (H90.lt_of_get r102)
  have ne110 : ApartS (S107) (S16) := fS107.apartS s103.lt
  have ne111 : ApartS (S107) (S33) := fS107.apartS s104.lt
  have ne112 : ApartS (S107) (S52) := fS107.apartS s105.lt
  have ne113 : ApartS (S107) (S78) := fS107.apartS s106.lt
  have fr114 : FreshS H.next (S107) := fS107.mono g101.next
  have g115 := Grew.trans g101 gS107
  have r116 := gS107.at r102
  have s117 := s103.grew gS107
  have s118 := s104.grew gS107
  have s119 := s105.grew gS107
  have s120 := s106.grew gS107
  have q121 := q89.app (kL : KdsL [.one] [S107])
  refine rD 1 0 [(.call 35 [n1 9, n1 11], .lit (.bool true))] [wf p7 [nI 1, .nd 2 (.int .i16), .nd 3 (.int .i16), .nd 4 (.int .i16)]] [(48, n1 0), (47, n1 9), (8, n1 9), (9, n1 10), (6, n1 8), (10, nI 5), (7, nI 5), (0, n1 0), (3, .ptr 0 0), (49, n1 11)] q121 (.cons (rule_call (args := [S52, S107]) (dL q121) (dE q121) (fun H9 hk => k_eqReadingS H9 A hrA _ _ ((s119.grew (hk.grew (Nat.le_refl _)))).toL ((sS107.grew (hk.grew (Nat.le_refl _)))).toL (mx40 mxA))) .nil) (sc (sp B5) (.cons put_same .nil)) ?_
  refine all1 kr fun vs ls H122 E122 st hE => ?_
  have b123 := eo st hE 52 S52
  have b124 := eo st hE 53 (.int .i64 1)
  have B6 := es st hE [(52, S52), (53, .int .i64 1), (11, .int .i64 1), (9, S78), (6, S33), (10, .int .i64 c), (7, .int .i64 c), (0, SA), (3, .ptr p7 0)]
  have g132 : Grew H108 H122 := (gk st)
  have g133 := Grew.trans g115 g132
  have r134 := g132.at r116
  have s135 := s117.grew g132
  have s136 := s118.grew g132
  have s137 := s119.grew g132
  have s138 := s120.grew g132
  have s139 := sS107.grew g132
  refine res_call (d := (some 54)) (f := 38) (args := [.tmp 52, .tmp 53]) kr (R := fun z H' => z = .int .i64 (1 + 4 * (A.length : Int)) ∧ OnlyS S52 H122 H' ∧ SlW H' 4 (mksReading 1 A.length) S52) ?_ ?_
  ·
   show ACalls _ _ [E122 52, E122 53] _ _
   rw [b123, b124]
   exact w_markReadingS H122 A hrA S52 s137 1 om om mxA
  rintro z H140 ⟨rfl, oH140, nH140⟩
  have g141 : Grew H H140 := OnlyS.own g133 fr57 oH140
  have r142 := oH140.at r134 am
  have s143 := s135.only oH140 (by first | assumption | exact ApartS.symm am)
  have s144 := s136.only oH140 (by first | assumption | exact ApartS.symm am)
  have s145 := s138.only oH140 (by first | assumption | exact ApartS.symm am)
  have s146 := s139.only oH140 (by first | assumption | exact ApartS.symm am)
  have q147 := q121.app (kL : KdsL [KI] [.int .i64 (1 + 4 * (A.length : Int))])
  refine rD 1 0 [(.call 35 [n1 10, n1 8], .lit (.bool true))] [wf p7 [nI 1, .nd 2 (.int .i16), .nd 3 (.int .i16), .nd 4 (.int .i16)]] [(52, n1 9), (53, .lit (.int .i64 1)), (11, .lit (.int .i64 1)), (9, n1 10), (6, n1 8), (10, nI 5), (7, nI 5), (0, n1 0), (3, .ptr 0 0), (54, nI 12)] q147 (.cons (rule_call (args := [S78, S33]) (dL q147) (dE q147) (fun H9 hk => k_eqReadingS H9 L hL _ _ ((s145.grew (hk.grew (Nat.le_refl _)))).toL ((s144.grew (hk.grew (Nat.le_refl _)))).toL (mx40 mxL))) .nil) (sc (sp B6) (.cons put_same .nil)) ?_
  refine all2 kr ?_ ?_
  ·
   intro vs ls H148 E148 st hE
   have f149 : (1 + 4 * (A.length : Int)) < 0 := dt st 0
   exact absurd f149 om
  ·
   intro vs ls H150 E150 st hE
   have f151 : ¬ ((1 + 4 * (A.length : Int)) < 0) := df st 0
   have b152 := eo st hE 68 S78
   have b153 := eo st hE 69 (.int .i64 1)
   have B7 := es st hE [(68, S78), (69, .int .i64 1), (9, S78), (12, .int .i64 1), (0, SA), (3, .ptr p7 0), (6, S33), (7, .int .i64 c)]
   have g160 : Grew H140 H150 := (gk st)
   have g161 := Grew.trans g141 g160
   have r162 := g160.at r142
   have s163 := s143.grew g160
   have s164 := s144.grew g160
   have s165 := nH140.grew g160
   have s166 := s145.grew g160
   have s167 := s146.grew g160
   refine res_call (d := (some 70)) (f := 38) (args := [.tmp 68, .tmp 69]) kr (R := fun z H' => z = .int .i64 (1 + 4 * (L.length : Int)) ∧ OnlyS S78 H150 H' ∧ SlW H' 4 (mksReading 1 L.length) S78) ?_ ?_
   ·
    show ACalls _ _ [E150 68, E150 69] _ _
    rw [b152, b153]
    exact w_markReadingS H150 L hL S78 s166 1 om om mxL
   rintro z H168 ⟨rfl, oH168, nH168⟩
   have g169 : Grew H H168 := OnlyS.own g161 fr83 oH168
   have r170 := oH168.at r162 am
   have s171 := s163.only oH168 (by first | assumption | exact ApartS.symm am)
   have s172 := s164.only oH168 (by first | assumption | exact ApartS.symm am)
   have s173 := s165.only oH168 (by first | assumption | exact ApartS.symm am)
   have s174 := s167.only oH168 (by first | assumption | exact ApartS.symm am)
   have q175 := q147.app (kL : KdsL [KI] [.int .i64 (1 + 4 * (L.length : Int))])
   refine rD 1 0 [(.call 39 [n1 10, .lit (.int .i64 1)], nI 13)] [wf p7 [nI 1, .nd 2 (.int .i16), .nd 3 (.int .i16), .nd 4 (.int .i16)]] [(68, n1 10), (69, .lit (.int .i64 1)), (9, n1 10), (12, .lit (.int .i64 1)), (0, n1 0), (3, .ptr 0 0), (6, n1 8), (7, nI 5), (70, nI 13)] q175 (.cons (rule_call (args := [S78, .int .i64 1]) (r := .int .i64 (1 + 4 * (L.length : Int))) (dL q175) (dE q175) (fun H9 hk => k_heldReadingS H9 1 L.length S78 ((nH168.grew (hk.grew (Nat.le_refl _)))).toL om om mxL)) .nil) (sc (sp B7) (.cons put_same .nil)) ?_
   refine all2 kr ?_ ?_
   ·
    intro vs ls H176 E176 st hE
    have f177 : (1 + 4 * (L.length : Int)) < 0 := dt st 0
    exact absurd f177 om
   ·
    intro vs ls H178 E178 st hE
    have f179 : ¬ ((1 + 4 * (L.length : Int)) < 0) := df st 0
    have b180 := eo st hE 80 SA
    have B8 := es st hE [(80, SA), (82, .agg [.int .i64 rt, .int .i16 rx, .int .i16 ry, .int .i16 rz]), (6, S33), (7, .int .i64 c), (9, S78), (13, .int .i64 (1 + 4 * (L.length : Int))), (12, .int .i64 (1 + 4 * (L.length : Int)))]
    have g187 : Grew H168 H178 := (gk st)
    have g188 := Grew.trans g169 g187
    have s190 := s171.grew g187
    have s191 := s172.grew g187
    have s192 := s173.grew g187
    have s193 := nH168.grew g187
    have s194 := s174.grew g187
    refine res_kid (free := false) (d := (some 81)) (f := 42) (args := [.tmp 80]) kr (R := fun z H' => Grew H178 H' ∧ SlW H' 4 A z ∧ FreshS H178.next z) ?_ ?_
    ·
     show ACalls _ _ [E178 80] _ _
     rw [b180]
     exact w_toReadingS H178 A hrA SA (hSA.grew g188) mxA
    rintro S195 H196 ⟨gS195, sS195, fS195⟩
    refine ⟨gS195, ?_⟩
    have ne197 : ApartS (S195) (S16) := fS195.apartS s190.lt
    have ne198 : ApartS (S195) (S33) := fS195.apartS s191.lt
    have ne199 : ApartS (S195) (S52) := fS195.apartS s192.lt
    have ne200 : ApartS (S195) (S78) := fS195.apartS s193.lt
    have ne201 : ApartS (S195) (S107) := fS195.apartS s194.lt
    have fr202 : FreshS H.next (S195) := fS195.mono g188.next
    have g203 := Grew.trans g188 gS195
    have s204 := s190.grew gS195
    have s205 := s191.grew gS195
    have s206 := s192.grew gS195
    have s207 := s193.grew gS195
    have s208 := s194.grew gS195
    have q209 := q175.app (kL : KdsL [.one] [S195])
    refine rD 0 0 [(.call 45 [.agg [nI 1, .nd 2 (.int .i16), .nd 3 (.int .i16), .nd 4 (.int .i16)]], .agg [nI 1, .nd 2 (.int .i16), .nd 3 (.int .i16), .nd 4 (.int .i16)])] [] [(80, n1 0), (82, .agg [nI 1, .nd 2 (.int .i16), .nd 3 (.int .i16), .nd 4 (.int .i16)]), (6, n1 8), (7, nI 5), (9, n1 10), (13, nI 13), (12, nI 13), (81, n1 14)] q209 (.cons (rule_call (args := [.agg [.int .i64 rt, .int .i16 rx, .int .i16 ry, .int .i16 rz]]) (dL q209) (dE q209) (fun H9 hk => k_toReading H9 rt rx ry rz)) .nil) (sc (sp B8) (.cons put_same .nil)) ?_
    refine all1 kr fun vs ls H210 E210 st hE => ?_
    have b211 := eo st hE 81 S195
    have b212 := eo st hE 83 (.agg [.int .i64 rt, .int .i16 rx, .int .i16 ry, .int .i16 rz])
    have B9 := es st hE [(81, S195), (83, .agg [.int .i64 rt, .int .i16 rx, .int .i16 ry, .int .i16 rz]), (6, S33), (7, .int .i64 c), (9, S78), (13, .int .i64 (1 + 4 * (L.length : Int))), (12, .int .i64 (1 + 4 * (L.length : Int)))]
    have g218 : Grew H196 H210 := (gk st)
    have g219 := Grew.trans g203 g218
    have s220 := s204.grew g218
    have s221 := s205.grew g218
    have s222 := s206.grew g218
    have s223 := s207.grew g218
    have s224 := s208.grew g218
    have s225 := sS195.grew g218
    refine res_kid (free := false) (d := (some 84)) (f := 46) (args := [.tmp 81, .tmp 83]) kr (R := fun z H' => Grew H210 H' ∧ ∃ S', z = .tuple [S', .int .i64 c] ∧ SlW H' 4 L S' ∧ FreshS H210.next S') ?_ ?_
    ·
     show ACalls _ _ [E210 81, E210 83] _ _
     rw [b211, b212]
     exact (by have h9 := k_impl_InsertReading H210 A hrA S195 s225.toL mxA rt rx ry rz; rw [hV] at h9; exact h9)
    rintro z H226 ⟨gH226, S227, rfl, sS227, fS227⟩
    refine ⟨gH226, ?_⟩
    have ne228 : ApartS (S227) (S16) := fS227.apartS s220.lt
    have ne229 : ApartS (S227) (S33) := fS227.apartS s221.lt
    have ne230 : ApartS (S227) (S52) := fS227.apartS s222.lt
    have ne231 : ApartS (S227) (S78) := fS227.apartS s223.lt
    have ne232 : ApartS (S227) (S107) := fS227.apartS s224.lt
    have ne233 : ApartS (S227) (S195) := fS227.apartS s225.lt
    have fr234 : FreshS H.next (S227) := fS227.mono g219.next
    have g235 := Grew.trans g219 gH226
    have s237 := s221.grew gH226
    have s239 := s223.grew gH226
    have q242 := q209.app (kL : KdsL [.one] [S227])
    refine rD 0 0 [(.call 35 [n1 15, n1 8], .lit (.bool true)), (.call 39 [n1 10, .lit (.int .i64 1)], nI 13)] [] [(81, n1 14), (83, .agg [nI 1, .nd 2 (.int .i16), .nd 3 (.int .i16), .nd 4 (.int .i16)]), (6, n1 8), (7, nI 5), (9, n1 10), (13, nI 13), (12, nI 13), (84, .tup [n1 15, nI 5])] q242 (.cons (rule_call (args := [S227, S33]) (dL q242) (dE q242) (fun H9 hk => k_eqReadingS H9 L hL _ _ ((sS227.grew (hk.grew (Nat.le_refl _)))).toL ((s237.grew (hk.grew (Nat.le_refl _)))).toL (mx40 mxL))) (.cons (rule_call (args := [S78, .int .i64 1]) (r := .int .i64 (1 + 4 * (L.length : Int))) (dL q242) (dE q242) (fun H9 hk => k_heldReadingS H9 1 L.length S78 ((s239.grew (hk.grew (Nat.le_refl _)))).toL om om mxL)) .nil)) (sc (sp B9) (.cons put_same .nil)) ?_
    refine all2 kr ?_ ?_
    ·
     intro vs ls H243 E243 st hE
     have f244 : (1 + 4 * (L.length : Int)) < 0 := dt st 0
     exact absurd f244 f179
    ·
     intro vs ls H254 E254 st hE
     have f255 : ¬ ((1 + 4 * (L.length : Int)) < 0) := df st 0
     exact res_ex kr (end_same st.inn hE (.inr rfl) (a := .bool true) kr (Nat.le_trans g235.next st.kept.1) rfl)
end Go.Proofs.Ytnleibiniajbnaa
