/- The law of MergeFeeds, walked. -/
import Derived.Test.YtnleibiniajbnaaTMfC
import Derived.Test.YtnleibiniajbnaaTToR
import Derived.Test.YtnleibiniajbnaaSxE
set_option linter.unusedVariables false
set_option linter.unusedSimpArgs false
namespace Go.Proofs.Ytnleibiniajbnaa
open Go.Ab
set_option maxRecDepth 100000
set_option maxHeartbeats 1000000
attribute [local irreducible] Res
theorem feedArg {H : AHeap} {a : AV} (h : FitArg H (false, [.sl [.int .i64, .int .i16, .int .i16, .int .i16]]) a) : ∃ ms, Recs KR ms ∧ SlL H 4 ms a ∧ ms.length ≤ 9223372036854775807 := by
 obtain ⟨_, e9, h9⟩ := h
 injection e9 with e9 _
 subst e9
 exact slArg (ks := KR) (sz := 4) h9 rfl rfl
theorem lawExactMergeFeeds (H : AHeap) (vs : List AV) (h : FitArgs H [(false, [.sl [.int .i64, .int .i16, .int .i16, .int .i16]]), (false, [.sl [.int .i64, .int .i16, .int .i16, .int .i16]])] vs) : ACalls Try.prog 9 vs H fun r _ => r = .bool true := by
 match vs, h with
 | [SA, SB], h =>
 obtain ⟨A, hrA, hSA, hmxA⟩ := feedArg h.1
 obtain ⟨B, hrB, hSB, hmxB⟩ := feedArg h.2.1
 clear h
 obtain ⟨L, c, hV⟩ : ∃ L c, mrgV A B = (L, c) := ⟨_, _, rfl⟩
 have hL := mrgV_recs hrA hrB hV
 have mxL0 := mrgV_len hV
 have mxL : L.length ≤ 1048576 := by omega
 refine res_start h_laws_FnExactMergeFeeds (by simp) ?_
 obtain ⟨q1, kq1, hq1⟩ : ∃ r : Int, (∀ H9, Grew H H9 → APure Try.prog 40 [SA, .int .i64 1048576] H9 (.int .i64 r)) ∧ (((1048576 : Int) - (A.length : Int) < 0 ∧ r = -1) ∨ (0 ≤ (1048576 : Int) - (A.length : Int) ∧ r = (1048576 : Int) - (A.length : Int))) := ⟨_, fun H9 hk => k_szReadingS H9 A SA (hSA.grew (Grew.trans (Grew.refl _) hk)) 1048576 om om hmxA, by split <;> omega⟩
 obtain ⟨q2, kq2, hq2⟩ : ∃ r : Int, (∀ H9, Grew H H9 → APure Try.prog 40 [SB, .int .i64 q1] H9 (.int .i64 r)) ∧ (((q1 : Int) - (B.length : Int) < 0 ∧ r = -1) ∨ (0 ≤ (q1 : Int) - (B.length : Int) ∧ r = (q1 : Int) - (B.length : Int))) := ⟨_, fun H9 hk => k_szReadingS H9 B SB (hSB.grew (Grew.trans (Grew.refl _) hk)) q1 om om hmxB, by split <;> omega⟩
 have q3 : KdsL [.one, .one, KI, KI, KI] [SA, SB, .int .i64 c, .int .i64 q1, .int .i64 q2] := kL
 refine rD 0 0 [(.call 40 [n1 0, .lit (.int .i64 1048576)], nI 3), (.call 40 [n1 1, nI 3], nI 4)] [] [(0, n1 0), (1, n1 1)] q3 (.cons (rule_call (args := [SA, .int .i64 1048576]) (dL q3) (dE q3) (fun H9 hk => kq1 H9 (hk.grew (Nat.le_refl _)))) (.cons (rule_call (args := [SB, .int .i64 q1]) (dL q3) (dE q3) (fun H9 hk => kq2 H9 (hk.grew (Nat.le_refl _)))) .nil)) (.cons (t := 0) rfl (.cons (t := 1) rfl .nil)) ?_
 refine all3 kr ?_ ?_ ?_
 ·
  intro vs ls H4 E4 st hE
  have f5 : q1 < 0 := dt st 0
  exact res_ex kr (end_same st.inn hE (.inr rfl) (a := .bool true) kr (Nat.le_trans (Nat.le_refl _) st.kept.1) rfl)
 ·
  intro vs ls H6 E6 st hE
  have f7 : q2 < 0 := dt st 0
  have f8 : ¬ (q1 < 0) := df st 1
  exact res_ex kr (end_same st.inn hE (.inr rfl) (a := .bool true) kr (Nat.le_trans (Nat.le_refl _) st.kept.1) rfl)
 ·
  intro vs ls H9 E9 st hE
  have f10 : ¬ (q2 < 0) := df st 0
  have f11 : ¬ (q1 < 0) := df st 1
  have b12 := eo st hE 28 SA
  have B1 := es st hE [(28, SA), (1, SB), (0, SA)]
  have g15 : Grew H H9 := (gk st)
  have g16 : Grew H H9 := Grew.trans (Grew.refl _) g15
  have mxA : A.length ≤ 1048576 := by omega
  have mxB : B.length ≤ 1048576 := by omega
  refine res_call (d := (some 29)) (f := 42) (args := [.tmp 28]) kr (R := fun z H' => Grew H9 H' ∧ SlW H' 4 A z ∧ FreshS H9.next z) ?_ ?_
  ·
   show ACalls _ _ [E9 28] _ _
   rw [b12]
   exact w_toReadingS H9 A hrA SA (hSA.grew g16) mxA
  rintro S17 H18 ⟨gS17, sS17, fS17⟩
  have fr19 : FreshS H.next (S17) := fS17.mono g16.next
  have g20 := Grew.trans g16 gS17
  have q21 := q3.app (kL : KdsL [.one] [S17])
  refine rC 0 0 [] [(28, n1 0), (1, n1 1), (0, n1 0), (29, n1 5)] q21 (sc (sp B1) (.cons put_same .nil)) ?_
  refine all1 kr fun vs ls H22 E22 st hE => ?_
  have b23 := eo st hE 30 SB
  have B2 := es st hE [(30, SB), (29, S17), (0, SA), (1, SB)]
  have g27 : Grew H18 H22 := (gk st)
  have g28 := Grew.trans g20 g27
  have s29 := sS17.grew g27
  refine res_call (d := (some 31)) (f := 42) (args := [.tmp 30]) kr (R := fun z H' => Grew H22 H' ∧ SlW H' 4 B z ∧ FreshS H22.next z) ?_ ?_
  ·
   show ACalls _ _ [E22 30] _ _
   rw [b23]
   exact w_toReadingS H22 B hrB SB (hSB.grew g28) mxB
  rintro S30 H31 ⟨gS30, sS30, fS30⟩
  have ne32 : ApartS (S30) (S17) := fS30.apartS s29.lt
  have fr33 : FreshS H.next (S30) := fS30.mono g28.next
  have g34 := Grew.trans g28 gS30
  have s35 := s29.grew gS30
  have q36 := q21.app (kL : KdsL [.one] [S30])
  refine rC 0 0 [] [(30, n1 1), (29, n1 5), (0, n1 0), (1, n1 1), (31, n1 6)] q36 (sc (sp B2) (.cons put_same .nil)) ?_
  refine all1 kr fun vs ls H37 E37 st hE => ?_
  have b38 := eo st hE 29 S17
  have b39 := eo st hE 31 S30
  have B3 := es st hE [(29, S17), (31, S30), (0, SA), (1, SB)]
  have g42 : Grew H31 H37 := (gk st)
  have g43 := Grew.trans g34 g42
  have s44 := s35.grew g42
  have s45 := sS30.grew g42
  refine res_call (d := (some 32)) (f := 41) (args := [.tmp 29, .tmp 31]) kr (R := fun z H' => Grew H37 H' ∧ ∃ S', z = .tuple [S', .int .i64 c] ∧ SlW H' 4 L S' ∧ FreshS H37.next S') ?_ ?_
  ·
   show ACalls _ _ [E37 29, E37 31] _ _
   rw [b38, b39]
   exact (by have h9 := k_spec_MergeFeeds H37 A hrA S17 s44.toL mxA B hrB S30 s45.toL mxB; rw [hV] at h9; exact h9)
  rintro z H46 ⟨gH46, S47, rfl, sS47, fS47⟩
  have ne48 : ApartS (S47) (S17) := fS47.apartS s44.lt
  have ne49 : ApartS (S47) (S30) := fS47.apartS s45.lt
  have fr50 : FreshS H.next (S47) := fS47.mono g43.next
  have g51 := Grew.trans g43 gH46
  have s52 := s44.grew gH46
  have s53 := s45.grew gH46
  have q54 := q36.app (kL : KdsL [.one] [S47])
  refine rC 0 0 [] [(29, n1 5), (31, n1 6), (0, n1 0), (1, n1 1), (32, .tup [n1 7, nI 2])] q54 (sc (sp B3) (.cons put_same .nil)) ?_
  refine all1 kr fun vs ls H55 E55 st hE => ?_
  have b56 := eo st hE 35 SA
  have B4 := es st hE [(35, SA), (1, SB), (6, S47), (7, .int .i64 c), (0, SA)]
  have g61 : Grew H46 H55 := (gk st)
  have g62 := Grew.trans g51 g61
  have s63 := s52.grew g61
  have s64 := s53.grew g61
  have s65 := sS47.grew g61
  refine res_call (d := (some 36)) (f := 42) (args := [.tmp 35]) kr (R := fun z H' => Grew H55 H' ∧ SlW H' 4 A z ∧ FreshS H55.next z) ?_ ?_
  ·
   show ACalls _ _ [E55 35] _ _
   rw [b56]
   exact w_toReadingS H55 A hrA SA (hSA.grew g62) mxA
  rintro S66 H67 ⟨gS66, sS66, fS66⟩
  have ne68 : ApartS (S66) (S17) := fS66.apartS s63.lt
  have ne69 : ApartS (S66) (S30) := fS66.apartS s64.lt
  have ne70 : ApartS (S66) (S47) := fS66.apartS s65.lt
  have fr71 : FreshS H.next (S66) := fS66.mono g62.next
  have g72 := Grew.trans g62 gS66
  have s73 := s63.grew gS66
  have s74 := s64.grew gS66
  have s75 := s65.grew gS66
  have q76 := q54.app (kL : KdsL [.one] [S66])
  refine rC 0 0 [] [(35, n1 0), (1, n1 1), (6, n1 7), (7, nI 2), (0, n1 0), (36, n1 8)] q76 (sc (sp B4) (.cons put_same .nil)) ?_
  refine all1 kr fun vs ls H77 E77 st hE => ?_
  have b78 := eo st hE 37 SB
  have B5 := es st hE [(37, SB), (8, S66), (6, S47), (7, .int .i64 c), (0, SA), (1, SB)]
  have g84 : Grew H67 H77 := (gk st)
  have g85 := Grew.trans g72 g84
  have s86 := s73.grew g84
  have s87 := s74.grew g84
  have s88 := s75.grew g84
  have s89 := sS66.grew g84
  refine res_call (d := (some 38)) (f := 42) (args := [.tmp 37]) kr (R := fun z H' => Grew H77 H' ∧ SlW H' 4 B z ∧ FreshS H77.next z) ?_ ?_
  ·
   show ACalls _ _ [E77 37] _ _
   rw [b78]
   exact w_toReadingS H77 B hrB SB (hSB.grew g85) mxB
  rintro S90 H91 ⟨gS90, sS90, fS90⟩
  have ne92 : ApartS (S90) (S17) := fS90.apartS s86.lt
  have ne93 : ApartS (S90) (S30) := fS90.apartS s87.lt
  have ne94 : ApartS (S90) (S47) := fS90.apartS s88.lt
  have ne95 : ApartS (S90) (S66) := fS90.apartS s89.lt
  have fr96 : FreshS H.next (S90) := fS90.mono g85.next
  have g97 := Grew.trans g85 gS90
  have s98 := s86.grew gS90
  have s99 := s87.grew gS90
  have s100 := s88.grew gS90
  have s101 := s89.grew gS90
  have q102 := q76.app (kL : KdsL [.one] [S90])
  refine rC 0 0 [] [(37, n1 1), (8, n1 8), (6, n1 7), (7, nI 2), (0, n1 0), (1, n1 1), (38, n1 9)] q102 (sc (sp B5) (.cons put_same .nil)) ?_
  refine all1 kr fun vs ls H103 E103 st hE => ?_
  have b104 := eo st hE 40 S66
  have b105 := eo st hE 41 S90
  have B6 := es st hE [(40, S66), (41, S90), (6, S47), (7, .int .i64 c), (8, S66), (0, SA), (9, S90), (1, SB)]
  have g112 : Grew H91 H103 := (gk st)
  have g113 := Grew.trans g97 g112
  have s114 := s98.grew g112
  have s115 := s99.grew g112
  have s116 := s100.grew g112
  have s117 := s101.grew g112
  have s118 := sS90.grew g112
  refine res_call (d := (some 42)) (f := 43) (args := [.tmp 40, .tmp 41]) kr (R := fun z H' => Grew H103 H' ∧ ∃ S', z = .tuple [S', .int .i64 c] ∧ SlW H' 4 L S' ∧ FreshS H103.next S') ?_ ?_
  ·
   show ACalls _ _ [E103 40, E103 41] _ _
   rw [b104, b105]
   exact (by have h9 := k_impl_MergeFeeds H103 A hrA S66 s117.toL mxA B hrB S90 s118.toL mxB; rw [hV] at h9; exact h9)
  rintro z H119 ⟨gH119, S120, rfl, sS120, fS120⟩
  have ne121 : ApartS (S120) (S17) := fS120.apartS s114.lt
  have ne122 : ApartS (S120) (S30) := fS120.apartS s115.lt
  have ne123 : ApartS (S120) (S47) := fS120.apartS s116.lt
  have ne124 : ApartS (S120) (S66) := fS120.apartS s117.lt
  have ne125 : ApartS (S120) (S90) := fS120.apartS s118.lt
  have fr126 : FreshS H.next (S120) := fS120.mono g113.next
  have g127 := Grew.trans g113 gH119
  have s128 := s114.grew gH119
  have s129 := s115.grew gH119
  have s130 := s116.grew gH119
  have s131 := s117.grew gH119
  have s132 := s118.grew gH119
  have q133 := q102.app (kL : KdsL [.one] [S120])
  refine rD 0 0 [(.call 35 [n1 10, n1 7], .lit (.bool true))] [] [(40, n1 8), (41, n1 9), (6, n1 7), (7, nI 2), (8, n1 8), (0, n1 0), (9, n1 9), (1, n1 1), (42, .tup [n1 10, nI 2])] q133 (.cons (rule_call (args := [S120, S47]) (dL q133) (dE q133) (fun H9 hk => k_eqReadingS H9 L hL _ _ ((sS120.grew (hk.grew (Nat.le_refl _)))).toL ((s130.grew (hk.grew (Nat.le_refl _)))).toL (mx40 mxL))) .nil) (sc (sp B6) (.cons put_same .nil)) ?_
  refine all1 kr fun vs ls H134 E134 st hE => ?_
  have b135 := eo st hE 55 SA
  have B7 := es st hE [(55, SA), (54, S66), (9, S90), (1, SB), (8, S66), (10, S120), (6, S47), (11, .int .i64 c), (7, .int .i64 c), (0, SA)]
  have g145 : Grew H119 H134 := (gk st)
  have g146 := Grew.trans g127 g145
  have s147 := s128.grew g145
  have s148 := s129.grew g145
  have s149 := s130.grew g145
  have s150 := s131.grew g145
  have s151 := s132.grew g145
  have s152 := sS120.grew g145
  refine res_call (d := (some 56)) (f := 42) (args := [.tmp 55]) kr (R := fun z H' => Grew H134 H' ∧ SlW H' 4 A z ∧ FreshS H134.next z) ?_ ?_
  ·
   show ACalls _ _ [E134 55] _ _
   rw [b135]
   exact w_toReadingS H134 A hrA SA (hSA.grew g146) mxA
  rintro S153 H154 ⟨gS153, sS153, fS153⟩
  have ne155 : ApartS (S153) (S17) := fS153.apartS s147.lt
  have ne156 : ApartS (S153) (S30) := fS153.apartS s148.lt
  have ne157 : ApartS (S153) (S47) := fS153.apartS s149.lt
  have ne158 : ApartS (S153) (S66) := fS153.apartS s150.lt
  have ne159 : ApartS (S153) (S90) := fS153.apartS s151.lt
  have ne160 : ApartS (S153) (S120) := fS153.apartS s152.lt
  have fr161 : FreshS H.next (S153) := fS153.mono g146.next
  have g162 := Grew.trans g146 gS153
  have s163 := s147.grew gS153
  have s164 := s148.grew gS153
  have s165 := s149.grew gS153
  have s166 := s150.grew gS153
  have s167 := s151.grew gS153
  have s168 := s152.grew gS153
  have q169 := q133.app (kL : KdsL [.one] [S153])
  refine rD 0 0 [(.call 35 [n1 8, n1 11], .lit (.bool true))] [] [(55, n1 0), (54, n1 8), (9, n1 9), (1, n1 1), (8, n1 8), (10, n1 10), (6, n1 7), (11, nI 2), (7, nI 2), (0, n1 0), (56, n1 11)] q169 (.cons (rule_call (args := [S66, S153]) (dL q169) (dE q169) (fun H9 hk => k_eqReadingS H9 A hrA _ _ ((s166.grew (hk.grew (Nat.le_refl _)))).toL ((sS153.grew (hk.grew (Nat.le_refl _)))).toL (mx40 mxA))) .nil) (sc (sp B7) (.cons put_same .nil)) ?_
  refine all1 kr fun vs ls H170 E170 st hE => ?_
  have b171 := eo st hE 60 SB
  have B8 := es st hE [(60, SB), (59, S90), (8, S66), (9, S90), (10, S120), (6, S47), (11, .int .i64 c), (7, .int .i64 c), (0, SA), (1, SB)]
  have g181 : Grew H154 H170 := (gk st)
  have g182 := Grew.trans g162 g181
  have s183 := s163.grew g181
  have s184 := s164.grew g181
  have s185 := s165.grew g181
  have s186 := s166.grew g181
  have s187 := s167.grew g181
  have s188 := s168.grew g181
  have s189 := sS153.grew g181
  refine res_call (d := (some 61)) (f := 42) (args := [.tmp 60]) kr (R := fun z H' => Grew H170 H' ∧ SlW H' 4 B z ∧ FreshS H170.next z) ?_ ?_
  ·
   show ACalls _ _ [E170 60] _ _
   rw [b171]
   exact w_toReadingS H170 B hrB SB (hSB.grew g182) mxB
  rintro S190 H191 ⟨gS190, sS190, fS190⟩
  have ne192 : ApartS (S190) (S17) := fS190.apartS s183.lt
  have ne193 : ApartS (S190) (S30) := fS190.apartS s184.lt
  have ne194 : ApartS (S190) (S47) := fS190.apartS s185.lt
  have ne195 : ApartS (S190) (S66) := fS190.apartS s186.lt
  have ne196 : ApartS (S190) (S90) := fS190.apartS s187.lt
  have ne197 : ApartS (S190) (S120) := fS190.apartS s188.lt
  have ne198 : ApartS (S190) (S153) := fS190.apartS s189.lt
  have fr199 : FreshS H.next (S190) := fS190.mono g182.next
  have g200 := Grew.trans g182 gS190
  have s201 := s183.grew gS190
  have s202 := s184.grew gS190
  have s203 := s185.grew gS190
  have s204 := s186.grew gS190
  have s205 := s187.grew gS190
  have s206 := s188.grew gS190
  have s207 := s189.grew gS190
  have q208 := q169.app (kL : KdsL [.one] [S190])
  refine rD 0 0 [(.call 35 [n1 9, n1 12], .lit (.bool true))] [] [(60, n1 1), (59, n1 9), (8, n1 8), (9, n1 9), (10, n1 10), (6, n1 7), (11, nI 2), (7, nI 2), (0, n1 0), (1, n1 1), (61, n1 12)] q208 (.cons (rule_call (args := [S90, S190]) (dL q208) (dE q208) (fun H9 hk => k_eqReadingS H9 B hrB _ _ ((s205.grew (hk.grew (Nat.le_refl _)))).toL ((sS190.grew (hk.grew (Nat.le_refl _)))).toL (mx40 mxB))) .nil) (sc (sp B8) (.cons put_same .nil)) ?_
  refine all1 kr fun vs ls H209 E209 st hE => ?_
  have b210 := eo st hE 64 S66
  have b211 := eo st hE 65 (.int .i64 1)
  have B9 := es st hE [(64, S66), (65, .int .i64 1), (9, S90), (12, .int .i64 1), (10, S120), (6, S47), (11, .int .i64 c), (7, .int .i64 c), (0, SA), (1, SB)]
  have g220 : Grew H191 H209 := (gk st)
  have g221 := Grew.trans g200 g220
  have s222 := s201.grew g220
  have s223 := s202.grew g220
  have s224 := s203.grew g220
  have s225 := s204.grew g220
  have s226 := s205.grew g220
  have s227 := s206.grew g220
  have s228 := s207.grew g220
  have s229 := sS190.grew g220
  refine res_call (d := (some 66)) (f := 38) (args := [.tmp 64, .tmp 65]) kr (R := fun z H' => z = .int .i64 (1 + 4 * (A.length : Int)) ∧ OnlyS S66 H209 H' ∧ SlW H' 4 (mksReading 1 A.length) S66) ?_ ?_
  ·
   show ACalls _ _ [E209 64, E209 65] _ _
   rw [b210, b211]
   exact w_markReadingS H209 A hrA S66 s225 1 om om mxA
  rintro z H230 ⟨rfl, oH230, nH230⟩
  have g231 : Grew H H230 := OnlyS.own g221 fr71 oH230
  have s232 := s222.only oH230 (by first | assumption | exact ApartS.symm am)
  have s233 := s223.only oH230 (by first | assumption | exact ApartS.symm am)
  have s234 := s224.only oH230 (by first | assumption | exact ApartS.symm am)
  have s235 := s226.only oH230 (by first | assumption | exact ApartS.symm am)
  have s236 := s227.only oH230 (by first | assumption | exact ApartS.symm am)
  have s237 := s228.only oH230 (by first | assumption | exact ApartS.symm am)
  have s238 := s229.only oH230 (by first | assumption | exact ApartS.symm am)
  have q239 := q208.app (kL : KdsL [KI] [.int .i64 (1 + 4 * (A.length : Int))])
  refine rC 0 0 [] [(64, n1 8), (65, .lit (.int .i64 1)), (9, n1 9), (12, .lit (.int .i64 1)), (10, n1 10), (6, n1 7), (11, nI 2), (7, nI 2), (0, n1 0), (1, n1 1), (66, nI 13)] q239 (sc (sp B9) (.cons put_same .nil)) ?_
  refine all1 kr fun vs ls H240 E240 st hE => ?_
  have b241 := eo st hE 67 S90
  have b242 := eo st hE 68 (.int .i64 (1 + 4 * (A.length : Int)))
  have B10 := es st hE [(67, S90), (68, .int .i64 (1 + 4 * (A.length : Int))), (12, .int .i64 (1 + 4 * (A.length : Int))), (10, S120), (6, S47), (11, .int .i64 c), (7, .int .i64 c), (0, SA), (1, SB)]
  have g250 : Grew H230 H240 := (gk st)
  have g251 := Grew.trans g231 g250
  have s252 := s232.grew g250
  have s253 := s233.grew g250
  have s254 := s234.grew g250
  have s255 := nH230.grew g250
  have s256 := s235.grew g250
  have s257 := s236.grew g250
  have s258 := s237.grew g250
  have s259 := s238.grew g250
  refine res_call (d := (some 69)) (f := 38) (args := [.tmp 67, .tmp 68]) kr (R := fun z H' => z = .int .i64 ((1 + 4 * (A.length : Int)) + 4 * (B.length : Int)) ∧ OnlyS S90 H240 H' ∧ SlW H' 4 (mksReading (1 + 4 * (A.length : Int)) B.length) S90) ?_ ?_
  ·
   show ACalls _ _ [E240 67, E240 68] _ _
   rw [b241, b242]
   exact w_markReadingS H240 B hrB S90 s256 (1 + 4 * (A.length : Int)) om om mxB
  rintro z H260 ⟨rfl, oH260, nH260⟩
  have g261 : Grew H H260 := OnlyS.own g251 fr96 oH260
  have s262 := s252.only oH260 (by first | assumption | exact ApartS.symm am)
  have s263 := s253.only oH260 (by first | assumption | exact ApartS.symm am)
  have s264 := s254.only oH260 (by first | assumption | exact ApartS.symm am)
  have s265 := s255.only oH260 (by first | assumption | exact ApartS.symm am)
  have s266 := s257.only oH260 (by first | assumption | exact ApartS.symm am)
  have s267 := s258.only oH260 (by first | assumption | exact ApartS.symm am)
  have s268 := s259.only oH260 (by first | assumption | exact ApartS.symm am)
  have q269 := q239.app (kL : KdsL [KI] [.int .i64 ((1 + 4 * (A.length : Int)) + 4 * (B.length : Int))])
  refine rD 0 0 [(.call 35 [n1 10, n1 7], .lit (.bool true))] [] [(67, n1 9), (68, nI 13), (12, nI 13), (10, n1 10), (6, n1 7), (11, nI 2), (7, nI 2), (0, n1 0), (1, n1 1), (69, nI 14)] q269 (.cons (rule_call (args := [S120, S47]) (dL q269) (dE q269) (fun H9 hk => k_eqReadingS H9 L hL _ _ ((s266.grew (hk.grew (Nat.le_refl _)))).toL ((s264.grew (hk.grew (Nat.le_refl _)))).toL (mx40 mxL))) .nil) (sc (sp B10) (.cons put_same .nil)) ?_
  refine all2 kr ?_ ?_
  ·
   intro vs ls H270 E270 st hE
   have f271 : ((1 + 4 * (A.length : Int)) + 4 * (B.length : Int)) < 0 := dt st 0
   exact absurd f271 om
  ·
   intro vs ls H272 E272 st hE
   have f273 : ¬ (((1 + 4 * (A.length : Int)) + 4 * (B.length : Int)) < 0) := df st 0
   have b274 := eo st hE 83 S120
   have b275 := eo st hE 84 (.int .i64 1)
   have B11 := es st hE [(83, S120), (84, .int .i64 1), (10, S120), (13, .int .i64 1), (0, SA), (1, SB), (6, S47), (7, .int .i64 c)]
   have g282 : Grew H260 H272 := (gk st)
   have g283 := Grew.trans g261 g282
   have s284 := s262.grew g282
   have s285 := s263.grew g282
   have s286 := s264.grew g282
   have s287 := s265.grew g282
   have s288 := nH260.grew g282
   have s289 := s266.grew g282
   have s290 := s267.grew g282
   have s291 := s268.grew g282
   refine res_call (d := (some 85)) (f := 38) (args := [.tmp 83, .tmp 84]) kr (R := fun z H' => z = .int .i64 (1 + 4 * (L.length : Int)) ∧ OnlyS S120 H272 H' ∧ SlW H' 4 (mksReading 1 L.length) S120) ?_ ?_
   ·
    show ACalls _ _ [E272 83, E272 84] _ _
    rw [b274, b275]
    exact w_markReadingS H272 L hL S120 s289 1 om om mxL
   rintro z H292 ⟨rfl, oH292, nH292⟩
   have g293 : Grew H H292 := OnlyS.own g283 fr126 oH292
   have s294 := s284.only oH292 (by first | assumption | exact ApartS.symm am)
   have s295 := s285.only oH292 (by first | assumption | exact ApartS.symm am)
   have s296 := s286.only oH292 (by first | assumption | exact ApartS.symm am)
   have s297 := s287.only oH292 (by first | assumption | exact ApartS.symm am)
   have s298 := s288.only oH292 (by first | assumption | exact ApartS.symm am)
   have s299 := s290.only oH292 (by first | assumption | exact ApartS.symm am)
   have s300 := s291.only oH292 (by first | assumption | exact ApartS.symm am)
   have q301 := q269.app (kL : KdsL [KI] [.int .i64 (1 + 4 * (L.length : Int))])
   refine rD 0 0 [(.call 39 [n1 10, .lit (.int .i64 1)], nI 15)] [] [(83, n1 10), (84, .lit (.int .i64 1)), (10, n1 10), (13, .lit (.int .i64 1)), (0, n1 0), (1, n1 1), (6, n1 7), (7, nI 2), (85, nI 15)] q301 (.cons (rule_call (args := [S120, .int .i64 1]) (r := .int .i64 (1 + 4 * (L.length : Int))) (dL q301) (dE q301) (fun H9 hk => k_heldReadingS H9 1 L.length S120 ((nH292.grew (hk.grew (Nat.le_refl _)))).toL om om mxL)) .nil) (sc (sp B11) (.cons put_same .nil)) ?_
   refine all2 kr ?_ ?_
   ·
    intro vs ls H302 E302 st hE
    have f303 : (1 + 4 * (L.length : Int)) < 0 := dt st 0
    exact absurd f303 om
   ·
    intro vs ls H304 E304 st hE
    have f305 : ¬ ((1 + 4 * (L.length : Int)) < 0) := df st 0
    have b306 := eo st hE 95 SA
    have B12 := es st hE [(95, SA), (1, SB), (6, S47), (7, .int .i64 c), (10, S120), (14, .int .i64 (1 + 4 * (L.length : Int))), (13, .int .i64 (1 + 4 * (L.length : Int)))]
    have g313 : Grew H292 H304 := (gk st)
    have g314 := Grew.trans g293 g313
    have s315 := s294.grew g313
    have s316 := s295.grew g313
    have s317 := s296.grew g313
    have s318 := s297.grew g313
    have s319 := s298.grew g313
    have s320 := nH292.grew g313
    have s321 := s299.grew g313
    have s322 := s300.grew g313
    refine res_call (d := (some 96)) (f := 42) (args := [.tmp 95]) kr (R := fun z H' => Grew H304 H' ∧ SlW H' 4 A z ∧ FreshS H304.next z) ?_ ?_
    ·
     show ACalls _ _ [E304 95] _ _
     rw [b306]
     exact w_toReadingS H304 A hrA SA (hSA.grew g314) mxA
    rintro S323 H324 ⟨gS323, sS323, fS323⟩
    have ne325 : ApartS (S323) (S17) := fS323.apartS s315.lt
    have ne326 : ApartS (S323) (S30) := fS323.apartS s316.lt
    have ne327 : ApartS (S323) (S47) := fS323.apartS s317.lt
    have ne328 : ApartS (S323) (S66) := fS323.apartS s318.lt
    have ne329 : ApartS (S323) (S90) := fS323.apartS s319.lt
    have ne330 : ApartS (S323) (S120) := fS323.apartS s320.lt
    have ne331 : ApartS (S323) (S153) := fS323.apartS s321.lt
    have ne332 : ApartS (S323) (S190) := fS323.apartS s322.lt
    have fr333 : FreshS H.next (S323) := fS323.mono g314.next
    have g334 := Grew.trans g314 gS323
    have s335 := s315.grew gS323
    have s336 := s316.grew gS323
    have s337 := s317.grew gS323
    have s338 := s318.grew gS323
    have s339 := s319.grew gS323
    have s340 := s320.grew gS323
    have s341 := s321.grew gS323
    have s342 := s322.grew gS323
    have q343 := q301.app (kL : KdsL [.one] [S323])
    refine rC 0 0 [] [(95, n1 0), (1, n1 1), (6, n1 7), (7, nI 2), (10, n1 10), (14, nI 15), (13, nI 15), (96, n1 16)] q343 (sc (sp B12) (.cons put_same .nil)) ?_
    refine all1 kr fun vs ls H344 E344 st hE => ?_
    have b345 := eo st hE 97 SB
    have B13 := es st hE [(97, SB), (96, S323), (6, S47), (7, .int .i64 c), (10, S120), (14, .int .i64 (1 + 4 * (L.length : Int))), (13, .int .i64 (1 + 4 * (L.length : Int)))]
    have g352 : Grew H324 H344 := (gk st)
    have g353 := Grew.trans g334 g352
    have s354 := s335.grew g352
    have s355 := s336.grew g352
    have s356 := s337.grew g352
    have s357 := s338.grew g352
    have s358 := s339.grew g352
    have s359 := s340.grew g352
    have s360 := s341.grew g352
    have s361 := s342.grew g352
    have s362 := sS323.grew g352
    refine res_call (d := (some 98)) (f := 42) (args := [.tmp 97]) kr (R := fun z H' => Grew H344 H' ∧ SlW H' 4 B z ∧ FreshS H344.next z) ?_ ?_
    ·
     show ACalls _ _ [E344 97] _ _
     rw [b345]
     exact w_toReadingS H344 B hrB SB (hSB.grew g353) mxB
    rintro S363 H364 ⟨gS363, sS363, fS363⟩
    have ne365 : ApartS (S363) (S17) := fS363.apartS s354.lt
    have ne366 : ApartS (S363) (S30) := fS363.apartS s355.lt
    have ne367 : ApartS (S363) (S47) := fS363.apartS s356.lt
    have ne368 : ApartS (S363) (S66) := fS363.apartS s357.lt
    have ne369 : ApartS (S363) (S90) := fS363.apartS s358.lt
    have ne370 : ApartS (S363) (S120) := fS363.apartS s359.lt
    have ne371 : ApartS (S363) (S153) := fS363.apartS s360.lt
    have ne372 : ApartS (S363) (S190) := fS363.apartS s361.lt
    have ne373 : ApartS (S363) (S323) := fS363.apartS s362.lt
    have fr374 : FreshS H.next (S363) := fS363.mono g353.next
    have g375 := Grew.trans g353 gS363
    have s376 := s354.grew gS363
    have s377 := s355.grew gS363
    have s378 := s356.grew gS363
    have s379 := s357.grew gS363
    have s380 := s358.grew gS363
    have s381 := s359.grew gS363
    have s382 := s360.grew gS363
    have s383 := s361.grew gS363
    have s384 := s362.grew gS363
    have q385 := q343.app (kL : KdsL [.one] [S363])
    refine rC 0 0 [] [(97, n1 1), (96, n1 16), (6, n1 7), (7, nI 2), (10, n1 10), (14, nI 15), (13, nI 15), (98, n1 17)] q385 (sc (sp B13) (.cons put_same .nil)) ?_
    refine all1 kr fun vs ls H386 E386 st hE => ?_
    have b387 := eo st hE 96 S323
    have b388 := eo st hE 98 S363
    have B14 := es st hE [(96, S323), (98, S363), (6, S47), (7, .int .i64 c), (10, S120), (14, .int .i64 (1 + 4 * (L.length : Int))), (13, .int .i64 (1 + 4 * (L.length : Int)))]
    have g394 : Grew H364 H386 := (gk st)
    have g395 := Grew.trans g375 g394
    have s396 := s376.grew g394
    have s397 := s377.grew g394
    have s398 := s378.grew g394
    have s399 := s379.grew g394
    have s400 := s380.grew g394
    have s401 := s381.grew g394
    have s402 := s382.grew g394
    have s403 := s383.grew g394
    have s404 := s384.grew g394
    have s405 := sS363.grew g394
    refine res_call (d := (some 99)) (f := 43) (args := [.tmp 96, .tmp 98]) kr (R := fun z H' => Grew H386 H' ∧ ∃ S', z = .tuple [S', .int .i64 c] ∧ SlW H' 4 L S' ∧ FreshS H386.next S') ?_ ?_
    ·
     show ACalls _ _ [E386 96, E386 98] _ _
     rw [b387, b388]
     exact (by have h9 := k_impl_MergeFeeds H386 A hrA S323 s404.toL mxA B hrB S363 s405.toL mxB; rw [hV] at h9; exact h9)
    rintro z H406 ⟨gH406, S407, rfl, sS407, fS407⟩
    have ne408 : ApartS (S407) (S17) := fS407.apartS s396.lt
    have ne409 : ApartS (S407) (S30) := fS407.apartS s397.lt
    have ne410 : ApartS (S407) (S47) := fS407.apartS s398.lt
    have ne411 : ApartS (S407) (S66) := fS407.apartS s399.lt
    have ne412 : ApartS (S407) (S90) := fS407.apartS s400.lt
    have ne413 : ApartS (S407) (S120) := fS407.apartS s401.lt
    have ne414 : ApartS (S407) (S153) := fS407.apartS s402.lt
    have ne415 : ApartS (S407) (S190) := fS407.apartS s403.lt
    have ne416 : ApartS (S407) (S323) := fS407.apartS s404.lt
    have ne417 : ApartS (S407) (S363) := fS407.apartS s405.lt
    have fr418 : FreshS H.next (S407) := fS407.mono g395.next
    have g419 := Grew.trans g395 gH406
    have s422 := s398.grew gH406
    have s425 := s401.grew gH406
    have q430 := q385.app (kL : KdsL [.one] [S407])
    refine rD 0 0 [(.call 35 [n1 18, n1 7], .lit (.bool true)), (.call 39 [n1 10, .lit (.int .i64 1)], nI 15)] [] [(96, n1 16), (98, n1 17), (6, n1 7), (7, nI 2), (10, n1 10), (14, nI 15), (13, nI 15), (99, .tup [n1 18, nI 2])] q430 (.cons (rule_call (args := [S407, S47]) (dL q430) (dE q430) (fun H9 hk => k_eqReadingS H9 L hL _ _ ((sS407.grew (hk.grew (Nat.le_refl _)))).toL ((s422.grew (hk.grew (Nat.le_refl _)))).toL (mx40 mxL))) (.cons (rule_call (args := [S120, .int .i64 1]) (r := .int .i64 (1 + 4 * (L.length : Int))) (dL q430) (dE q430) (fun H9 hk => k_heldReadingS H9 1 L.length S120 ((s425.grew (hk.grew (Nat.le_refl _)))).toL om om mxL)) .nil)) (sc (sp B14) (.cons put_same .nil)) ?_
    refine all2 kr ?_ ?_
    ·
     intro vs ls H431 E431 st hE
     have f432 : (1 + 4 * (L.length : Int)) < 0 := dt st 0
     exact absurd f432 f305
    ·
     intro vs ls H446 E446 st hE
     have f447 : ¬ ((1 + 4 * (L.length : Int)) < 0) := df st 0
     exact res_ex kr (end_same st.inn hE (.inr rfl) (a := .bool true) kr (Nat.le_trans g419.next st.kept.1) rfl)
end Go.Proofs.Ytnleibiniajbnaa
