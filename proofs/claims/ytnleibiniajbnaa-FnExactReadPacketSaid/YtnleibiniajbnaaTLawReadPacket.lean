/- The law of ReadPacket, walked. -/
import Derived.Test.YtnleibiniajbnaaTReadF
import Derived.Test.YtnleibiniajbnaaTGridC
import Derived.Test.YtnleibiniajbnaaSxE
set_option linter.unusedVariables false
set_option linter.unusedSimpArgs false
namespace Go.Proofs.Ytnleibiniajbnaa
open Go.Ab
set_option maxRecDepth 100000
set_option maxHeartbeats 1000000
attribute [local irreducible] Res
theorem rdV_ok {ms L : List (List AV)} {c : Int} (hg : RngB ms) (h : rdV ms = (L, c)) : Recs KR L ∧ L.length ≤ 1048576 := by
 have h0 : Recs KR [] ∧ ([] : List (List AV)).length ≤ 1048576 := ⟨.nil, by decide⟩
 unfold rdV at h
 split at h
 ·
  injection h with h1 h2; rw [← h1]; exact h0
 ·
  split at h
  ·
   rename_i hh
   split at h
   ·
    split at h
    ·
     injection h with h1 h2
     rw [← h1]
     have := num2_rng hg 2 (by have := hh.1; omega)
     exact ⟨rdL_recs ms _, by rw [rdL_len]; omega⟩
    ·
     injection h with h1 h2; rw [← h1]; exact h0
   ·
    injection h with h1 h2; rw [← h1]; exact h0
  ·
   injection h with h1 h2; rw [← h1]; exact h0
theorem lawExactReadPacket (H : AHeap) (vs : List AV) (h : FitArgs H [(false, [.sl [.int .u8]])] vs) : ACalls Try.prog 8 vs H fun r _ => r = .bool true := by
 match vs, h with
 | [S], h =>
 obtain ⟨_, e9, h9⟩ := h.1
 injection e9 with e9 _
 subst e9
 obtain ⟨ms, hg, hS, hmx⟩ := slArgB h9
 clear h9
 clear h
 obtain ⟨L, c, hV⟩ : ∃ L c, rdV ms = (L, c) := ⟨_, _, rfl⟩
 obtain ⟨hL, mxL⟩ := rdV_ok hg hV
 refine res_start h_laws_FnExactReadPacket (by simp) ?_
 have q1 : KdsL [.one, KI, KI] [S, .int .i64 c, .int .i64 (ms.length : Int)] := kL
 refine rD 0 0 [(.len (n1 0), nI 2)] [] [(0, n1 0)] q1 (.cons (⟨_, _, (dE q1), (dE q1), slLen hS⟩) .nil) (.cons (t := 0) rfl .nil) ?_
 refine all2 kr ?_ ?_
 ·
  intro vs ls H2 E2 st hE
  have f3 : 1048576 < (ms.length : Int) := dt st 0
  exact res_ex kr (end_same st.inn hE (.inr rfl) (a := .bool true) kr (Nat.le_trans (Nat.le_refl _) st.kept.1) rfl)
 ·
  intro vs ls H4 E4 st hE
  have f5 : ¬ (1048576 < (ms.length : Int)) := df st 0
  have mxms : ms.length ≤ 1048576 := by omega
  have b6 := eo st hE 17 S
  have B1 := es st hE [(17, S), (0, S)]
  have g8 : Grew H H4 := (gk st)
  have g9 : Grew H H4 := Grew.trans (Grew.refl _) g8
  refine res_call (d := (some 18)) (f := 33) (args := [.tmp 17]) kr (R := fun z H' => Grew H4 H' ∧ SlW H' 1 ms z ∧ FreshS H4.next z) ?_ ?_
  ·
   show ACalls _ _ [E4 17] _ _
   rw [b6]
   exact w_toByteS H4 ms hg.recs S (hS.grew g9) mxms
  rintro S10 H11 ⟨gS10, sS10, fS10⟩
  have fr12 : FreshS H.next (S10) := fS10.mono g9.next
  have g13 := Grew.trans g9 gS10
  have q14 := q1.app (kL : KdsL [.one] [S10])
  refine rC 0 0 [] [(17, n1 0), (0, n1 0), (18, n1 3)] q14 (sc (sp B1) (.cons put_same .nil)) ?_
  refine all1 kr fun vs ls H15 E15 st hE => ?_
  have b16 := eo st hE 18 S10
  have B2 := es st hE [(18, S10), (0, S)]
  have g18 : Grew H11 H15 := (gk st)
  have g19 := Grew.trans g13 g18
  have s20 := sS10.grew g18
  refine res_call (d := (some 19)) (f := 32) (args := [.tmp 18]) kr (R := fun z H' => Grew H15 H' ∧ ∃ S', z = .tuple [S', .int .i64 c] ∧ SlW H' 4 L S' ∧ FreshS H15.next S') ?_ ?_
  ·
   show ACalls _ _ [E15 18] _ _
   rw [b16]
   exact (by have h9 := k_spec_ReadPacket H15 ms hg S10 s20.toL (mx40 mxms); rw [hV] at h9; exact h9)
  rintro z H21 ⟨gH21, S22, rfl, sS22, fS22⟩
  have ne23 : ApartS (S22) (S10) := fS22.apartS s20.lt
  have fr24 : FreshS H.next (S22) := fS22.mono g19.next
  have g25 := Grew.trans g19 gH21
  have s26 := s20.grew gH21
  have q27 := q14.app (kL : KdsL [.one] [S22])
  refine rC 0 0 [] [(18, n1 3), (0, n1 0), (19, .tup [n1 4, nI 1])] q27 (sc (sp B2) (.cons put_same .nil)) ?_
  refine all1 kr fun vs ls H28 E28 st hE => ?_
  have b29 := eo st hE 22 S
  have B3 := es st hE [(22, S), (3, S22), (4, .int .i64 c), (0, S)]
  have g33 : Grew H21 H28 := (gk st)
  have g34 := Grew.trans g25 g33
  have s35 := s26.grew g33
  have s36 := sS22.grew g33
  refine res_call (d := (some 23)) (f := 33) (args := [.tmp 22]) kr (R := fun z H' => Grew H28 H' ∧ SlW H' 1 ms z ∧ FreshS H28.next z) ?_ ?_
  ·
   show ACalls _ _ [E28 22] _ _
   rw [b29]
   exact w_toByteS H28 ms hg.recs S (hS.grew g34) mxms
  rintro S37 H38 ⟨gS37, sS37, fS37⟩
  have ne39 : ApartS (S37) (S10) := fS37.apartS s35.lt
  have ne40 : ApartS (S37) (S22) := fS37.apartS s36.lt
  have fr41 : FreshS H.next (S37) := fS37.mono g34.next
  have g42 := Grew.trans g34 gS37
  have s43 := s35.grew gS37
  have s44 := s36.grew gS37
  have q45 := q27.app (kL : KdsL [.one] [S37])
  refine rC 0 0 [] [(22, n1 0), (3, n1 4), (4, nI 1), (0, n1 0), (23, n1 5)] q45 (sc (sp B3) (.cons put_same .nil)) ?_
  refine all1 kr fun vs ls H46 E46 st hE => ?_
  have b47 := eo st hE 25 S37
  have B4 := es st hE [(25, S37), (3, S22), (4, .int .i64 c), (5, S37), (0, S)]
  have g52 : Grew H38 H46 := (gk st)
  have g53 := Grew.trans g42 g52
  have s54 := s43.grew g52
  have s55 := s44.grew g52
  have s56 := sS37.grew g52
  refine res_call (d := (some 26)) (f := 34) (args := [.tmp 25]) kr (R := fun z H' => Grew H46 H' ∧ ∃ S', z = .tuple [S', .int .i64 c] ∧ SlW H' 4 L S' ∧ FreshS H46.next S') ?_ ?_
  ·
   show ACalls _ _ [E46 25] _ _
   rw [b47]
   exact (by have h9 := k_impl_ReadPacket H46 ms hg S37 s56.toL (mx40 mxms); rw [hV] at h9; exact h9)
  rintro z H57 ⟨gH57, S58, rfl, sS58, fS58⟩
  have ne59 : ApartS (S58) (S10) := fS58.apartS s54.lt
  have ne60 : ApartS (S58) (S22) := fS58.apartS s55.lt
  have ne61 : ApartS (S58) (S37) := fS58.apartS s56.lt
  have fr62 : FreshS H.next (S58) := fS58.mono g53.next
  have g63 := Grew.trans g53 gH57
  have s64 := s54.grew gH57
  have s65 := s55.grew gH57
  have s66 := s56.grew gH57
  have q67 := q45.app (kL : KdsL [.one] [S58])
  refine rD 0 0 [(.call 35 [n1 6, n1 4], .lit (.bool true))] [] [(25, n1 5), (3, n1 4), (4, nI 1), (5, n1 5), (0, n1 0), (26, .tup [n1 6, nI 1])] q67 (.cons (rule_call (args := [S58, S22]) (dL q67) (dE q67) (fun H9 hk => k_eqReadingS H9 L hL _ _ ((sS58.grew (hk.grew (Nat.le_refl _)))).toL ((s65.grew (hk.grew (Nat.le_refl _)))).toL (mx40 mxL))) .nil) (sc (sp B4) (.cons put_same .nil)) ?_
  refine all1 kr fun vs ls H68 E68 st hE => ?_
  have b69 := eo st hE 39 S
  have B5 := es st hE [(39, S), (38, S37), (5, S37), (6, S58), (3, S22), (7, .int .i64 c), (4, .int .i64 c), (0, S)]
  have g77 : Grew H57 H68 := (gk st)
  have g78 := Grew.trans g63 g77
  have s79 := s64.grew g77
  have s80 := s65.grew g77
  have s81 := s66.grew g77
  have s82 := sS58.grew g77
  refine res_call (d := (some 40)) (f := 33) (args := [.tmp 39]) kr (R := fun z H' => Grew H68 H' ∧ SlW H' 1 ms z ∧ FreshS H68.next z) ?_ ?_
  ·
   show ACalls _ _ [E68 39] _ _
   rw [b69]
   exact w_toByteS H68 ms hg.recs S (hS.grew g78) mxms
  rintro S83 H84 ⟨gS83, sS83, fS83⟩
  have ne85 : ApartS (S83) (S10) := fS83.apartS s79.lt
  have ne86 : ApartS (S83) (S22) := fS83.apartS s80.lt
  have ne87 : ApartS (S83) (S37) := fS83.apartS s81.lt
  have ne88 : ApartS (S83) (S58) := fS83.apartS s82.lt
  have fr89 : FreshS H.next (S83) := fS83.mono g78.next
  have g90 := Grew.trans g78 gS83
  have s91 := s79.grew gS83
  have s92 := s80.grew gS83
  have s93 := s81.grew gS83
  have s94 := s82.grew gS83
  have q95 := q67.app (kL : KdsL [.one] [S83])
  refine rD 0 0 [(.call 36 [n1 5, n1 7], .lit (.bool true))] [] [(39, n1 0), (38, n1 5), (5, n1 5), (6, n1 6), (3, n1 4), (7, nI 1), (4, nI 1), (0, n1 0), (40, n1 7)] q95 (.cons (rule_call (args := [S37, S83]) (dL q95) (dE q95) (fun H9 hk => k_eqByteS H9 ms hg.recs _ _ ((s93.grew (hk.grew (Nat.le_refl _)))).toL ((sS83.grew (hk.grew (Nat.le_refl _)))).toL (mx40 mxms))) .nil) (sc (sp B5) (.cons put_same .nil)) ?_
  refine all1 kr fun vs ls H96 E96 st hE => ?_
  have b97 := eo st hE 43 S37
  have b98 := eo st hE 44 (.int .i64 1)
  have B6 := es st hE [(43, S37), (44, .int .i64 1), (8, .int .i64 1), (6, S58), (3, S22), (7, .int .i64 c), (4, .int .i64 c), (0, S)]
  have g105 : Grew H84 H96 := (gk st)
  have g106 := Grew.trans g90 g105
  have s107 := s91.grew g105
  have s108 := s92.grew g105
  have s109 := s93.grew g105
  have s110 := s94.grew g105
  have s111 := sS83.grew g105
  refine res_call (d := (some 45)) (f := 37) (args := [.tmp 43, .tmp 44]) kr (R := fun z H' => z = .int .i64 (1 + 1 * (ms.length : Int)) ∧ OnlyS S37 H96 H' ∧ SlW H' 1 (mksByte 1 ms.length) S37) ?_ ?_
  ·
   show ACalls _ _ [E96 43, E96 44] _ _
   rw [b97, b98]
   exact w_markByteS H96 ms hg.recs S37 s109 1 (by decide) (by decide) mxms
  rintro z H112 ⟨rfl, oH112, nH112⟩
  have g113 : Grew H H112 := OnlyS.own g106 fr41 oH112
  have s114 := s107.only oH112 (by first | assumption | exact ApartS.symm am)
  have s115 := s108.only oH112 (by first | assumption | exact ApartS.symm am)
  have s116 := s110.only oH112 (by first | assumption | exact ApartS.symm am)
  have s117 := s111.only oH112 (by first | assumption | exact ApartS.symm am)
  have q118 := q95.app (kL : KdsL [KI] [.int .i64 (1 + 1 * (ms.length : Int))])
  refine rD 0 0 [(.call 35 [n1 6, n1 4], .lit (.bool true))] [] [(43, n1 5), (44, .lit (.int .i64 1)), (8, .lit (.int .i64 1)), (6, n1 6), (3, n1 4), (7, nI 1), (4, nI 1), (0, n1 0), (45, nI 8)] q118 (.cons (rule_call (args := [S58, S22]) (dL q118) (dE q118) (fun H9 hk => k_eqReadingS H9 L hL _ _ ((s116.grew (hk.grew (Nat.le_refl _)))).toL ((s115.grew (hk.grew (Nat.le_refl _)))).toL (mx40 mxL))) .nil) (sc (sp B6) (.cons put_same .nil)) ?_
  refine all2 kr ?_ ?_
  ·
   intro vs ls H119 E119 st hE
   have f120 : (1 + 1 * (ms.length : Int)) < 0 := dt st 0
   exact absurd f120 om
  ·
   intro vs ls H121 E121 st hE
   have f122 : ¬ ((1 + 1 * (ms.length : Int)) < 0) := df st 0
   have b123 := eo st hE 59 S58
   have b124 := eo st hE 60 (.int .i64 1)
   have B7 := es st hE [(59, S58), (60, .int .i64 1), (6, S58), (9, .int .i64 1), (0, S), (3, S22), (4, .int .i64 c)]
   have g130 : Grew H112 H121 := (gk st)
   have g131 := Grew.trans g113 g130
   have s132 := s114.grew g130
   have s133 := s115.grew g130
   have s134 := nH112.grew g130
   have s135 := s116.grew g130
   have s136 := s117.grew g130
   refine res_call (d := (some 61)) (f := 38) (args := [.tmp 59, .tmp 60]) kr (R := fun z H' => z = .int .i64 (1 + 4 * (L.length : Int)) ∧ OnlyS S58 H121 H' ∧ SlW H' 4 (mksReading 1 L.length) S58) ?_ ?_
   ·
    show ACalls _ _ [E121 59, E121 60] _ _
    rw [b123, b124]
    exact w_markReadingS H121 L hL S58 s135 1 (by decide) (by decide) mxL
   rintro z H137 ⟨rfl, oH137, nH137⟩
   have g138 : Grew H H137 := OnlyS.own g131 fr62 oH137
   have s139 := s132.only oH137 (by first | assumption | exact ApartS.symm am)
   have s140 := s133.only oH137 (by first | assumption | exact ApartS.symm am)
   have s141 := s134.only oH137 (by first | assumption | exact ApartS.symm am)
   have s142 := s136.only oH137 (by first | assumption | exact ApartS.symm am)
   have q143 := q118.app (kL : KdsL [KI] [.int .i64 (1 + 4 * (L.length : Int))])
   refine rD 0 0 [(.call 39 [n1 6, .lit (.int .i64 1)], nI 9)] [] [(59, n1 6), (60, .lit (.int .i64 1)), (6, n1 6), (9, .lit (.int .i64 1)), (0, n1 0), (3, n1 4), (4, nI 1), (61, nI 9)] q143 (.cons (rule_call (args := [S58, .int .i64 1]) (r := .int .i64 (1 + 4 * (L.length : Int))) (dL q143) (dE q143) (fun H9 hk => k_heldReadingS H9 1 L.length S58 ((nH137.grew (hk.grew (Nat.le_refl _)))).toL (by decide) (by decide) mxL)) .nil) (sc (sp B7) (.cons put_same .nil)) ?_
   refine all2 kr ?_ ?_
   ·
    intro vs ls H144 E144 st hE
    have f145 : (1 + 4 * (L.length : Int)) < 0 := dt st 0
    exact absurd f145 om
   ·
    intro vs ls H146 E146 st hE
    have f147 : ¬ ((1 + 4 * (L.length : Int)) < 0) := df st 0
    have b148 := eo st hE 71 S
    have B8 := es st hE [(71, S), (3, S22), (4, .int .i64 c), (6, S58), (10, .int .i64 (1 + 4 * (L.length : Int))), (9, .int .i64 (1 + 4 * (L.length : Int)))]
    have g154 : Grew H137 H146 := (gk st)
    have g155 := Grew.trans g138 g154
    have s156 := s139.grew g154
    have s157 := s140.grew g154
    have s158 := s141.grew g154
    have s159 := nH137.grew g154
    have s160 := s142.grew g154
    refine res_call (d := (some 72)) (f := 33) (args := [.tmp 71]) kr (R := fun z H' => Grew H146 H' ∧ SlW H' 1 ms z ∧ FreshS H146.next z) ?_ ?_
    ·
     show ACalls _ _ [E146 71] _ _
     rw [b148]
     exact w_toByteS H146 ms hg.recs S (hS.grew g155) mxms
    rintro S161 H162 ⟨gS161, sS161, fS161⟩
    have ne163 : ApartS (S161) (S10) := fS161.apartS s156.lt
    have ne164 : ApartS (S161) (S22) := fS161.apartS s157.lt
    have ne165 : ApartS (S161) (S37) := fS161.apartS s158.lt
    have ne166 : ApartS (S161) (S58) := fS161.apartS s159.lt
    have ne167 : ApartS (S161) (S83) := fS161.apartS s160.lt
    have fr168 : FreshS H.next (S161) := fS161.mono g155.next
    have g169 := Grew.trans g155 gS161
    have s170 := s156.grew gS161
    have s171 := s157.grew gS161
    have s172 := s158.grew gS161
    have s173 := s159.grew gS161
    have s174 := s160.grew gS161
    have q175 := q143.app (kL : KdsL [.one] [S161])
    refine rC 0 0 [] [(71, n1 0), (3, n1 4), (4, nI 1), (6, n1 6), (10, nI 9), (9, nI 9), (72, n1 10)] q175 (sc (sp B8) (.cons put_same .nil)) ?_
    refine all1 kr fun vs ls H176 E176 st hE => ?_
    have b177 := eo st hE 72 S161
    have B9 := es st hE [(72, S161), (3, S22), (4, .int .i64 c), (6, S58), (10, .int .i64 (1 + 4 * (L.length : Int))), (9, .int .i64 (1 + 4 * (L.length : Int)))]
    have g183 : Grew H162 H176 := (gk st)
    have g184 := Grew.trans g169 g183
    have s185 := s170.grew g183
    have s186 := s171.grew g183
    have s187 := s172.grew g183
    have s188 := s173.grew g183
    have s189 := s174.grew g183
    have s190 := sS161.grew g183
    refine res_call (d := (some 73)) (f := 34) (args := [.tmp 72]) kr (R := fun z H' => Grew H176 H' ∧ ∃ S', z = .tuple [S', .int .i64 c] ∧ SlW H' 4 L S' ∧ FreshS H176.next S') ?_ ?_
    ·
     show ACalls _ _ [E176 72] _ _
     rw [b177]
     exact (by have h9 := k_impl_ReadPacket H176 ms hg S161 s190.toL (mx40 mxms); rw [hV] at h9; exact h9)
    rintro z H191 ⟨gH191, S192, rfl, sS192, fS192⟩
    have ne193 : ApartS (S192) (S10) := fS192.apartS s185.lt
    have ne194 : ApartS (S192) (S22) := fS192.apartS s186.lt
    have ne195 : ApartS (S192) (S37) := fS192.apartS s187.lt
    have ne196 : ApartS (S192) (S58) := fS192.apartS s188.lt
    have ne197 : ApartS (S192) (S83) := fS192.apartS s189.lt
    have ne198 : ApartS (S192) (S161) := fS192.apartS s190.lt
    have fr199 : FreshS H.next (S192) := fS192.mono g184.next
    have g200 := Grew.trans g184 gH191
    have s202 := s186.grew gH191
    have s204 := s188.grew gH191
    have q207 := q175.app (kL : KdsL [.one] [S192])
    refine rD 0 0 [(.call 35 [n1 11, n1 4], .lit (.bool true)), (.call 39 [n1 6, .lit (.int .i64 1)], nI 9)] [] [(72, n1 10), (3, n1 4), (4, nI 1), (6, n1 6), (10, nI 9), (9, nI 9), (73, .tup [n1 11, nI 1])] q207 (.cons (rule_call (args := [S192, S22]) (dL q207) (dE q207) (fun H9 hk => k_eqReadingS H9 L hL _ _ ((sS192.grew (hk.grew (Nat.le_refl _)))).toL ((s202.grew (hk.grew (Nat.le_refl _)))).toL (mx40 mxL))) (.cons (rule_call (args := [S58, .int .i64 1]) (r := .int .i64 (1 + 4 * (L.length : Int))) (dL q207) (dE q207) (fun H9 hk => k_heldReadingS H9 1 L.length S58 ((s204.grew (hk.grew (Nat.le_refl _)))).toL (by decide) (by decide) mxL)) .nil)) (sc (sp B9) (.cons put_same .nil)) ?_
    refine all2 kr ?_ ?_
    ·
     intro vs ls H208 E208 st hE
     have f209 : (1 + 4 * (L.length : Int)) < 0 := dt st 0
     exact absurd f209 om
    ·
     intro vs ls H210 E210 st hE
     have f211 : ¬ ((1 + 4 * (L.length : Int)) < 0) := df st 0
     exact res_ex kr (end_same st.inn hE (.inr rfl) (a := .bool true) kr (Nat.le_trans g200.next st.kept.1) rfl)
end Go.Proofs.Ytnleibiniajbnaa
