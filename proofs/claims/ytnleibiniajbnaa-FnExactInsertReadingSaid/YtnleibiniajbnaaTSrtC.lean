/- Contracts: turning neighbours round, by the library. -/
import Derived.Test.YtnleibiniajbnaaTSrtB
import Derived.Test.YtnleibiniajbnaaTSrtM
import Derived.Test.YtnleibiniajbnaaSxE
set_option linter.unusedVariables false
set_option linter.unusedSimpArgs false
namespace Go.Proofs.Ytnleibiniajbnaa
open Go.Ab
set_option maxRecDepth 100000
set_option maxHeartbeats 1000000
attribute [local irreducible] Res
theorem k_swapRange (H : AHeap) (L0 : List (List AV)) (hr : Recs KR L0) (S : AV) (hS : SlF H 4 L0 S) (hmx : L0.length < 2 ^ 20) (a c n : Nat) (hac : a + n ≤ c) (hcl : c + n ≤ L0.length) : ACalls Try.prog 138 [S, .int .i64 (a : Int), .int .i64 (c : Int), .int .i64 (n : Int), .func 87 [] []] H fun r H' => r = .tuple [] ∧ OnlyS S H H' ∧ ∃ M, SlF H' 4 M S ∧ Recs KR M ∧ M = swN L0 a c n := by
 refine res_start h_slices_swapRangeCmpFunc_impl_Reading (by simp) ?_
 have q1 : KdsL [.one, KI, KI, KI] [S, .int .i64 (a : Int), .int .i64 (c : Int), .int .i64 (n : Int)] := kL
 refine rC 0 0 [] [(0, n1 0), (1, nI 1), (2, nI 2), (3, nI 3), (4, .fn 87 [] [])] q1 (.cons (t := 0) rfl (.cons (t := 1) rfl (.cons (t := 2) rfl (.cons (t := 3) rfl (.cons (t := 4) rfl .nil))))) ?_
 refine all1 kr fun vs ls H2 E2 st hE => ?_
 have b3 := eo st hE 10 (.int .i64 0)
 have b4 := eo st hE 3 (.int .i64 (n : Int))
 have b5 := eo st hE 0 S
 have b6 := eo st hE 1 (.int .i64 (a : Int))
 have b7 := eo st hE 2 (.int .i64 (c : Int))
 have g8 : Grew H H2 := (gk st)
 have g9 : OnlyS S H H2 := (OnlyS.of_grew (Grew.refl H)).grewR g8
 have s10 := hS.grew g8
 refine res_loop kr (fun z E H' => ∃ (i11 : Nat) (L11 : List (List AV)), z = n - i11 ∧ E 3 = .int .i64 (n : Int) ∧ E 0 = S ∧ E 1 = .int .i64 (a : Int) ∧ E 2 = .int .i64 (c : Int) ∧ E 10 = .int .i64 (i11 : Int) ∧ OnlyS S H H' ∧ SlF H' 4 L11 S ∧ Recs KR L11 ∧ i11 ≤ n ∧ L11 = swN L0 a c i11) (n - 0) ⟨0, L0, rfl, b4, b5, b6, b7, (b3.trans rfl), g9, s10, hr, ⟨by omega, rfl⟩⟩ ?_
 rintro z11 E11 Hx11 ⟨i11, L11, hz11, c11_3, c11_0, c11_1, c11_2, cv11_10, gt11, so11_0, hr11_0, iv11⟩
 have hii11 := iv11.1
 have hli11 : L11.length = L0.length := by rw [iv11.2, swN_len]
 have q12 := q1.app (kL : KdsL [KI] [.int .i64 (i11 : Int)])
 refine rC 0 0 [] [(3, nI 3), (0, n1 0), (1, nI 1), (2, nI 2), (10, nI 4)] q12 (.cons c11_3 (.cons c11_0 (.cons c11_1 (.cons c11_2 (.cons cv11_10 .nil))))) ?_
 refine all2 kr ?_ ?_
 ·
  intro vs ls H13 E13 st hE
  have f14 : (i11 : Int) < (n : Int) := dt st 0
  obtain ⟨w16, hw16⟩ : ∃ z, z = (IntKind.wrap .i64 ((c : Int) + (i11 : Int))) := ⟨_, rfl⟩
  have b17 : E13 27 = .int .i64 w16 := by rw [hw16]; exact eo st hE 27 _
  obtain ⟨w22, hw22⟩ : ∃ z, z = (IntKind.wrap .i64 ((a : Int) + (i11 : Int))) := ⟨_, rfl⟩
  have b23 : E13 19 = .int .i64 w22 := by rw [hw22]; exact eo st hE 19 _
  have b25 : E13 23 = .int .i64 w16 := by rw [hw16]; exact eo st hE 23 _
  have B1 := es st hE [(24, S), (0, S), (1, .int .i64 (a : Int)), (10, .int .i64 (i11 : Int)), (16, S), (20, S), (3, .int .i64 (n : Int)), (2, .int .i64 (c : Int))]
  have g28 : Grew Hx11 H13 := (gk st)
  have g29 : OnlyS S H H13 := gt11.grewR g28
  have s30 := so11_0.grew g28
  have nw16 : w16 = ((c : Int) + (i11 : Int)) := by
   rw [hw16]
   rw [show (IntKind.wrap .i64 ((c : Int) + (i11 : Int))) = (c : Int) + (i11 : Int) from wrap_i64 om om]
  have nw22 : w22 = ((a : Int) + (i11 : Int)) := by
   rw [hw22]
   rw [show (IntKind.wrap .i64 ((a : Int) + (i11 : Int))) = (a : Int) + (i11 : Int) from wrap_i64 om om]
  obtain ⟨k31, rfl⟩ : ∃ k : Nat, w16 = (k : Int) := ⟨Int.toNat w16, by omega⟩
  have hlt32 : k31 < L11.length := by omega
  obtain ⟨lS32, cap32, rest32, wr32, eS32, gS32⟩ := (s30.toL).isSl hlt32
  obtain ⟨v32_0, v32_1, v32_2, v32_3, hm32⟩ := partsReading (hr11_0.get hlt32)
  have he32 : L11.getD k31 [] = [.int .i64 v32_0, .int .i16 v32_1, .int .i16 v32_2, .int .i16 v32_3] := by rw [← hm32, List.getD_eq_getElem?_getD, List.getElem?_eq_getElem hlt32]; rfl
  have q33 := q12.app (kL : KdsL [KI, KI, KI, .int .i16, .int .i16, .int .i16] [.int .i64 (k31 : Int), .int .i64 w22, .int .i64 v32_0, .int .i16 v32_1, .int .i16 v32_2, .int .i16 v32_3])
  refine run_mc (φ := φ0) (pm := pmR 1 [(.ia 4 (n1 0) (nI 5), .ptr 0 0)] 0) 20 (ws := [⟨lS32, (k31 * 4), [nI 7, .nd 8 (.int .i16), .nd 9 (.int .i16), .nd 10 (.int .i16)], false⟩]) (env := [(24, n1 0), (0, n1 0), (1, nI 1), (10, nI 4), (16, n1 0), (20, n1 0), (3, nI 3), (2, nI 2), (27, nI 5), (19, nI 6), (23, nI 5)]) q33 (.cons (win_elem hr11_0 gS32 hlt32 rfl (by rw [hm32]; exact (dL q33))) .nil) (sepOk_ro rfl) (.cons (rule_iaS (k := k31) (dE q33) eS32 (dE q33) hlt32 rfl) .nil) (eC q33 (sc B1 (.cons b17 (.cons b23 (.cons b25 .nil))))) tb_ok ap_ok ?_
  refine all1 kr fun vs ls H34 E34 st hE => ?_
  obtain ⟨w36, hw36⟩ : ∃ z, z = (IntKind.wrap .i64 ((a : Int) + (i11 : Int))) := ⟨_, rfl⟩
  have b37 : E34 33 = .int .i64 w36 := by rw [hw36]; exact eo st hE 33 _
  have B2 := es st hE [(30, S), (16, S), (19, .int .i64 w22), (29, .agg [.int .i64 v32_0, .int .i16 v32_1, .int .i16 v32_2, .int .i16 v32_3]), (20, S), (23, .int .i64 (k31 : Int)), (10, .int .i64 (i11 : Int)), (3, .int .i64 (n : Int)), (0, S), (1, .int .i64 (a : Int)), (2, .int .i64 (c : Int))]
  have g48 : Grew H13 H34 := (gk st)
  have g49 : OnlyS S H H34 := g29.grewR g48
  have s51 := s30.grew g48
  have nw36 : w36 = ((a : Int) + (i11 : Int)) := by
   rw [hw36]
   rw [show (IntKind.wrap .i64 ((a : Int) + (i11 : Int))) = (a : Int) + (i11 : Int) from wrap_i64 om om]
  obtain ⟨k52, rfl⟩ : ∃ k : Nat, w36 = (k : Int) := ⟨Int.toNat w36, by omega⟩
  have hlt53 : k52 < L11.length := by omega
  obtain ⟨lS53, cap53, rest53, wr53, eS53, gS53⟩ := (s51.toL).isSl hlt53
  obtain ⟨v53_0, v53_1, v53_2, v53_3, hm53⟩ := partsReading (hr11_0.get hlt53)
  have he53 : L11.getD k52 [] = [.int .i64 v53_0, .int .i16 v53_1, .int .i16 v53_2, .int .i16 v53_3] := by rw [← hm53, List.getD_eq_getElem?_getD, List.getElem?_eq_getElem hlt53]; rfl
  have q54 := q33.app (kL : KdsL [KI, KI, .int .i16, .int .i16, .int .i16] [.int .i64 (k52 : Int), .int .i64 v53_0, .int .i16 v53_1, .int .i16 v53_2, .int .i16 v53_3])
  refine run_mc (φ := φ0) (pm := pmR 1 [(.ia 4 (n1 0) (nI 11), .ptr 0 0)] 0) 20 (ws := [⟨lS53, (k52 * 4), [nI 12, .nd 13 (.int .i16), .nd 14 (.int .i16), .nd 15 (.int .i16)], false⟩]) (env := [(30, n1 0), (16, n1 0), (19, nI 6), (29, .agg [nI 7, .nd 8 (.int .i16), .nd 9 (.int .i16), .nd 10 (.int .i16)]), (20, n1 0), (23, nI 5), (10, nI 4), (3, nI 3), (0, n1 0), (1, nI 1), (2, nI 2), (33, nI 11)]) q54 (.cons (win_elem hr11_0 gS53 hlt53 rfl (by rw [hm53]; exact (dL q54))) .nil) (sepOk_ro rfl) (.cons (rule_iaS (k := k52) (dE q54) eS53 (dE q54) hlt53 rfl) .nil) (eC q54 (sc B2 (.cons b37 .nil))) tb_ok ap_ok ?_
  refine all1 kr fun vs ls H55 E55 st hE => ?_
  have B3 := es st hE [(16, S), (19, .int .i64 w22), (29, .agg [.int .i64 v32_0, .int .i16 v32_1, .int .i16 v32_2, .int .i16 v32_3]), (20, S), (23, .int .i64 (k31 : Int)), (35, .agg [.int .i64 v53_0, .int .i16 v53_1, .int .i16 v53_2, .int .i16 v53_3]), (10, .int .i64 (i11 : Int)), (3, .int .i64 (n : Int)), (0, S), (1, .int .i64 (a : Int)), (2, .int .i64 (c : Int))]
  have g67 : Grew H34 H55 := (gk st)
  have g68 : OnlyS S H H55 := g49.grewR g67
  have s70 := s51.grew g67
  obtain rfl : w22 = (k52 : Int) := by omega
  have hlt71 : k52 < L11.length := by omega
  obtain ⟨lS71, cap71, rest71, wr71, eS71, gS71⟩ := (s70.toL).isSl hlt71
  obtain ⟨v71_0, v71_1, v71_2, v71_3, hm71⟩ := partsReading (hr11_0.get hlt71)
  have he71 : L11.getD k52 [] = [.int .i64 v71_0, .int .i16 v71_1, .int .i16 v71_2, .int .i16 v71_3] := by rw [← hm71, List.getD_eq_getElem?_getD, List.getElem?_eq_getElem hlt71]; rfl
  have hq71 := he53.symm.trans he71
  simp only [List.cons.injEq, AV.flt.injEq, AV.int.injEq, Int.natCast_inj, true_and, and_true] at hq71
  obtain ⟨rfl, rfl, rfl, rfl⟩ := hq71
  have q72 : KdsL [.one, KI, KI, KI, KI, KI, KI, KI, .int .i16, .int .i16, .int .i16, KI, KI, .int .i16, .int .i16, .int .i16, KI, .int .i16, .int .i16, .int .i16] [S, .int .i64 (a : Int), .int .i64 (c : Int), .int .i64 (n : Int), .int .i64 (i11 : Int), .int .i64 (k31 : Int), .int .i64 (k52 : Int), .int .i64 v32_0, .int .i16 v32_1, .int .i16 v32_2, .int .i16 v32_3, .int .i64 (k52 : Int), .int .i64 v53_0, .int .i16 v53_1, .int .i16 v53_2, .int .i16 v53_3, .int .i64 v53_0, .int .i16 v53_1, .int .i16 v53_2, .int .i16 v53_3] := kL
  refine run_mc (φ := φ0) (pm := pmR 1 [(.ia 4 (n1 0) (nI 6), .ptr 0 0)] 0) 20 (ws := [⟨lS71, (k52 * 4), [nI 16, .nd 17 (.int .i16), .nd 18 (.int .i16), .nd 19 (.int .i16)], false⟩]) (env := [(16, n1 0), (19, nI 6), (29, .agg [nI 7, .nd 8 (.int .i16), .nd 9 (.int .i16), .nd 10 (.int .i16)]), (20, n1 0), (23, nI 5), (35, .agg [nI 12, .nd 13 (.int .i16), .nd 14 (.int .i16), .nd 15 (.int .i16)]), (10, nI 4), (3, nI 3), (0, n1 0), (1, nI 1), (2, nI 2)]) q72 (.cons (win_elem hr11_0 gS71 hlt71 rfl (by rw [hm71]; exact (dL q72))) .nil) (sepOk_ro rfl) (.cons (rule_iaS (k := k52) (dE q72) eS71 (dE q72) hlt71 rfl) .nil) (eC q72 B3) tb_ok ap_ok ?_
  refine all1 kr fun vs ls H73 E73 st hE => ?_
  have b74 := eo st hE 36 (.ptr lS71 ((k52 * 4) + 0))
  have b75 := eo st hE 29 (.agg [.int .i64 v32_0, .int .i16 v32_1, .int .i16 v32_2, .int .i16 v32_3])
  have B4 := es st hE [(29, .agg [.int .i64 v32_0, .int .i16 v32_1, .int .i16 v32_2, .int .i16 v32_3]), (20, S), (23, .int .i64 (k31 : Int)), (35, .agg [.int .i64 v53_0, .int .i16 v53_1, .int .i16 v53_2, .int .i16 v53_3]), (10, .int .i64 (i11 : Int)), (3, .int .i64 (n : Int)), (0, S), (1, .int .i64 (a : Int)), (2, .int .i64 (c : Int))]
  have g84 : Grew H55 H73 := (gk st)
  have g85 : OnlyS S H H73 := g68.grewR g84
  have s87 := s70.grew g84
  refine res_storeSFK (d := none) (n := 4) (x := .tmp 36) (y := .tmp 29) kr (S := S) (ms := L11) (k := k52) (m' := [.int .i64 v32_0, .int .i16 v32_1, .int .i16 v32_2, .int .i16 v32_3]) (s87) eS71 b74 hlt71 hr11_0.len (by show AV.cells (E73 29) = _; rw [b75]; rfl) rfl rfl rfl ?_
  intro H88 s88 oo88
  have hln88 : (L11.set k52 [.int .i64 v32_0, .int .i16 v32_1, .int .i16 v32_2, .int .i16 v32_3]).length = L11.length := by simp
  have g89 : OnlyS S H H88 := g85.trans oo88
  refine rC 0 0 [] [(29, .agg [nI 7, .nd 8 (.int .i16), .nd 9 (.int .i16), .nd 10 (.int .i16)]), (20, n1 0), (23, nI 5), (35, .agg [nI 12, .nd 13 (.int .i16), .nd 14 (.int .i16), .nd 15 (.int .i16)]), (10, nI 4), (3, nI 3), (0, n1 0), (1, nI 1), (2, nI 2)] q72 (sn B4) ?_
  refine all1 kr fun vs ls H91 E91 st hE => ?_
  have B5 := es st hE [(20, S), (23, .int .i64 (k31 : Int)), (35, .agg [.int .i64 v53_0, .int .i16 v53_1, .int .i16 v53_2, .int .i16 v53_3]), (10, .int .i64 (i11 : Int)), (3, .int .i64 (n : Int)), (0, S), (1, .int .i64 (a : Int)), (2, .int .i64 (c : Int))]
  have g100 : Grew H88 H91 := (gk st)
  have g101 : OnlyS S H H91 := g89.grewR g100
  have s102 := s88.grew g100
  have hlt103 : k31 < (L11.set k52 [.int .i64 v32_0, .int .i16 v32_1, .int .i16 v32_2, .int .i16 v32_3]).length := by omega
  obtain ⟨lS103, cap103, rest103, wr103, eS103, gS103⟩ := (s102.toL).isSl hlt103
  obtain ⟨v103_0, v103_1, v103_2, v103_3, hm103⟩ := partsReading ((Recs.set hr11_0 (.cons kA (.cons kA (.cons kA (.cons kA .nil))))).get hlt103)
  have he103 : (L11.set k52 [.int .i64 v32_0, .int .i16 v32_1, .int .i16 v32_2, .int .i16 v32_3]).getD k31 [] = [.int .i64 v103_0, .int .i16 v103_1, .int .i16 v103_2, .int .i16 v103_3] := by rw [← hm103, List.getD_eq_getElem?_getD, List.getElem?_eq_getElem hlt103]; rfl
  have q104 := q72.app (kL : KdsL [KI, .int .i16, .int .i16, .int .i16] [.int .i64 v103_0, .int .i16 v103_1, .int .i16 v103_2, .int .i16 v103_3])
  refine run_mc (φ := φ0) (pm := pmR 1 [(.ia 4 (n1 0) (nI 5), .ptr 0 0)] 0) 20 (ws := [⟨lS103, (k31 * 4), [nI 20, .nd 21 (.int .i16), .nd 22 (.int .i16), .nd 23 (.int .i16)], false⟩]) (env := [(20, n1 0), (23, nI 5), (35, .agg [nI 12, .nd 13 (.int .i16), .nd 14 (.int .i16), .nd 15 (.int .i16)]), (10, nI 4), (3, nI 3), (0, n1 0), (1, nI 1), (2, nI 2)]) q104 (.cons (win_elem (Recs.set hr11_0 (.cons kA (.cons kA (.cons kA (.cons kA .nil))))) gS103 hlt103 rfl (by rw [hm103]; exact (dL q104))) .nil) (sepOk_ro rfl) (.cons (rule_iaS (k := k31) (dE q104) eS103 (dE q104) hlt103 rfl) .nil) (eC q104 B5) tb_ok ap_ok ?_
  refine all1 kr fun vs ls H105 E105 st hE => ?_
  have b106 := eo st hE 37 (.ptr lS103 ((k31 * 4) + 0))
  have b107 := eo st hE 35 (.agg [.int .i64 v53_0, .int .i16 v53_1, .int .i16 v53_2, .int .i16 v53_3])
  have B6 := es st hE [(35, .agg [.int .i64 v53_0, .int .i16 v53_1, .int .i16 v53_2, .int .i16 v53_3]), (10, .int .i64 (i11 : Int)), (3, .int .i64 (n : Int)), (0, S), (1, .int .i64 (a : Int)), (2, .int .i64 (c : Int))]
  have g113 : Grew H91 H105 := (gk st)
  have g114 : OnlyS S H H105 := g101.grewR g113
  have s116 := s102.grew g113
  refine res_storeSFK (d := none) (n := 4) (x := .tmp 37) (y := .tmp 35) kr (S := S) (ms := (L11.set k52 [.int .i64 v32_0, .int .i16 v32_1, .int .i16 v32_2, .int .i16 v32_3])) (k := k31) (m' := [.int .i64 v53_0, .int .i16 v53_1, .int .i16 v53_2, .int .i16 v53_3]) (s116) eS103 b106 hlt103 (Recs.set hr11_0 (.cons kA (.cons kA (.cons kA (.cons kA .nil))))).len (by show AV.cells (E105 35) = _; rw [b107]; rfl) rfl rfl rfl ?_
  intro H117 s117 oo117
  have hln117 : ((L11.set k52 [.int .i64 v32_0, .int .i16 v32_1, .int .i16 v32_2, .int .i16 v32_3]).set k31 [.int .i64 v53_0, .int .i16 v53_1, .int .i16 v53_2, .int .i16 v53_3]).length = (L11.set k52 [.int .i64 v32_0, .int .i16 v32_1, .int .i16 v32_2, .int .i16 v32_3]).length := by simp
  have g118 : OnlyS S H H117 := g114.trans oo117
  refine rC 0 0 [] [(35, .agg [nI 12, .nd 13 (.int .i16), .nd 14 (.int .i16), .nd 15 (.int .i16)]), (10, nI 4), (3, nI 3), (0, n1 0), (1, nI 1), (2, nI 2)] q104 (sn B6) ?_
  refine all1 kr fun vs ls H120 E120 st hE => ?_
  obtain ⟨w121, hw121⟩ : ∃ z, z = (IntKind.wrap .i64 ((i11 : Int) + 1)) := ⟨_, rfl⟩
  have b122 : E120 10 = .int .i64 w121 := by rw [hw121]; exact eo st hE 10 _
  have b123 := eo st hE 3 (.int .i64 (n : Int))
  have b124 := eo st hE 0 S
  have b125 := eo st hE 1 (.int .i64 (a : Int))
  have b126 := eo st hE 2 (.int .i64 (c : Int))
  have g127 : Grew H117 H120 := (gk st)
  have g128 : OnlyS S H H120 := g118.grewR g127
  have s129 := s117.grew g127
  have nw121 : w121 = ((i11 : Int) + 1) := by
   rw [hw121]
   rw [show (IntKind.wrap .i64 ((i11 : Int) + 1)) = (i11 : Int) + 1 from wrap_i64 om om]
  obtain ⟨k130, hk130⟩ : ∃ k : Nat, w121 = (k : Int) := ⟨Int.toNat w121, by omega⟩
  have hka : k52 = a + i11 := by omega
  have hkc : k31 = c + i11 := by omega
  have hsw9 : ((L11.set k52 [.int .i64 v32_0, .int .i16 v32_1, .int .i16 v32_2, .int .i16 v32_3]).set k31 [.int .i64 v53_0, .int .i16 v53_1, .int .i16 v53_2, .int .i16 v53_3]) = swp L11 k52 k31 := by unfold swp; rw [he71, he32]
  have hm9 : n - k130 < z11 := by omega
  exact res_norm kr ⟨n - k130, hm9, k130, ((L11.set k52 [.int .i64 v32_0, .int .i16 v32_1, .int .i16 v32_2, .int .i16 v32_3]).set k31 [.int .i64 v53_0, .int .i16 v53_1, .int .i16 v53_2, .int .i16 v53_3]), rfl, b123, b124, b125, b126, (b122.trans (by rw [hk130])), g128, s129, (Recs.set (Recs.set hr11_0 (.cons kA (.cons kA (.cons kA (.cons kA .nil))))) (.cons kA (.cons kA (.cons kA (.cons kA .nil))))), ⟨by omega, by rw [hsw9, hka, hkc, iv11.2, show k130 = i11 + 1 by omega]; rfl⟩⟩
 ·
  intro vs ls H131 E131 st hE
  have f132 : ¬ ((i11 : Int) < (n : Int)) := df st 0
  obtain ⟨w137, hw137⟩ : ∃ z, z = (decide ((i11 : Int) < (n : Int))) := ⟨_, rfl⟩
  have b138 : E131 13 = .bool w137 := by rw [hw137]; exact eo st hE 13 _
  have B7 := es st hE [(10, .int .i64 (i11 : Int)), (3, .int .i64 (n : Int)), (11, .int .i64 (i11 : Int)), (12, .int .i64 (n : Int)), (0, S), (1, .int .i64 (a : Int)), (2, .int .i64 (c : Int))]
  have g142 : Grew Hx11 H131 := (gk st)
  have g143 : OnlyS S H H131 := gt11.grewR g142
  have s144 := so11_0.grew g142
  refine res_exit (id := 0) kr ?_
  have q145 := q12.app (kL : KdsL [.bool] [.bool w137])
  refine rC 0 0 [] [(10, nI 4), (3, nI 3), (11, nI 4), (12, nI 3), (0, n1 0), (1, nI 1), (2, nI 2), (13, nB 5)] q145 (sc B7 (.cons b138 .nil)) ?_
  refine all1 kr fun vs ls H146 E146 st hE => ?_
  have gz : OnlyS S H H146 := (g143.grewR (gk st))
  exact res_ex kr (end_same st.inn hE (.inl rfl) (a := .tuple []) kr gz.next ⟨rfl, gz, _, (s144.grew (st.inn.kept.grew (Nat.le_refl _))), hr11_0, by rw [iv11.2, show i11 = n by omega]⟩)
theorem k_rotate (H : AHeap) (L0 : List (List AV)) (hr : Recs KR L0) (S : AV) (hS : SlF H 4 L0 S) (hmx : L0.length < 2 ^ 20) (a m b : Nat) (ham : a < m) (hmb : m < b) (hbl : b ≤ L0.length) : ACalls Try.prog 137 [S, .int .i64 (a : Int), .int .i64 (m : Int), .int .i64 (b : Int), .func 87 [] []] H fun r H' => r = .tuple [] ∧ OnlyS S H H' ∧ ∃ M, SlF H' 4 M S ∧ Recs KR M ∧ M = rot L0 a m b := by
 refine res_start h_slices_rotateCmpFunc_impl_Reading (by simp) ?_
 have q1 : KdsL [.one, KI, KI, KI] [S, .int .i64 (a : Int), .int .i64 (m : Int), .int .i64 (b : Int)] := kL
 refine rC 0 0 [] [(0, n1 0), (1, nI 1), (2, nI 2), (3, nI 3), (4, .fn 87 [] [])] q1 (.cons (t := 0) rfl (.cons (t := 1) rfl (.cons (t := 2) rfl (.cons (t := 3) rfl (.cons (t := 4) rfl .nil))))) ?_
 refine all1 kr fun vs ls H2 E2 st hE => ?_
 obtain ⟨w3, hw3⟩ : ∃ z, z = (IntKind.wrap .i64 ((m : Int) - (a : Int))) := ⟨_, rfl⟩
 have b4 : E2 10 = .int .i64 w3 := by rw [hw3]; exact eo st hE 10 _
 obtain ⟨w5, hw5⟩ : ∃ z, z = (IntKind.wrap .i64 ((b : Int) - (m : Int))) := ⟨_, rfl⟩
 have b6 : E2 11 = .int .i64 w5 := by rw [hw5]; exact eo st hE 11 _
 have b7 := eo st hE 0 S
 have b8 := eo st hE 2 (.int .i64 (m : Int))
 have b9 := eo st hE 4 (.func 87 [] [])
 have g10 : Grew H H2 := (gk st)
 have g11 : OnlyS S H H2 := (OnlyS.of_grew (Grew.refl H)).grewR g10
 have s12 := hS.grew g10
 have nw3 : w3 = ((m : Int) - (a : Int)) := by
  rw [hw3]
  rw [show (IntKind.wrap .i64 ((m : Int) - (a : Int))) = (m : Int) - (a : Int) from wrap_i64 om om]
 have nw5 : w5 = ((b : Int) - (m : Int)) := by
  rw [hw5]
  rw [show (IntKind.wrap .i64 ((b : Int) - (m : Int))) = (b : Int) - (m : Int) from wrap_i64 om om]
 obtain ⟨k13, hk13⟩ : ∃ k : Nat, w3 = (k : Int) := ⟨Int.toNat w3, by omega⟩
 obtain ⟨k14, hk14⟩ : ∃ k : Nat, w5 = (k : Int) := ⟨Int.toNat w5, by omega⟩
 refine res_loop kr (fun z E H' => ∃ (i15 : Nat) (j15 : Nat) (L15 : List (List AV)), z = i15 + j15 ∧ E 0 = S ∧ E 2 = .int .i64 (m : Int) ∧ E 4 = .func 87 [] [] ∧ E 10 = .int .i64 (i15 : Int) ∧ E 11 = .int .i64 (j15 : Int) ∧ OnlyS S H H' ∧ SlF H' 4 L15 S ∧ Recs KR L15 ∧ 0 < i15 ∧ 0 < j15 ∧ i15 ≤ m - a ∧ j15 ≤ b - m ∧ L15.length = L0.length ∧ rot L15 (m - i15) m (m + j15) = rot L0 a m b) (k13 + k14) ⟨k13, k14, L0, rfl, b7, b8, b9, (b4.trans (by rw [hk13])), (b6.trans (by rw [hk14])), g11, s12, hr, ⟨by omega, by omega, by omega, by omega, rfl, by rw [show m - k13 = a by omega, show m + k14 = b by omega]⟩⟩ ?_
 rintro z15 E15 Hx15 ⟨i15, j15, L15, hz15, c15_0, c15_2, c15_4, cv15_10, cv15_11, gt15, so15_0, hr15_0, iv15⟩
 obtain ⟨hi0i15, hj0i15, hi1i15, hj1i15, hli15, hrti15⟩ := iv15
 have q16 := q1.app (kL : KdsL [KI, KI, KI, KI] [.int .i64 w3, .int .i64 w5, .int .i64 (i15 : Int), .int .i64 (j15 : Int)])
 refine rC 0 0 [] [(0, n1 0), (2, nI 2), (4, .fn 87 [] []), (10, nI 6), (11, nI 7)] q16 (.cons c15_0 (.cons c15_2 (.cons c15_4 (.cons cv15_10 (.cons cv15_11 .nil))))) ?_
 refine all3 kr ?_ ?_ ?_
 ·
  intro vs ls H17 E17 st hE
  have f18 : (j15 : Int) < (i15 : Int) := dt st 0
  have f19 : ¬ ((i15 : Int) = (j15 : Int)) := df st 1
  have b20 := eo st hE 24 S
  obtain ⟨w21, hw21⟩ : ∃ z, z = (IntKind.wrap .i64 ((m : Int) - (i15 : Int))) := ⟨_, rfl⟩
  have b22 : E17 27 = .int .i64 w21 := by rw [hw21]; exact eo st hE 27 _
  have b23 := eo st hE 28 (.int .i64 (m : Int))
  have b24 := eo st hE 29 (.int .i64 (j15 : Int))
  have b25 := eo st hE 30 (.func 87 [] [])
  have B1 := es st hE [(24, S), (28, .int .i64 (m : Int)), (29, .int .i64 (j15 : Int)), (30, .func 87 [] []), (10, .int .i64 (i15 : Int)), (11, .int .i64 (j15 : Int)), (0, S), (2, .int .i64 (m : Int)), (4, .func 87 [] [])]
  have g31 : Grew Hx15 H17 := (gk st)
  have g32 : OnlyS S H H17 := gt15.grewR g31
  have s33 := so15_0.grew g31
  have nw21 : w21 = ((m : Int) - (i15 : Int)) := by
   rw [hw21]
   rw [show (IntKind.wrap .i64 ((m : Int) - (i15 : Int))) = (m : Int) - (i15 : Int) from wrap_i64 om om]
  obtain ⟨k34, hk34⟩ : ∃ k : Nat, w21 = (k : Int) := ⟨Int.toNat w21, by omega⟩
  refine res_call (d := (some 31)) (f := 138) (args := [.tmp 24, .tmp 27, .tmp 28, .tmp 29, .tmp 30]) kr (R := fun z H' => z = .tuple [] ∧ OnlyS S H17 H' ∧ ∃ M, SlF H' 4 M S ∧ Recs KR M ∧ M = swN L15 k34 m j15) ?_ ?_
  ·
   show ACalls _ _ [E17 24, E17 27, E17 28, E17 29, E17 30] _ _
   rw [b20, b22, b23, b24, b25]
   exact (by rw [hk34]; exact k_swapRange H17 L15 hr15_0 S s33 om k34 m j15 om om)
  rintro z H35 ⟨rfl, oo35, M35, s35, hr35, hp35⟩
  have g36 : OnlyS S H H35 := g32.trans oo35
  have hlM35 : M35.length = L15.length := by rw [hp35, swN_len]
  have q37 := q16.app (kL : KdsL [KI] [.int .i64 w21])
  refine rC 0 0 [] [(24, n1 0), (28, nI 2), (29, nI 7), (30, .fn 87 [] []), (10, nI 6), (11, nI 7), (0, n1 0), (2, nI 2), (4, .fn 87 [] []), (27, nI 8), (31, .tup [])] q37 (sc (sp B1) (.cons (put_ne rfl b22) (.cons put_same .nil))) ?_
  refine all1 kr fun vs ls H38 E38 st hE => ?_
  obtain ⟨w39, hw39⟩ : ∃ z, z = (IntKind.wrap .i64 ((i15 : Int) - (j15 : Int))) := ⟨_, rfl⟩
  have b40 : E38 10 = .int .i64 w39 := by rw [hw39]; exact eo st hE 10 _
  have b41 := eo st hE 11 (.int .i64 (j15 : Int))
  have b42 := eo st hE 0 S
  have b43 := eo st hE 2 (.int .i64 (m : Int))
  have b44 := eo st hE 4 (.func 87 [] [])
  have g45 : Grew H35 H38 := (gk st)
  have g46 : OnlyS S H H38 := g36.grewR g45
  have s47 := s35.grew g45
  have nw39 : w39 = ((i15 : Int) - (j15 : Int)) := by
   rw [hw39]
   rw [show (IntKind.wrap .i64 ((i15 : Int) - (j15 : Int))) = (i15 : Int) - (j15 : Int) from wrap_i64 om om]
  obtain ⟨k48, hk48⟩ : ∃ k : Nat, w39 = (k : Int) := ⟨Int.toNat w39, by omega⟩
  have hr9 : rot M35 (m - k48) m (m + j15) = rot L0 a m b := by
   rw [hp35, show k34 = m - i15 by omega, show k48 = i15 - j15 by omega, rot_gt om om om]; exact hrti15
  have hm9 : k48 + j15 < z15 := by omega
  exact res_norm kr ⟨k48 + j15, hm9, k48, j15, M35, rfl, b42, b43, b44, (b40.trans (by rw [hk48])), b41, g46, s47, hr35, ⟨by omega, by omega, by omega, by omega, by omega, hr9⟩⟩
 ·
  intro vs ls H49 E49 st hE
  have f50 : ¬ ((j15 : Int) < (i15 : Int)) := df st 0
  have f51 : ¬ ((i15 : Int) = (j15 : Int)) := df st 1
  have b52 := eo st hE 35 S
  obtain ⟨w53, hw53⟩ : ∃ z, z = (IntKind.wrap .i64 ((m : Int) - (i15 : Int))) := ⟨_, rfl⟩
  have b54 : E49 38 = .int .i64 w53 := by rw [hw53]; exact eo st hE 38 _
  obtain ⟨w55, hw55⟩ : ∃ z, z = (IntKind.wrap .i64 ((IntKind.wrap .i64 ((m : Int) + (j15 : Int))) - (i15 : Int))) := ⟨_, rfl⟩
  have b56 : E49 43 = .int .i64 w55 := by rw [hw55]; exact eo st hE 43 _
  have b57 := eo st hE 44 (.int .i64 (i15 : Int))
  have b58 := eo st hE 45 (.func 87 [] [])
  have B2 := es st hE [(35, S), (44, .int .i64 (i15 : Int)), (45, .func 87 [] []), (11, .int .i64 (j15 : Int)), (10, .int .i64 (i15 : Int)), (0, S), (2, .int .i64 (m : Int)), (4, .func 87 [] [])]
  have g64 : Grew Hx15 H49 := (gk st)
  have g65 : OnlyS S H H49 := gt15.grewR g64
  have s66 := so15_0.grew g64
  have nw53 : w53 = ((m : Int) - (i15 : Int)) := by
   rw [hw53]
   rw [show (IntKind.wrap .i64 ((m : Int) - (i15 : Int))) = (m : Int) - (i15 : Int) from wrap_i64 om om]
  have nw55 : w55 = (((m : Int) + (j15 : Int)) - (i15 : Int)) := by
   rw [hw55]
   rw [show (IntKind.wrap .i64 ((m : Int) + (j15 : Int))) = (m : Int) + (j15 : Int) from wrap_i64 om om]
   rw [show (IntKind.wrap .i64 (((m : Int) + (j15 : Int)) - (i15 : Int))) = ((m : Int) + (j15 : Int)) - (i15 : Int) from wrap_i64 om om]
  obtain ⟨k67, hk67⟩ : ∃ k : Nat, w53 = (k : Int) := ⟨Int.toNat w53, by omega⟩
  obtain ⟨k68, hk68⟩ : ∃ k : Nat, w55 = (k : Int) := ⟨Int.toNat w55, by omega⟩
  refine res_call (d := (some 46)) (f := 138) (args := [.tmp 35, .tmp 38, .tmp 43, .tmp 44, .tmp 45]) kr (R := fun z H' => z = .tuple [] ∧ OnlyS S H49 H' ∧ ∃ M, SlF H' 4 M S ∧ Recs KR M ∧ M = swN L15 k67 k68 i15) ?_ ?_
  ·
   show ACalls _ _ [E49 35, E49 38, E49 43, E49 44, E49 45] _ _
   rw [b52, b54, b56, b57, b58]
   exact (by rw [hk67, hk68]; exact k_swapRange H49 L15 hr15_0 S s66 om k67 k68 i15 om om)
  rintro z H69 ⟨rfl, oo69, M69, s69, hr69, hp69⟩
  have g70 : OnlyS S H H69 := g65.trans oo69
  have hlM69 : M69.length = L15.length := by rw [hp69, swN_len]
  have q71 := q16.app (kL : KdsL [KI, KI] [.int .i64 w53, .int .i64 w55])
  refine rC 0 0 [] [(35, n1 0), (44, nI 6), (45, .fn 87 [] []), (11, nI 7), (10, nI 6), (0, n1 0), (2, nI 2), (4, .fn 87 [] []), (38, nI 8), (43, nI 9), (46, .tup [])] q71 (sc (sp B2) (.cons (put_ne rfl b54) (.cons (put_ne rfl b56) (.cons put_same .nil)))) ?_
  refine all1 kr fun vs ls H72 E72 st hE => ?_
  have b73 := eo st hE 10 (.int .i64 (i15 : Int))
  obtain ⟨w74, hw74⟩ : ∃ z, z = (IntKind.wrap .i64 ((j15 : Int) - (i15 : Int))) := ⟨_, rfl⟩
  have b75 : E72 11 = .int .i64 w74 := by rw [hw74]; exact eo st hE 11 _
  have b76 := eo st hE 0 S
  have b77 := eo st hE 2 (.int .i64 (m : Int))
  have b78 := eo st hE 4 (.func 87 [] [])
  have g79 : Grew H69 H72 := (gk st)
  have g80 : OnlyS S H H72 := g70.grewR g79
  have s81 := s69.grew g79
  have nw74 : w74 = ((j15 : Int) - (i15 : Int)) := by
   rw [hw74]
   rw [show (IntKind.wrap .i64 ((j15 : Int) - (i15 : Int))) = (j15 : Int) - (i15 : Int) from wrap_i64 om om]
  obtain ⟨k82, hk82⟩ : ∃ k : Nat, w74 = (k : Int) := ⟨Int.toNat w74, by omega⟩
  have hr9 : rot M69 (m - i15) m (m + k82) = rot L0 a m b := by
   rw [hp69, show k67 = m - i15 by omega, show k68 = m + j15 - i15 by omega, show k82 = j15 - i15 by omega, rot_lt om om om]; exact hrti15
  have hm9 : i15 + k82 < z15 := by omega
  exact res_norm kr ⟨i15 + k82, hm9, i15, k82, M69, rfl, b76, b77, b78, b73, (b75.trans (by rw [hk82])), g80, s81, hr69, ⟨by omega, by omega, by omega, by omega, by omega, hr9⟩⟩
 ·
  intro vs ls H83 E83 st hE
  have f84 : (i15 : Int) = (j15 : Int) := dt st 0
  obtain ⟨w89, hw89⟩ : ∃ z, z = (!(decide ((i15 : Int) = (j15 : Int)))) := ⟨_, rfl⟩
  have b90 : E83 20 = .bool w89 := by rw [hw89]; exact eo st hE 20 _
  have B3 := es st hE [(10, .int .i64 (i15 : Int)), (11, .int .i64 (j15 : Int)), (18, .int .i64 (i15 : Int)), (19, .int .i64 (j15 : Int)), (0, S), (2, .int .i64 (m : Int)), (4, .func 87 [] [])]
  have g94 : Grew Hx15 H83 := (gk st)
  have g95 : OnlyS S H H83 := gt15.grewR g94
  have s96 := so15_0.grew g94
  refine res_exit (id := 0) kr ?_
  have q97 := q16.app (kL : KdsL [.bool] [.bool w89])
  refine rC 0 0 [] [(10, nI 6), (11, nI 7), (18, nI 6), (19, nI 7), (0, n1 0), (2, nI 2), (4, .fn 87 [] []), (20, nB 8)] q97 (sc B3 (.cons b90 .nil)) ?_
  refine all1 kr fun vs ls H98 E98 st hE => ?_
  have b99 := eo st hE 50 S
  obtain ⟨w100, hw100⟩ : ∃ z, z = (IntKind.wrap .i64 ((m : Int) - (i15 : Int))) := ⟨_, rfl⟩
  have b101 : E98 53 = .int .i64 w100 := by rw [hw100]; exact eo st hE 53 _
  have b102 := eo st hE 54 (.int .i64 (m : Int))
  have b103 := eo st hE 55 (.int .i64 (i15 : Int))
  have b104 := eo st hE 56 (.func 87 [] [])
  have B4 := es st hE [(50, S), (54, .int .i64 (m : Int)), (55, .int .i64 (i15 : Int)), (56, .func 87 [] [])]
  have g105 : Grew H83 H98 := (gk st)
  have g106 : OnlyS S H H98 := g95.grewR g105
  have s107 := s96.grew g105
  have nw100 : w100 = ((m : Int) - (i15 : Int)) := by
   rw [hw100]
   rw [show (IntKind.wrap .i64 ((m : Int) - (i15 : Int))) = (m : Int) - (i15 : Int) from wrap_i64 om om]
  obtain ⟨k108, hk108⟩ : ∃ k : Nat, w100 = (k : Int) := ⟨Int.toNat w100, by omega⟩
  refine res_call (d := (some 57)) (f := 138) (args := [.tmp 50, .tmp 53, .tmp 54, .tmp 55, .tmp 56]) kr (R := fun z H' => z = .tuple [] ∧ OnlyS S H98 H' ∧ ∃ M, SlF H' 4 M S ∧ Recs KR M ∧ M = swN L15 k108 m i15) ?_ ?_
  ·
   show ACalls _ _ [E98 50, E98 53, E98 54, E98 55, E98 56] _ _
   rw [b99, b101, b102, b103, b104]
   exact (by rw [hk108]; exact k_swapRange H98 L15 hr15_0 S s107 om k108 m i15 om om)
  rintro z H109 ⟨rfl, oo109, M109, s109, hr109, hp109⟩
  have g110 : OnlyS S H H109 := g106.trans oo109
  have hlM109 : M109.length = L15.length := by rw [hp109, swN_len]
  have q111 := q97.app (kL : KdsL [KI] [.int .i64 w100])
  refine rC 0 0 [] [(50, n1 0), (54, nI 2), (55, nI 6), (56, .fn 87 [] []), (53, nI 9), (57, .tup [])] q111 (sc (sp B4) (.cons (put_ne rfl b101) (.cons put_same .nil))) ?_
  refine all1 kr fun vs ls H112 E112 st hE => ?_
  have gz : OnlyS S H H112 := (g110.grewR (gk st))
  exact res_ex kr (end_same st.inn hE (.inl rfl) (a := .tuple []) kr gz.next ⟨rfl, gz, _, (s109.grew (st.inn.kept.grew (Nat.le_refl _))), hr109, by rw [hp109, show k108 = m - i15 by omega, show i15 = i15 by omega]; exact (rot_eq om om).trans (by have h9 := hrti15; rwa [show j15 = i15 by omega] at h9)⟩)
end Go.Proofs.Ytnleibiniajbnaa
