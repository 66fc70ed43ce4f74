/- Contracts: insertion, by the library. -/
import Derived.Test.YtnleibiniajbnaaTSrt
import Derived.Test.YtnleibiniajbnaaSxE
set_option linter.unusedVariables false
set_option linter.unusedSimpArgs false
namespace Go.Proofs.Ytnleibiniajbnaa
open Go.Ab
set_option maxRecDepth 100000
set_option maxHeartbeats 1000000
attribute [local irreducible] Res
theorem k_insSort (H : AHeap) (L0 : List (List AV)) (hr : Recs KR L0) (S : AV) (hS : SlF H 4 L0 S) (hmx : L0.length < 2 ^ 20) (a b : Nat) (hab : a ≤ b) (hb : b ≤ L0.length) : ACalls Try.prog 129 [S, .int .i64 (a : Int), .int .i64 (b : Int), .func 87 [] []] H fun r H' => r = .tuple [] ∧ OnlyS S H H' ∧ ∃ M, SlF H' 4 M S ∧ Recs KR M ∧ St a b L0 M ∧ Srt a b M := by
 refine res_start h_slices_insertionSortCmpFunc_impl_Reading (by simp) ?_
 have q1 : KdsL [.one, KI, KI] [S, .int .i64 (a : Int), .int .i64 (b : Int)] := kL
 refine rC 0 0 [] [(0, n1 0), (1, nI 1), (2, nI 2), (3, .fn 87 [] [])] q1 (.cons (t := 0) rfl (.cons (t := 1) rfl (.cons (t := 2) rfl (.cons (t := 3) rfl .nil)))) ?_
 refine all1 kr fun vs ls H2 E2 st hE => ?_
 obtain ⟨w3, hw3⟩ : ∃ z, z = (IntKind.wrap .i64 ((a : Int) + 1)) := ⟨_, rfl⟩
 have b4 : E2 8 = .int .i64 w3 := by rw [hw3]; exact eo st hE 8 _
 have b5 := eo st hE 2 (.int .i64 (b : Int))
 have b6 := eo st hE 1 (.int .i64 (a : Int))
 have b7 := eo st hE 3 (.func 87 [] [])
 have b8 := eo st hE 0 S
 have g9 : Grew H H2 := (gk st)
 have g10 : OnlyS S H H2 := (OnlyS.of_grew (Grew.refl H)).grewR g9
 have s11 := hS.grew g9
 have nw3 : w3 = ((a : Int) + 1) := by
  rw [hw3]
  rw [show (IntKind.wrap .i64 ((a : Int) + 1)) = (a : Int) + 1 from wrap_i64 om om]
 obtain ⟨k12, hk12⟩ : ∃ k : Nat, w3 = (k : Int) := ⟨Int.toNat w3, by omega⟩
 refine res_loop kr (fun z E H' => ∃ (i13 : Nat) (L13 : List (List AV)), z = b - i13 ∧ E 2 = .int .i64 (b : Int) ∧ E 1 = .int .i64 (a : Int) ∧ E 3 = .func 87 [] [] ∧ E 0 = S ∧ E 8 = .int .i64 (i13 : Int) ∧ OnlyS S H H' ∧ SlF H' 4 L13 S ∧ Recs KR L13 ∧ (a < i13 ∧ (i13 ≤ b ∨ i13 = a + 1)) ∧ St a b L0 L13 ∧ Srt a i13 L13) (b - k12) ⟨k12, L0, rfl, b5, b6, b7, b8, (b4.trans (by rw [hk12])), g10, s11, hr, ⟨⟨by omega, by omega⟩, St.refl _ _ _, Srt.one _ om⟩⟩ ?_
 rintro z13 E13 Hx13 ⟨i13, L13, hz13, c13_2, c13_1, c13_3, c13_0, cv13_8, gt13, so13_0, hr13_0, iv13⟩
 obtain ⟨⟨hai13, hbi13⟩, hsti13, hsoi13⟩ := iv13
 have hli13 := hsti13.len
 have q14 := q1.app (kL : KdsL [KI, KI] [.int .i64 w3, .int .i64 (i13 : Int)])
 refine rC 0 0 [] [(2, nI 2), (1, nI 1), (3, .fn 87 [] []), (0, n1 0), (8, nI 4)] q14 (.cons c13_2 (.cons c13_1 (.cons c13_3 (.cons c13_0 (.cons cv13_8 .nil))))) ?_
 refine all2 kr ?_ ?_
 ·
  intro vs ls H15 E15 st hE
  have f16 : (i13 : Int) < (b : Int) := dt st 0
  have b17 := eo st hE 9 (.int .i64 (i13 : Int))
  have b18 := eo st hE 1 (.int .i64 (a : Int))
  have b19 := eo st hE 3 (.func 87 [] [])
  have b20 := eo st hE 0 S
  have b21 := eo st hE 8 (.int .i64 (i13 : Int))
  have b22 := eo st hE 2 (.int .i64 (b : Int))
  have g23 : Grew Hx13 H15 := (gk st)
  have g24 : OnlyS S H H15 := gt13.grewR g23
  have s25 := so13_0.grew g23
  refine res_loop kr (fun z E H' => ∃ (j26 : Nat) (L26 : List (List AV)), z = j26 ∧ E 1 = .int .i64 (a : Int) ∧ E 3 = .func 87 [] [] ∧ E 0 = S ∧ E 8 = .int .i64 (i13 : Int) ∧ E 2 = .int .i64 (b : Int) ∧ E 9 = .int .i64 (j26 : Int) ∧ OnlyS S H H' ∧ SlF H' 4 L26 S ∧ Recs KR L26 ∧ InsI a b i13 L0 L26 j26) (i13) ⟨i13, L13, rfl, b18, b19, b20, b21, b22, b17, g24, s25, hr13_0, InsI.start hsti13 hsoi13 om⟩ ?_
  rintro z26 E26 Hx26 ⟨j26, L26, hz26, c26_1, c26_3, c26_0, c26_8, c26_2, cv26_9, gt26, so26_0, hr26_0, iv26⟩
  have hlnj26 := iv26.st.len
  have hajj26 := iv26.aj
  have hjij26 := iv26.ji
  have q27 := q14.app (kL : KdsL [KI] [.int .i64 (j26 : Int)])
  refine rC 0 0 [] [(1, nI 1), (3, .fn 87 [] []), (0, n1 0), (8, nI 4), (2, nI 2), (9, nI 5)] q27 (.cons c26_1 (.cons c26_3 (.cons c26_0 (.cons c26_8 (.cons c26_2 (.cons cv26_9 .nil)))))) ?_
  refine all2 kr ?_ ?_
  ·
   intro vs ls H28 E28 st hE
   have f29 : (a : Int) < (j26 : Int) := dt st 0
   obtain ⟨w35, hw35⟩ : ∃ z, z = (decide ((a : Int) < (j26 : Int))) := ⟨_, rfl⟩
   have b36 : E28 21 = .bool w35 := by rw [hw35]; exact eo st hE 21 _
   have B1 := es st hE [(23, S), (24, .int .i64 (j26 : Int)), (0, S), (9, .int .i64 (j26 : Int)), (22, .func 87 [] []), (8, .int .i64 (i13 : Int)), (2, .int .i64 (b : Int)), (1, .int .i64 (a : Int)), (3, .func 87 [] [])]
   have g42 : Grew Hx26 H28 := (gk st)
   have g43 : OnlyS S H H28 := gt26.grewR g42
   have s44 := so26_0.grew g42
   have hlt45 : j26 < L26.length := by omega
   obtain ⟨lS45, cap45, rest45, wr45, eS45, gS45⟩ := (s44.toL).isSl hlt45
   obtain ⟨v45_0, v45_1, v45_2, v45_3, hm45⟩ := partsReading (hr26_0.get hlt45)
   have he45 : L26.getD j26 [] = [.int .i64 v45_0, .int .i16 v45_1, .int .i16 v45_2, .int .i16 v45_3] := by rw [← hm45, List.getD_eq_getElem?_getD, List.getElem?_eq_getElem hlt45]; rfl
   have q46 := q27.app (kL : KdsL [.bool, KI, .int .i16, .int .i16, .int .i16] [.bool w35, .int .i64 v45_0, .int .i16 v45_1, .int .i16 v45_2, .int .i16 v45_3])
   refine run_mc (φ := φ0) (pm := pmR 1 [(.ia 4 (n1 0) (nI 5), .ptr 0 0)] 0) 20 (ws := [⟨lS45, (j26 * 4), [nI 7, .nd 8 (.int .i16), .nd 9 (.int .i16), .nd 10 (.int .i16)], false⟩]) (env := [(23, n1 0), (24, nI 5), (0, n1 0), (9, nI 5), (22, .fn 87 [] []), (8, nI 4), (2, nI 2), (1, nI 1), (3, .fn 87 [] []), (21, nB 6)]) q46 (.cons (win_elem hr26_0 gS45 hlt45 rfl (by rw [hm45]; exact (dL q46))) .nil) (sepOk_ro rfl) (.cons (rule_iaS (k := j26) (dE q46) eS45 (dE q46) hlt45 rfl) .nil) (eC q46 (sc B1 (.cons b36 .nil))) tb_ok ap_ok ?_
   refine all2 kr ?_ ?_
   ·
    intro vs ls H47 E47 st hE
    have f48 : w35 = true := bf st 0
    obtain ⟨w50, hw50⟩ : ∃ z, z = (IntKind.wrap .i64 ((j26 : Int) - 1)) := ⟨_, rfl⟩
    have b51 : E47 29 = .int .i64 w50 := by rw [hw50]; exact eo st hE 29 _
    have B2 := es st hE [(27, S), (22, .func 87 [] []), (26, .agg [.int .i64 v45_0, .int .i16 v45_1, .int .i16 v45_2, .int .i16 v45_3]), (21, .bool w35), (0, S), (9, .int .i64 (j26 : Int)), (8, .int .i64 (i13 : Int)), (2, .int .i64 (b : Int)), (1, .int .i64 (a : Int)), (3, .func 87 [] [])]
    have g62 : Grew H28 H47 := (gk st)
    have g63 : OnlyS S H H47 := g43.grewR g62
    have s65 := s44.grew g62
    have nw50 : w50 = ((j26 : Int) - 1) := by
     rw [hw50]
     rw [show (IntKind.wrap .i64 ((j26 : Int) - 1)) = (j26 : Int) - 1 from wrap_i64 om om]
    obtain ⟨k66, rfl⟩ : ∃ k : Nat, w50 = (k : Int) := ⟨Int.toNat w50, by omega⟩
    have hlt67 : k66 < L26.length := by omega
    obtain ⟨lS67, cap67, rest67, wr67, eS67, gS67⟩ := (s65.toL).isSl hlt67
    obtain ⟨v67_0, v67_1, v67_2, v67_3, hm67⟩ := partsReading (hr26_0.get hlt67)
    have he67 : L26.getD k66 [] = [.int .i64 v67_0, .int .i16 v67_1, .int .i16 v67_2, .int .i16 v67_3] := by rw [← hm67, List.getD_eq_getElem?_getD, List.getElem?_eq_getElem hlt67]; rfl
    have q68 := q46.app (kL : KdsL [KI, KI, .int .i16, .int .i16, .int .i16] [.int .i64 (k66 : Int), .int .i64 v67_0, .int .i16 v67_1, .int .i16 v67_2, .int .i16 v67_3])
    refine run_mc (φ := φ0) (pm := pmR 1 [(.ia 4 (n1 0) (nI 11), .ptr 0 0)] 0) 20 (ws := [⟨lS67, (k66 * 4), [nI 12, .nd 13 (.int .i16), .nd 14 (.int .i16), .nd 15 (.int .i16)], false⟩]) (env := [(27, n1 0), (22, .fn 87 [] []), (26, .agg [nI 7, .nd 8 (.int .i16), .nd 9 (.int .i16), .nd 10 (.int .i16)]), (21, nB 6), (0, n1 0), (9, nI 5), (8, nI 4), (2, nI 2), (1, nI 1), (3, .fn 87 [] []), (29, nI 11)]) q68 (.cons (win_elem hr26_0 gS67 hlt67 rfl (by rw [hm67]; exact (dL q68))) .nil) (sepOk_ro rfl) (.cons (rule_iaS (k := k66) (dE q68) eS67 (dE q68) hlt67 rfl) .nil) (eC q68 (sc B2 (.cons b51 .nil))) tb_ok ap_ok ?_
    refine all4 kr ?_ ?_ ?_ ?_
    ·
     intro vs ls H69 E69 st hE
     have f70 : v45_0 < v67_0 := dt st 0
     have f71 : w35 = true := bf st 1
     obtain ⟨w73, hw73⟩ : ∃ z, z = (IntKind.wrap .i64 ((j26 : Int) - 1)) := ⟨_, rfl⟩
     have b74 : E69 44 = .int .i64 w73 := by rw [hw73]; exact eo st hE 44 _
     have b80 : E69 41 = .int .i64 w73 := by rw [hw73]; exact eo st hE 41 _
     have B3 := es st hE [(42, S), (0, S), (9, .int .i64 (j26 : Int)), (37, S), (38, .int .i64 (j26 : Int)), (39, S), (8, .int .i64 (i13 : Int)), (2, .int .i64 (b : Int)), (1, .int .i64 (a : Int)), (3, .func 87 [] [])]
     have g86 : Grew H47 H69 := (gk st)
     have g87 : OnlyS S H H69 := g63.grewR g86
     have s89 := s65.grew g86
     have nw73 : w73 = ((j26 : Int) - 1) := by
      rw [hw73]
      rw [show (IntKind.wrap .i64 ((j26 : Int) - 1)) = (j26 : Int) - 1 from wrap_i64 om om]
     obtain rfl : w73 = (k66 : Int) := by omega
     have hlt90 : k66 < L26.length := by omega
     obtain ⟨lS90, cap90, rest90, wr90, eS90, gS90⟩ := (s89.toL).isSl hlt90
     obtain ⟨v90_0, v90_1, v90_2, v90_3, hm90⟩ := partsReading (hr26_0.get hlt90)
     have he90 : L26.getD k66 [] = [.int .i64 v90_0, .int .i16 v90_1, .int .i16 v90_2, .int .i16 v90_3] := by rw [← hm90, List.getD_eq_getElem?_getD, List.getElem?_eq_getElem hlt90]; rfl
     have hq90 := he67.symm.trans he90
     simp only [List.cons.injEq, AV.flt.injEq, AV.int.injEq, Int.natCast_inj, true_and, and_true] at hq90
     obtain ⟨rfl, rfl, rfl, rfl⟩ := hq90
     have q91 := q68.app (kL : KdsL [KI, KI, .int .i16, .int .i16, .int .i16] [.int .i64 (k66 : Int), .int .i64 v67_0, .int .i16 v67_1, .int .i16 v67_2, .int .i16 v67_3])
     refine run_mc (φ := φ0) (pm := pmR 1 [(.ia 4 (n1 0) (nI 16), .ptr 0 0)] 0) 20 (ws := [⟨lS90, (k66 * 4), [nI 17, .nd 18 (.int .i16), .nd 19 (.int .i16), .nd 20 (.int .i16)], false⟩]) (env := [(42, n1 0), (0, n1 0), (9, nI 5), (37, n1 0), (38, nI 5), (39, n1 0), (8, nI 4), (2, nI 2), (1, nI 1), (3, .fn 87 [] []), (44, nI 16), (41, nI 16)]) q91 (.cons (win_elem hr26_0 gS90 hlt90 rfl (by rw [hm90]; exact (dL q91))) .nil) (sepOk_ro rfl) (.cons (rule_iaS (k := k66) (dE q91) eS90 (dE q91) hlt90 rfl) .nil) (eC q91 (sc B3 (.cons b74 (.cons b80 .nil)))) tb_ok ap_ok ?_
     refine all1 kr fun vs ls H92 E92 st hE => ?_
     have B4 := es st hE [(47, S), (48, .int .i64 (j26 : Int)), (37, S), (38, .int .i64 (j26 : Int)), (46, .agg [.int .i64 v67_0, .int .i16 v67_1, .int .i16 v67_2, .int .i16 v67_3]), (39, S), (41, .int .i64 (k66 : Int)), (9, .int .i64 (j26 : Int)), (8, .int .i64 (i13 : Int)), (2, .int .i64 (b : Int)), (1, .int .i64 (a : Int)), (3, .func 87 [] []), (0, S)]
     have g107 : Grew H69 H92 := (gk st)
     have g108 : OnlyS S H H92 := g87.grewR g107
     have s110 := s89.grew g107
     have hlt111 : j26 < L26.length := by omega
     obtain ⟨lS111, cap111, rest111, wr111, eS111, gS111⟩ := (s110.toL).isSl hlt111
     obtain ⟨v111_0, v111_1, v111_2, v111_3, hm111⟩ := partsReading (hr26_0.get hlt111)
     have he111 : L26.getD j26 [] = [.int .i64 v111_0, .int .i16 v111_1, .int .i16 v111_2, .int .i16 v111_3] := by rw [← hm111, List.getD_eq_getElem?_getD, List.getElem?_eq_getElem hlt111]; rfl
     have hq111 := he45.symm.trans he111
     simp only [List.cons.injEq, AV.flt.injEq, AV.int.injEq, Int.natCast_inj, true_and, and_true] at hq111
     obtain ⟨rfl, rfl, rfl, rfl⟩ := hq111
     have q112 := q91.app (kL : KdsL [KI, .int .i16, .int .i16, .int .i16] [.int .i64 v45_0, .int .i16 v45_1, .int .i16 v45_2, .int .i16 v45_3])
     refine run_mc (φ := φ0) (pm := pmR 1 [(.ia 4 (n1 0) (nI 5), .ptr 0 0)] 0) 20 (ws := [⟨lS111, (j26 * 4), [nI 21, .nd 22 (.int .i16), .nd 23 (.int .i16), .nd 24 (.int .i16)], false⟩]) (env := [(47, n1 0), (48, nI 5), (37, n1 0), (38, nI 5), (46, .agg [nI 17, .nd 18 (.int .i16), .nd 19 (.int .i16), .nd 20 (.int .i16)]), (39, n1 0), (41, nI 16), (9, nI 5), (8, nI 4), (2, nI 2), (1, nI 1), (3, .fn 87 [] []), (0, n1 0)]) q112 (.cons (win_elem hr26_0 gS111 hlt111 rfl (by rw [hm111]; exact (dL q112))) .nil) (sepOk_ro rfl) (.cons (rule_iaS (k := j26) (dE q112) eS111 (dE q112) hlt111 rfl) .nil) (eC q112 B4) tb_ok ap_ok ?_
     refine all1 kr fun vs ls H113 E113 st hE => ?_
     have b114 := eo st hE 51 (.ptr lS111 ((j26 * 4) + 0))
     have b115 := eo st hE 46 (.agg [.int .i64 v67_0, .int .i16 v67_1, .int .i16 v67_2, .int .i16 v67_3])
     have B5 := es st hE [(46, .agg [.int .i64 v67_0, .int .i16 v67_1, .int .i16 v67_2, .int .i16 v67_3]), (39, S), (41, .int .i64 (k66 : Int)), (50, .agg [.int .i64 v45_0, .int .i16 v45_1, .int .i16 v45_2, .int .i16 v45_3]), (9, .int .i64 (j26 : Int)), (8, .int .i64 (i13 : Int)), (2, .int .i64 (b : Int)), (1, .int .i64 (a : Int)), (3, .func 87 [] []), (0, S)]
     have g126 : Grew H92 H113 := (gk st)
     have g127 : OnlyS S H H113 := g108.grewR g126
     have s129 := s110.grew g126
     refine res_storeSFK (d := none) (n := 4) (x := .tmp 51) (y := .tmp 46) kr (S := S) (ms := L26) (k := j26) (m' := [.int .i64 v67_0, .int .i16 v67_1, .int .i16 v67_2, .int .i16 v67_3]) (s129) eS111 b114 hlt111 hr26_0.len (by show AV.cells (E113 46) = _; rw [b115]; rfl) rfl rfl rfl ?_
     intro H130 s130 oo130
     have hln130 : (L26.set j26 [.int .i64 v67_0, .int .i16 v67_1, .int .i16 v67_2, .int .i16 v67_3]).length = L26.length := by simp
     have g131 : OnlyS S H H130 := g127.trans oo130
     refine rC 0 0 [] [(46, .agg [nI 17, .nd 18 (.int .i16), .nd 19 (.int .i16), .nd 20 (.int .i16)]), (39, n1 0), (41, nI 16), (50, .agg [nI 21, .nd 22 (.int .i16), .nd 23 (.int .i16), .nd 24 (.int .i16)]), (9, nI 5), (8, nI 4), (2, nI 2), (1, nI 1), (3, .fn 87 [] []), (0, n1 0)] q112 (sn B5) ?_
     refine all1 kr fun vs ls H133 E133 st hE => ?_
     have B6 := es st hE [(39, S), (41, .int .i64 (k66 : Int)), (50, .agg [.int .i64 v45_0, .int .i16 v45_1, .int .i16 v45_2, .int .i16 v45_3]), (9, .int .i64 (j26 : Int)), (8, .int .i64 (i13 : Int)), (2, .int .i64 (b : Int)), (1, .int .i64 (a : Int)), (3, .func 87 [] []), (0, S)]
     have g144 : Grew H130 H133 := (gk st)
     have g145 : OnlyS S H H133 := g131.grewR g144
     have s146 := s130.grew g144
     have hlt147 : k66 < (L26.set j26 [.int .i64 v67_0, .int .i16 v67_1, .int .i16 v67_2, .int .i16 v67_3]).length := by omega
     obtain ⟨lS147, cap147, rest147, wr147, eS147, gS147⟩ := (s146.toL).isSl hlt147
     obtain ⟨v147_0, v147_1, v147_2, v147_3, hm147⟩ := partsReading ((Recs.set hr26_0 (.cons kA (.cons kA (.cons kA (.cons kA .nil))))).get hlt147)
     have he147 : (L26.set j26 [.int .i64 v67_0, .int .i16 v67_1, .int .i16 v67_2, .int .i16 v67_3]).getD k66 [] = [.int .i64 v147_0, .int .i16 v147_1, .int .i16 v147_2, .int .i16 v147_3] := by rw [← hm147, List.getD_eq_getElem?_getD, List.getElem?_eq_getElem hlt147]; rfl
     have q148 := q112.app (kL : KdsL [KI, .int .i16, .int .i16, .int .i16] [.int .i64 v147_0, .int .i16 v147_1, .int .i16 v147_2, .int .i16 v147_3])
     refine run_mc (φ := φ0) (pm := pmR 1 [(.ia 4 (n1 0) (nI 16), .ptr 0 0)] 0) 20 (ws := [⟨lS147, (k66 * 4), [nI 25, .nd 26 (.int .i16), .nd 27 (.int .i16), .nd 28 (.int .i16)], false⟩]) (env := [(39, n1 0), (41, nI 16), (50, .agg [nI 21, .nd 22 (.int .i16), .nd 23 (.int .i16), .nd 24 (.int .i16)]), (9, nI 5), (8, nI 4), (2, nI 2), (1, nI 1), (3, .fn 87 [] []), (0, n1 0)]) q148 (.cons (win_elem (Recs.set hr26_0 (.cons kA (.cons kA (.cons kA (.cons kA .nil))))) gS147 hlt147 rfl (by rw [hm147]; exact (dL q148))) .nil) (sepOk_ro rfl) (.cons (rule_iaS (k := k66) (dE q148) eS147 (dE q148) hlt147 rfl) .nil) (eC q148 B6) tb_ok ap_ok ?_
     refine all1 kr fun vs ls H149 E149 st hE => ?_
     have b150 := eo st hE 52 (.ptr lS147 ((k66 * 4) + 0))
     have b151 := eo st hE 50 (.agg [.int .i64 v45_0, .int .i16 v45_1, .int .i16 v45_2, .int .i16 v45_3])
     have B7 := es st hE [(50, .agg [.int .i64 v45_0, .int .i16 v45_1, .int .i16 v45_2, .int .i16 v45_3]), (9, .int .i64 (j26 : Int)), (8, .int .i64 (i13 : Int)), (2, .int .i64 (b : Int)), (1, .int .i64 (a : Int)), (3, .func 87 [] []), (0, S)]
     have g159 : Grew H133 H149 := (gk st)
     have g160 : OnlyS S H H149 := g145.grewR g159
     have s162 := s146.grew g159
     refine res_storeSFK (d := none) (n := 4) (x := .tmp 52) (y := .tmp 50) kr (S := S) (ms := (L26.set j26 [.int .i64 v67_0, .int .i16 v67_1, .int .i16 v67_2, .int .i16 v67_3])) (k := k66) (m' := [.int .i64 v45_0, .int .i16 v45_1, .int .i16 v45_2, .int .i16 v45_3]) (s162) eS147 b150 hlt147 (Recs.set hr26_0 (.cons kA (.cons kA (.cons kA (.cons kA .nil))))).len (by show AV.cells (E149 50) = _; rw [b151]; rfl) rfl rfl rfl ?_
     intro H163 s163 oo163
     have hln163 : ((L26.set j26 [.int .i64 v67_0, .int .i16 v67_1, .int .i16 v67_2, .int .i16 v67_3]).set k66 [.int .i64 v45_0, .int .i16 v45_1, .int .i16 v45_2, .int .i16 v45_3]).length = (L26.set j26 [.int .i64 v67_0, .int .i16 v67_1, .int .i16 v67_2, .int .i16 v67_3]).length := by simp
     have g164 : OnlyS S H H163 := g160.trans oo163
     refine rC 0 0 [] [(50, .agg [nI 21, .nd 22 (.int .i16), .nd 23 (.int .i16), .nd 24 (.int .i16)]), (9, nI 5), (8, nI 4), (2, nI 2), (1, nI 1), (3, .fn 87 [] []), (0, n1 0)] q148 (sn B7) ?_
     refine all1 kr fun vs ls H166 E166 st hE => ?_
     obtain ⟨w167, hw167⟩ : ∃ z, z = (IntKind.wrap .i64 ((j26 : Int) - 1)) := ⟨_, rfl⟩
     have b168 : E166 9 = .int .i64 w167 := by rw [hw167]; exact eo st hE 9 _
     have b169 := eo st hE 1 (.int .i64 (a : Int))
     have b170 := eo st hE 3 (.func 87 [] [])
     have b171 := eo st hE 0 S
     have b172 := eo st hE 8 (.int .i64 (i13 : Int))
     have b173 := eo st hE 2 (.int .i64 (b : Int))
     have g174 : Grew H163 H166 := (gk st)
     have g175 : OnlyS S H H166 := g164.grewR g174
     have s176 := s163.grew g174
     have nw167 : w167 = ((j26 : Int) - 1) := by
      rw [hw167]
      rw [show (IntKind.wrap .i64 ((j26 : Int) - 1)) = (j26 : Int) - 1 from wrap_i64 om om]
     obtain ⟨k177, hk177⟩ : ∃ k : Nat, w167 = (k : Int) := ⟨Int.toNat w167, by omega⟩
     have tm111 : tmR L26 j26 = v45_0 := by unfold tmR; rw [he111]; rfl
     have tm90 : tmR L26 k66 = v67_0 := by unfold tmR; rw [he90]; rfl
     have tm147 : tmR (L26.set j26 [.int .i64 v67_0, .int .i16 v67_1, .int .i16 v67_2, .int .i16 v67_3]) k66 = v147_0 := by unfold tmR; rw [he147]; rfl
     have hsw9 : ((L26.set j26 [.int .i64 v67_0, .int .i16 v67_1, .int .i16 v67_2, .int .i16 v67_3]).set k66 [.int .i64 v45_0, .int .i16 v45_1, .int .i16 v45_2, .int .i16 v45_3]) = swp L26 j26 k66 := by unfold swp; rw [he111, he90]
     have hk9 : k66 = j26 - 1 := by omega
     have hm9 : k177 < z26 := by omega
     exact res_norm kr ⟨k177, hm9, k177, ((L26.set j26 [.int .i64 v67_0, .int .i16 v67_1, .int .i16 v67_2, .int .i16 v67_3]).set k66 [.int .i64 v45_0, .int .i16 v45_1, .int .i16 v45_2, .int .i16 v45_3]), rfl, b169, b170, b171, b172, b173, (b168.trans (by rw [hk177])), g175, s176, (Recs.set (Recs.set hr26_0 (.cons kA (.cons kA (.cons kA (.cons kA .nil))))) (.cons kA (.cons kA (.cons kA (.cons kA .nil))))), (by rw [hsw9, hk9, show k177 = j26 - 1 by omega]; exact InsI.step iv26 om om hb (by rw [← hk9]; omega))⟩
    ·
     intro vs ls H178 E178 st hE
     have f179 : v67_0 < v45_0 := dt st 0
     have f180 : ¬ (v45_0 < v67_0) := df st 1
     have f181 : w35 = true := bf st 2
     have B8 := es st hE [(9, .int .i64 (j26 : Int)), (1, .int .i64 (a : Int)), (3, .func 87 [] []), (0, S), (27, S), (29, .int .i64 (k66 : Int)), (30, .ptr lS67 ((k66 * 4) + 0)), (22, .func 87 [] []), (26, .agg [.int .i64 v45_0, .int .i16 v45_1, .int .i16 v45_2, .int .i16 v45_3]), (31, .agg [.int .i64 v67_0, .int .i16 v67_1, .int .i16 v67_2, .int .i16 v67_3]), (32, .int .i64 1), (21, .bool w35), (33, .bool false), (34, .bool false), (8, .int .i64 (i13 : Int)), (2, .int .i64 (b : Int))]
     have g198 : Grew H47 H178 := (gk st)
     have g199 : OnlyS S H H178 := g63.grewR g198
     have r200 := g198.at gS67
     have s201 := s65.grew g198
     refine res_exit (id := 2) kr ?_
     have qf181 := of_decide_eq_true (hw35.symm.trans f181)
     have tm45 : tmR L26 j26 = v45_0 := by unfold tmR; rw [he45]; rfl
     have tm67 : tmR L26 k66 = v67_0 := by unfold tmR; rw [he67]; rfl
     have hx202 : j26 = a ∨ tmR L26 (j26 - 1) ≤ tmR L26 j26 := .inr (by rw [show j26 - 1 = k66 by omega]; omega)
     refine run_mc (φ := φ0) (pm := pmR 1 [] 0) 20 (ws := [⟨lS67, (k66 * 4), [nI 12, .nd 13 (.int .i16), .nd 14 (.int .i16), .nd 15 (.int .i16)], false⟩]) (env := [(9, nI 5), (1, nI 1), (3, .fn 87 [] []), (0, n1 0), (27, n1 0), (29, nI 11), (30, .ptr 0 0), (22, .fn 87 [] []), (26, .agg [nI 7, .nd 8 (.int .i16), .nd 9 (.int .i16), .nd 10 (.int .i16)]), (31, .agg [nI 12, .nd 13 (.int .i16), .nd 14 (.int .i16), .nd 15 (.int .i16)]), (32, .lit (.int .i64 1)), (21, nB 6), (33, .lit (.bool false)), (34, .lit (.bool false)), (8, nI 4), (2, nI 2)]) q68 (.cons (win_elem hr26_0 r200 hlt67 rfl (by rw [hm67]; exact (dL q68))) .nil) (sepOk_ro rfl) .nil (eC q68 B8) tb_ok ap_ok ?_
     refine all1 kr fun vs ls H204 E204 st hE => ?_
     obtain ⟨w205, hw205⟩ : ∃ z, z = (IntKind.wrap .i64 ((i13 : Int) + 1)) := ⟨_, rfl⟩
     have b206 : E204 8 = .int .i64 w205 := by rw [hw205]; exact eo st hE 8 _
     have b207 := eo st hE 2 (.int .i64 (b : Int))
     have b208 := eo st hE 1 (.int .i64 (a : Int))
     have b209 := eo st hE 3 (.func 87 [] [])
     have b210 := eo st hE 0 S
     have g211 : Grew H178 H204 := (gk st)
     have g212 : OnlyS S H H204 := g199.grewR g211
     have s214 := s201.grew g211
     have nw205 : w205 = ((i13 : Int) + 1) := by
      rw [hw205]
      rw [show (IntKind.wrap .i64 ((i13 : Int) + 1)) = (i13 : Int) + 1 from wrap_i64 om om]
     obtain ⟨k215, hk215⟩ : ∃ k : Nat, w205 = (k : Int) := ⟨Int.toNat w205, by omega⟩
     have hm9 : b - k215 < z13 := by omega
     exact res_norm kr ⟨b - k215, hm9, k215, L26, rfl, b207, b208, b209, b210, (b206.trans (by rw [hk215])), g212, s214, hr26_0, ⟨⟨by omega, by omega⟩, (InsI.fin iv26 hx202).1, by rw [show k215 = i13 + 1 by omega]; exact (InsI.fin iv26 hx202).2⟩⟩
    ·
     intro vs ls H216 E216 st hE
     have f217 : ¬ (v67_0 < v45_0) := df st 0
     have f218 : ¬ (v45_0 < v67_0) := df st 1
     have f219 : w35 = true := bf st 2
     have B9 := es st hE [(9, .int .i64 (j26 : Int)), (1, .int .i64 (a : Int)), (3, .func 87 [] []), (0, S), (27, S), (29, .int .i64 (k66 : Int)), (30, .ptr lS67 ((k66 * 4) + 0)), (22, .func 87 [] []), (26, .agg [.int .i64 v45_0, .int .i16 v45_1, .int .i16 v45_2, .int .i16 v45_3]), (31, .agg [.int .i64 v67_0, .int .i16 v67_1, .int .i16 v67_2, .int .i16 v67_3]), (32, .int .i64 0), (21, .bool w35), (33, .bool false), (34, .bool false), (8, .int .i64 (i13 : Int)), (2, .int .i64 (b : Int))]
     have g236 : Grew H47 H216 := (gk st)
     have g237 : OnlyS S H H216 := g63.grewR g236
     have r238 := g236.at gS67
     have s239 := s65.grew g236
     refine res_exit (id := 2) kr ?_
     have qf219 := of_decide_eq_true (hw35.symm.trans f219)
     have tm45 : tmR L26 j26 = v45_0 := by unfold tmR; rw [he45]; rfl
     have tm67 : tmR L26 k66 = v67_0 := by unfold tmR; rw [he67]; rfl
     have hx240 : j26 = a ∨ tmR L26 (j26 - 1) ≤ tmR L26 j26 := .inr (by rw [show j26 - 1 = k66 by omega]; omega)
     refine run_mc (φ := φ0) (pm := pmR 1 [] 0) 20 (ws := [⟨lS67, (k66 * 4), [nI 12, .nd 13 (.int .i16), .nd 14 (.int .i16), .nd 15 (.int .i16)], false⟩]) (env := [(9, nI 5), (1, nI 1), (3, .fn 87 [] []), (0, n1 0), (27, n1 0), (29, nI 11), (30, .ptr 0 0), (22, .fn 87 [] []), (26, .agg [nI 7, .nd 8 (.int .i16), .nd 9 (.int .i16), .nd 10 (.int .i16)]), (31, .agg [nI 12, .nd 13 (.int .i16), .nd 14 (.int .i16), .nd 15 (.int .i16)]), (32, .lit (.int .i64 0)), (21, nB 6), (33, .lit (.bool false)), (34, .lit (.bool false)), (8, nI 4), (2, nI 2)]) q68 (.cons (win_elem hr26_0 r238 hlt67 rfl (by rw [hm67]; exact (dL q68))) .nil) (sepOk_ro rfl) .nil (eC q68 B9) tb_ok ap_ok ?_
     refine all1 kr fun vs ls H242 E242 st hE => ?_
     obtain ⟨w243, hw243⟩ : ∃ z, z = (IntKind.wrap .i64 ((i13 : Int) + 1)) := ⟨_, rfl⟩
     have b244 : E242 8 = .int .i64 w243 := by rw [hw243]; exact eo st hE 8 _
     have b245 := eo st hE 2 (.int .i64 (b : Int))
     have b246 := eo st hE 1 (.int .i64 (a : Int))
     have b247 := eo st hE 3 (.func 87 [] [])
     have b248 := eo st hE 0 S
     have g249 : Grew H216 H242 := (gk st)
     have g250 : OnlyS S H H242 := g237.grewR g249
     have s252 := s239.grew g249
     have nw243 : w243 = ((i13 : Int) + 1) := by
      rw [hw243]
      rw [show (IntKind.wrap .i64 ((i13 : Int) + 1)) = (i13 : Int) + 1 from wrap_i64 om om]
     obtain ⟨k253, hk253⟩ : ∃ k : Nat, w243 = (k : Int) := ⟨Int.toNat w243, by omega⟩
     have hm9 : b - k253 < z13 := by omega
     exact res_norm kr ⟨b - k253, hm9, k253, L26, rfl, b245, b246, b247, b248, (b244.trans (by rw [hk253])), g250, s252, hr26_0, ⟨⟨by omega, by omega⟩, (InsI.fin iv26 hx240).1, by rw [show k253 = i13 + 1 by omega]; exact (InsI.fin iv26 hx240).2⟩⟩
    ·
     intro vs ls H254 E254 st hE
     have f255 : w35 = false := bf st 0
     have B10 := es st hE [(9, .int .i64 (j26 : Int)), (1, .int .i64 (a : Int)), (3, .func 87 [] []), (0, S), (27, S), (29, .int .i64 (k66 : Int)), (30, .undef), (22, .func 87 [] []), (26, .agg [.int .i64 v45_0, .int .i16 v45_1, .int .i16 v45_2, .int .i16 v45_3]), (31, .undef), (32, .undef), (21, .bool w35), (33, .undef), (34, .bool false), (8, .int .i64 (i13 : Int)), (2, .int .i64 (b : Int))]
     have g272 : Grew H47 H254 := (gk st)
     have g273 : OnlyS S H H254 := g63.grewR g272
     have s275 := s65.grew g272
     refine res_exit (id := 2) kr ?_
     have qf255 := of_decide_eq_false (hw35.symm.trans f255)
     have tm45 : tmR L26 j26 = v45_0 := by unfold tmR; rw [he45]; rfl
     have tm67 : tmR L26 k66 = v67_0 := by unfold tmR; rw [he67]; rfl
     have hx276 : j26 = a ∨ tmR L26 (j26 - 1) ≤ tmR L26 j26 := .inr (by rw [show j26 - 1 = k66 by omega]; omega)
     refine rC 0 0 [] [(9, nI 5), (1, nI 1), (3, .fn 87 [] []), (0, n1 0), (27, n1 0), (29, nI 11), (30, .lit .undef), (22, .fn 87 [] []), (26, .agg [nI 7, .nd 8 (.int .i16), .nd 9 (.int .i16), .nd 10 (.int .i16)]), (31, .lit .undef), (32, .lit .undef), (21, nB 6), (33, .lit .undef), (34, .lit (.bool false)), (8, nI 4), (2, nI 2)] q68 B10 ?_
     refine all1 kr fun vs ls H278 E278 st hE => ?_
     obtain ⟨w279, hw279⟩ : ∃ z, z = (IntKind.wrap .i64 ((i13 : Int) + 1)) := ⟨_, rfl⟩
     have b280 : E278 8 = .int .i64 w279 := by rw [hw279]; exact eo st hE 8 _
     have b281 := eo st hE 2 (.int .i64 (b : Int))
     have b282 := eo st hE 1 (.int .i64 (a : Int))
     have b283 := eo st hE 3 (.func 87 [] [])
     have b284 := eo st hE 0 S
     have g285 : Grew H254 H278 := (gk st)
     have g286 : OnlyS S H H278 := g273.grewR g285
     have s287 := s275.grew g285
     have nw279 : w279 = ((i13 : Int) + 1) := by
      rw [hw279]
      rw [show (IntKind.wrap .i64 ((i13 : Int) + 1)) = (i13 : Int) + 1 from wrap_i64 om om]
     obtain ⟨k288, hk288⟩ : ∃ k : Nat, w279 = (k : Int) := ⟨Int.toNat w279, by omega⟩
     have hm9 : b - k288 < z13 := by omega
     exact res_norm kr ⟨b - k288, hm9, k288, L26, rfl, b281, b282, b283, b284, (b280.trans (by rw [hk288])), g286, s287, hr26_0, ⟨⟨by omega, by omega⟩, (InsI.fin iv26 hx276).1, by rw [show k288 = i13 + 1 by omega]; exact (InsI.fin iv26 hx276).2⟩⟩
   ·
    intro vs ls H289 E289 st hE
    have f290 : w35 = false := bf st 0
    have B11 := es st hE [(9, .int .i64 (j26 : Int)), (1, .int .i64 (a : Int)), (3, .func 87 [] []), (0, S), (23, S), (24, .int .i64 (j26 : Int)), (25, .undef), (28, .undef), (27, .undef), (29, .undef), (30, .undef), (22, .func 87 [] []), (26, .undef), (31, .undef), (32, .undef), (21, .bool w35), (33, .undef), (34, .bool false), (8, .int .i64 (i13 : Int)), (2, .int .i64 (b : Int))]
    have g311 : Grew H28 H289 := (gk st)
    have g312 : OnlyS S H H289 := g43.grewR g311
    have s314 := s44.grew g311
    refine res_exit (id := 2) kr ?_
    have qf290 := of_decide_eq_false (hw35.symm.trans f290)
    have tm45 : tmR L26 j26 = v45_0 := by unfold tmR; rw [he45]; rfl
    have hx315 : j26 = a ∨ tmR L26 (j26 - 1) ≤ tmR L26 j26 := .inl om
    refine rC 0 0 [] [(9, nI 5), (1, nI 1), (3, .fn 87 [] []), (0, n1 0), (23, n1 0), (24, nI 5), (25, .lit .undef), (28, .lit .undef), (27, .lit .undef), (29, .lit .undef), (30, .lit .undef), (22, .fn 87 [] []), (26, .lit .undef), (31, .lit .undef), (32, .lit .undef), (21, nB 6), (33, .lit .undef), (34, .lit (.bool false)), (8, nI 4), (2, nI 2)] q46 B11 ?_
    refine all1 kr fun vs ls H317 E317 st hE => ?_
    obtain ⟨w318, hw318⟩ : ∃ z, z = (IntKind.wrap .i64 ((i13 : Int) + 1)) := ⟨_, rfl⟩
    have b319 : E317 8 = .int .i64 w318 := by rw [hw318]; exact eo st hE 8 _
    have b320 := eo st hE 2 (.int .i64 (b : Int))
    have b321 := eo st hE 1 (.int .i64 (a : Int))
    have b322 := eo st hE 3 (.func 87 [] [])
    have b323 := eo st hE 0 S
    have g324 : Grew H289 H317 := (gk st)
    have g325 : OnlyS S H H317 := g312.grewR g324
    have s326 := s314.grew g324
    have nw318 : w318 = ((i13 : Int) + 1) := by
     rw [hw318]
     rw [show (IntKind.wrap .i64 ((i13 : Int) + 1)) = (i13 : Int) + 1 from wrap_i64 om om]
    obtain ⟨k327, hk327⟩ : ∃ k : Nat, w318 = (k : Int) := ⟨Int.toNat w318, by omega⟩
    have hm9 : b - k327 < z13 := by omega
    exact res_norm kr ⟨b - k327, hm9, k327, L26, rfl, b320, b321, b322, b323, (b319.trans (by rw [hk327])), g325, s326, hr26_0, ⟨⟨by omega, by omega⟩, (InsI.fin iv26 hx315).1, by rw [show k327 = i13 + 1 by omega]; exact (InsI.fin iv26 hx315).2⟩⟩
  ·
   intro vs ls H328 E328 st hE
   have f329 : ¬ ((a : Int) < (j26 : Int)) := df st 0
   obtain ⟨w334, hw334⟩ : ∃ z, z = (decide ((a : Int) < (j26 : Int))) := ⟨_, rfl⟩
   have b335 : E328 20 = .bool w334 := by rw [hw334]; exact eo st hE 20 _
   have b349 : E328 21 = .bool w334 := by rw [hw334]; exact eo st hE 21 _
   have B12 := es st hE [(9, .int .i64 (j26 : Int)), (1, .int .i64 (a : Int)), (18, .int .i64 (j26 : Int)), (19, .int .i64 (a : Int)), (3, .func 87 [] []), (0, S), (23, .undef), (24, .undef), (25, .undef), (28, .undef), (27, .undef), (29, .undef), (30, .undef), (22, .undef), (26, .undef), (31, .undef), (32, .undef), (33, .undef), (34, .bool false), (8, .int .i64 (i13 : Int)), (2, .int .i64 (b : Int))]
   have g354 : Grew Hx26 H328 := (gk st)
   have g355 : OnlyS S H H328 := gt26.grewR g354
   have s356 := so26_0.grew g354
   refine res_exit (id := 2) kr ?_
   have hx357 : j26 = a ∨ tmR L26 (j26 - 1) ≤ tmR L26 j26 := .inl om
   have q358 := q27.app (kL : KdsL [.bool] [.bool w334])
   refine rC 0 0 [] [(9, nI 5), (1, nI 1), (18, nI 5), (19, nI 1), (3, .fn 87 [] []), (0, n1 0), (23, .lit .undef), (24, .lit .undef), (25, .lit .undef), (28, .lit .undef), (27, .lit .undef), (29, .lit .undef), (30, .lit .undef), (22, .lit .undef), (26, .lit .undef), (31, .lit .undef), (32, .lit .undef), (33, .lit .undef), (34, .lit (.bool false)), (8, nI 4), (2, nI 2), (20, nB 6), (21, nB 6)] q358 (sc B12 (.cons b335 (.cons b349 .nil))) ?_
   refine all1 kr fun vs ls H359 E359 st hE => ?_
   obtain ⟨w360, hw360⟩ : ∃ z, z = (IntKind.wrap .i64 ((i13 : Int) + 1)) := ⟨_, rfl⟩
   have b361 : E359 8 = .int .i64 w360 := by rw [hw360]; exact eo st hE 8 _
   have b362 := eo st hE 2 (.int .i64 (b : Int))
   have b363 := eo st hE 1 (.int .i64 (a : Int))
   have b364 := eo st hE 3 (.func 87 [] [])
   have b365 := eo st hE 0 S
   have g366 : Grew H328 H359 := (gk st)
   have g367 : OnlyS S H H359 := g355.grewR g366
   have s368 := s356.grew g366
   have nw360 : w360 = ((i13 : Int) + 1) := by
    rw [hw360]
    rw [show (IntKind.wrap .i64 ((i13 : Int) + 1)) = (i13 : Int) + 1 from wrap_i64 om om]
   obtain ⟨k369, hk369⟩ : ∃ k : Nat, w360 = (k : Int) := ⟨Int.toNat w360, by omega⟩
   have hm9 : b - k369 < z13 := by omega
   exact res_norm kr ⟨b - k369, hm9, k369, L26, rfl, b362, b363, b364, b365, (b361.trans (by rw [hk369])), g367, s368, hr26_0, ⟨⟨by omega, by omega⟩, (InsI.fin iv26 hx357).1, by rw [show k369 = i13 + 1 by omega]; exact (InsI.fin iv26 hx357).2⟩⟩
 ·
  intro vs ls H370 E370 st hE
  have f371 : ¬ ((i13 : Int) < (b : Int)) := df st 0
  obtain ⟨w376, hw376⟩ : ∃ z, z = (decide ((i13 : Int) < (b : Int))) := ⟨_, rfl⟩
  have b377 : E370 14 = .bool w376 := by rw [hw376]; exact eo st hE 14 _
  have B13 := es st hE [(8, .int .i64 (i13 : Int)), (2, .int .i64 (b : Int)), (12, .int .i64 (i13 : Int)), (13, .int .i64 (b : Int)), (1, .int .i64 (a : Int)), (3, .func 87 [] []), (0, S)]
  have g381 : Grew Hx13 H370 := (gk st)
  have g382 : OnlyS S H H370 := gt13.grewR g381
  have s383 := so13_0.grew g381
  refine res_exit (id := 0) kr ?_
  have q384 := q14.app (kL : KdsL [.bool] [.bool w376])
  refine rC 0 0 [] [(8, nI 4), (2, nI 2), (12, nI 4), (13, nI 2), (1, nI 1), (3, .fn 87 [] []), (0, n1 0), (14, nB 5)] q384 (sc B13 (.cons b377 .nil)) ?_
  refine all1 kr fun vs ls H385 E385 st hE => ?_
  -- ('tup', [])
  have gz : OnlyS S H H385 := (g382.grewR (gk st))
  exact res_ex kr (end_same st.inn hE (.inl rfl) (a := .tuple []) kr gz.next ⟨rfl, gz, _, (s383.grew (st.inn.kept.grew (Nat.le_refl _))), hr13_0, hsti13, fun p q h1 h2 h3 => hsoi13 p q h1 h2 om⟩)
end Go.Proofs.Ytnleibiniajbnaa
