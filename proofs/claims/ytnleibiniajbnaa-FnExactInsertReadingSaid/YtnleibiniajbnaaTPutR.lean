/- Contracts: a reading put into a feed, by the reference. -/
import Derived.Test.YtnleibiniajbnaaTSrtB
import Derived.Test.YtnleibiniajbnaaTSrtQ
import Derived.Test.YtnleibiniajbnaaSxE
set_option linter.unusedVariables false
set_option linter.unusedSimpArgs false
namespace Go.Proofs.Ytnleibiniajbnaa
open Go.Ab
set_option maxRecDepth 100000
set_option maxHeartbeats 1000000
attribute [local irreducible] Res
theorem part_recs {ks : List Kd} {ms : List (List AV)} (h : Recs ks ms) {a b : Nat} : Recs ks ((ms.take b).drop a) := fun m hm => h m (List.mem_of_mem_take (List.mem_of_mem_drop hm))
theorem parts_in (ms : List (List AV)) (m : List AV) (p : Nat) : ((ms.take p).drop 0 ++ ([m] ++ (ms.take ms.length).drop p)) = ms.take p ++ (m :: ms.drop p) := by simp
theorem putL_in {L : List (List AV)} {m : List AV} {n : Nat} (h : Asc L) (hn : n ≤ L.length) (h1 : n = 0 ∨ tmR L (n - 1) < timeR m) (h2 : ∀ q, n ≤ q → q < L.length → timeR m ≤ tmR L q) (h3 : n < L.length → tmR L n ≠ timeR m) : putL L m = L.take n ++ (m :: L.drop n) := by
 have hlt : ∀ q, q < n → tmR L q < timeR m := fun q hq => by
  rcases h1 with h1 | h1
  ·
   omega
  ·
   by_cases e : q = n - 1
   ·
    rw [e]; exact h1
   ·
    exact Int.lt_trans (h q (n - 1) om om) h1
 unfold putL
 rw [atN_is hn hlt h2, if_pos]
 refine atT_nil fun k hk e => ?_
 by_cases c : k < n
 ·
  have := hlt k c; omega
 ·
  by_cases c2 : k = n
  ·
   subst c2; exact h3 hk e
  ·
   have := h n k om hk
   have := h2 n (Nat.le_refl _) om
   omega
theorem putL_id {L : List (List AV)} {m : List AV} {n : Nat} (hn : n < L.length) (h3 : tmR L n = timeR m) : putL L m = L := by
 unfold putL
 rw [if_neg]
 intro e
 have : L.getD n [] ∈ atT (timeR m) L := List.mem_filter.2 ⟨by rw [List.getD_eq_getElem?_getD, List.getElem?_eq_getElem hn]; exact List.getElem_mem _, by simpa [tmR] using h3⟩
 rw [e] at this
 cases this
theorem k_l04Put (H : AHeap) (ms : List (List AV)) (hr : Recs KR ms) (S : AV) (hS : SlL H 4 ms S) (mxms : ms.length ≤ 1048576) (hA : Asc ms) (rt rx ry rz : Int) : ACalls Try.prog 84 [S, .agg [.int .i64 rt, .int .i16 rx, .int .i16 ry, .int .i16 rz]] H fun r H' => Grew H H' ∧ SlF H' 4 (putL ms [.int .i64 rt, .int .i16 rx, .int .i16 ry, .int .i16 rz]) r ∧ FreshS H.next r := by
 refine res_start h_spec_l04Put (by simp) ?_
 have q1 : KdsL [.one, KI, .int .i16, .int .i16, .int .i16, KI] [S, .int .i64 rt, .int .i16 rx, .int .i16 ry, .int .i16 rz, .int .i64 (ms.length : Int)] := kL
 refine rD 0 0 [(.len (n1 0), nI 5)] [] [(0, n1 0), (1, .agg [nI 1, .nd 2 (.int .i16), .nd 3 (.int .i16), .nd 4 (.int .i16)])] q1 (.cons (⟨_, _, (dE q1), (dE q1), slLen hS⟩) .nil) (.cons (t := 0) rfl (.cons (t := 1) rfl .nil)) ?_
 refine all1 kr fun vs ls H2 E2 st hE => ?_
 obtain ⟨p3, e4, r5, n6⟩ := pO st hE 3 0 [.int .i64 rt, .int .i16 rx, .int .i16 ry, .int .i16 rz]
 have op3 : H.next ≤ p3 := Nat.le_trans (Nat.le_refl _) (oM n6)
 have b7 := eo st hE 5 (.int .i64 (ms.length : Int))
 have b8 := eo st hE 0 S
 have g9 : Grew H H2 := (gk st)
 have g10 : Grew H H2 := Grew.trans (Grew.refl _) g9
 refine res_loop kr (fun z E H' => ∃ (at11 : Nat), z = at11 ∧ E 0 = S ∧ E 3 = .ptr p3 0 ∧ E 5 = .int .i64 (at11 : Int) ∧ Grew H H' ∧ H'.get p3 = some (.row [.int .i64 rt, .int .i16 rx, .int .i16 ry, .int .i16 rz] true) ∧ at11 ≤ ms.length ∧ ∀ q, at11 ≤ q → q < ms.length → rt ≤ tmR ms q) (ms.length) ⟨ms.length, rfl, b8, e4, b7, g10, r5, ⟨by omega, fun q c1 c2 => by omega⟩⟩ ?_
 rintro z11 E11 Hx11 ⟨at11, hz11, c11_0, c11_3, cv11_5, gt11, rw11_0, iv11⟩
 obtain ⟨haat11, hpat11⟩ := iv11
 have q12 := q1.app (kL : KdsL [KI] [.int .i64 (at11 : Int)])
 refine rC 1 0 [wf p3 [nI 1, .nd 2 (.int .i16), .nd 3 (.int .i16), .nd 4 (.int .i16)]] [(0, n1 0), (3, .ptr 0 0), (5, nI 6)] q12 (.cons c11_0 (.cons c11_3 (.cons cv11_5 .nil))) ?_
 refine all2 kr ?_ ?_
 ·
  intro vs ls H13 E13 st hE
  have f14 : 0 < (at11 : Int) := dt st 0
  obtain ⟨w16, hw16⟩ : ∃ z, z = (IntKind.wrap .i64 ((at11 : Int) - 1)) := ⟨_, rfl⟩
  have b17 : E13 14 = .int .i64 w16 := by rw [hw16]; exact eo st hE 14 _
  obtain ⟨w19, hw19⟩ : ∃ z, z = (decide (0 < (at11 : Int))) := ⟨_, rfl⟩
  have b20 : E13 11 = .bool w19 := by rw [hw19]; exact eo st hE 11 _
  have B1 := es st hE [(12, S), (3, .ptr p3 0), (5, .int .i64 (at11 : Int)), (0, S)]
  have g23 : Grew Hx11 H13 := (gk st)
  have g24 := Grew.trans gt11 g23
  have r25 := g23.at rw11_0
  have nw16 : w16 = ((at11 : Int) - 1) := by
   rw [hw16]
   rw [show (IntKind.wrap .i64 ((at11 : Int) - 1)) = (at11 : Int) - 1 from wrap_i64 om om]
  obtain ⟨k26, rfl⟩ : ∃ k : Nat, w16 = (k : Int) := ⟨Int.toNat w16, by omega⟩
  have hlt27 : k26 < ms.length := by omega
  obtain ⟨lS27, cap27, rest27, wr27, eS27, gB27⟩ := hS.isSl hlt27
  have gS27 := g24.at gB27
  have ne28 := apn gB27 op3
  obtain ⟨v27_0, v27_1, v27_2, v27_3, hm27⟩ := partsReading (hr.get hlt27)
  have he27 : ms.getD k26 [] = [.int .i64 v27_0, .int .i16 v27_1, .int .i16 v27_2, .int .i16 v27_3] := by rw [← hm27, List.getD_eq_getElem?_getD, List.getElem?_eq_getElem hlt27]; rfl
  have q29 := q12.app (kL : KdsL [KI, .bool, KI, .int .i16, .int .i16, .int .i16] [.int .i64 (k26 : Int), .bool w19, .int .i64 v27_0, .int .i16 v27_1, .int .i16 v27_2, .int .i16 v27_3])
  refine run_mc (φ := φ0) (pm := pmR 2 [(.ia 4 (n1 0) (nI 7), .ptr 1 0)] 0) 20 (ws := [wf p3 [nI 1, .nd 2 (.int .i16), .nd 3 (.int .i16), .nd 4 (.int .i16)], ⟨lS27, (k26 * 4), [nI 9, .nd 10 (.int .i16), .nd 11 (.int .i16), .nd 12 (.int .i16)], false⟩]) (env := [(12, n1 0), (3, .ptr 0 0), (5, nI 6), (0, n1 0), (14, nI 7), (11, nB 8)]) q29 (.cons (wR r25 q29) (.cons (win_elem hr gS27 hlt27 rfl (by rw [hm27]; exact (dL q29))) .nil)) (sepOk_ro rfl) (.cons (rule_iaS (k := k26) (dE q29) eS27 (dE q29) hlt27 rfl) .nil) (eC q29 (sc B1 (.cons b17 (.cons b20 .nil)))) tb_ok ap_ok ?_
  refine all3 kr ?_ ?_ ?_
  ·
   intro vs ls H30 E30 st hE
   have f31 : ¬ (v27_0 < rt) := df st 0
   have f32 : w19 = true := bf st 1
   obtain ⟨w33, hw33⟩ : ∃ z, z = (IntKind.wrap .i64 ((at11 : Int) - 1)) := ⟨_, rfl⟩
   have b34 : E30 5 = .int .i64 w33 := by rw [hw33]; exact eo st hE 5 _
   have b35 := eo st hE 0 S
   have b36 := eo st hE 3 (.ptr p3 0)
   have g37 : Grew H13 H30 := (gk st)
   have g38 := Grew.trans g24 g37
   have r39 := g37.at r25
   have nw33 : w33 = ((at11 : Int) - 1) := by
    rw [hw33]
    rw [show (IntKind.wrap .i64 ((at11 : Int) - 1)) = (at11 : Int) - 1 from wrap_i64 om om]
   obtain ⟨k41, hk41⟩ : ∃ k : Nat, w33 = (k : Int) := ⟨Int.toNat w33, by omega⟩
   have qf32 := of_decide_eq_true (hw19.symm.trans f32)
   have tm27 : tmR ms k26 = v27_0 := by unfold tmR; rw [he27]; rfl
   have hm9 : k41 < z11 := by omega
   exact res_norm kr ⟨k41, hm9, k41, rfl, b35, b36, (b34.trans (by rw [hk41])), g38, r39, ⟨by omega, fun q c1 c2 => by
      by_cases c3 : q = k41
      ·
       rw [c3, show k41 = k26 by omega]; omega
      ·
       exact hpat11 q om c2⟩⟩
  ·
   intro vs ls H42 E42 st hE
   have f43 : v27_0 < rt := dt st 0
   have f44 : w19 = true := bf st 1
   have B2 := es st hE [(5, .int .i64 (at11 : Int)), (0, S), (12, S), (14, .int .i64 (k26 : Int)), (15, .ptr lS27 ((k26 * 4) + 0)), (16, .ptr lS27 ((k26 * 4) + 0)), (3, .ptr p3 0), (18, .ptr p3 0), (17, .int .i64 v27_0), (19, .int .i64 rt), (11, .bool w19)]
   obtain ⟨w56, hw56⟩ : ∃ z, z = (!(decide (v27_0 < rt))) := ⟨_, rfl⟩
   have b57 : E42 20 = .bool w56 := by rw [hw56]; exact eo st hE 20 _
   have b58 : E42 21 = .bool w56 := by rw [hw56]; exact eo st hE 21 _
   have g59 : Grew H13 H42 := (gk st)
   have g60 := Grew.trans g24 g59
   have r61 := g59.at r25
   have r62 := g59.at gS27
   refine res_exit (id := 0) kr ?_
   have qf44 := of_decide_eq_true (hw19.symm.trans f44)
   have tm27 : tmR ms k26 = v27_0 := by unfold tmR; rw [he27]; rfl
   have tm27 : tmR ms k26 = v27_0 := by unfold tmR; rw [he27]; rfl
   have hx63 : at11 = 0 ∨ tmR ms (at11 - 1) < rt := .inr (by rw [show at11 - 1 = k26 by omega]; omega)
   have q64 := q29.app (kL : KdsL [.bool, KI] [.bool w56, .int .i64 (ms.length : Int)])
   refine run_mc (φ := φ0) (pm := pmR 2 [(.len (n1 0), nI 14)] 0) 20 (ws := [wf p3 [nI 1, .nd 2 (.int .i16), .nd 3 (.int .i16), .nd 4 (.int .i16)], ⟨lS27, (k26 * 4), [nI 9, .nd 10 (.int .i16), .nd 11 (.int .i16), .nd 12 (.int .i16)], false⟩]) (env := [(5, nI 6), (0, n1 0), (12, n1 0), (14, nI 7), (15, .ptr 1 0), (16, .ptr 1 0), (3, .ptr 0 0), (18, .ptr 0 0), (17, nI 9), (19, nI 1), (11, nB 8), (20, nB 13), (21, nB 13)]) q64 (.cons (wR r61 q64) (.cons (win_elem hr r62 hlt27 rfl (by rw [hm27]; exact (dL q64))) .nil)) (sepOk_ro rfl) (.cons (⟨_, _, (dE q64), (dE q64), slLen hS⟩) .nil) (eC q64 (sc B2 (.cons b57 (.cons b58 .nil)))) tb_ok ap_ok ?_
   refine all2 kr ?_ ?_
   ·
    intro vs ls H65 E65 st hE
    have f66 : (at11 : Int) < (ms.length : Int) := dt st 0
    obtain ⟨w70, hw70⟩ : ∃ z, z = (decide ((at11 : Int) < (ms.length : Int))) := ⟨_, rfl⟩
    have b71 : E65 28 = .bool w70 := by rw [hw70]; exact eo st hE 28 _
    have B3 := es st hE [(29, S), (30, .int .i64 (at11 : Int)), (3, .ptr p3 0), (0, S), (5, .int .i64 (at11 : Int))]
    have g74 : Grew H42 H65 := (gk st)
    have g75 := Grew.trans g60 g74
    have r76 := g74.at r61
    have hlt78 : at11 < ms.length := by omega
    obtain ⟨lS78, cap78, rest78, wr78, eS78, gB78⟩ := hS.isSl hlt78
    have gS78 := g75.at gB78
    have ne79 := apn gB78 op3
    obtain ⟨v78_0, v78_1, v78_2, v78_3, hm78⟩ := partsReading (hr.get hlt78)
    have he78 : ms.getD at11 [] = [.int .i64 v78_0, .int .i16 v78_1, .int .i16 v78_2, .int .i16 v78_3] := by rw [← hm78, List.getD_eq_getElem?_getD, List.getElem?_eq_getElem hlt78]; rfl
    have q80 := q64.app (kL : KdsL [.bool, KI, .int .i16, .int .i16, .int .i16] [.bool w70, .int .i64 v78_0, .int .i16 v78_1, .int .i16 v78_2, .int .i16 v78_3])
    refine run_mc (φ := φ0) (pm := pmR 2 [(.ia 4 (n1 0) (nI 6), .ptr 1 0)] 0) 20 (ws := [wf p3 [nI 1, .nd 2 (.int .i16), .nd 3 (.int .i16), .nd 4 (.int .i16)], ⟨lS78, (at11 * 4), [nI 16, .nd 17 (.int .i16), .nd 18 (.int .i16), .nd 19 (.int .i16)], false⟩]) (env := [(29, n1 0), (30, nI 6), (3, .ptr 0 0), (0, n1 0), (5, nI 6), (28, nB 15)]) q80 (.cons (wR r76 q80) (.cons (win_elem hr gS78 hlt78 rfl (by rw [hm78]; exact (dL q80))) .nil)) (sepOk_ro rfl) (.cons (rule_iaS (k := at11) (dE q80) eS78 (dE q80) hlt78 rfl) .nil) (eC q80 (sc B3 (.cons b71 .nil))) tb_ok ap_ok ?_
    refine all3 kr ?_ ?_ ?_
    ·
     intro vs ls H81 E81 st hE
     have f82 : v78_0 = rt := dt st 0
     have f83 : w70 = true := bf st 1
     obtain ⟨p84, e85, r86, n87⟩ := sl_of st.inn hE 38 2 0 0 4 kr (ds := []) kr
     have op84 : H.next ≤ p84 := Nat.le_trans g75.next (oM n87)
     have ne88 := apn r76 (oM n87)
     have ne89 := apn gS78 (oM n87)
     have b90 := eo st hE 39 S
     have B4 := es st hE [(39, S), (3, .ptr p3 0), (0, S), (5, .int .i64 (at11 : Int))]
     have g94 : Grew H65 H81 := (gk st)
     have g95 := Grew.trans g75 g94
     have r96 := g94.at r76
     have sx100 : SlF H81 4 [] (.slice p84 0 0 0 4) := .sl (by simpa using r86) rfl (Nat.le_refl _)
     refine res_append0 (d := (some 40)) (sz := 4) (bytes := 16) (x := .tmp 38) (y := .tmp 39) kr (S := .slice p84 0 0 0 4) (ys := ms) (by show E81 38 = _; exact e85) sx100 (.inr ⟨_, rfl⟩) (by show srcCells _ _ (E81 39) = _; rw [b90]; exact src_list hr.len (hS.grew g95)) (recs_one hr rfl) (by first | omega | (simp only [List.length_append, List.length_cons, List.length_nil, List.length_drop, List.length_take]; omega)) ?_
     intro S98 H99 sS98 fS98 oS98
     have ne101 := aL fS98 r96 (ApartL.of aS)
     have fr102 : FreshS H.next (S98) := fS98.fresh (FreshS.of_le op84) g95.next
     have g103 := Grew.trans g95 oS98
     have r104 := oS98.at r96
     have q106 := q80.app (kL : KdsL [.one] [S98])
     refine rC 1 0 [wf p3 [nI 1, .nd 2 (.int .i16), .nd 3 (.int .i16), .nd 4 (.int .i16)]] [(39, n1 0), (3, .ptr 0 0), (0, n1 0), (5, nI 6), (40, n1 20)] q106 (sc (sp B4) (.cons put_same .nil)) ?_
     refine all1 kr fun vs ls H107 E107 st hE => ?_
     have gz : Grew H H107 := (Grew.trans g103 (gk st))
     have tn9 : tmR ms at11 = v78_0 := by unfold tmR; rw [he78]; rfl
     have qf44 := of_decide_eq_true (hw19.symm.trans f44)
     have qf83 := of_decide_eq_true (hw70.symm.trans f83)
     have l9 : ms = putL ms [.int .i64 rt, .int .i16 rx, .int .i16 ry, .int .i16 rz] := by
      exact (putL_id (n := at11) om (show tmR ms at11 = rt by omega)).symm
     exact re st hE (S98) gz.next ⟨gz, by rw [← l9]; exact (sS98.grew (st.inn.kept.grew (Nat.le_refl _))), fr102⟩
    ·
     intro vs ls H108 E108 st hE
     have f109 : ¬ (v78_0 = rt) := df st 0
     have f110 : w70 = true := bf st 1
     have b111 := eo st hE 43 S
     have b112 := eo st hE 44 (.int .i64 (at11 : Int))
     have B5 := es st hE [(43, S), (44, .int .i64 (at11 : Int)), (41, .agg [.int .i64 rt, .int .i16 rx, .int .i16 ry, .int .i16 rz]), (0, S), (5, .int .i64 (at11 : Int))]
     have g116 : Grew H65 H108 := (gk st)
     have g117 := Grew.trans g75 g116
     obtain ⟨V120, hV120, sV120⟩ := sub_list hr.len hS at11 ms.length om om
     have lV120 : ((ms.take ms.length).drop at11).length ≤ ms.length := by rw [List.length_drop, List.length_take]; omega
     refine res_qM (d := some 45) (op := .slSl 4 (.tmp 43) (some (.tmp 44)) none none) (r := V120) kr rfl (sV120 _ _ 43 (some (.tmp 44)) none b111 (.inr (congrArg some b112)) (.inl ⟨rfl, rfl⟩)) ?_
     have q121 := q80.app (.cons hV120.one .nil : KdsL [.one] [V120])
     refine rC 0 0 [] [(43, n1 0), (44, nI 6), (41, .agg [nI 1, .nd 2 (.int .i16), .nd 3 (.int .i16), .nd 4 (.int .i16)]), (0, n1 0), (5, nI 6), (45, n1 20)] q121 (sc (sp B5) (.cons put_same .nil)) ?_
     refine all1 kr fun vs ls H122 E122 st hE => ?_
     obtain ⟨p123, e124, r125, n126⟩ := sl_of st.inn hE 42 0 1 1 4 kr (ds := [.int .i64 rt, .int .i16 rx, .int .i16 ry, .int .i16 rz]) kr
     have op123 : H.next ≤ p123 := Nat.le_trans g117.next (oM n126)
     have b127 := eo st hE 45 V120
     have B6 := es st hE [(45, V120), (0, S), (5, .int .i64 (at11 : Int))]
     have g130 : Grew H108 H122 := (gk st)
     have g131 := Grew.trans g117 g130
     have sx134 : SlF H122 4 [[.int .i64 rt, .int .i16 rx, .int .i16 ry, .int .i16 rz]] (.slice p123 0 1 1 4) := .sl (by simpa using r125) rfl (Nat.le_refl _)
     refine res_appendK (free := true) (d := (some 46)) (sz := 4) (bytes := 16) (x := .tmp 42) (y := .tmp 45) kr (S := .slice p123 0 1 1 4) (ms := [[.int .i64 rt, .int .i16 rx, .int .i16 ry, .int .i16 rz]]) (ys := ((ms.take ms.length).drop at11)) (by show E122 42 = _; exact e124) sx134 (Recs.one (ks := KR) (.cons kA (.cons kA (.cons kA (.cons kA .nil))))).len (by show srcCells _ _ (E122 45) = _; rw [b127]; exact hV120.src _ g131) (recs_one (part_recs hr) rfl) (by first | omega | (simp only [List.length_append, List.length_cons, List.length_nil, List.length_drop, List.length_take]; omega)) ?_
     intro S132 H133 sS132 fS132 oS132
     have fr135 : FreshS H.next (S132) := fS132.fresh (FreshS.of_le op123) g131.next
     have g136 : Grew H H133 := OnlyS.own g131 (FreshS.of_le op123) oS132
     refine ⟨.inl rfl, ?_⟩
     have q137 := q121.app (kL : KdsL [.one] [S132])
     refine rC 0 0 [] [(45, n1 20), (0, n1 0), (5, nI 6), (46, n1 21)] q137 (sc (sp B6) (.cons put_same .nil)) ?_
     refine all1 kr fun vs ls H138 E138 st hE => ?_
     obtain ⟨p139, e140, r141, n142⟩ := sl_of st.inn hE 47 0 0 0 4 kr (ds := []) kr
     have op139 : H.next ≤ p139 := Nat.le_trans g136.next (oM n142)
     have ne143 : ApartL (S132) p139 := sS132.apart_new (oM n142)
     have b144 := eo st hE 48 S
     have b145 := eo st hE 49 (.int .i64 (at11 : Int))
     have B7 := es st hE [(48, S), (49, .int .i64 (at11 : Int)), (6, S132)]
     have g147 : Grew H133 H138 := (gk st)
     have g148 := Grew.trans g136 g147
     have s149 := sS132.grew g147
     obtain ⟨V150, hV150, sV150⟩ := sub_list hr.len hS 0 at11 om om
     have lV150 : ((ms.take at11).drop 0).length ≤ ms.length := by rw [List.length_drop, List.length_take]; omega
     refine res_q (d := some 50) (op := .slSl 4 (.tmp 48) none (some (.tmp 49)) none) (r := V150) kr rfl (sV150 _ _ 48 none (some (.tmp 49)) b144 (.inl ⟨rfl, rfl⟩) (.inr (congrArg some b145))) ?_
     have q151 := q137.app (.cons hV150.one .nil : KdsL [.one] [V150])
     refine rC 1 0 [wf p139 []] [(48, n1 0), (49, nI 6), (6, n1 21), (47, .sl 0 0 0 0 4), (50, n1 22)] q151 (sc (sp B7) (.cons (put_ne rfl e140) (.cons put_same .nil))) ?_
     refine all1 kr fun vs ls H152 E152 st hE => ?_
     have b153 := eo st hE 47 (.slice p139 0 0 0 4)
     have b154 := eo st hE 50 V150
     have B8 := es st hE [(50, V150), (6, S132)]
     have g156 : Grew H138 H152 := (gk st)
     have g157 := Grew.trans g148 g156
     have r158 := g156.at r141
     have s159 := s149.grew g156
     have sx162 : SlF H152 4 [] (.slice p139 0 0 0 4) := .sl (by simpa using r158) rfl (Nat.le_refl _)
     refine res_append0 (d := (some 51)) (sz := 4) (bytes := 16) (x := .tmp 47) (y := .tmp 50) kr (S := .slice p139 0 0 0 4) (ys := ((ms.take at11).drop 0)) (by show E152 47 = _; exact b153) sx162 (.inr ⟨_, rfl⟩) (by show srcCells _ _ (E152 50) = _; rw [b154]; exact hV150.src _ g157) (recs_one (part_recs hr) rfl) (by first | omega | (simp only [List.length_append, List.length_cons, List.length_nil, List.length_drop, List.length_take]; omega)) ?_
     intro S160 H161 sS160 fS160 oS160
     have ne163 : ApartS (S160) (S132) := fS160.apartS s159.lt (ApartS.of (l := p139) am)
     have fr164 : FreshS H.next (S160) := fS160.fresh (FreshS.of_le op139) g157.next
     have g165 := Grew.trans g157 oS160
     have s167 := s159.grew oS160
     have q168 := q151.app (kL : KdsL [.one] [S160])
     refine rC 0 0 [] [(50, n1 22), (6, n1 21), (51, n1 23)] q168 (sc (sp B8) (.cons put_same .nil)) ?_
     refine all1 kr fun vs ls H169 E169 st hE => ?_
     have b170 := eo st hE 51 S160
     have b171 := eo st hE 52 S132
     have B9 := es st hE [(51, S160), (52, S132)]
     have g172 : Grew H161 H169 := (gk st)
     have g173 := Grew.trans g165 g172
     have s174 := s167.grew g172
     have s175 := sS160.grew g172
     refine res_append (d := (some 53)) (sz := 4) (bytes := 16) (x := .tmp 51) (y := .tmp 52) kr (S := S160) (ms := ((ms.take at11).drop 0)) (ys := ([[.int .i64 rt, .int .i16 rx, .int .i16 ry, .int .i16 rz]] ++ ((ms.take ms.length).drop at11))) (by show E169 51 = _; exact b170) s175 (part_recs hr).len (by show srcCells _ _ (E169 52) = _; rw [b171]; exact src_list (Recs.append (Recs.one (ks := KR) (.cons kA (.cons kA (.cons kA (.cons kA .nil))))) (part_recs hr)).len s174.toL) (recs_one (Recs.append (Recs.one (ks := KR) (.cons kA (.cons kA (.cons kA (.cons kA .nil))))) (part_recs hr)) rfl) (by first | omega | (simp only [List.length_append, List.length_cons, List.length_nil, List.length_drop, List.length_take]; omega)) ?_
     intro S176 H177 sS176 fS176 oS176
     have ne178 : ApartS (S176) (S132) := fS176.apartS s174.lt (by first | assumption | exact ApartS.symm am)
     have fr179 : FreshS H.next (S176) := fS176.fresh fr164 g173.next
     have g180 : Grew H H177 := OnlyS.own g173 fr164 oS176
     have q182 := q168.app (kL : KdsL [.one] [S176])
     refine rC 0 0 [] [(51, n1 23), (52, n1 21), (53, n1 24)] q182 (sc (sp B9) (.cons put_same .nil)) ?_
     refine all1 kr fun vs ls H183 E183 st hE => ?_
     have gz : Grew H H183 := (Grew.trans g180 (gk st))
     have tn9 : tmR ms at11 = v78_0 := by unfold tmR; rw [he78]; rfl
     have qf44 := of_decide_eq_true (hw19.symm.trans f44)
     have qf110 := of_decide_eq_true (hw70.symm.trans f110)
     have l9 : (((ms.take at11).drop 0) ++ ([[.int .i64 rt, .int .i16 rx, .int .i16 ry, .int .i16 rz]] ++ ((ms.take ms.length).drop at11))) = putL ms [.int .i64 rt, .int .i16 rx, .int .i16 ry, .int .i16 rz] := by
      rw [putL_in (n := at11) (m := [.int .i64 rt, .int .i16 rx, .int .i16 ry, .int .i16 rz]) hA haat11 hx63 hpat11 (fun c9 => show tmR ms at11 ≠ rt by omega)]; exact parts_in _ _ _
     exact re st hE (S176) gz.next ⟨gz, by rw [← l9]; exact (sS176.grew (st.inn.kept.grew (Nat.le_refl _))), fr179⟩
    ·
     intro vs ls H184 E184 st hE
     have f185 : w70 = false := bf st 0
     have b186 := eo st hE 43 S
     have b187 := eo st hE 44 (.int .i64 (at11 : Int))
     have B10 := es st hE [(43, S), (44, .int .i64 (at11 : Int)), (41, .agg [.int .i64 rt, .int .i16 rx, .int .i16 ry, .int .i16 rz]), (0, S), (5, .int .i64 (at11 : Int))]
     have g191 : Grew H65 H184 := (gk st)
     have g192 := Grew.trans g75 g191
     obtain ⟨V195, hV195, sV195⟩ := sub_list hr.len hS at11 ms.length om om
     have lV195 : ((ms.take ms.length).drop at11).length ≤ ms.length := by rw [List.length_drop, List.length_take]; omega
     refine res_qM (d := some 45) (op := .slSl 4 (.tmp 43) (some (.tmp 44)) none none) (r := V195) kr rfl (sV195 _ _ 43 (some (.tmp 44)) none b186 (.inr (congrArg some b187)) (.inl ⟨rfl, rfl⟩)) ?_
     have q196 := q80.app (.cons hV195.one .nil : KdsL [.one] [V195])
     refine rC 0 0 [] [(43, n1 0), (44, nI 6), (41, .agg [nI 1, .nd 2 (.int .i16), .nd 3 (.int .i16), .nd 4 (.int .i16)]), (0, n1 0), (5, nI 6), (45, n1 20)] q196 (sc (sp B10) (.cons put_same .nil)) ?_
     refine all1 kr fun vs ls H197 E197 st hE => ?_
     obtain ⟨p198, e199, r200, n201⟩ := sl_of st.inn hE 42 0 1 1 4 kr (ds := [.int .i64 rt, .int .i16 rx, .int .i16 ry, .int .i16 rz]) kr
     have op198 : H.next ≤ p198 := Nat.le_trans g192.next (oM n201)
     have b202 := eo st hE 45 V195
     have B11 := es st hE [(45, V195), (0, S), (5, .int .i64 (at11 : Int))]
     have g205 : Grew H184 H197 := (gk st)
     have g206 := Grew.trans g192 g205
     have sx209 : SlF H197 4 [[.int .i64 rt, .int .i16 rx, .int .i16 ry, .int .i16 rz]] (.slice p198 0 1 1 4) := .sl (by simpa using r200) rfl (Nat.le_refl _)
     refine res_appendK (free := true) (d := (some 46)) (sz := 4) (bytes := 16) (x := .tmp 42) (y := .tmp 45) kr (S := .slice p198 0 1 1 4) (ms := [[.int .i64 rt, .int .i16 rx, .int .i16 ry, .int .i16 rz]]) (ys := ((ms.take ms.length).drop at11)) (by show E197 42 = _; exact e199) sx209 (Recs.one (ks := KR) (.cons kA (.cons kA (.cons kA (.cons kA .nil))))).len (by show srcCells _ _ (E197 45) = _; rw [b202]; exact hV195.src _ g206) (recs_one (part_recs hr) rfl) (by first | omega | (simp only [List.length_append, List.length_cons, List.length_nil, List.length_drop, List.length_take]; omega)) ?_
     intro S207 H208 sS207 fS207 oS207
     have fr210 : FreshS H.next (S207) := fS207.fresh (FreshS.of_le op198) g206.next
     have g211 : Grew H H208 := OnlyS.own g206 (FreshS.of_le op198) oS207
     refine ⟨.inl rfl, ?_⟩
     have q212 := q196.app (kL : KdsL [.one] [S207])
     refine rC 0 0 [] [(45, n1 20), (0, n1 0), (5, nI 6), (46, n1 21)] q212 (sc (sp B11) (.cons put_same .nil)) ?_
     refine all1 kr fun vs ls H213 E213 st hE => ?_
     obtain ⟨p214, e215, r216, n217⟩ := sl_of st.inn hE 47 0 0 0 4 kr (ds := []) kr
     have op214 : H.next ≤ p214 := Nat.le_trans g211.next (oM n217)
     have ne218 : ApartL (S207) p214 := sS207.apart_new (oM n217)
     have b219 := eo st hE 48 S
     have b220 := eo st hE 49 (.int .i64 (at11 : Int))
     have B12 := es st hE [(48, S), (49, .int .i64 (at11 : Int)), (6, S207)]
     have g222 : Grew H208 H213 := (gk st)
     have g223 := Grew.trans g211 g222
     have s224 := sS207.grew g222
     obtain ⟨V225, hV225, sV225⟩ := sub_list hr.len hS 0 at11 om om
     have lV225 : ((ms.take at11).drop 0).length ≤ ms.length := by rw [List.length_drop, List.length_take]; omega
     refine res_q (d := some 50) (op := .slSl 4 (.tmp 48) none (some (.tmp 49)) none) (r := V225) kr rfl (sV225 _ _ 48 none (some (.tmp 49)) b219 (.inl ⟨rfl, rfl⟩) (.inr (congrArg some b220))) ?_
     have q226 := q212.app (.cons hV225.one .nil : KdsL [.one] [V225])
     refine rC 1 0 [wf p214 []] [(48, n1 0), (49, nI 6), (6, n1 21), (47, .sl 0 0 0 0 4), (50, n1 22)] q226 (sc (sp B12) (.cons (put_ne rfl e215) (.cons put_same .nil))) ?_
     refine all1 kr fun vs ls H227 E227 st hE => ?_
     have b228 := eo st hE 47 (.slice p214 0 0 0 4)
     have b229 := eo st hE 50 V225
     have B13 := es st hE [(50, V225), (6, S207)]
     have g231 : Grew H213 H227 := (gk st)
     have g232 := Grew.trans g223 g231
     have r233 := g231.at r216
     have s234 := s224.grew g231
     have sx237 : SlF H227 4 [] (.slice p214 0 0 0 4) := .sl (by simpa using r233) rfl (Nat.le_refl _)
     refine res_append0 (d := (some 51)) (sz := 4) (bytes := 16) (x := .tmp 47) (y := .tmp 50) kr (S := .slice p214 0 0 0 4) (ys := ((ms.take at11).drop 0)) (by show E227 47 = _; exact b228) sx237 (.inr ⟨_, rfl⟩) (by show srcCells _ _ (E227 50) = _; rw [b229]; exact hV225.src _ g232) (recs_one (part_recs hr) rfl) (by first | omega | (simp only [List.length_append, List.length_cons, List.length_nil, List.length_drop, List.length_take]; omega)) ?_
     intro S235 H236 sS235 fS235 oS235
     have ne238 : ApartS (S235) (S207) := fS235.apartS s234.lt (ApartS.of (l := p214) am)
     have fr239 : FreshS H.next (S235) := fS235.fresh (FreshS.of_le op214) g232.next
     have g240 := Grew.trans g232 oS235
     have s242 := s234.grew oS235
     have q243 := q226.app (kL : KdsL [.one] [S235])
     refine rC 0 0 [] [(50, n1 22), (6, n1 21), (51, n1 23)] q243 (sc (sp B13) (.cons put_same .nil)) ?_
     refine all1 kr fun vs ls H244 E244 st hE => ?_
     have b245 := eo st hE 51 S235
     have b246 := eo st hE 52 S207
     have B14 := es st hE [(51, S235), (52, S207)]
     have g247 : Grew H236 H244 := (gk st)
     have g248 := Grew.trans g240 g247
     have s249 := s242.grew g247
     have s250 := sS235.grew g247
     refine res_append (d := (some 53)) (sz := 4) (bytes := 16) (x := .tmp 51) (y := .tmp 52) kr (S := S235) (ms := ((ms.take at11).drop 0)) (ys := ([[.int .i64 rt, .int .i16 rx, .int .i16 ry, .int .i16 rz]] ++ ((ms.take ms.length).drop at11))) (by show E244 51 = _; exact b245) s250 (part_recs hr).len (by show srcCells _ _ (E244 52) = _; rw [b246]; exact src_list (Recs.append (Recs.one (ks := KR) (.cons kA (.cons kA (.cons kA (.cons kA .nil))))) (part_recs hr)).len s249.toL) (recs_one (Recs.append (Recs.one (ks := KR) (.cons kA (.cons kA (.cons kA (.cons kA .nil))))) (part_recs hr)) rfl) (by first | omega | (simp only [List.length_append, List.length_cons, List.length_nil, List.length_drop, List.length_take]; omega)) ?_
     intro S251 H252 sS251 fS251 oS251
     have ne253 : ApartS (S251) (S207) := fS251.apartS s249.lt (by first | assumption | exact ApartS.symm am)
     have fr254 : FreshS H.next (S251) := fS251.fresh fr239 g248.next
     have g255 : Grew H H252 := OnlyS.own g248 fr239 oS251
     have q257 := q243.app (kL : KdsL [.one] [S251])
     refine rC 0 0 [] [(51, n1 23), (52, n1 21), (53, n1 24)] q257 (sc (sp B14) (.cons put_same .nil)) ?_
     refine all1 kr fun vs ls H258 E258 st hE => ?_
     have gz : Grew H H258 := (Grew.trans g255 (gk st))
     have tn9 : tmR ms at11 = v78_0 := by unfold tmR; rw [he78]; rfl
     have qf44 := of_decide_eq_true (hw19.symm.trans f44)
     have qf185 := of_decide_eq_false (hw70.symm.trans f185)
     have l9 : (((ms.take at11).drop 0) ++ ([[.int .i64 rt, .int .i16 rx, .int .i16 ry, .int .i16 rz]] ++ ((ms.take ms.length).drop at11))) = putL ms [.int .i64 rt, .int .i16 rx, .int .i16 ry, .int .i16 rz] := by
      rw [putL_in (n := at11) (m := [.int .i64 rt, .int .i16 rx, .int .i16 ry, .int .i16 rz]) hA haat11 hx63 hpat11 (fun c9 => show tmR ms at11 ≠ rt by omega)]; exact parts_in _ _ _
     exact re st hE (S251) gz.next ⟨gz, by rw [← l9]; exact (sS251.grew (st.inn.kept.grew (Nat.le_refl _))), fr254⟩
   ·
    intro vs ls H259 E259 st hE
    have f260 : ¬ ((at11 : Int) < (ms.length : Int)) := df st 0
    have b261 := eo st hE 43 S
    have b262 := eo st hE 44 (.int .i64 (at11 : Int))
    have B15 := es st hE [(43, S), (44, .int .i64 (at11 : Int)), (41, .agg [.int .i64 rt, .int .i16 rx, .int .i16 ry, .int .i16 rz]), (0, S), (5, .int .i64 (at11 : Int))]
    have g266 : Grew H42 H259 := (gk st)
    have g267 := Grew.trans g60 g266
    obtain ⟨V270, hV270, sV270⟩ := sub_list hr.len hS at11 ms.length om om
    have lV270 : ((ms.take ms.length).drop at11).length ≤ ms.length := by rw [List.length_drop, List.length_take]; omega
    refine res_qM (d := some 45) (op := .slSl 4 (.tmp 43) (some (.tmp 44)) none none) (r := V270) kr rfl (sV270 _ _ 43 (some (.tmp 44)) none b261 (.inr (congrArg some b262)) (.inl ⟨rfl, rfl⟩)) ?_
    have q271 := q64.app (.cons hV270.one .nil : KdsL [.one] [V270])
    refine rC 0 0 [] [(43, n1 0), (44, nI 6), (41, .agg [nI 1, .nd 2 (.int .i16), .nd 3 (.int .i16), .nd 4 (.int .i16)]), (0, n1 0), (5, nI 6), (45, n1 15)] q271 (sc (sp B15) (.cons put_same .nil)) ?_
    refine all1 kr fun vs ls H272 E272 st hE => ?_
    obtain ⟨p273, e274, r275, n276⟩ := sl_of st.inn hE 42 0 1 1 4 kr (ds := [.int .i64 rt, .int .i16 rx, .int .i16 ry, .int .i16 rz]) kr
    have op273 : H.next ≤ p273 := Nat.le_trans g267.next (oM n276)
    have b277 := eo st hE 45 V270
    have B16 := es st hE [(45, V270), (0, S), (5, .int .i64 (at11 : Int))]
    have g280 : Grew H259 H272 := (gk st)
    have g281 := Grew.trans g267 g280
    have sx284 : SlF H272 4 [[.int .i64 rt, .int .i16 rx, .int .i16 ry, .int .i16 rz]] (.slice p273 0 1 1 4) := .sl (by simpa using r275) rfl (Nat.le_refl _)
    refine res_appendK (free := true) (d := (some 46)) (sz := 4) (bytes := 16) (x := .tmp 42) (y := .tmp 45) kr (S := .slice p273 0 1 1 4) (ms := [[.int .i64 rt, .int .i16 rx, .int .i16 ry, .int .i16 rz]]) (ys := ((ms.take ms.length).drop at11)) (by show E272 42 = _; exact e274) sx284 (Recs.one (ks := KR) (.cons kA (.cons kA (.cons kA (.cons kA .nil))))).len (by show srcCells _ _ (E272 45) = _; rw [b277]; exact hV270.src _ g281) (recs_one (part_recs hr) rfl) (by first | omega | (simp only [List.length_append, List.length_cons, List.length_nil, List.length_drop, List.length_take]; omega)) ?_
    intro S282 H283 sS282 fS282 oS282
    have fr285 : FreshS H.next (S282) := fS282.fresh (FreshS.of_le op273) g281.next
    have g286 : Grew H H283 := OnlyS.own g281 (FreshS.of_le op273) oS282
    refine ⟨.inl rfl, ?_⟩
    have q287 := q271.app (kL : KdsL [.one] [S282])
    refine rC 0 0 [] [(45, n1 15), (0, n1 0), (5, nI 6), (46, n1 16)] q287 (sc (sp B16) (.cons put_same .nil)) ?_
    refine all1 kr fun vs ls H288 E288 st hE => ?_
    obtain ⟨p289, e290, r291, n292⟩ := sl_of st.inn hE 47 0 0 0 4 kr (ds := []) kr
    have op289 : H.next ≤ p289 := Nat.le_trans g286.next (oM n292)
    have ne293 : ApartL (S282) p289 := sS282.apart_new (oM n292)
    have b294 := eo st hE 48 S
    have b295 := eo st hE 49 (.int .i64 (at11 : Int))
    have B17 := es st hE [(48, S), (49, .int .i64 (at11 : Int)), (6, S282)]
    have g297 : Grew H283 H288 := (gk st)
    have g298 := Grew.trans g286 g297
    have s299 := sS282.grew g297
    obtain ⟨V300, hV300, sV300⟩ := sub_list hr.len hS 0 at11 om om
    have lV300 : ((ms.take at11).drop 0).length ≤ ms.length := by rw [List.length_drop, List.length_take]; omega
    refine res_q (d := some 50) (op := .slSl 4 (.tmp 48) none (some (.tmp 49)) none) (r := V300) kr rfl (sV300 _ _ 48 none (some (.tmp 49)) b294 (.inl ⟨rfl, rfl⟩) (.inr (congrArg some b295))) ?_
    have q301 := q287.app (.cons hV300.one .nil : KdsL [.one] [V300])
    refine rC 1 0 [wf p289 []] [(48, n1 0), (49, nI 6), (6, n1 16), (47, .sl 0 0 0 0 4), (50, n1 17)] q301 (sc (sp B17) (.cons (put_ne rfl e290) (.cons put_same .nil))) ?_
    refine all1 kr fun vs ls H302 E302 st hE => ?_
    have b303 := eo st hE 47 (.slice p289 0 0 0 4)
    have b304 := eo st hE 50 V300
    have B18 := es st hE [(50, V300), (6, S282)]
    have g306 : Grew H288 H302 := (gk st)
    have g307 := Grew.trans g298 g306
    have r308 := g306.at r291
    have s309 := s299.grew g306
    have sx312 : SlF H302 4 [] (.slice p289 0 0 0 4) := .sl (by simpa using r308) rfl (Nat.le_refl _)
    refine res_append0 (d := (some 51)) (sz := 4) (bytes := 16) (x := .tmp 47) (y := .tmp 50) kr (S := .slice p289 0 0 0 4) (ys := ((ms.take at11).drop 0)) (by show E302 47 = _; exact b303) sx312 (.inr ⟨_, rfl⟩) (by show srcCells _ _ (E302 50) = _; rw [b304]; exact hV300.src _ g307) (recs_one (part_recs hr) rfl) (by first | omega | (simp only [List.length_append, List.length_cons, List.length_nil, List.length_drop, List.length_take]; omega)) ?_
    intro S310 H311 sS310 fS310 oS310
    have ne313 : ApartS (S310) (S282) := fS310.apartS s309.lt (ApartS.of (l := p289) am)
    have fr314 : FreshS H.next (S310) := fS310.fresh (FreshS.of_le op289) g307.next
    have g315 := Grew.trans g307 oS310
    have s317 := s309.grew oS310
    have q318 := q301.app (kL : KdsL [.one] [S310])
    refine rC 0 0 [] [(50, n1 17), (6, n1 16), (51, n1 18)] q318 (sc (sp B18) (.cons put_same .nil)) ?_
    refine all1 kr fun vs ls H319 E319 st hE => ?_
    have b320 := eo st hE 51 S310
    have b321 := eo st hE 52 S282
    have B19 := es st hE [(51, S310), (52, S282)]
    have g322 : Grew H311 H319 := (gk st)
    have g323 := Grew.trans g315 g322
    have s324 := s317.grew g322
    have s325 := sS310.grew g322
    refine res_append (d := (some 53)) (sz := 4) (bytes := 16) (x := .tmp 51) (y := .tmp 52) kr (S := S310) (ms := ((ms.take at11).drop 0)) (ys := ([[.int .i64 rt, .int .i16 rx, .int .i16 ry, .int .i16 rz]] ++ ((ms.take ms.length).drop at11))) (by show E319 51 = _; exact b320) s325 (part_recs hr).len (by show srcCells _ _ (E319 52) = _; rw [b321]; exact src_list (Recs.append (Recs.one (ks := KR) (.cons kA (.cons kA (.cons kA (.cons kA .nil))))) (part_recs hr)).len s324.toL) (recs_one (Recs.append (Recs.one (ks := KR) (.cons kA (.cons kA (.cons kA (.cons kA .nil))))) (part_recs hr)) rfl) (by first | omega | (simp only [List.length_append, List.length_cons, List.length_nil, List.length_drop, List.length_take]; omega)) ?_
    intro S326 H327 sS326 fS326 oS326
    have ne328 : ApartS (S326) (S282) := fS326.apartS s324.lt (by first | assumption | exact ApartS.symm am)
    have fr329 : FreshS H.next (S326) := fS326.fresh fr314 g323.next
    have g330 : Grew H H327 := OnlyS.own g323 fr314 oS326
    have q332 := q318.app (kL : KdsL [.one] [S326])
    refine rC 0 0 [] [(51, n1 18), (52, n1 16), (53, n1 19)] q332 (sc (sp B19) (.cons put_same .nil)) ?_
    refine all1 kr fun vs ls H333 E333 st hE => ?_
    have gz : Grew H H333 := (Grew.trans g330 (gk st))
    have qf44 := of_decide_eq_true (hw19.symm.trans f44)
    have l9 : (((ms.take at11).drop 0) ++ ([[.int .i64 rt, .int .i16 rx, .int .i16 ry, .int .i16 rz]] ++ ((ms.take ms.length).drop at11))) = putL ms [.int .i64 rt, .int .i16 rx, .int .i16 ry, .int .i16 rz] := by
     rw [putL_in (n := at11) (m := [.int .i64 rt, .int .i16 rx, .int .i16 ry, .int .i16 rz]) hA haat11 hx63 hpat11 (fun c9 => show tmR ms at11 ≠ rt by omega)]; exact parts_in _ _ _
    exact re st hE (S326) gz.next ⟨gz, by rw [← l9]; exact (sS326.grew (st.inn.kept.grew (Nat.le_refl _))), fr329⟩
  ·
   intro vs ls H334 E334 st hE
   have f335 : w19 = false := bf st 0
   have B20 := es st hE [(5, .int .i64 (at11 : Int)), (0, S), (12, S), (14, .int .i64 (k26 : Int)), (15, .undef), (16, .undef), (3, .ptr p3 0), (18, .undef), (17, .undef), (19, .undef), (11, .bool w19), (20, .undef), (21, .bool false)]
   have g349 : Grew H13 H334 := (gk st)
   have g350 := Grew.trans g24 g349
   have r351 := g349.at r25
   refine res_exit (id := 0) kr ?_
   have qf335 := of_decide_eq_false (hw19.symm.trans f335)
   have tm27 : tmR ms k26 = v27_0 := by unfold tmR; rw [he27]; rfl
   have tm27 : tmR ms k26 = v27_0 := by unfold tmR; rw [he27]; rfl
   have hx353 : at11 = 0 ∨ tmR ms (at11 - 1) < rt := .inr (by rw [show at11 - 1 = k26 by omega]; omega)
   have q354 := q29.app (kL : KdsL [KI] [.int .i64 (ms.length : Int)])
   refine rD 1 0 [(.len (n1 0), nI 13)] [wf p3 [nI 1, .nd 2 (.int .i16), .nd 3 (.int .i16), .nd 4 (.int .i16)]] [(5, nI 6), (0, n1 0), (12, n1 0), (14, nI 7), (15, .lit .undef), (16, .lit .undef), (3, .ptr 0 0), (18, .lit .undef), (17, .lit .undef), (19, .lit .undef), (11, nB 8), (20, .lit .undef), (21, .lit (.bool false))] q354 (.cons (⟨_, _, (dE q354), (dE q354), slLen hS⟩) .nil) B20 ?_
   refine all2 kr ?_ ?_
   ·
    intro vs ls H355 E355 st hE
    have f356 : (at11 : Int) < (ms.length : Int) := dt st 0
    obtain ⟨w360, hw360⟩ : ∃ z, z = (decide ((at11 : Int) < (ms.length : Int))) := ⟨_, rfl⟩
    have b361 : E355 28 = .bool w360 := by rw [hw360]; exact eo st hE 28 _
    have B21 := es st hE [(29, S), (30, .int .i64 (at11 : Int)), (3, .ptr p3 0), (0, S), (5, .int .i64 (at11 : Int))]
    have g364 : Grew H334 H355 := (gk st)
    have g365 := Grew.trans g350 g364
    have r366 := g364.at r351
    have hlt367 : at11 < ms.length := by omega
    obtain ⟨lS367, cap367, rest367, wr367, eS367, gB367⟩ := hS.isSl hlt367
    have gS367 := g365.at gB367
    have ne368 := apn gB367 op3
    obtain ⟨v367_0, v367_1, v367_2, v367_3, hm367⟩ := partsReading (hr.get hlt367)
    have he367 : ms.getD at11 [] = [.int .i64 v367_0, .int .i16 v367_1, .int .i16 v367_2, .int .i16 v367_3] := by rw [← hm367, List.getD_eq_getElem?_getD, List.getElem?_eq_getElem hlt367]; rfl
    have q369 := q354.app (kL : KdsL [.bool, KI, .int .i16, .int .i16, .int .i16] [.bool w360, .int .i64 v367_0, .int .i16 v367_1, .int .i16 v367_2, .int .i16 v367_3])
    refine run_mc (φ := φ0) (pm := pmR 2 [(.ia 4 (n1 0) (nI 6), .ptr 1 0)] 0) 20 (ws := [wf p3 [nI 1, .nd 2 (.int .i16), .nd 3 (.int .i16), .nd 4 (.int .i16)], ⟨lS367, (at11 * 4), [nI 15, .nd 16 (.int .i16), .nd 17 (.int .i16), .nd 18 (.int .i16)], false⟩]) (env := [(29, n1 0), (30, nI 6), (3, .ptr 0 0), (0, n1 0), (5, nI 6), (28, nB 14)]) q369 (.cons (wR r366 q369) (.cons (win_elem hr gS367 hlt367 rfl (by rw [hm367]; exact (dL q369))) .nil)) (sepOk_ro rfl) (.cons (rule_iaS (k := at11) (dE q369) eS367 (dE q369) hlt367 rfl) .nil) (eC q369 (sc B21 (.cons b361 .nil))) tb_ok ap_ok ?_
    refine all3 kr ?_ ?_ ?_
    ·
     intro vs ls H370 E370 st hE
     have f371 : v367_0 = rt := dt st 0
     have f372 : w360 = true := bf st 1
     obtain ⟨p373, e374, r375, n376⟩ := sl_of st.inn hE 38 2 0 0 4 kr (ds := []) kr
     have op373 : H.next ≤ p373 := Nat.le_trans g365.next (oM n376)
     have ne377 := apn r366 (oM n376)
     have ne378 := apn gS367 (oM n376)
     have b379 := eo st hE 39 S
     have B22 := es st hE [(39, S), (3, .ptr p3 0), (0, S), (5, .int .i64 (at11 : Int))]
     have g383 : Grew H355 H370 := (gk st)
     have g384 := Grew.trans g365 g383
     have r385 := g383.at r366
     have sx389 : SlF H370 4 [] (.slice p373 0 0 0 4) := .sl (by simpa using r375) rfl (Nat.le_refl _)
     refine res_append0 (d := (some 40)) (sz := 4) (bytes := 16) (x := .tmp 38) (y := .tmp 39) kr (S := .slice p373 0 0 0 4) (ys := ms) (by show E370 38 = _; exact e374) sx389 (.inr ⟨_, rfl⟩) (by show srcCells _ _ (E370 39) = _; rw [b379]; exact src_list hr.len (hS.grew g384)) (recs_one hr rfl) (by first | omega | (simp only [List.length_append, List.length_cons, List.length_nil, List.length_drop, List.length_take]; omega)) ?_
     intro S387 H388 sS387 fS387 oS387
     have ne390 := aL fS387 r385 (ApartL.of aS)
     have fr391 : FreshS H.next (S387) := fS387.fresh (FreshS.of_le op373) g384.next
     have g392 := Grew.trans g384 oS387
     have r393 := oS387.at r385
     have q395 := q369.app (kL : KdsL [.one] [S387])
     refine rC 1 0 [wf p3 [nI 1, .nd 2 (.int .i16), .nd 3 (.int .i16), .nd 4 (.int .i16)]] [(39, n1 0), (3, .ptr 0 0), (0, n1 0), (5, nI 6), (40, n1 19)] q395 (sc (sp B22) (.cons put_same .nil)) ?_
     refine all1 kr fun vs ls H396 E396 st hE => ?_
     have gz : Grew H H396 := (Grew.trans g392 (gk st))
     have tn9 : tmR ms at11 = v367_0 := by unfold tmR; rw [he367]; rfl
     have qf335 := of_decide_eq_false (hw19.symm.trans f335)
     have qf372 := of_decide_eq_true (hw360.symm.trans f372)
     have l9 : ms = putL ms [.int .i64 rt, .int .i16 rx, .int .i16 ry, .int .i16 rz] := by
      exact (putL_id (n := at11) om (show tmR ms at11 = rt by omega)).symm
     exact re st hE (S387) gz.next ⟨gz, by rw [← l9]; exact (sS387.grew (st.inn.kept.grew (Nat.le_refl _))), fr391⟩
    ·
     intro vs ls H397 E397 st hE
     have f398 : ¬ (v367_0 = rt) := df st 0
     have f399 : w360 = true := bf st 1
     have b400 := eo st hE 43 S
     have b401 := eo st hE 44 (.int .i64 (at11 : Int))
     have B23 := es st hE [(43, S), (44, .int .i64 (at11 : Int)), (41, .agg [.int .i64 rt, .int .i16 rx, .int .i16 ry, .int .i16 rz]), (0, S), (5, .int .i64 (at11 : Int))]
     have g405 : Grew H355 H397 := (gk st)
     have g406 := Grew.trans g365 g405
     obtain ⟨V409, hV409, sV409⟩ := sub_list hr.len hS at11 ms.length om om
     have lV409 : ((ms.take ms.length).drop at11).length ≤ ms.length := by rw [List.length_drop, List.length_take]; omega
     refine res_qM (d := some 45) (op := .slSl 4 (.tmp 43) (some (.tmp 44)) none none) (r := V409) kr rfl (sV409 _ _ 43 (some (.tmp 44)) none b400 (.inr (congrArg some b401)) (.inl ⟨rfl, rfl⟩)) ?_
     have q410 := q369.app (.cons hV409.one .nil : KdsL [.one] [V409])
     refine rC 0 0 [] [(43, n1 0), (44, nI 6), (41, .agg [nI 1, .nd 2 (.int .i16), .nd 3 (.int .i16), .nd 4 (.int .i16)]), (0, n1 0), (5, nI 6), (45, n1 19)] q410 (sc (sp B23) (.cons put_same .nil)) ?_
     refine all1 kr fun vs ls H411 E411 st hE => ?_
     obtain ⟨p412, e413, r414, n415⟩ := sl_of st.inn hE 42 0 1 1 4 kr (ds := [.int .i64 rt, .int .i16 rx, .int .i16 ry, .int .i16 rz]) kr
     have op412 : H.next ≤ p412 := Nat.le_trans g406.next (oM n415)
     have b416 := eo st hE 45 V409
     have B24 := es st hE [(45, V409), (0, S), (5, .int .i64 (at11 : Int))]
     have g419 : Grew H397 H411 := (gk st)
     have g420 := Grew.trans g406 g419
     have sx423 : SlF H411 4 [[.int .i64 rt, .int .i16 rx, .int .i16 ry, .int .i16 rz]] (.slice p412 0 1 1 4) := .sl (by simpa using r414) rfl (Nat.le_refl _)
     refine res_appendK (free := true) (d := (some 46)) (sz := 4) (bytes := 16) (x := .tmp 42) (y := .tmp 45) kr (S := .slice p412 0 1 1 4) (ms := [[.int .i64 rt, .int .i16 rx, .int .i16 ry, .int .i16 rz]]) (ys := ((ms.take ms.length).drop at11)) (by show E411 42 = _; exact e413) sx423 (Recs.one (ks := KR) (.cons kA (.cons kA (.cons kA (.cons kA .nil))))).len (by show srcCells _ _ (E411 45) = _; rw [b416]; exact hV409.src _ g420) (recs_one (part_recs hr) rfl) (by first | omega | (simp only [List.length_append, List.length_cons, List.length_nil, List.length_drop, List.length_take]; omega)) ?_
     intro S421 H422 sS421 fS421 oS421
     have fr424 : FreshS H.next (S421) := fS421.fresh (FreshS.of_le op412) g420.next
     have g425 : Grew H H422 := OnlyS.own g420 (FreshS.of_le op412) oS421
     refine ⟨.inl rfl, ?_⟩
     have q426 := q410.app (kL : KdsL [.one] [S421])
     refine rC 0 0 [] [(45, n1 19), (0, n1 0), (5, nI 6), (46, n1 20)] q426 (sc (sp B24) (.cons put_same .nil)) ?_
     refine all1 kr fun vs ls H427 E427 st hE => ?_
     obtain ⟨p428, e429, r430, n431⟩ := sl_of st.inn hE 47 0 0 0 4 kr (ds := []) kr
     have op428 : H.next ≤ p428 := Nat.le_trans g425.next (oM n431)
     have ne432 : ApartL (S421) p428 := sS421.apart_new (oM n431)
     have b433 := eo st hE 48 S
     have b434 := eo st hE 49 (.int .i64 (at11 : Int))
     have B25 := es st hE [(48, S), (49, .int .i64 (at11 : Int)), (6, S421)]
     have g436 : Grew H422 H427 := (gk st)
     have g437 := Grew.trans g425 g436
     have s438 := sS421.grew g436
     obtain ⟨V439, hV439, sV439⟩ := sub_list hr.len hS 0 at11 om om
     have lV439 : ((ms.take at11).drop 0).length ≤ ms.length := by rw [List.length_drop, List.length_take]; omega
     refine res_q (d := some 50) (op := .slSl 4 (.tmp 48) none (some (.tmp 49)) none) (r := V439) kr rfl (sV439 _ _ 48 none (some (.tmp 49)) b433 (.inl ⟨rfl, rfl⟩) (.inr (congrArg some b434))) ?_
     have q440 := q426.app (.cons hV439.one .nil : KdsL [.one] [V439])
     refine rC 1 0 [wf p428 []] [(48, n1 0), (49, nI 6), (6, n1 20), (47, .sl 0 0 0 0 4), (50, n1 21)] q440 (sc (sp B25) (.cons (put_ne rfl e429) (.cons put_same .nil))) ?_
     refine all1 kr fun vs ls H441 E441 st hE => ?_
     have b442 := eo st hE 47 (.slice p428 0 0 0 4)
     have b443 := eo st hE 50 V439
     have B26 := es st hE [(50, V439), (6, S421)]
     have g445 : Grew H427 H441 := (gk st)
     have g446 := Grew.trans g437 g445
     have r447 := g445.at r430
     have s448 := s438.grew g445
     have sx451 : SlF H441 4 [] (.slice p428 0 0 0 4) := .sl (by simpa using r447) rfl (Nat.le_refl _)
     refine res_append0 (d := (some 51)) (sz := 4) (bytes := 16) (x := .tmp 47) (y := .tmp 50) kr (S := .slice p428 0 0 0 4) (ys := ((ms.take at11).drop 0)) (by show E441 47 = _; exact b442) sx451 (.inr ⟨_, rfl⟩) (by show srcCells _ _ (E441 50) = _; rw [b443]; exact hV439.src _ g446) (recs_one (part_recs hr) rfl) (by first | omega | (simp only [List.length_append, List.length_cons, List.length_nil, List.length_drop, List.length_take]; omega)) ?_
     intro S449 H450 sS449 fS449 oS449
     have ne452 : ApartS (S449) (S421) := fS449.apartS s448.lt (ApartS.of (l := p428) am)
     have fr453 : FreshS H.next (S449) := fS449.fresh (FreshS.of_le op428) g446.next
     have g454 := Grew.trans g446 oS449
     have s456 := s448.grew oS449
     have q457 := q440.app (kL : KdsL [.one] [S449])
     refine rC 0 0 [] [(50, n1 21), (6, n1 20), (51, n1 22)] q457 (sc (sp B26) (.cons put_same .nil)) ?_
     refine all1 kr fun vs ls H458 E458 st hE => ?_
     have b459 := eo st hE 51 S449
     have b460 := eo st hE 52 S421
     have B27 := es st hE [(51, S449), (52, S421)]
     have g461 : Grew H450 H458 := (gk st)
     have g462 := Grew.trans g454 g461
     have s463 := s456.grew g461
     have s464 := sS449.grew g461
     refine res_append (d := (some 53)) (sz := 4) (bytes := 16) (x := .tmp 51) (y := .tmp 52) kr (S := S449) (ms := ((ms.take at11).drop 0)) (ys := ([[.int .i64 rt, .int .i16 rx, .int .i16 ry, .int .i16 rz]] ++ ((ms.take ms.length).drop at11))) (by show E458 51 = _; exact b459) s464 (part_recs hr).len (by show srcCells _ _ (E458 52) = _; rw [b460]; exact src_list (Recs.append (Recs.one (ks := KR) (.cons kA (.cons kA (.cons kA (.cons kA .nil))))) (part_recs hr)).len s463.toL) (recs_one (Recs.append (Recs.one (ks := KR) (.cons kA (.cons kA (.cons kA (.cons kA .nil))))) (part_recs hr)) rfl) (by first | omega | (simp only [List.length_append, List.length_cons, List.length_nil, List.length_drop, List.length_take]; omega)) ?_
     intro S465 H466 sS465 fS465 oS465
     have ne467 : ApartS (S465) (S421) := fS465.apartS s463.lt (by first | assumption | exact ApartS.symm am)
     have fr468 : FreshS H.next (S465) := fS465.fresh fr453 g462.next
     have g469 : Grew H H466 := OnlyS.own g462 fr453 oS465
     have q471 := q457.app (kL : KdsL [.one] [S465])
     refine rC 0 0 [] [(51, n1 22), (52, n1 20), (53, n1 23)] q471 (sc (sp B27) (.cons put_same .nil)) ?_
     refine all1 kr fun vs ls H472 E472 st hE => ?_
     have gz : Grew H H472 := (Grew.trans g469 (gk st))
     have tn9 : tmR ms at11 = v367_0 := by unfold tmR; rw [he367]; rfl
     have qf335 := of_decide_eq_false (hw19.symm.trans f335)
     have qf399 := of_decide_eq_true (hw360.symm.trans f399)
     have l9 : (((ms.take at11).drop 0) ++ ([[.int .i64 rt, .int .i16 rx, .int .i16 ry, .int .i16 rz]] ++ ((ms.take ms.length).drop at11))) = putL ms [.int .i64 rt, .int .i16 rx, .int .i16 ry, .int .i16 rz] := by
      rw [putL_in (n := at11) (m := [.int .i64 rt, .int .i16 rx, .int .i16 ry, .int .i16 rz]) hA haat11 hx353 hpat11 (fun c9 => show tmR ms at11 ≠ rt by omega)]; exact parts_in _ _ _
     exact re st hE (S465) gz.next ⟨gz, by rw [← l9]; exact (sS465.grew (st.inn.kept.grew (Nat.le_refl _))), fr468⟩
    ·
     intro vs ls H473 E473 st hE
     have f474 : w360 = false := bf st 0
     have b475 := eo st hE 43 S
     have b476 := eo st hE 44 (.int .i64 (at11 : Int))
     have B28 := es st hE [(43, S), (44, .int .i64 (at11 : Int)), (41, .agg [.int .i64 rt, .int .i16 rx, .int .i16 ry, .int .i16 rz]), (0, S), (5, .int .i64 (at11 : Int))]
     have g480 : Grew H355 H473 := (gk st)
     have g481 := Grew.trans g365 g480
     obtain ⟨V484, hV484, sV484⟩ := sub_list hr.len hS at11 ms.length om om
     have lV484 : ((ms.take ms.length).drop at11).length ≤ ms.length := by rw [List.length_drop, List.length_take]; omega
     refine res_qM (d := some 45) (op := .slSl 4 (.tmp 43) (some (.tmp 44)) none none) (r := V484) kr rfl (sV484 _ _ 43 (some (.tmp 44)) none b475 (.inr (congrArg some b476)) (.inl ⟨rfl, rfl⟩)) ?_
     have q485 := q369.app (.cons hV484.one .nil : KdsL [.one] [V484])
     refine rC 0 0 [] [(43, n1 0), (44, nI 6), (41, .agg [nI 1, .nd 2 (.int .i16), .nd 3 (.int .i16), .nd 4 (.int .i16)]), (0, n1 0), (5, nI 6), (45, n1 19)] q485 (sc (sp B28) (.cons put_same .nil)) ?_
     refine all1 kr fun vs ls H486 E486 st hE => ?_
     obtain ⟨p487, e488, r489, n490⟩ := sl_of st.inn hE 42 0 1 1 4 kr (ds := [.int .i64 rt, .int .i16 rx, .int .i16 ry, .int .i16 rz]) kr
     have op487 : H.next ≤ p487 := Nat.le_trans g481.next (oM n490)
     have b491 := eo st hE 45 V484
     have B29 := es st hE [(45, V484), (0, S), (5, .int .i64 (at11 : Int))]
     have g494 : Grew H473 H486 := (gk st)
     have g495 := Grew.trans g481 g494
     have sx498 : SlF H486 4 [[.int .i64 rt, .int .i16 rx, .int .i16 ry, .int .i16 rz]] (.slice p487 0 1 1 4) := .sl (by simpa using r489) rfl (Nat.le_refl _)
     refine res_appendK (free := true) (d := (some 46)) (sz := 4) (bytes := 16) (x := .tmp 42) (y := .tmp 45) kr (S := .slice p487 0 1 1 4) (ms := [[.int .i64 rt, .int .i16 rx, .int .i16 ry, .int .i16 rz]]) (ys := ((ms.take ms.length).drop at11)) (by show E486 42 = _; exact e488) sx498 (Recs.one (ks := KR) (.cons kA (.cons kA (.cons kA (.cons kA .nil))))).len (by show srcCells _ _ (E486 45) = _; rw [b491]; exact hV484.src _ g495) (recs_one (part_recs hr) rfl) (by first | omega | (simp only [List.length_append, List.length_cons, List.length_nil, List.length_drop, List.length_take]; omega)) ?_
     intro S496 H497 sS496 fS496 oS496
     have fr499 : FreshS H.next (S496) := fS496.fresh (FreshS.of_le op487) g495.next
     have g500 : Grew H H497 := OnlyS.own g495 (FreshS.of_le op487) oS496
     refine ⟨.inl rfl, ?_⟩
     have q501 := q485.app (kL : KdsL [.one] [S496])
     refine rC 0 0 [] [(45, n1 19), (0, n1 0), (5, nI 6), (46, n1 20)] q501 (sc (sp B29) (.cons put_same .nil)) ?_
     refine all1 kr fun vs ls H502 E502 st hE => ?_
     obtain ⟨p503, e504, r505, n506⟩ := sl_of st.inn hE 47 0 0 0 4 kr (ds := []) kr
     have op503 : H.next ≤ p503 := Nat.le_trans g500.next (oM n506)
     have ne507 : ApartL (S496) p503 := sS496.apart_new (oM n506)
     have b508 := eo st hE 48 S
     have b509 := eo st hE 49 (.int .i64 (at11 : Int))
     have B30 := es st hE [(48, S), (49, .int .i64 (at11 : Int)), (6, S496)]
     have g511 : Grew H497 H502 := (gk st)
     have g512 := Grew.trans g500 g511
     have s513 := sS496.grew g511
     obtain ⟨V514, hV514, sV514⟩ := sub_list hr.len hS 0 at11 om om
     have lV514 : ((ms.take at11).drop 0).length ≤ ms.length := by rw [List.length_drop, List.length_take]; omega
     refine res_q (d := some 50) (op := .slSl 4 (.tmp 48) none (some (.tmp 49)) none) (r := V514) kr rfl (sV514 _ _ 48 none (some (.tmp 49)) b508 (.inl ⟨rfl, rfl⟩) (.inr (congrArg some b509))) ?_
     have q515 := q501.app (.cons hV514.one .nil : KdsL [.one] [V514])
     refine rC 1 0 [wf p503 []] [(48, n1 0), (49, nI 6), (6, n1 20), (47, .sl 0 0 0 0 4), (50, n1 21)] q515 (sc (sp B30) (.cons (put_ne rfl e504) (.cons put_same .nil))) ?_
     refine all1 kr fun vs ls H516 E516 st hE => ?_
     have b517 := eo st hE 47 (.slice p503 0 0 0 4)
     have b518 := eo st hE 50 V514
     have B31 := es st hE [(50, V514), (6, S496)]
     have g520 : Grew H502 H516 := (gk st)
     have g521 := Grew.trans g512 g520
     have r522 := g520.at r505
     have s523 := s513.grew g520
     have sx526 : SlF H516 4 [] (.slice p503 0 0 0 4) := .sl (by simpa using r522) rfl (Nat.le_refl _)
     refine res_append0 (d := (some 51)) (sz := 4) (bytes := 16) (x := .tmp 47) (y := .tmp 50) kr (S := .slice p503 0 0 0 4) (ys := ((ms.take at11).drop 0)) (by show E516 47 = _; exact b517) sx526 (.inr ⟨_, rfl⟩) (by show srcCells _ _ (E516 50) = _; rw [b518]; exact hV514.src _ g521) (recs_one (part_recs hr) rfl) (by first | omega | (simp only [List.length_append, List.length_cons, List.length_nil, List.length_drop, List.length_take]; omega)) ?_
     intro S524 H525 sS524 fS524 oS524
     have ne527 : ApartS (S524) (S496) := fS524.apartS s523.lt (ApartS.of (l := p503) am)
     have fr528 : FreshS H.next (S524) := fS524.fresh (FreshS.of_le op503) g521.next
     have g529 := Grew.trans g521 oS524
     have s531 := s523.grew oS524
     have q532 := q515.app (kL : KdsL [.one] [S524])
     refine rC 0 0 [] [(50, n1 21), (6, n1 20), (51, n1 22)] q532 (sc (sp B31) (.cons put_same .nil)) ?_
     refine all1 kr fun vs ls H533 E533 st hE => ?_
     have b534 := eo st hE 51 S524
     have b535 := eo st hE 52 S496
     have B32 := es st hE [(51, S524), (52, S496)]
     have g536 : Grew H525 H533 := (gk st)
     have g537 := Grew.trans g529 g536
     have s538 := s531.grew g536
     have s539 := sS524.grew g536
     refine res_append (d := (some 53)) (sz := 4) (bytes := 16) (x := .tmp 51) (y := .tmp 52) kr (S := S524) (ms := ((ms.take at11).drop 0)) (ys := ([[.int .i64 rt, .int .i16 rx, .int .i16 ry, .int .i16 rz]] ++ ((ms.take ms.length).drop at11))) (by show E533 51 = _; exact b534) s539 (part_recs hr).len (by show srcCells _ _ (E533 52) = _; rw [b535]; exact src_list (Recs.append (Recs.one (ks := KR) (.cons kA (.cons kA (.cons kA (.cons kA .nil))))) (part_recs hr)).len s538.toL) (recs_one (Recs.append (Recs.one (ks := KR) (.cons kA (.cons kA (.cons kA (.cons kA .nil))))) (part_recs hr)) rfl) (by first | omega | (simp only [List.length_append, List.length_cons, List.length_nil, List.length_drop, List.length_take]; omega)) ?_
     intro S540 H541 sS540 fS540 oS540
     have ne542 : ApartS (S540) (S496) := fS540.apartS s538.lt (by first | assumption | exact ApartS.symm am)
     have fr543 : FreshS H.next (S540) := fS540.fresh fr528 g537.next
     have g544 : Grew H H541 := OnlyS.own g537 fr528 oS540
     have q546 := q532.app (kL : KdsL [.one] [S540])
     refine rC 0 0 [] [(51, n1 22), (52, n1 20), (53, n1 23)] q546 (sc (sp B32) (.cons put_same .nil)) ?_
     refine all1 kr fun vs ls H547 E547 st hE => ?_
     have gz : Grew H H547 := (Grew.trans g544 (gk st))
     have tn9 : tmR ms at11 = v367_0 := by unfold tmR; rw [he367]; rfl
     have qf335 := of_decide_eq_false (hw19.symm.trans f335)
     have qf474 := of_decide_eq_false (hw360.symm.trans f474)
     have l9 : (((ms.take at11).drop 0) ++ ([[.int .i64 rt, .int .i16 rx, .int .i16 ry, .int .i16 rz]] ++ ((ms.take ms.length).drop at11))) = putL ms [.int .i64 rt, .int .i16 rx, .int .i16 ry, .int .i16 rz] := by
      rw [putL_in (n := at11) (m := [.int .i64 rt, .int .i16 rx, .int .i16 ry, .int .i16 rz]) hA haat11 hx353 hpat11 (fun c9 => show tmR ms at11 ≠ rt by omega)]; exact parts_in _ _ _
     exact re st hE (S540) gz.next ⟨gz, by rw [← l9]; exact (sS540.grew (st.inn.kept.grew (Nat.le_refl _))), fr543⟩
   ·
    intro vs ls H548 E548 st hE
    have f549 : ¬ ((at11 : Int) < (ms.length : Int)) := df st 0
    have b550 := eo st hE 43 S
    have b551 := eo st hE 44 (.int .i64 (at11 : Int))
    have B33 := es st hE [(43, S), (44, .int .i64 (at11 : Int)), (41, .agg [.int .i64 rt, .int .i16 rx, .int .i16 ry, .int .i16 rz]), (0, S), (5, .int .i64 (at11 : Int))]
    have g555 : Grew H334 H548 := (gk st)
    have g556 := Grew.trans g350 g555
    obtain ⟨V558, hV558, sV558⟩ := sub_list hr.len hS at11 ms.length om om
    have lV558 : ((ms.take ms.length).drop at11).length ≤ ms.length := by rw [List.length_drop, List.length_take]; omega
    refine res_qM (d := some 45) (op := .slSl 4 (.tmp 43) (some (.tmp 44)) none none) (r := V558) kr rfl (sV558 _ _ 43 (some (.tmp 44)) none b550 (.inr (congrArg some b551)) (.inl ⟨rfl, rfl⟩)) ?_
    have q559 := q354.app (.cons hV558.one .nil : KdsL [.one] [V558])
    refine rC 0 0 [] [(43, n1 0), (44, nI 6), (41, .agg [nI 1, .nd 2 (.int .i16), .nd 3 (.int .i16), .nd 4 (.int .i16)]), (0, n1 0), (5, nI 6), (45, n1 14)] q559 (sc (sp B33) (.cons put_same .nil)) ?_
    refine all1 kr fun vs ls H560 E560 st hE => ?_
    obtain ⟨p561, e562, r563, n564⟩ := sl_of st.inn hE 42 0 1 1 4 kr (ds := [.int .i64 rt, .int .i16 rx, .int .i16 ry, .int .i16 rz]) kr
    have op561 : H.next ≤ p561 := Nat.le_trans g556.next (oM n564)
    have b565 := eo st hE 45 V558
    have B34 := es st hE [(45, V558), (0, S), (5, .int .i64 (at11 : Int))]
    have g568 : Grew H548 H560 := (gk st)
    have g569 := Grew.trans g556 g568
    have sx572 : SlF H560 4 [[.int .i64 rt, .int .i16 rx, .int .i16 ry, .int .i16 rz]] (.slice p561 0 1 1 4) := .sl (by simpa using r563) rfl (Nat.le_refl _)
    refine res_appendK (free := true) (d := (some 46)) (sz := 4) (bytes := 16) (x := .tmp 42) (y := .tmp 45) kr (S := .slice p561 0 1 1 4) (ms := [[.int .i64 rt, .int .i16 rx, .int .i16 ry, .int .i16 rz]]) (ys := ((ms.take ms.length).drop at11)) (by show E560 42 = _; exact e562) sx572 (Recs.one (ks := KR) (.cons kA (.cons kA (.cons kA (.cons kA .nil))))).len (by show srcCells _ _ (E560 45) = _; rw [b565]; exact hV558.src _ g569) (recs_one (part_recs hr) rfl) (by first | omega | (simp only [List.length_append, List.length_cons, List.length_nil, List.length_drop, List.length_take]; omega)) ?_
    intro S570 H571 sS570 fS570 oS570
    have fr573 : FreshS H.next (S570) := fS570.fresh (FreshS.of_le op561) g569.next
    have g574 : Grew H H571 := OnlyS.own g569 (FreshS.of_le op561) oS570
    refine ⟨.inl rfl, ?_⟩
    have q575 := q559.app (kL : KdsL [.one] [S570])
    refine rC 0 0 [] [(45, n1 14), (0, n1 0), (5, nI 6), (46, n1 15)] q575 (sc (sp B34) (.cons put_same .nil)) ?_
    refine all1 kr fun vs ls H576 E576 st hE => ?_
    obtain ⟨p577, e578, r579, n580⟩ := sl_of st.inn hE 47 0 0 0 4 kr (ds := []) kr
    have op577 : H.next ≤ p577 := Nat.le_trans g574.next (oM n580)
    have ne581 : ApartL (S570) p577 := sS570.apart_new (oM n580)
    have b582 := eo st hE 48 S
    have b583 := eo st hE 49 (.int .i64 (at11 : Int))
    have B35 := es st hE [(48, S), (49, .int .i64 (at11 : Int)), (6, S570)]
    have g585 : Grew H571 H576 := (gk st)
    have g586 := Grew.trans g574 g585
    have s587 := sS570.grew g585
    obtain ⟨V588, hV588, sV588⟩ := sub_list hr.len hS 0 at11 om om
    have lV588 : ((ms.take at11).drop 0).length ≤ ms.length := by rw [List.length_drop, List.length_take]; omega
    refine res_q (d := some 50) (op := .slSl 4 (.tmp 48) none (some (.tmp 49)) none) (r := V588) kr rfl (sV588 _ _ 48 none (some (.tmp 49)) b582 (.inl ⟨rfl, rfl⟩) (.inr (congrArg some b583))) ?_
    have q589 := q575.app (.cons hV588.one .nil : KdsL [.one] [V588])
    refine rC 1 0 [wf p577 []] [(48, n1 0), (49, nI 6), (6, n1 15), (47, .sl 0 0 0 0 4), (50, n1 16)] q589 (sc (sp B35) (.cons (put_ne rfl e578) (.cons put_same .nil))) ?_
    refine all1 kr fun vs ls H590 E590 st hE => ?_
    have b591 := eo st hE 47 (.slice p577 0 0 0 4)
    have b592 := eo st hE 50 V588
    have B36 := es st hE [(50, V588), (6, S570)]
    have g594 : Grew H576 H590 := (gk st)
    have g595 := Grew.trans g586 g594
    have r596 := g594.at r579
    have s597 := s587.grew g594
    have sx600 : SlF H590 4 [] (.slice p577 0 0 0 4) := .sl (by simpa using r596) rfl (Nat.le_refl _)
    refine res_append0 (d := (some 51)) (sz := 4) (bytes := 16) (x := .tmp 47) (y := .tmp 50) kr (S := .slice p577 0 0 0 4) (ys := ((ms.take at11).drop 0)) (by show E590 47 = _; exact b591) sx600 (.inr ⟨_, rfl⟩) (by show srcCells _ _ (E590 50) = _; rw [b592]; exact hV588.src _ g595) (recs_one (part_recs hr) rfl) (by first | omega | (simp only [List.length_append, List.length_cons, List.length_nil, List.length_drop, List.length_take]; omega)) ?_
    intro S598 H599 sS598 fS598 oS598
    have ne601 : ApartS (S598) (S570) := fS598.apartS s597.lt (ApartS.of (l := p577) am)
    have fr602 : FreshS H.next (S598) := fS598.fresh (FreshS.of_le op577) g595.next
    have g603 := Grew.trans g595 oS598
    have s605 := s597.grew oS598
    have q606 := q589.app (kL : KdsL [.one] [S598])
    refine rC 0 0 [] [(50, n1 16), (6, n1 15), (51, n1 17)] q606 (sc (sp B36) (.cons put_same .nil)) ?_
    refine all1 kr fun vs ls H607 E607 st hE => ?_
    have b608 := eo st hE 51 S598
    have b609 := eo st hE 52 S570
    have B37 := es st hE [(51, S598), (52, S570)]
    have g610 : Grew H599 H607 := (gk st)
    have g611 := Grew.trans g603 g610
    have s612 := s605.grew g610
    have s613 := sS598.grew g610
    refine res_append (d := (some 53)) (sz := 4) (bytes := 16) (x := .tmp 51) (y := .tmp 52) kr (S := S598) (ms := ((ms.take at11).drop 0)) (ys := ([[.int .i64 rt, .int .i16 rx, .int .i16 ry, .int .i16 rz]] ++ ((ms.take ms.length).drop at11))) (by show E607 51 = _; exact b608) s613 (part_recs hr).len (by show srcCells _ _ (E607 52) = _; rw [b609]; exact src_list (Recs.append (Recs.one (ks := KR) (.cons kA (.cons kA (.cons kA (.cons kA .nil))))) (part_recs hr)).len s612.toL) (recs_one (Recs.append (Recs.one (ks := KR) (.cons kA (.cons kA (.cons kA (.cons kA .nil))))) (part_recs hr)) rfl) (by first | omega | (simp only [List.length_append, List.length_cons, List.length_nil, List.length_drop, List.length_take]; omega)) ?_
    intro S614 H615 sS614 fS614 oS614
    have ne616 : ApartS (S614) (S570) := fS614.apartS s612.lt (by first | assumption | exact ApartS.symm am)
    have fr617 : FreshS H.next (S614) := fS614.fresh fr602 g611.next
    have g618 : Grew H H615 := OnlyS.own g611 fr602 oS614
    have q620 := q606.app (kL : KdsL [.one] [S614])
    refine rC 0 0 [] [(51, n1 17), (52, n1 15), (53, n1 18)] q620 (sc (sp B37) (.cons put_same .nil)) ?_
    refine all1 kr fun vs ls H621 E621 st hE => ?_
    have gz : Grew H H621 := (Grew.trans g618 (gk st))
    have qf335 := of_decide_eq_false (hw19.symm.trans f335)
    have l9 : (((ms.take at11).drop 0) ++ ([[.int .i64 rt, .int .i16 rx, .int .i16 ry, .int .i16 rz]] ++ ((ms.take ms.length).drop at11))) = putL ms [.int .i64 rt, .int .i16 rx, .int .i16 ry, .int .i16 rz] := by
     rw [putL_in (n := at11) (m := [.int .i64 rt, .int .i16 rx, .int .i16 ry, .int .i16 rz]) hA haat11 hx353 hpat11 (fun c9 => show tmR ms at11 ≠ rt by omega)]; exact parts_in _ _ _
    exact re st hE (S614) gz.next ⟨gz, by rw [← l9]; exact (sS614.grew (st.inn.kept.grew (Nat.le_refl _))), fr617⟩
 ·
  intro vs ls H622 E622 st hE
  have f623 : ¬ (0 < (at11 : Int)) := df st 0
  obtain ⟨w626, hw626⟩ : ∃ z, z = (decide (0 < (at11 : Int))) := ⟨_, rfl⟩
  have b627 : E622 10 = .bool w626 := by rw [hw626]; exact eo st hE 10 _
  have b638 : E622 11 = .bool w626 := by rw [hw626]; exact eo st hE 11 _
  have B38 := es st hE [(5, .int .i64 (at11 : Int)), (9, .int .i64 (at11 : Int)), (0, S), (13, .undef), (12, .undef), (14, .undef), (15, .undef), (16, .undef), (3, .ptr p3 0), (18, .undef), (17, .undef), (19, .undef), (20, .undef), (21, .bool false)]
  have g641 : Grew Hx11 H622 := (gk st)
  have g642 := Grew.trans gt11 g641
  have r643 := g641.at rw11_0
  refine res_exit (id := 0) kr ?_
  have hx644 : at11 = 0 ∨ tmR ms (at11 - 1) < rt := .inl om
  have q645 := q12.app (kL : KdsL [.bool, KI] [.bool w626, .int .i64 (ms.length : Int)])
  refine rD 1 0 [(.len (n1 0), nI 8)] [wf p3 [nI 1, .nd 2 (.int .i16), .nd 3 (.int .i16), .nd 4 (.int .i16)]] [(5, nI 6), (9, nI 6), (0, n1 0), (13, .lit .undef), (12, .lit .undef), (14, .lit .undef), (15, .lit .undef), (16, .lit .undef), (3, .ptr 0 0), (18, .lit .undef), (17, .lit .undef), (19, .lit .undef), (20, .lit .undef), (21, .lit (.bool false)), (10, nB 7), (11, nB 7)] q645 (.cons (⟨_, _, (dE q645), (dE q645), slLen hS⟩) .nil) (sc B38 (.cons b627 (.cons b638 .nil))) ?_
  refine all2 kr ?_ ?_
  ·
   intro vs ls H646 E646 st hE
   have f647 : (at11 : Int) < (ms.length : Int) := dt st 0
   obtain ⟨w651, hw651⟩ : ∃ z, z = (decide ((at11 : Int) < (ms.length : Int))) := ⟨_, rfl⟩
   have b652 : E646 28 = .bool w651 := by rw [hw651]; exact eo st hE 28 _
   have B39 := es st hE [(29, S), (30, .int .i64 (at11 : Int)), (3, .ptr p3 0), (0, S), (5, .int .i64 (at11 : Int))]
   have g655 : Grew H622 H646 := (gk st)
   have g656 := Grew.trans g642 g655
   have r657 := g655.at r643
   have hlt658 : at11 < ms.length := by omega
   obtain ⟨lS658, cap658, rest658, wr658, eS658, gB658⟩ := hS.isSl hlt658
   have gS658 := g656.at gB658
   have ne659 := apn gB658 op3
   obtain ⟨v658_0, v658_1, v658_2, v658_3, hm658⟩ := partsReading (hr.get hlt658)
   have he658 : ms.getD at11 [] = [.int .i64 v658_0, .int .i16 v658_1, .int .i16 v658_2, .int .i16 v658_3] := by rw [← hm658, List.getD_eq_getElem?_getD, List.getElem?_eq_getElem hlt658]; rfl
   have q660 := q645.app (kL : KdsL [.bool, KI, .int .i16, .int .i16, .int .i16] [.bool w651, .int .i64 v658_0, .int .i16 v658_1, .int .i16 v658_2, .int .i16 v658_3])
   refine run_mc (φ := φ0) (pm := pmR 2 [(.ia 4 (n1 0) (nI 6), .ptr 1 0)] 0) 20 (ws := [wf p3 [nI 1, .nd 2 (.int .i16), .nd 3 (.int .i16), .nd 4 (.int .i16)], ⟨lS658, (at11 * 4), [nI 10, .nd 11 (.int .i16), .nd 12 (.int .i16), .nd 13 (.int .i16)], false⟩]) (env := [(29, n1 0), (30, nI 6), (3, .ptr 0 0), (0, n1 0), (5, nI 6), (28, nB 9)]) q660 (.cons (wR r657 q660) (.cons (win_elem hr gS658 hlt658 rfl (by rw [hm658]; exact (dL q660))) .nil)) (sepOk_ro rfl) (.cons (rule_iaS (k := at11) (dE q660) eS658 (dE q660) hlt658 rfl) .nil) (eC q660 (sc B39 (.cons b652 .nil))) tb_ok ap_ok ?_
   refine all3 kr ?_ ?_ ?_
   ·
    intro vs ls H661 E661 st hE
    have f662 : v658_0 = rt := dt st 0
    have f663 : w651 = true := bf st 1
    obtain ⟨p664, e665, r666, n667⟩ := sl_of st.inn hE 38 2 0 0 4 kr (ds := []) kr
    have op664 : H.next ≤ p664 := Nat.le_trans g656.next (oM n667)
    have ne668 := apn r657 (oM n667)
    have ne669 := apn gS658 (oM n667)
    have b670 := eo st hE 39 S
    have B40 := es st hE [(39, S), (3, .ptr p3 0), (0, S), (5, .int .i64 (at11 : Int))]
    have g674 : Grew H646 H661 := (gk st)
    have g675 := Grew.trans g656 g674
    have r676 := g674.at r657
    have sx680 : SlF H661 4 [] (.slice p664 0 0 0 4) := .sl (by simpa using r666) rfl (Nat.le_refl _)
    refine res_append0 (d := (some 40)) (sz := 4) (bytes := 16) (x := .tmp 38) (y := .tmp 39) kr (S := .slice p664 0 0 0 4) (ys := ms) (by show E661 38 = _; exact e665) sx680 (.inr ⟨_, rfl⟩) (by show srcCells _ _ (E661 39) = _; rw [b670]; exact src_list hr.len (hS.grew g675)) (recs_one hr rfl) (by first | omega | (simp only [List.length_append, List.length_cons, List.length_nil, List.length_drop, List.length_take]; omega)) ?_
    intro S678 H679 sS678 fS678 oS678
    have ne681 := aL fS678 r676 (ApartL.of aS)
    have fr682 : FreshS H.next (S678) := fS678.fresh (FreshS.of_le op664) g675.next
    have g683 := Grew.trans g675 oS678
    have r684 := oS678.at r676
    have q686 := q660.app (kL : KdsL [.one] [S678])
    refine rC 1 0 [wf p3 [nI 1, .nd 2 (.int .i16), .nd 3 (.int .i16), .nd 4 (.int .i16)]] [(39, n1 0), (3, .ptr 0 0), (0, n1 0), (5, nI 6), (40, n1 14)] q686 (sc (sp B40) (.cons put_same .nil)) ?_
    refine all1 kr fun vs ls H687 E687 st hE => ?_
    have gz : Grew H H687 := (Grew.trans g683 (gk st))
    have tn9 : tmR ms at11 = v658_0 := by unfold tmR; rw [he658]; rfl
    have qf663 := of_decide_eq_true (hw651.symm.trans f663)
    have l9 : ms = putL ms [.int .i64 rt, .int .i16 rx, .int .i16 ry, .int .i16 rz] := by
     exact (putL_id (n := at11) om (show tmR ms at11 = rt by omega)).symm
    exact re st hE (S678) gz.next ⟨gz, by rw [← l9]; exact (sS678.grew (st.inn.kept.grew (Nat.le_refl _))), fr682⟩
   ·
    intro vs ls H688 E688 st hE
    have f689 : ¬ (v658_0 = rt) := df st 0
    have f690 : w651 = true := bf st 1
    have b691 := eo st hE 43 S
    have b692 := eo st hE 44 (.int .i64 (at11 : Int))
    have B41 := es st hE [(43, S), (44, .int .i64 (at11 : Int)), (41, .agg [.int .i64 rt, .int .i16 rx, .int .i16 ry, .int .i16 rz]), (0, S), (5, .int .i64 (at11 : Int))]
    have g696 : Grew H646 H688 := (gk st)
    have g697 := Grew.trans g656 g696
    obtain ⟨V700, hV700, sV700⟩ := sub_list hr.len hS at11 ms.length om om
    have lV700 : ((ms.take ms.length).drop at11).length ≤ ms.length := by rw [List.length_drop, List.length_take]; omega
    refine res_qM (d := some 45) (op := .slSl 4 (.tmp 43) (some (.tmp 44)) none none) (r := V700) kr rfl (sV700 _ _ 43 (some (.tmp 44)) none b691 (.inr (congrArg some b692)) (.inl ⟨rfl, rfl⟩)) ?_
    have q701 := q660.app (.cons hV700.one .nil : KdsL [.one] [V700])
    refine rC 0 0 [] [(43, n1 0), (44, nI 6), (41, .agg [nI 1, .nd 2 (.int .i16), .nd 3 (.int .i16), .nd 4 (.int .i16)]), (0, n1 0), (5, nI 6), (45, n1 14)] q701 (sc (sp B41) (.cons put_same .nil)) ?_
    refine all1 kr fun vs ls H702 E702 st hE => ?_
    obtain ⟨p703, e704, r705, n706⟩ := sl_of st.inn hE 42 0 1 1 4 kr (ds := [.int .i64 rt, .int .i16 rx, .int .i16 ry, .int .i16 rz]) kr
    have op703 : H.next ≤ p703 := Nat.le_trans g697.next (oM n706)
    have b707 := eo st hE 45 V700
    have B42 := es st hE [(45, V700), (0, S), (5, .int .i64 (at11 : Int))]
    have g710 : Grew H688 H702 := (gk st)
    have g711 := Grew.trans g697 g710
    have sx714 : SlF H702 4 [[.int .i64 rt, .int .i16 rx, .int .i16 ry, .int .i16 rz]] (.slice p703 0 1 1 4) := .sl (by simpa using r705) rfl (Nat.le_refl _)
    refine res_appendK (free := true) (d := (some 46)) (sz := 4) (bytes := 16) (x := .tmp 42) (y := .tmp 45) kr (S := .slice p703 0 1 1 4) (ms := [[.int .i64 rt, .int .i16 rx, .int .i16 ry, .int .i16 rz]]) (ys := ((ms.take ms.length).drop at11)) (by show E702 42 = _; exact e704) sx714 (Recs.one (ks := KR) (.cons kA (.cons kA (.cons kA (.cons kA .nil))))).len (by show srcCells _ _ (E702 45) = _; rw [b707]; exact hV700.src _ g711) (recs_one (part_recs hr) rfl) (by first | omega | (simp only [List.length_append, List.length_cons, List.length_nil, List.length_drop, List.length_take]; omega)) ?_
    intro S712 H713 sS712 fS712 oS712
    have fr715 : FreshS H.next (S712) := fS712.fresh (FreshS.of_le op703) g711.next
    have g716 : Grew H H713 := OnlyS.own g711 (FreshS.of_le op703) oS712
    refine ⟨.inl rfl, ?_⟩
    have q717 := q701.app (kL : KdsL [.one] [S712])
    refine rC 0 0 [] [(45, n1 14), (0, n1 0), (5, nI 6), (46, n1 15)] q717 (sc (sp B42) (.cons put_same .nil)) ?_
    refine all1 kr fun vs ls H718 E718 st hE => ?_
    obtain ⟨p719, e720, r721, n722⟩ := sl_of st.inn hE 47 0 0 0 4 kr (ds := []) kr
    have op719 : H.next ≤ p719 := Nat.le_trans g716.next (oM n722)
    have ne723 : ApartL (S712) p719 := sS712.apart_new (oM n722)
    have b724 := eo st hE 48 S
    have b725 := eo st hE 49 (.int .i64 (at11 : Int))
    have B43 := es st hE [(48, S), (49, .int .i64 (at11 : Int)), (6, S712)]
    have g727 : Grew H713 H718 := (gk st)
    have g728 := Grew.trans g716 g727
    have s729 := sS712.grew g727
    obtain ⟨V730, hV730, sV730⟩ := sub_list hr.len hS 0 at11 om om
    have lV730 : ((ms.take at11).drop 0).length ≤ ms.length := by rw [List.length_drop, List.length_take]; omega
    refine res_q (d := some 50) (op := .slSl 4 (.tmp 48) none (some (.tmp 49)) none) (r := V730) kr rfl (sV730 _ _ 48 none (some (.tmp 49)) b724 (.inl ⟨rfl, rfl⟩) (.inr (congrArg some b725))) ?_
    have q731 := q717.app (.cons hV730.one .nil : KdsL [.one] [V730])
    refine rC 1 0 [wf p719 []] [(48, n1 0), (49, nI 6), (6, n1 15), (47, .sl 0 0 0 0 4), (50, n1 16)] q731 (sc (sp B43) (.cons (put_ne rfl e720) (.cons put_same .nil))) ?_
    refine all1 kr fun vs ls H732 E732 st hE => ?_
    have b733 := eo st hE 47 (.slice p719 0 0 0 4)
    have b734 := eo st hE 50 V730
    have B44 := es st hE [(50, V730), (6, S712)]
    have g736 : Grew H718 H732 := (gk st)
    have g737 := Grew.trans g728 g736
    have r738 := g736.at r721
    have s739 := s729.grew g736
    have sx742 : SlF H732 4 [] (.slice p719 0 0 0 4) := .sl (by simpa using r738) rfl (Nat.le_refl _)
    refine res_append0 (d := (some 51)) (sz := 4) (bytes := 16) (x := .tmp 47) (y := .tmp 50) kr (S := .slice p719 0 0 0 4) (ys := ((ms.take at11).drop 0)) (by show E732 47 = _; exact b733) sx742 (.inr ⟨_, rfl⟩) (by show srcCells _ _ (E732 50) = _; rw [b734]; exact hV730.src _ g737) (recs_one (part_recs hr) rfl) (by first | omega | (simp only [List.length_append, List.length_cons, List.length_nil, List.length_drop, List.length_take]; omega)) ?_
    intro S740 H741 sS740 fS740 oS740
    have ne743 : ApartS (S740) (S712) := fS740.apartS s739.lt (ApartS.of (l := p719) am)
    have fr744 : FreshS H.next (S740) := fS740.fresh (FreshS.of_le op719) g737.next
    have g745 := Grew.trans g737 oS740
    have s747 := s739.grew oS740
    have q748 := q731.app (kL : KdsL [.one] [S740])
    refine rC 0 0 [] [(50, n1 16), (6, n1 15), (51, n1 17)] q748 (sc (sp B44) (.cons put_same .nil)) ?_
    refine all1 kr fun vs ls H749 E749 st hE => ?_
    have b750 := eo st hE 51 S740
    have b751 := eo st hE 52 S712
    have B45 := es st hE [(51, S740), (52, S712)]
    have g752 : Grew H741 H749 := (gk st)
    have g753 := Grew.trans g745 g752
    have s754 := s747.grew g752
    have s755 := sS740.grew g752
    refine res_append (d := (some 53)) (sz := 4) (bytes := 16) (x := .tmp 51) (y := .tmp 52) kr (S := S740) (ms := ((ms.take at11).drop 0)) (ys := ([[.int .i64 rt, .int .i16 rx, .int .i16 ry, .int .i16 rz]] ++ ((ms.take ms.length).drop at11))) (by show E749 51 = _; exact b750) s755 (part_recs hr).len (by show srcCells _ _ (E749 52) = _; rw [b751]; exact src_list (Recs.append (Recs.one (ks := KR) (.cons kA (.cons kA (.cons kA (.cons kA .nil))))) (part_recs hr)).len s754.toL) (recs_one (Recs.append (Recs.one (ks := KR) (.cons kA (.cons kA (.cons kA (.cons kA .nil))))) (part_recs hr)) rfl) (by first | omega | (simp only [List.length_append, List.length_cons, List.length_nil, List.length_drop, List.length_take]; omega)) ?_
    intro S756 H757 sS756 fS756 oS756
    have ne758 : ApartS (S756) (S712) := fS756.apartS s754.lt (by first | assumption | exact ApartS.symm am)
    have fr759 : FreshS H.next (S756) := fS756.fresh fr744 g753.next
    have g760 : Grew H H757 := OnlyS.own g753 fr744 oS756
    have q762 := q748.app (kL : KdsL [.one] [S756])
    refine rC 0 0 [] [(51, n1 17), (52, n1 15), (53, n1 18)] q762 (sc (sp B45) (.cons put_same .nil)) ?_
    refine all1 kr fun vs ls H763 E763 st hE => ?_
    have gz : Grew H H763 := (Grew.trans g760 (gk st))
    have tn9 : tmR ms at11 = v658_0 := by unfold tmR; rw [he658]; rfl
    have qf690 := of_decide_eq_true (hw651.symm.trans f690)
    have l9 : (((ms.take at11).drop 0) ++ ([[.int .i64 rt, .int .i16 rx, .int .i16 ry, .int .i16 rz]] ++ ((ms.take ms.length).drop at11))) = putL ms [.int .i64 rt, .int .i16 rx, .int .i16 ry, .int .i16 rz] := by
     rw [putL_in (n := at11) (m := [.int .i64 rt, .int .i16 rx, .int .i16 ry, .int .i16 rz]) hA haat11 hx644 hpat11 (fun c9 => show tmR ms at11 ≠ rt by omega)]; exact parts_in _ _ _
    exact re st hE (S756) gz.next ⟨gz, by rw [← l9]; exact (sS756.grew (st.inn.kept.grew (Nat.le_refl _))), fr759⟩
   ·
    intro vs ls H764 E764 st hE
    have f765 : w651 = false := bf st 0
    have b766 := eo st hE 43 S
    have b767 := eo st hE 44 (.int .i64 (at11 : Int))
    have B46 := es st hE [(43, S), (44, .int .i64 (at11 : Int)), (41, .agg [.int .i64 rt, .int .i16 rx, .int .i16 ry, .int .i16 rz]), (0, S), (5, .int .i64 (at11 : Int))]
    have g771 : Grew H646 H764 := (gk st)
    have g772 := Grew.trans g656 g771
    obtain ⟨V775, hV775, sV775⟩ := sub_list hr.len hS at11 ms.length om om
    have lV775 : ((ms.take ms.length).drop at11).length ≤ ms.length := by rw [List.length_drop, List.length_take]; omega
    refine res_qM (d := some 45) (op := .slSl 4 (.tmp 43) (some (.tmp 44)) none none) (r := V775) kr rfl (sV775 _ _ 43 (some (.tmp 44)) none b766 (.inr (congrArg some b767)) (.inl ⟨rfl, rfl⟩)) ?_
    have q776 := q660.app (.cons hV775.one .nil : KdsL [.one] [V775])
    refine rC 0 0 [] [(43, n1 0), (44, nI 6), (41, .agg [nI 1, .nd 2 (.int .i16), .nd 3 (.int .i16), .nd 4 (.int .i16)]), (0, n1 0), (5, nI 6), (45, n1 14)] q776 (sc (sp B46) (.cons put_same .nil)) ?_
    refine all1 kr fun vs ls H777 E777 st hE => ?_
    obtain ⟨p778, e779, r780, n781⟩ := sl_of st.inn hE 42 0 1 1 4 kr (ds := [.int .i64 rt, .int .i16 rx, .int .i16 ry, .int .i16 rz]) kr
    have op778 : H.next ≤ p778 := Nat.le_trans g772.next (oM n781)
    have b782 := eo st hE 45 V775
    have B47 := es st hE [(45, V775), (0, S), (5, .int .i64 (at11 : Int))]
    have g785 : Grew H764 H777 := (gk st)
    have g786 := Grew.trans g772 g785
    have sx789 : SlF H777 4 [[.int .i64 rt, .int .i16 rx, .int .i16 ry, .int .i16 rz]] (.slice p778 0 1 1 4) := .sl (by simpa using r780) rfl (Nat.le_refl _)
    refine res_appendK (free := true) (d := (some 46)) (sz := 4) (bytes := 16) (x := .tmp 42) (y := .tmp 45) kr (S := .slice p778 0 1 1 4) (ms := [[.int .i64 rt, .int .i16 rx, .int .i16 ry, .int .i16 rz]]) (ys := ((ms.take ms.length).drop at11)) (by show E777 42 = _; exact e779) sx789 (Recs.one (ks := KR) (.cons kA (.cons kA (.cons kA (.cons kA .nil))))).len (by show srcCells _ _ (E777 45) = _; rw [b782]; exact hV775.src _ g786) (recs_one (part_recs hr) rfl) (by first | omega | (simp only [List.length_append, List.length_cons, List.length_nil, List.length_drop, List.length_take]; omega)) ?_
    intro S787 H788 sS787 fS787 oS787
    have fr790 : FreshS H.next (S787) := fS787.fresh (FreshS.of_le op778) g786.next
    have g791 : Grew H H788 := OnlyS.own g786 (FreshS.of_le op778) oS787
    refine ⟨.inl rfl, ?_⟩
    have q792 := q776.app (kL : KdsL [.one] [S787])
    refine rC 0 0 [] [(45, n1 14), (0, n1 0), (5, nI 6), (46, n1 15)] q792 (sc (sp B47) (.cons put_same .nil)) ?_
    refine all1 kr fun vs ls H793 E793 st hE => ?_
    obtain ⟨p794, e795, r796, n797⟩ := sl_of st.inn hE 47 0 0 0 4 kr (ds := []) kr
    have op794 : H.next ≤ p794 := Nat.le_trans g791.next (oM n797)
    have ne798 : ApartL (S787) p794 := sS787.apart_new (oM n797)
    have b799 := eo st hE 48 S
    have b800 := eo st hE 49 (.int .i64 (at11 : Int))
    have B48 := es st hE [(48, S), (49, .int .i64 (at11 : Int)), (6, S787)]
    have g802 : Grew H788 H793 := (gk st)
    have g803 := Grew.trans g791 g802
    have s804 := sS787.grew g802
    obtain ⟨V805, hV805, sV805⟩ := sub_list hr.len hS 0 at11 om om
    have lV805 : ((ms.take at11).drop 0).length ≤ ms.length := by rw [List.length_drop, List.length_take]; omega
    refine res_q (d := some 50) (op := .slSl 4 (.tmp 48) none (some (.tmp 49)) none) (r := V805) kr rfl (sV805 _ _ 48 none (some (.tmp 49)) b799 (.inl ⟨rfl, rfl⟩) (.inr (congrArg some b800))) ?_
    have q806 := q792.app (.cons hV805.one .nil : KdsL [.one] [V805])
    refine rC 1 0 [wf p794 []] [(48, n1 0), (49, nI 6), (6, n1 15), (47, .sl 0 0 0 0 4), (50, n1 16)] q806 (sc (sp B48) (.cons (put_ne rfl e795) (.cons put_same .nil))) ?_
    refine all1 kr fun vs ls H807 E807 st hE => ?_
    have b808 := eo st hE 47 (.slice p794 0 0 0 4)
    have b809 := eo st hE 50 V805
    have B49 := es st hE [(50, V805), (6, S787)]
    have g811 : Grew H793 H807 := (gk st)
    have g812 := Grew.trans g803 g811
    have r813 := g811.at r796
    have s814 := s804.grew g811
    have sx817 : SlF H807 4 [] (.slice p794 0 0 0 4) := .sl (by simpa using r813) rfl (Nat.le_refl _)
    refine res_append0 (d := (some 51)) (sz := 4) (bytes := 16) (x := .tmp 47) (y := .tmp 50) kr (S := .slice p794 0 0 0 4) (ys := ((ms.take at11).drop 0)) (by show E807 47 = _; exact b808) sx817 (.inr ⟨_, rfl⟩) (by show srcCells _ _ (E807 50) = _; rw [b809]; exact hV805.src _ g812) (recs_one (part_recs hr) rfl) (by first | omega | (simp only [List.length_append, List.length_cons, List.length_nil, List.length_drop, List.length_take]; omega)) ?_
    intro S815 H816 sS815 fS815 oS815
    have ne818 : ApartS (S815) (S787) := fS815.apartS s814.lt (ApartS.of (l := p794) am)
    have fr819 : FreshS H.next (S815) := fS815.fresh (FreshS.of_le op794) g812.next
    have g820 := Grew.trans g812 oS815
    have s822 := s814.grew oS815
    have q823 := q806.app (kL : KdsL [.one] [S815])
    refine rC 0 0 [] [(50, n1 16), (6, n1 15), (51, n1 17)] q823 (sc (sp B49) (.cons put_same .nil)) ?_
    refine all1 kr fun vs ls H824 E824 st hE => ?_
    have b825 := eo st hE 51 S815
    have b826 := eo st hE 52 S787
    have B50 := es st hE [(51, S815), (52, S787)]
    have g827 : Grew H816 H824 := (gk st)
    have g828 := Grew.trans g820 g827
    have s829 := s822.grew g827
    have s830 := sS815.grew g827
    refine res_append (d := (some 53)) (sz := 4) (bytes := 16) (x := .tmp 51) (y := .tmp 52) kr (S := S815) (ms := ((ms.take at11).drop 0)) (ys := ([[.int .i64 rt, .int .i16 rx, .int .i16 ry, .int .i16 rz]] ++ ((ms.take ms.length).drop at11))) (by show E824 51 = _; exact b825) s830 (part_recs hr).len (by show srcCells _ _ (E824 52) = _; rw [b826]; exact src_list (Recs.append (Recs.one (ks := KR) (.cons kA (.cons kA (.cons kA (.cons kA .nil))))) (part_recs hr)).len s829.toL) (recs_one (Recs.append (Recs.one (ks := KR) (.cons kA (.cons kA (.cons kA (.cons kA .nil))))) (part_recs hr)) rfl) (by first | omega | (simp only [List.length_append, List.length_cons, List.length_nil, List.length_drop, List.length_take]; omega)) ?_
    intro S831 H832 sS831 fS831 oS831
    have ne833 : ApartS (S831) (S787) := fS831.apartS s829.lt (by first | assumption | exact ApartS.symm am)
    have fr834 : FreshS H.next (S831) := fS831.fresh fr819 g828.next
    have g835 : Grew H H832 := OnlyS.own g828 fr819 oS831
    have q837 := q823.app (kL : KdsL [.one] [S831])
    refine rC 0 0 [] [(51, n1 17), (52, n1 15), (53, n1 18)] q837 (sc (sp B50) (.cons put_same .nil)) ?_
    refine all1 kr fun vs ls H838 E838 st hE => ?_
    have gz : Grew H H838 := (Grew.trans g835 (gk st))
    have tn9 : tmR ms at11 = v658_0 := by unfold tmR; rw [he658]; rfl
    have qf765 := of_decide_eq_false (hw651.symm.trans f765)
    have l9 : (((ms.take at11).drop 0) ++ ([[.int .i64 rt, .int .i16 rx, .int .i16 ry, .int .i16 rz]] ++ ((ms.take ms.length).drop at11))) = putL ms [.int .i64 rt, .int .i16 rx, .int .i16 ry, .int .i16 rz] := by
     rw [putL_in (n := at11) (m := [.int .i64 rt, .int .i16 rx, .int .i16 ry, .int .i16 rz]) hA haat11 hx644 hpat11 (fun c9 => show tmR ms at11 ≠ rt by omega)]; exact parts_in _ _ _
    exact re st hE (S831) gz.next ⟨gz, by rw [← l9]; exact (sS831.grew (st.inn.kept.grew (Nat.le_refl _))), fr834⟩
  ·
   intro vs ls H839 E839 st hE
   have f840 : ¬ ((at11 : Int) < (ms.length : Int)) := df st 0
   have b841 := eo st hE 43 S
   have b842 := eo st hE 44 (.int .i64 (at11 : Int))
   have B51 := es st hE [(43, S), (44, .int .i64 (at11 : Int)), (41, .agg [.int .i64 rt, .int .i16 rx, .int .i16 ry, .int .i16 rz]), (0, S), (5, .int .i64 (at11 : Int))]
   have g846 : Grew H622 H839 := (gk st)
   have g847 := Grew.trans g642 g846
   obtain ⟨V849, hV849, sV849⟩ := sub_list hr.len hS at11 ms.length om om
   have lV849 : ((ms.take ms.length).drop at11).length ≤ ms.length := by rw [List.length_drop, List.length_take]; omega
   refine res_qM (d := some 45) (op := .slSl 4 (.tmp 43) (some (.tmp 44)) none none) (r := V849) kr rfl (sV849 _ _ 43 (some (.tmp 44)) none b841 (.inr (congrArg some b842)) (.inl ⟨rfl, rfl⟩)) ?_
   have q850 := q645.app (.cons hV849.one .nil : KdsL [.one] [V849])
   refine rC 0 0 [] [(43, n1 0), (44, nI 6), (41, .agg [nI 1, .nd 2 (.int .i16), .nd 3 (.int .i16), .nd 4 (.int .i16)]), (0, n1 0), (5, nI 6), (45, n1 9)] q850 (sc (sp B51) (.cons put_same .nil)) ?_
   refine all1 kr fun vs ls H851 E851 st hE => ?_
   obtain ⟨p852, e853, r854, n855⟩ := sl_of st.inn hE 42 0 1 1 4 kr (ds := [.int .i64 rt, .int .i16 rx, .int .i16 ry, .int .i16 rz]) kr
   have op852 : H.next ≤ p852 := Nat.le_trans g847.next (oM n855)
   have b856 := eo st hE 45 V849
   have B52 := es st hE [(45, V849), (0, S), (5, .int .i64 (at11 : Int))]
   have g859 : Grew H839 H851 := (gk st)
   have g860 := Grew.trans g847 g859
   have sx863 : SlF H851 4 [[.int .i64 rt, .int .i16 rx, .int .i16 ry, .int .i16 rz]] (.slice p852 0 1 1 4) := .sl (by simpa using r854) rfl (Nat.le_refl _)
   refine res_appendK (free := true) (d := (some 46)) (sz := 4) (bytes := 16) (x := .tmp 42) (y := .tmp 45) kr (S := .slice p852 0 1 1 4) (ms := [[.int .i64 rt, .int .i16 rx, .int .i16 ry, .int .i16 rz]]) (ys := ((ms.take ms.length).drop at11)) (by show E851 42 = _; exact e853) sx863 (Recs.one (ks := KR) (.cons kA (.cons kA (.cons kA (.cons kA .nil))))).len (by show srcCells _ _ (E851 45) = _; rw [b856]; exact hV849.src _ g860) (recs_one (part_recs hr) rfl) (by first | omega | (simp only [List.length_append, List.length_cons, List.length_nil, List.length_drop, List.length_take]; omega)) ?_
   intro S861 H862 sS861 fS861 oS861
   have fr864 : FreshS H.next (S861) := fS861.fresh (FreshS.of_le op852) g860.next
   have g865 : Grew H H862 := OnlyS.own g860 (FreshS.of_le op852) oS861
   refine ⟨.inl rfl, ?_⟩
   have q866 := q850.app (kL : KdsL [.one] [S861])
   refine rC 0 0 [] [(45, n1 9), (0, n1 0), (5, nI 6), (46, n1 10)] q866 (sc (sp B52) (.cons put_same .nil)) ?_
   refine all1 kr fun vs ls H867 E867 st hE => ?_
   obtain ⟨p868, e869, r870, n871⟩ := sl_of st.inn hE 47 0 0 0 4 kr (ds := []) kr
   have op868 : H.next ≤ p868 := Nat.le_trans g865.next (oM n871)
   have ne872 : ApartL (S861) p868 := sS861.apart_new (oM n871)
   have b873 := eo st hE 48 S
   have b874 := eo st hE 49 (.int .i64 (at11 : Int))
   have B53 := es st hE [(48, S), (49, .int .i64 (at11 : Int)), (6, S861)]
   have g876 : Grew H862 H867 := (gk st)
   have g877 := Grew.trans g865 g876
   have s878 := sS861.grew g876
   obtain ⟨V879, hV879, sV879⟩ := sub_list hr.len hS 0 at11 om om
   have lV879 : ((ms.take at11).drop 0).length ≤ ms.length := by rw [List.length_drop, List.length_take]; omega
   refine res_q (d := some 50) (op := .slSl 4 (.tmp 48) none (some (.tmp 49)) none) (r := V879) kr rfl (sV879 _ _ 48 none (some (.tmp 49)) b873 (.inl ⟨rfl, rfl⟩) (.inr (congrArg some b874))) ?_
   have q880 := q866.app (.cons hV879.one .nil : KdsL [.one] [V879])
   refine rC 1 0 [wf p868 []] [(48, n1 0), (49, nI 6), (6, n1 10), (47, .sl 0 0 0 0 4), (50, n1 11)] q880 (sc (sp B53) (.cons (put_ne rfl e869) (.cons put_same .nil))) ?_
   refine all1 kr fun vs ls H881 E881 st hE => ?_
   have b882 := eo st hE 47 (.slice p868 0 0 0 4)
   have b883 := eo st hE 50 V879
   have B54 := es st hE [(50, V879), (6, S861)]
   have g885 : Grew H867 H881 := (gk st)
   have g886 := Grew.trans g877 g885
   have r887 := g885.at r870
   have s888 := s878.grew g885
   have sx891 : SlF H881 4 [] (.slice p868 0 0 0 4) := .sl (by simpa using r887) rfl (Nat.le_refl _)
   refine res_append0 (d := (some 51)) (sz := 4) (bytes := 16) (x := .tmp 47) (y := .tmp 50) kr (S := .slice p868 0 0 0 4) (ys := ((ms.take at11).drop 0)) (by show E881 47 = _; exact b882) sx891 (.inr ⟨_, rfl⟩) (by show srcCells _ _ (E881 50) = _; rw [b883]; exact hV879.src _ g886) (recs_one (part_recs hr) rfl) (by first | omega | (simp only [List.length_append, List.length_cons, List.length_nil, List.length_drop, List.length_take]; omega)) ?_
   intro S889 H890 sS889 fS889 oS889
   have ne892 : ApartS (S889) (S861) := fS889.apartS s888.lt (ApartS.of (l := p868) am)
   have fr893 : FreshS H.next (S889) := fS889.fresh (FreshS.of_le op868) g886.next
   have g894 := Grew.trans g886 oS889
   have s896 := s888.grew oS889
   have q897 := q880.app (kL : KdsL [.one] [S889])
   refine rC 0 0 [] [(50, n1 11), (6, n1 10), (51, n1 12)] q897 (sc (sp B54) (.cons put_same .nil)) ?_
   refine all1 kr fun vs ls H898 E898 st hE => ?_
   have b899 := eo st hE 51 S889
   have b900 := eo st hE 52 S861
   have B55 := es st hE [(51, S889), (52, S861)]
   have g901 : Grew H890 H898 := (gk st)
   have g902 := Grew.trans g894 g901
   have s903 := s896.grew g901
   have s904 := sS889.grew g901
   refine res_append (d := (some 53)) (sz := 4) (bytes := 16) (x := .tmp 51) (y := .tmp 52) kr (S := S889) (ms := ((ms.take at11).drop 0)) (ys := ([[.int .i64 rt, .int .i16 rx, .int .i16 ry, .int .i16 rz]] ++ ((ms.take ms.length).drop at11))) (by show E898 51 = _; exact b899) s904 (part_recs hr).len (by show srcCells _ _ (E898 52) = _; rw [b900]; exact src_list (Recs.append (Recs.one (ks := KR) (.cons kA (.cons kA (.cons kA (.cons kA .nil))))) (part_recs hr)).len s903.toL) (recs_one (Recs.append (Recs.one (ks := KR) (.cons kA (.cons kA (.cons kA (.cons kA .nil))))) (part_recs hr)) rfl) (by first | omega | (simp only [List.length_append, List.length_cons, List.length_nil, List.length_drop, List.length_take]; omega)) ?_
   intro S905 H906 sS905 fS905 oS905
   have ne907 : ApartS (S905) (S861) := fS905.apartS s903.lt (by first | assumption | exact ApartS.symm am)
   have fr908 : FreshS H.next (S905) := fS905.fresh fr893 g902.next
   have g909 : Grew H H906 := OnlyS.own g902 fr893 oS905
   have q911 := q897.app (kL : KdsL [.one] [S905])
   refine rC 0 0 [] [(51, n1 12), (52, n1 10), (53, n1 13)] q911 (sc (sp B55) (.cons put_same .nil)) ?_
   refine all1 kr fun vs ls H912 E912 st hE => ?_
   have gz : Grew H H912 := (Grew.trans g909 (gk st))
   have l9 : (((ms.take at11).drop 0) ++ ([[.int .i64 rt, .int .i16 rx, .int .i16 ry, .int .i16 rz]] ++ ((ms.take ms.length).drop at11))) = putL ms [.int .i64 rt, .int .i16 rx, .int .i16 ry, .int .i16 rz] := by
    rw [putL_in (n := at11) (m := [.int .i64 rt, .int .i16 rx, .int .i16 ry, .int .i16 rz]) hA haat11 hx644 hpat11 (fun c9 => show tmR ms at11 ≠ rt by omega)]; exact parts_in _ _ _
   exact re st hE (S905) gz.next ⟨gz, by rw [← l9]; exact (sS905.grew (st.inn.kept.grew (Nat.le_refl _))), fr908⟩
end Go.Proofs.Ytnleibiniajbnaa
