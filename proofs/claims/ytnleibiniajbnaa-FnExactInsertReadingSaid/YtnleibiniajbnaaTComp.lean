/- Contracts: runs of equal times made single, by the library. -/
import Derived.Test.YtnleibiniajbnaaTSrtB
import Derived.Test.YtnleibiniajbnaaTSrtQ
import Derived.Test.YtnleibiniajbnaaSxE
set_option linter.unusedVariables false
set_option linter.unusedSimpArgs false
namespace Go.Proofs.Ytnleibiniajbnaa
open Go.Ab
set_option maxRecDepth 100000
set_option maxHeartbeats 1000000
attribute [local irreducible] Res
theorem rule_iaVo {c : Cx} {x i : SV} {S : AV} {j l0 l n n2 cap0 cap sz k f : Nat} (hx : D c.vs c.ls x (.slice l0 (f * sz) (n - f) (cap0 - f) sz)) (h0 : S = .slice l0 0 n cap0 sz) (hS : S = .slice l 0 n2 cap sz) (hi : D c.vs c.ls i (.int .i64 (k : Int))) (hk : k + f < n2) (hj : c.ls[j]? = some (l, (k + f) * sz)) : RuleOk c (.ia sz x i) (.ptr j 0) := by
 have e := h0.symm.trans hS
 injection e with e1 _ e2 _
 subst e1
 subst e2
 refine ⟨_, _, .ptr l0 ((k + f) * sz), hx, hi, by simp only [D]; exact ⟨l0, (k + f) * sz, hj, by simp⟩, fun E get => ?_⟩
 simp only [aval, Opd.ev]
 rw [if_pos ⟨trivial, by omega, by omega⟩, Int.toNat_natCast, show f * sz + k * sz = (k + f) * sz by rw [Nat.add_mul]; omega]
theorem take_set_succ {L : List (List AV)} {c : Nat} {m : List AV} (hc : c < L.length) : (L.set c m).take (c + 1) = L.take c ++ [m] := by
 rw [take_succ_getD (by simpa using hc), getD_set hc, if_pos rfl, List.take_set_of_le (Nat.le_refl _)]
theorem cm_put {L0 L : List (List AV)} {c n : Nat} {m : List AV} (hc : c < L.length) (ht : L.take c = cmN L0 n) (hm : m = L0.getD n []) (hne : tmR L0 (n - 1) ≠ tmR L0 n) : (L.set c m).take (c + 1) = cmN L0 (n + 1) := by
 rw [take_set_succ hc, ht, hm]
 show _ = if _ then _ else _
 rw [if_pos (.inr hne)]
theorem cm_skip {L0 L : List (List AV)} {c n : Nat} (hn : 0 < n) (ht : L.take c = cmN L0 n) (heq : tmR L0 (n - 1) = tmR L0 n) : L.take c = cmN L0 (n + 1) := by
 rw [ht]
 show _ = if _ then _ else _
 rw [if_neg (fun h => h.elim (fun h => by omega) (fun h => h heq))]
theorem k_Compact (H : AHeap) (L0 : List (List AV)) (hr : Recs KR L0) (S : AV) (hS : SlF H 4 L0 S) (hmx : L0.length < 2 ^ 20) : ACalls Try.prog 89 [S, .func 90 [] []] H fun r H' => OnlyS S H H' ∧ SlW H' 4 (cmN L0 L0.length) r ∧ ∀ l, AtS r l → AtS S l := by
 refine res_start h_slices_CompactFunc_impl_Reading_impl_Reading (by simp) ?_
 have q1 : KdsL [.one, KI] [S, .int .i64 (L0.length : Int)] := kL
 refine rD 0 0 [(.len (n1 0), nI 1)] [] [(0, n1 0), (1, .fn 90 [] [])] q1 (.cons (⟨_, _, (dE q1), (dE q1), slLen (hS.toL)⟩) .nil) (.cons (t := 0) rfl (.cons (t := 1) rfl .nil)) ?_
 refine all2 kr ?_ ?_
 ·
  intro vs ls H2 E2 st hE
  have f3 : (L0.length : Int) < 2 := dt st 0
  have gz : OnlyS S H H2 := ((OnlyS.of_grew (Grew.refl H)).grewR (gk st))
  have hcm : cmN L0 L0.length = L0 := (cmN_id L0.length (Nat.le_refl _) fun q c1 c2 => by omega).trans List.take_length
  exact re st hE (S) gz.next ⟨gz, by rw [hcm]; exact ((hS.grew (st.inn.kept.grew (Nat.le_refl _)))).toW, fun l hl => hl⟩
 ·
  intro vs ls H4 E4 st hE
  have f5 : ¬ ((L0.length : Int) < 2) := df st 0
  have b6 := eo st hE 5 (.int .i64 1)
  have b7 := eo st hE 0 S
  have b8 := eo st hE 1 (.func 90 [] [])
  have g9 : Grew H H4 := (gk st)
  have g10 : OnlyS S H H4 := (OnlyS.of_grew (Grew.refl H)).grewR g9
  have s11 := hS.grew g9
  refine res_loop kr (fun z E H' => ∃ (k12 : Nat), z = L0.length - k12 ∧ E 0 = S ∧ E 1 = .func 90 [] [] ∧ E 5 = .int .i64 (k12 : Int) ∧ OnlyS S H H' ∧ SlF H' 4 L0 S ∧ 1 ≤ k12 ∧ k12 ≤ L0.length ∧ ∀ q, 0 < q → q < k12 → tmR L0 (q - 1) ≠ tmR L0 q) (L0.length - 1) ⟨1, rfl, b7, b8, (b6.trans rfl), g10, s11, ⟨by omega, by omega, fun q c1 c2 => by omega⟩⟩ ?_
  rintro z12 E12 Hx12 ⟨k12, hz12, c12_0, c12_1, cv12_5, gt12, sp12_0, iv12⟩
  obtain ⟨hak12, hbk12, hdk12⟩ := iv12
  have q13 := q1.app (kL : KdsL [KI, KI] [.int .i64 (k12 : Int), .int .i64 (L0.length : Int)])
  refine rD 0 0 [(.len (n1 0), nI 3)] [] [(0, n1 0), (1, .fn 90 [] []), (5, nI 2)] q13 (.cons (⟨_, _, (dE q13), (dE q13), slLen (sp12_0.toL)⟩) .nil) (.cons c12_0 (.cons c12_1 (.cons cv12_5 .nil))) ?_
  refine all2 kr ?_ ?_
  ·
   intro vs ls H14 E14 st hE
   have f15 : (k12 : Int) < (L0.length : Int) := dt st 0
   have B1 := es st hE [(19, S), (20, .int .i64 (k12 : Int)), (0, S), (5, .int .i64 (k12 : Int)), (18, .func 90 [] []), (1, .func 90 [] [])]
   have g22 : Grew Hx12 H14 := (gk st)
   have g23 : OnlyS S H H14 := gt12.grewR g22
   have s24 := sp12_0.grew g22
   have hlt25 : k12 < L0.length := by omega
   obtain ⟨lS25, cap25, rest25, wr25, eS25, gS25⟩ := (s24.toL).isSl hlt25
   obtain ⟨v25_0, v25_1, v25_2, v25_3, hm25⟩ := partsReading (hr.get hlt25)
   have he25 : L0.getD k12 [] = [.int .i64 v25_0, .int .i16 v25_1, .int .i16 v25_2, .int .i16 v25_3] := by rw [← hm25, List.getD_eq_getElem?_getD, List.getElem?_eq_getElem hlt25]; rfl
   have q26 := q13.app (kL : KdsL [KI, .int .i16, .int .i16, .int .i16] [.int .i64 v25_0, .int .i16 v25_1, .int .i16 v25_2, .int .i16 v25_3])
   refine run_mc (φ := φ0) (pm := pmR 1 [(.ia 4 (n1 0) (nI 2), .ptr 0 0)] 0) 20 (ws := [⟨lS25, (k12 * 4), [nI 4, .nd 5 (.int .i16), .nd 6 (.int .i16), .nd 7 (.int .i16)], false⟩]) (env := [(19, n1 0), (20, nI 2), (0, n1 0), (5, nI 2), (18, .fn 90 [] []), (1, .fn 90 [] [])]) q26 (.cons (win_elem hr gS25 hlt25 rfl (by rw [hm25]; exact (dL q26))) .nil) (sepOk_ro rfl) (.cons (rule_iaS (k := k12) (dE q26) eS25 (dE q26) hlt25 rfl) .nil) (eC q26 B1) tb_ok ap_ok ?_
   refine all1 kr fun vs ls H27 E27 st hE => ?_
   obtain ⟨w29, hw29⟩ : ∃ z, z = (IntKind.wrap .i64 ((k12 : Int) - 1)) := ⟨_, rfl⟩
   have b30 : E27 25 = .int .i64 w29 := by rw [hw29]; exact eo st hE 25 _
   have B2 := es st hE [(23, S), (18, .func 90 [] []), (22, .agg [.int .i64 v25_0, .int .i16 v25_1, .int .i16 v25_2, .int .i16 v25_3]), (0, S), (5, .int .i64 (k12 : Int)), (1, .func 90 [] [])]
   have g36 : Grew H14 H27 := (gk st)
   have g37 : OnlyS S H H27 := g23.grewR g36
   have s39 := s24.grew g36
   have nw29 : w29 = ((k12 : Int) - 1) := by
    rw [hw29]
    rw [show (IntKind.wrap .i64 ((k12 : Int) - 1)) = (k12 : Int) - 1 from wrap_i64 om om]
   obtain ⟨k40, rfl⟩ : ∃ k : Nat, w29 = (k : Int) := ⟨Int.toNat w29, by omega⟩
   have hlt41 : k40 < L0.length := by omega
   obtain ⟨lS41, cap41, rest41, wr41, eS41, gS41⟩ := (s39.toL).isSl hlt41
   obtain ⟨v41_0, v41_1, v41_2, v41_3, hm41⟩ := partsReading (hr.get hlt41)
   have he41 : L0.getD k40 [] = [.int .i64 v41_0, .int .i16 v41_1, .int .i16 v41_2, .int .i16 v41_3] := by rw [← hm41, List.getD_eq_getElem?_getD, List.getElem?_eq_getElem hlt41]; rfl
   have q42 := q26.app (kL : KdsL [KI, KI, .int .i16, .int .i16, .int .i16] [.int .i64 (k40 : Int), .int .i64 v41_0, .int .i16 v41_1, .int .i16 v41_2, .int .i16 v41_3])
   refine run_mc (φ := φ0) (pm := pmR 1 [(.ia 4 (n1 0) (nI 8), .ptr 0 0)] 0) 20 (ws := [⟨lS41, (k40 * 4), [nI 9, .nd 10 (.int .i16), .nd 11 (.int .i16), .nd 12 (.int .i16)], false⟩]) (env := [(23, n1 0), (18, .fn 90 [] []), (22, .agg [nI 4, .nd 5 (.int .i16), .nd 6 (.int .i16), .nd 7 (.int .i16)]), (0, n1 0), (5, nI 2), (1, .fn 90 [] []), (25, nI 8)]) q42 (.cons (win_elem hr gS41 hlt41 rfl (by rw [hm41]; exact (dL q42))) .nil) (sepOk_ro rfl) (.cons (rule_iaS (k := k40) (dE q42) eS41 (dE q42) hlt41 rfl) .nil) (eC q42 (sc B2 (.cons b30 .nil))) tb_ok ap_ok ?_
   refine all2 kr ?_ ?_
   ·
    intro vs ls H43 E43 st hE
    have f44 : v25_0 = v41_0 := dt st 0
    have b45 := eo st hE 29 S
    have b46 := eo st hE 30 (.int .i64 (k12 : Int))
    have B3 := es st hE [(29, S), (30, .int .i64 (k12 : Int)), (1, .func 90 [] []), (0, S), (5, .int .i64 (k12 : Int))]
    have g50 : Grew H27 H43 := (gk st)
    have g51 : OnlyS S H H43 := g37.grewR g50
    have s53 := s39.grew g50
    obtain ⟨l0, cap0, rest0, wr0, eS, gS0, hc0⟩ := hS.toL.isSlC (i := 0) om
    have tm25 : tmR L0 k12 = v25_0 := by unfold tmR; rw [he25]; rfl
    have tm41 : tmR L0 k40 = v41_0 := by unfold tmR; rw [he41]; rfl
    have v54 : aval E43 H43.get (.slSl 4 (.tmp 29) (some (.tmp 30)) none none) = some (.slice l0 (k12 * 4) (L0.length - k12) (cap0 - k12) 4) := by
     have h9 := sub_val (H := H43) (lo := some (.tmp 30)) (hi := none) (a := k12) (b := L0.length) (b45.trans eS) (.inr (congrArg some b46)) (.inl ⟨rfl, rfl⟩) om om
     rw [h9, Nat.zero_add]
    refine res_q (d := some 31) (op := .slSl 4 (.tmp 29) (some (.tmp 30)) none none) (r := .slice l0 (k12 * 4) (L0.length - k12) (cap0 - k12) 4) kr rfl v54 ?_
    have q55 := q42.app (.cons rfl .nil : KdsL [.one] [.slice l0 (k12 * 4) (L0.length - k12) (cap0 - k12) 4])
    refine rC 0 0 [] [(29, n1 0), (30, nI 2), (1, .fn 90 [] []), (0, n1 0), (5, nI 2), (31, n1 13)] q55 (sc (sp B3) (.cons put_same .nil)) ?_
    refine all1 kr fun vs ls H56 E56 st hE => ?_
    have b57 := eo st hE 7 (.int .i64 1)
    have b58 := eo st hE 6 (.slice l0 (k12 * 4) (L0.length - k12) (cap0 - k12) 4)
    have b59 := eo st hE 1 (.func 90 [] [])
    have b60 := eo st hE 0 S
    have b61 := eo st hE 5 (.int .i64 (k12 : Int))
    have g62 : Grew H43 H56 := (gk st)
    have g63 : OnlyS S H H56 := g51.grewR g62
    have s64 := s53.grew g62
    have tm25 : tmR L0 k12 = v25_0 := by unfold tmR; rw [he25]; rfl
    have tm41 : tmR L0 k40 = v41_0 := by unfold tmR; rw [he41]; rfl
    have hq9 : tmR L0 (k12 - 1) = tmR L0 k12 := by rw [show k12 - 1 = k40 by omega]; omega
    have ht9 : L0.take k12 = cmN L0 (k12 + 1) := cm_skip om (cmN_id k12 om hdk12).symm hq9
    refine res_loop kr (fun z E H' => ∃ (c65 : Nat) (j65 : Nat) (L65 : List (List AV)), z = L0.length - j65 ∧ E 6 = .slice l0 (k12 * 4) (L0.length - k12) (cap0 - k12) 4 ∧ E 1 = .func 90 [] [] ∧ E 0 = S ∧ E 5 = .int .i64 (c65 : Int) ∧ E 7 = .int .i64 (j65 : Int) ∧ OnlyS S H H' ∧ SlF H' 4 L65 S ∧ Recs KR L65 ∧ k12 ≤ c65 ∧ c65 + 1 ≤ k12 + j65 ∧ 1 ≤ j65 ∧ k12 + j65 ≤ L0.length ∧ L65.length = L0.length ∧ (∀ q, k12 + j65 ≤ q + 1 → L65.getD q [] = L0.getD q []) ∧ L65.take c65 = cmN L0 (k12 + j65)) (L0.length - 1) ⟨k12, 1, L0, rfl, b58, b59, b60, b61, (b57.trans rfl), g63, s64, hr, ⟨by omega, by omega, by omega, by omega, rfl, fun q _ => rfl, by rw [show k12 = k12 by omega]; exact ht9⟩⟩ ?_
    rintro z65 E65 Hx65 ⟨c65, j65, L65, hz65, c65_6, c65_1, c65_0, cv65_5, cv65_7, gt65, so65_0, hr65_0, iv65⟩
    obtain ⟨hi1c65, hi2c65, hi3c65, hi4c65, hllc65, hunc65, htkc65⟩ := iv65
    have q66 := q55.app (kL : KdsL [KI, KI, KI] [.int .i64 (c65 : Int), .int .i64 (j65 : Int), .int .i64 ((L0.length - k12 : Nat) : Int)])
    refine rD 0 0 [(.len (n1 13), nI 16)] [] [(6, n1 13), (1, .fn 90 [] []), (0, n1 0), (5, nI 14), (7, nI 15)] q66 (.cons (rule_len (l := l0) (o := k12 * 4) (n := L0.length - k12) (cap := cap0 - k12) (sz := 4) (dE q66) (dE q66)) .nil) (.cons c65_6 (.cons c65_1 (.cons c65_0 (.cons cv65_5 (.cons cv65_7 .nil))))) ?_
    refine all2 kr ?_ ?_
    ·
     intro vs ls H67 E67 st hE
     have f68 : (j65 : Int) < ((L0.length - k12 : Nat) : Int) := dt st 0
     have B4 := es st hE [(39, .slice l0 (k12 * 4) (L0.length - k12) (cap0 - k12) 4), (40, .int .i64 (j65 : Int)), (6, .slice l0 (k12 * 4) (L0.length - k12) (cap0 - k12) 4), (7, .int .i64 (j65 : Int)), (38, .func 90 [] []), (0, S), (5, .int .i64 (c65 : Int)), (1, .func 90 [] [])]
     have g77 : Grew Hx65 H67 := (gk st)
     have g78 : OnlyS S H H67 := gt65.grewR g77
     have s79 := so65_0.grew g77
     have hlt80 : (j65 + k12) < L65.length := by omega
     obtain ⟨lS80, cap80, rest80, wr80, eS80, gS80⟩ := (s79.toL).isSl hlt80
     obtain ⟨v80_0, v80_1, v80_2, v80_3, hm80⟩ := partsReading (hr65_0.get hlt80)
     have he80 : L65.getD (j65 + k12) [] = [.int .i64 v80_0, .int .i16 v80_1, .int .i16 v80_2, .int .i16 v80_3] := by rw [← hm80, List.getD_eq_getElem?_getD, List.getElem?_eq_getElem hlt80]; rfl
     have q81 := q66.app (kL : KdsL [KI, .int .i16, .int .i16, .int .i16] [.int .i64 v80_0, .int .i16 v80_1, .int .i16 v80_2, .int .i16 v80_3])
     refine run_mc (φ := φ0) (pm := pmR 1 [(.ia 4 (n1 13) (nI 15), .ptr 0 0)] 0) 20 (ws := [⟨lS80, ((j65 + k12) * 4), [nI 17, .nd 18 (.int .i16), .nd 19 (.int .i16), .nd 20 (.int .i16)], false⟩]) (env := [(39, n1 13), (40, nI 15), (6, n1 13), (7, nI 15), (38, .fn 90 [] []), (0, n1 0), (5, nI 14), (1, .fn 90 [] [])]) q81 (.cons (win_elem hr65_0 gS80 hlt80 rfl (by rw [hm80]; exact (dL q81))) .nil) (sepOk_ro rfl) (.cons (rule_iaVo (k := j65) (f := k12) (dE q81) eS eS80 (dE q81) hlt80 rfl) .nil) (eC q81 B4) tb_ok ap_ok ?_
     refine all1 kr fun vs ls H82 E82 st hE => ?_
     obtain ⟨w84, hw84⟩ : ∃ z, z = (IntKind.wrap .i64 ((j65 : Int) - 1)) := ⟨_, rfl⟩
     have b85 : E82 45 = .int .i64 w84 := by rw [hw84]; exact eo st hE 45 _
     have B5 := es st hE [(43, .slice l0 (k12 * 4) (L0.length - k12) (cap0 - k12) 4), (38, .func 90 [] []), (42, .agg [.int .i64 v80_0, .int .i16 v80_1, .int .i16 v80_2, .int .i16 v80_3]), (0, S), (5, .int .i64 (c65 : Int)), (6, .slice l0 (k12 * 4) (L0.length - k12) (cap0 - k12) 4), (7, .int .i64 (j65 : Int)), (1, .func 90 [] [])]
     have g93 : Grew H67 H82 := (gk st)
     have g94 : OnlyS S H H82 := g78.grewR g93
     have s96 := s79.grew g93
     have nw84 : w84 = ((j65 : Int) - 1) := by
      rw [hw84]
      rw [show (IntKind.wrap .i64 ((j65 : Int) - 1)) = (j65 : Int) - 1 from wrap_i64 om om]
     obtain ⟨k97, rfl⟩ : ∃ k : Nat, w84 = (k : Int) := ⟨Int.toNat w84, by omega⟩
     have hlt98 : (k97 + k12) < L65.length := by omega
     obtain ⟨lS98, cap98, rest98, wr98, eS98, gS98⟩ := (s96.toL).isSl hlt98
     obtain ⟨v98_0, v98_1, v98_2, v98_3, hm98⟩ := partsReading (hr65_0.get hlt98)
     have he98 : L65.getD (k97 + k12) [] = [.int .i64 v98_0, .int .i16 v98_1, .int .i16 v98_2, .int .i16 v98_3] := by rw [← hm98, List.getD_eq_getElem?_getD, List.getElem?_eq_getElem hlt98]; rfl
     have q99 := q81.app (kL : KdsL [KI, KI, .int .i16, .int .i16, .int .i16] [.int .i64 (k97 : Int), .int .i64 v98_0, .int .i16 v98_1, .int .i16 v98_2, .int .i16 v98_3])
     refine run_mc (φ := φ0) (pm := pmR 1 [(.ia 4 (n1 13) (nI 21), .ptr 0 0)] 0) 20 (ws := [⟨lS98, ((k97 + k12) * 4), [nI 22, .nd 23 (.int .i16), .nd 24 (.int .i16), .nd 25 (.int .i16)], false⟩]) (env := [(43, n1 13), (38, .fn 90 [] []), (42, .agg [nI 17, .nd 18 (.int .i16), .nd 19 (.int .i16), .nd 20 (.int .i16)]), (0, n1 0), (5, nI 14), (6, n1 13), (7, nI 15), (1, .fn 90 [] []), (45, nI 21)]) q99 (.cons (win_elem hr65_0 gS98 hlt98 rfl (by rw [hm98]; exact (dL q99))) .nil) (sepOk_ro rfl) (.cons (rule_iaVo (k := k97) (f := k12) (dE q99) eS eS98 (dE q99) hlt98 rfl) .nil) (eC q99 (sc B5 (.cons b85 .nil))) tb_ok ap_ok ?_
     refine all2 kr ?_ ?_
     ·
      intro vs ls H100 E100 st hE
      have f101 : ¬ (v80_0 = v98_0) := df st 0
      have B6 := es st hE [(52, .slice l0 (k12 * 4) (L0.length - k12) (cap0 - k12) 4), (53, .int .i64 (j65 : Int)), (50, S), (51, .int .i64 (c65 : Int)), (5, .int .i64 (c65 : Int)), (7, .int .i64 (j65 : Int)), (0, S), (1, .func 90 [] []), (6, .slice l0 (k12 * 4) (L0.length - k12) (cap0 - k12) 4)]
      have g111 : Grew H82 H100 := (gk st)
      have g112 : OnlyS S H H100 := g94.grewR g111
      have s114 := s96.grew g111
      have hlt115 : (j65 + k12) < L65.length := by omega
      obtain ⟨lS115, cap115, rest115, wr115, eS115, gS115⟩ := (s114.toL).isSl hlt115
      obtain ⟨v115_0, v115_1, v115_2, v115_3, hm115⟩ := partsReading (hr65_0.get hlt115)
      have he115 : L65.getD (j65 + k12) [] = [.int .i64 v115_0, .int .i16 v115_1, .int .i16 v115_2, .int .i16 v115_3] := by rw [← hm115, List.getD_eq_getElem?_getD, List.getElem?_eq_getElem hlt115]; rfl
      have hq115 := he80.symm.trans he115
      simp only [List.cons.injEq, AV.flt.injEq, AV.int.injEq, Int.natCast_inj, true_and, and_true] at hq115
      obtain ⟨rfl, rfl, rfl, rfl⟩ := hq115
      have q116 := q99.app (kL : KdsL [KI, .int .i16, .int .i16, .int .i16] [.int .i64 v80_0, .int .i16 v80_1, .int .i16 v80_2, .int .i16 v80_3])
      refine run_mc (φ := φ0) (pm := pmR 1 [(.ia 4 (n1 13) (nI 15), .ptr 0 0)] 0) 20 (ws := [⟨lS115, ((j65 + k12) * 4), [nI 26, .nd 27 (.int .i16), .nd 28 (.int .i16), .nd 29 (.int .i16)], false⟩]) (env := [(52, n1 13), (53, nI 15), (50, n1 0), (51, nI 14), (5, nI 14), (7, nI 15), (0, n1 0), (1, .fn 90 [] []), (6, n1 13)]) q116 (.cons (win_elem hr65_0 gS115 hlt115 rfl (by rw [hm115]; exact (dL q116))) .nil) (sepOk_ro rfl) (.cons (rule_iaVo (k := j65) (f := k12) (dE q116) eS eS115 (dE q116) hlt115 rfl) .nil) (eC q116 B6) tb_ok ap_ok ?_
      refine all1 kr fun vs ls H117 E117 st hE => ?_
      have B7 := es st hE [(50, S), (51, .int .i64 (c65 : Int)), (55, .agg [.int .i64 v80_0, .int .i16 v80_1, .int .i16 v80_2, .int .i16 v80_3]), (5, .int .i64 (c65 : Int)), (7, .int .i64 (j65 : Int)), (0, S), (1, .func 90 [] []), (6, .slice l0 (k12 * 4) (L0.length - k12) (cap0 - k12) 4)]
      have g126 : Grew H100 H117 := (gk st)
      have g127 : OnlyS S H H117 := g112.grewR g126
      have s129 := s114.grew g126
      have hlt130 : c65 < L65.length := by omega
      obtain ⟨lS130, cap130, rest130, wr130, eS130, gS130⟩ := (s129.toL).isSl hlt130
      obtain ⟨v130_0, v130_1, v130_2, v130_3, hm130⟩ := partsReading (hr65_0.get hlt130)
      have he130 : L65.getD c65 [] = [.int .i64 v130_0, .int .i16 v130_1, .int .i16 v130_2, .int .i16 v130_3] := by rw [← hm130, List.getD_eq_getElem?_getD, List.getElem?_eq_getElem hlt130]; rfl
      have q131 := q116.app (kL : KdsL [KI, .int .i16, .int .i16, .int .i16] [.int .i64 v130_0, .int .i16 v130_1, .int .i16 v130_2, .int .i16 v130_3])
      refine run_mc (φ := φ0) (pm := pmR 1 [(.ia 4 (n1 0) (nI 14), .ptr 0 0)] 0) 20 (ws := [⟨lS130, (c65 * 4), [nI 30, .nd 31 (.int .i16), .nd 32 (.int .i16), .nd 33 (.int .i16)], false⟩]) (env := [(50, n1 0), (51, nI 14), (55, .agg [nI 26, .nd 27 (.int .i16), .nd 28 (.int .i16), .nd 29 (.int .i16)]), (5, nI 14), (7, nI 15), (0, n1 0), (1, .fn 90 [] []), (6, n1 13)]) q131 (.cons (win_elem hr65_0 gS130 hlt130 rfl (by rw [hm130]; exact (dL q131))) .nil) (sepOk_ro rfl) (.cons (rule_iaS (k := c65) (dE q131) eS130 (dE q131) hlt130 rfl) .nil) (eC q131 B7) tb_ok ap_ok ?_
      refine all1 kr fun vs ls H132 E132 st hE => ?_
      have b133 := eo st hE 56 (.ptr lS130 ((c65 * 4) + 0))
      have b134 := eo st hE 55 (.agg [.int .i64 v80_0, .int .i16 v80_1, .int .i16 v80_2, .int .i16 v80_3])
      have B8 := es st hE [(55, .agg [.int .i64 v80_0, .int .i16 v80_1, .int .i16 v80_2, .int .i16 v80_3]), (5, .int .i64 (c65 : Int)), (7, .int .i64 (j65 : Int)), (0, S), (1, .func 90 [] []), (6, .slice l0 (k12 * 4) (L0.length - k12) (cap0 - k12) 4)]
      have g140 : Grew H117 H132 := (gk st)
      have g141 : OnlyS S H H132 := g127.grewR g140
      have s143 := s129.grew g140
      refine res_storeSF (d := none) (n := 4) (x := .tmp 56) (y := .tmp 55) kr (S := S) (ms := L65) (k := c65) (m' := [.int .i64 v80_0, .int .i16 v80_1, .int .i16 v80_2, .int .i16 v80_3]) (s143) eS130 b133 hlt130 hr65_0.len (by show AV.cells (E132 55) = _; rw [b134]; rfl) rfl rfl rfl ?_
      intro H144 s144 oo144
      have hln144 : (L65.set c65 [.int .i64 v80_0, .int .i16 v80_1, .int .i16 v80_2, .int .i16 v80_3]).length = L65.length := by simp
      have g145 : OnlyS S H H144 := g141.trans oo144
      refine rC 0 0 [] [(55, .agg [nI 26, .nd 27 (.int .i16), .nd 28 (.int .i16), .nd 29 (.int .i16)]), (5, nI 14), (7, nI 15), (0, n1 0), (1, .fn 90 [] []), (6, n1 13)] q131 (sn B8) ?_
      refine all1 kr fun vs ls H147 E147 st hE => ?_
      obtain ⟨w148, hw148⟩ : ∃ z, z = (IntKind.wrap .i64 ((c65 : Int) + 1)) := ⟨_, rfl⟩
      have b149 : E147 5 = .int .i64 w148 := by rw [hw148]; exact eo st hE 5 _
      obtain ⟨w150, hw150⟩ : ∃ z, z = (IntKind.wrap .i64 ((j65 : Int) + 1)) := ⟨_, rfl⟩
      have b151 : E147 7 = .int .i64 w150 := by rw [hw150]; exact eo st hE 7 _
      have b152 := eo st hE 6 (.slice l0 (k12 * 4) (L0.length - k12) (cap0 - k12) 4)
      have b153 := eo st hE 1 (.func 90 [] [])
      have b154 := eo st hE 0 S
      have g155 : Grew H144 H147 := (gk st)
      have g156 : OnlyS S H H147 := g145.grewR g155
      have s157 := s144.grew g155
      have nw148 : w148 = ((c65 : Int) + 1) := by
       rw [hw148]
       rw [show (IntKind.wrap .i64 ((c65 : Int) + 1)) = (c65 : Int) + 1 from wrap_i64 om om]
      have nw150 : w150 = ((j65 : Int) + 1) := by
       rw [hw150]
       rw [show (IntKind.wrap .i64 ((j65 : Int) + 1)) = (j65 : Int) + 1 from wrap_i64 om om]
      obtain ⟨k158, hk158⟩ : ∃ k : Nat, w148 = (k : Int) := ⟨Int.toNat w148, by omega⟩
      obtain ⟨k159, hk159⟩ : ∃ k : Nat, w150 = (k : Int) := ⟨Int.toNat w150, by omega⟩
      have tm115 : tmR L65 (j65 + k12) = v80_0 := by unfold tmR; rw [he115]; rfl
      have tm98 : tmR L65 (k97 + k12) = v98_0 := by unfold tmR; rw [he98]; rfl
      have tm130 : tmR L65 c65 = v130_0 := by unfold tmR; rw [he130]; rfl
      have hx1 : L0.getD (k12 + j65) [] = [.int .i64 v80_0, .int .i16 v80_1, .int .i16 v80_2, .int .i16 v80_3] := by rw [← hunc65 _ om, show (k12 + j65) = (j65 + k12) by omega]; exact he115
      have hx2 : L0.getD ((k12 + j65) - 1) [] = [.int .i64 v98_0, .int .i16 v98_1, .int .i16 v98_2, .int .i16 v98_3] := by rw [← hunc65 _ om, show (k12 + j65) - 1 = (k97 + k12) by omega]; exact he98
      have hy1 : tmR L0 (k12 + j65) = v80_0 := by unfold tmR; rw [hx1]; rfl
      have hy2 : tmR L0 ((k12 + j65) - 1) = v98_0 := by unfold tmR; rw [hx2]; rfl
      have hm9 : L0.length - k159 < z65 := by omega
      exact res_norm kr ⟨L0.length - k159, hm9, k158, k159, (L65.set c65 [.int .i64 v80_0, .int .i16 v80_1, .int .i16 v80_2, .int .i16 v80_3]), rfl, b152, b153, b154, (b149.trans (by rw [hk158])), (b151.trans (by rw [hk159])), g156, s157, (Recs.set hr65_0 (.cons kA (.cons kA (.cons kA (.cons kA .nil))))), ⟨by omega, by omega, by omega, by omega, by rw [List.length_set]; exact hllc65, fun q c1 => by rw [getD_set om, if_neg om]; exact hunc65 q om, by rw [show k12 + k159 = (k12 + j65) + 1 by omega, show k158 = c65 + 1 by omega]; exact cm_put om htkc65 hx1.symm om⟩⟩
     ·
      intro vs ls H160 E160 st hE
      have f161 : v80_0 = v98_0 := dt st 0
      have b162 := eo st hE 5 (.int .i64 (c65 : Int))
      obtain ⟨w163, hw163⟩ : ∃ z, z = (IntKind.wrap .i64 ((j65 : Int) + 1)) := ⟨_, rfl⟩
      have b164 : E160 7 = .int .i64 w163 := by rw [hw163]; exact eo st hE 7 _
      have b165 := eo st hE 6 (.slice l0 (k12 * 4) (L0.length - k12) (cap0 - k12) 4)
      have b166 := eo st hE 1 (.func 90 [] [])
      have b167 := eo st hE 0 S
      have g168 : Grew H82 H160 := (gk st)
      have g169 : OnlyS S H H160 := g94.grewR g168
      have s171 := s96.grew g168
      have nw163 : w163 = ((j65 : Int) + 1) := by
       rw [hw163]
       rw [show (IntKind.wrap .i64 ((j65 : Int) + 1)) = (j65 : Int) + 1 from wrap_i64 om om]
      obtain ⟨k172, hk172⟩ : ∃ k : Nat, w163 = (k : Int) := ⟨Int.toNat w163, by omega⟩
      have tm80 : tmR L65 (j65 + k12) = v80_0 := by unfold tmR; rw [he80]; rfl
      have tm98 : tmR L65 (k97 + k12) = v98_0 := by unfold tmR; rw [he98]; rfl
      have hx1 : L0.getD (k12 + j65) [] = [.int .i64 v80_0, .int .i16 v80_1, .int .i16 v80_2, .int .i16 v80_3] := by rw [← hunc65 _ om, show (k12 + j65) = (j65 + k12) by omega]; exact he80
      have hx2 : L0.getD ((k12 + j65) - 1) [] = [.int .i64 v98_0, .int .i16 v98_1, .int .i16 v98_2, .int .i16 v98_3] := by rw [← hunc65 _ om, show (k12 + j65) - 1 = (k97 + k12) by omega]; exact he98
      have hy1 : tmR L0 (k12 + j65) = v80_0 := by unfold tmR; rw [hx1]; rfl
      have hy2 : tmR L0 ((k12 + j65) - 1) = v98_0 := by unfold tmR; rw [hx2]; rfl
      have hm9 : L0.length - k172 < z65 := by omega
      exact res_norm kr ⟨L0.length - k172, hm9, c65, k172, L65, rfl, b165, b166, b167, b162, (b164.trans (by rw [hk172])), g169, s171, hr65_0, ⟨by omega, by omega, by omega, by omega, hllc65, fun q c1 => hunc65 q om, by rw [show k12 + k172 = (k12 + j65) + 1 by omega]; exact cm_skip om htkc65 om⟩⟩
    ·
     intro vs ls H173 E173 st hE
     have f174 : ¬ ((j65 : Int) < ((L0.length - k12 : Nat) : Int)) := df st 0
     obtain ⟨w180, hw180⟩ : ∃ z, z = (decide ((j65 : Int) < ((L0.length - k12 : Nat) : Int))) := ⟨_, rfl⟩
     have b181 : E173 35 = .bool w180 := by rw [hw180]; exact eo st hE 35 _
     have B9 := es st hE [(7, .int .i64 (j65 : Int)), (6, .slice l0 (k12 * 4) (L0.length - k12) (cap0 - k12) 4), (33, .slice l0 (k12 * 4) (L0.length - k12) (cap0 - k12) 4), (32, .int .i64 (j65 : Int)), (34, .int .i64 ((L0.length - k12 : Nat) : Int)), (1, .func 90 [] []), (0, S), (5, .int .i64 (c65 : Int))]
     have g185 : Grew Hx65 H173 := (gk st)
     have g186 : OnlyS S H H173 := gt65.grewR g185
     have s187 := so65_0.grew g185
     refine res_exit (id := 2) kr ?_
     have q188 := q66.app (kL : KdsL [.bool] [.bool w180])
     refine rC 0 0 [] [(7, nI 15), (6, n1 13), (33, n1 13), (32, nI 15), (34, nI 16), (1, .fn 90 [] []), (0, n1 0), (5, nI 14), (35, nB 17)] q188 (sc B9 (.cons b181 .nil)) ?_
     refine all1 kr fun vs ls H189 E189 st hE => ?_
     have b190 := eo st hE 59 S
     have b191 := eo st hE 60 (.int .i64 (c65 : Int))
     have B10 := es st hE [(59, S), (60, .int .i64 (c65 : Int)), (0, S), (5, .int .i64 (c65 : Int)), (1, .func 90 [] [])]
     have g195 : Grew H173 H189 := (gk st)
     have g196 : OnlyS S H H189 := g186.grewR g195
     have s197 := s187.grew g195
     have v198 : aval E189 H189.get (.slSl 4 (.tmp 59) (some (.tmp 60)) none none) = some (.slice l0 (c65 * 4) (L0.length - c65) (cap0 - c65) 4) := by
      have h9 := sub_val (H := H189) (lo := some (.tmp 60)) (hi := none) (a := c65) (b := L0.length) (b190.trans eS) (.inr (congrArg some b191)) (.inl ⟨rfl, rfl⟩) om om
      rw [h9, Nat.zero_add]
     refine res_q (d := some 61) (op := .slSl 4 (.tmp 59) (some (.tmp 60)) none none) (r := .slice l0 (c65 * 4) (L0.length - c65) (cap0 - c65) 4) kr rfl v198 ?_
     have q199 := q188.app (.cons rfl .nil : KdsL [.one] [.slice l0 (c65 * 4) (L0.length - c65) (cap0 - c65) 4])
     refine rC 0 0 [] [(59, n1 0), (60, nI 14), (0, n1 0), (5, nI 14), (1, .fn 90 [] []), (61, n1 18)] q199 (sc (sp B10) (.cons put_same .nil)) ?_
     refine all1 kr fun vs ls H200 E200 st hE => ?_
     have b201 := eo st hE 61 (.slice l0 (c65 * 4) (L0.length - c65) (cap0 - c65) 4)
     have B11 := es st hE [(61, .slice l0 (c65 * 4) (L0.length - c65) (cap0 - c65) 4), (0, S), (5, .int .i64 (c65 : Int)), (1, .func 90 [] [])]
     have g205 : Grew H189 H200 := (gk st)
     have g206 : OnlyS S H H200 := g196.grewR g205
     have s207 := s197.grew g205
     obtain ⟨l1, cap1, rest1, wr1, eS1, gS1, hc1⟩ := s207.toL.isSlC (i := 0) om
     have row9 : H200.get l0 = some (.row ((L65.take c65).flatten ++ ((L65.drop c65).flatten ++ [])) true) := by
      have h8 := s207; rw [eS] at h8
      cases h8 with | sl hg8 _ _ => rw [List.append_nil, ← List.flatten_append, List.take_append_drop]; exact hg8
     have hrl9 : (L65.drop c65).flatten.length = (L0.length - c65) * 4 := by rw [flat_len_z (z := 4) fun m hm => hr65_0.len m (List.mem_of_mem_drop hm), List.length_drop, hllc65]
     have hpl9 : (L65.take c65).flatten.length = c65 * 4 := by rw [flat_len_z (z := 4) fun m hm => hr65_0.len m (List.mem_of_mem_take hm), List.length_take]; omega
     refine res_clear (d := none) (sz := 4) (zs := [.int .i64 0, .int .i16 0, .int .i16 0, .int .i16 0]) (x := .tmp 61) kr (l := l0) (p := (L65.take c65).flatten) (C := (L65.drop c65).flatten) (q := []) b201 row9 hpl9 hrl9 rfl rfl ?_
     intro H208 C9 rw9 oo9
     have oz9 : OnlyS S H200 H208 := by rw [eS]; exact .of_only oo9
     have g209 : OnlyS S H H208 := g206.trans oz9
     have hfin9 : L65.take c65 = cmN L0 L0.length := by rw [show c65 = c65 by omega, htkc65]; congr 1; omega
     refine rC 0 0 [] [(61, n1 18), (0, n1 0), (5, nI 14), (1, .fn 90 [] [])] q199 (sn B11) ?_
     refine all1 kr fun vs ls H211 E211 st hE => ?_
     have b212 := eo st hE 62 S
     have b213 := eo st hE 63 (.int .i64 (c65 : Int))
     have B12 := es st hE [(62, S), (63, .int .i64 (c65 : Int)), (5, .int .i64 (c65 : Int)), (0, S), (1, .func 90 [] [])]
     have g217 : Grew H208 H211 := (gk st)
     have g218 : OnlyS S H H211 := g209.grewR g217
     have rw219 := g217.at rw9
     have v220 : aval E211 H211.get (.slSl 4 (.tmp 62) none (some (.tmp 63)) none) = some (.slice l0 0 c65 cap0 4) := by
      have h9 := sub_val (H := H211) (lo := none) (hi := some (.tmp 63)) (a := 0) (b := c65) (b212.trans eS) (.inl ⟨rfl, rfl⟩) (.inr (congrArg some b213)) om om
      simpa using h9
     refine res_q (d := some 64) (op := .slSl 4 (.tmp 62) none (some (.tmp 63)) none) (r := .slice l0 0 c65 cap0 4) kr rfl v220 ?_
     have q221 := q199.app (.cons rfl .nil : KdsL [.one] [.slice l0 0 c65 cap0 4])
     refine rC 0 0 [] [(62, n1 0), (63, nI 14), (5, nI 14), (0, n1 0), (1, .fn 90 [] []), (64, n1 19)] q221 (sc (sp B12) (.cons put_same .nil)) ?_
     refine all1 kr fun vs ls H222 E222 st hE => ?_
     have gz : OnlyS S H H222 := (g218.grewR (gk st))
     have g9 := (gk st)
     exact res_ret kr (end_same st.inn hE (.inr rfl) (a := .slice l0 0 c65 cap0 4) kr gz.next ⟨gz, by rw [← hfin9]; exact .sl (g9.at rw219) (by rw [List.length_take]; omega) om, fun l' hl => by rw [eS]; rw [atS hl]; exact ⟨_, _, _, _, rfl⟩⟩)
   ·
    intro vs ls H223 E223 st hE
    have f224 : ¬ (v25_0 = v41_0) := df st 0
    obtain ⟨w225, hw225⟩ : ∃ z, z = (IntKind.wrap .i64 ((k12 : Int) + 1)) := ⟨_, rfl⟩
    have b226 : E223 5 = .int .i64 w225 := by rw [hw225]; exact eo st hE 5 _
    have b227 := eo st hE 0 S
    have b228 := eo st hE 1 (.func 90 [] [])
    have g229 : Grew H27 H223 := (gk st)
    have g230 : OnlyS S H H223 := g37.grewR g229
    have s232 := s39.grew g229
    have nw225 : w225 = ((k12 : Int) + 1) := by
     rw [hw225]
     rw [show (IntKind.wrap .i64 ((k12 : Int) + 1)) = (k12 : Int) + 1 from wrap_i64 om om]
    obtain ⟨k233, hk233⟩ : ∃ k : Nat, w225 = (k : Int) := ⟨Int.toNat w225, by omega⟩
    have tm25 : tmR L0 k12 = v25_0 := by unfold tmR; rw [he25]; rfl
    have tm41 : tmR L0 k40 = v41_0 := by unfold tmR; rw [he41]; rfl
    have hm9 : L0.length - k233 < z12 := by omega
    exact res_norm kr ⟨L0.length - k233, hm9, k233, rfl, b227, b228, (b226.trans (by rw [hk233])), g230, s232, ⟨by omega, by omega, fun q c1 c2 => by
       by_cases c3 : q = k12
       ·
        rw [c3, show k12 - 1 = k40 by omega]; omega
       ·
        exact hdk12 q c1 om⟩⟩
  ·
   intro vs ls H234 E234 st hE
   have f235 : ¬ ((k12 : Int) < (L0.length : Int)) := df st 0
   obtain ⟨w241, hw241⟩ : ∃ z, z = (decide ((k12 : Int) < (L0.length : Int))) := ⟨_, rfl⟩
   have b242 : E234 15 = .bool w241 := by rw [hw241]; exact eo st hE 15 _
   have B13 := es st hE [(5, .int .i64 (k12 : Int)), (0, S), (13, S), (12, .int .i64 (k12 : Int)), (14, .int .i64 (L0.length : Int)), (1, .func 90 [] [])]
   have g244 : Grew Hx12 H234 := (gk st)
   have g245 : OnlyS S H H234 := gt12.grewR g244
   have s246 := sp12_0.grew g244
   refine res_exit (id := 0) kr ?_
   have q247 := q13.app (kL : KdsL [.bool] [.bool w241])
   refine rC 0 0 [] [(5, nI 2), (0, n1 0), (13, n1 0), (12, nI 2), (14, nI 3), (1, .fn 90 [] []), (15, nB 4)] q247 (sc B13 (.cons b242 .nil)) ?_
   refine all1 kr fun vs ls H248 E248 st hE => ?_
   have gz : OnlyS S H H248 := (g245.grewR (gk st))
   have hcm : cmN L0 L0.length = L0 := (cmN_id L0.length (Nat.le_refl _) fun q c1 c2 => hdk12 q c1 om).trans List.take_length
   exact re st hE (S) gz.next ⟨gz, by rw [hcm]; exact ((s246.grew (st.inn.kept.grew (Nat.le_refl _)))).toW, fun l hl => hl⟩
end Go.Proofs.Ytnleibiniajbnaa
