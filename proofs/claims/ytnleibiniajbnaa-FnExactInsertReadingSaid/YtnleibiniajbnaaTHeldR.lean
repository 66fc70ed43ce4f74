/- Contracts of the law's words that write and read marks in slices of records: Reading. -/
import Derived.Test.YtnleibiniajbnaaTReading
import Derived.Test.YtnleibiniajbnaaSxD
import Derived.Test.YtnleibiniajbnaaSxE
set_option linter.unusedVariables false
set_option linter.unusedSimpArgs false
namespace Go.Proofs.Ytnleibiniajbnaa
open Go.Ab
set_option maxRecDepth 100000
set_option maxHeartbeats 1000000
attribute [local irreducible] Res
def mkReading (q : Int) : List AV := [.int .i64 q, .int .i16 (IntKind.wrap .i16 (q + 1)), .int .i16 (IntKind.wrap .i16 ((q + 1) + 1)), .int .i16 (IntKind.wrap .i16 (((q + 1) + 1) + 1))]
def mksReading (q : Int) (n : Nat) : List (List AV) := (List.range n).map fun (i : Nat) => mkReading (q + 4 * (i : Int))
theorem mksReading_len (q : Int) (n : Nat) : (mksReading q n).length = n := by simp [mksReading]
theorem mksReading_recs (q : Int) (n : Nat) : Recs KR (mksReading q n) := by
 intro m hm
 simp only [mksReading, List.mem_map] at hm
 obtain ⟨i, _, rfl⟩ := hm
 exact .cons kA (.cons kA (.cons kA (.cons kA .nil)))
theorem mksReading_flat (q : Int) (n : Nat) : (mksReading q n).flatten.length = n * 4 := by
 have := take_flat_len (mksReading_recs q n).len (i := n) (by rw [mksReading_len]; exact Nat.le_refl _)
 rwa [List.take_of_length_le (by rw [mksReading_len]; exact Nat.le_refl _)] at this
theorem mksReading_succ (q : Int) (n : Nat) : (mksReading q (n + 1)).flatten = (mksReading q n).flatten ++ mkReading (q + 4 * (n : Int)) := by
 simp [mksReading, List.range_succ]
theorem mksReading_get (q : Int) {n i : Nat} (h : i < n) : (mksReading q n).getD i [] = mkReading (q + 4 * (i : Int)) := by
 simp [mksReading, List.getD_eq_getElem?_getD, h]
theorem k_markReadingS (H : AHeap) (ms : List (List AV)) (hr : Recs KR ms) (l cap : Nat) (rest : List AV) (hg : H.get l = some (.row (ms.flatten ++ rest) true)) (k : Int) (h0 : 0 ≤ k) (h1 : k ≤ 1152921504606846976) (hmax : ms.length ≤ 1048576) : ACalls Try.prog 38 [.slice l 0 ms.length cap 4, .int .i64 k] H fun r H' => r = .int .i64 (k + 4 * (ms.length : Int)) ∧ Only l H H' ∧ H'.get l = some (.row ((mksReading k ms.length).flatten ++ rest) true) := by
 refine res_start h_laws_markReadingS (by simp) ?_
 have row0 := hg
 have q1 : KdsL [.one, KI] [.slice l 0 ms.length cap 4, .int .i64 k] := .cons rfl (.cons kA .nil)
 refine rC 0 0 [] [(0, n1 0), (1, nI 1)] q1 (.cons (t := 0) rfl (.cons (t := 1) rfl .nil)) ?_
 refine all1 kr fun vs ls H2 E2 st hE => ?_
 have b3 := eo st hE 5 (.int .i64 0)
 have b4 := eo st hE 0 (.slice l 0 ms.length cap 4)
 have b5 := eo st hE 1 (.int .i64 k)
 have g6 : Grew H H2 := (gk st)
 have g7 : Only l H H2 := (Only.refl _ _).grew g6
 have r8 := g6.at hg
 refine res_loop kr (fun z E H' => ∃ i, z + i = ms.length ∧ E 0 = .slice l 0 ms.length cap 4 ∧ E 1 = .int .i64 (k + 4 * (i : Int)) ∧ E 5 = .int .i64 (i : Int) ∧ Only l H H' ∧ H'.get l = some (.row ((mksReading k i).flatten ++ ((ms.drop i).flatten ++ rest)) true)) ms.length
  ⟨0, by omega, b4, by simpa using b5, b3, g7, by simpa [mksReading] using r8⟩ ?_
 clear b4 b5 b3 r8
 rintro z E0 H0 ⟨i, hz, c0, c1, ci, gO, row⟩
 obtain ⟨q, hq⟩ : ∃ q, q = k + 4 * (i : Int) := ⟨_, rfl⟩
 rw [← hq] at c1
 rcases Nat.lt_or_ge i ms.length with hlt | hge
 ·
  obtain ⟨v0, v1, v2, v3, hm⟩ := partsReading (hr.get hlt)
  have hqb : -4611686018427387904 ≤ q ∧ q + 4 ≤ 4611686018427387904 := by omega
  have e0 : IntKind.i64.wrap (q + 1) = (q + 1) := wrap_i64 om om
  have e1 : IntKind.i64.wrap ((q + 1) + 1) = ((q + 1) + 1) := wrap_i64 om om
  have e2 : IntKind.i64.wrap (((q + 1) + 1) + 1) = (((q + 1) + 1) + 1) := wrap_i64 om om
  have e3 : IntKind.i64.wrap ((((q + 1) + 1) + 1) + 1) = ((((q + 1) + 1) + 1) + 1) := wrap_i64 om om
  have hP : (mksReading k i).flatten.length = i * 4 := mksReading_flat k i
  have hd : (ms.drop i).flatten = ms[i] ++ (ms.drop (i + 1)).flatten := by rw [List.drop_eq_getElem_cons hlt, List.flatten_cons]
  rw [hd, hm, List.append_assoc] at row
  obtain ⟨Q, hQ⟩ : ∃ Q, Q = (ms.drop (i + 1)).flatten ++ rest := ⟨_, rfl⟩
  obtain ⟨P, hPe⟩ : ∃ P, P = (mksReading k i).flatten := ⟨_, rfl⟩
  rw [← hQ, ← hPe] at row
  rw [← hPe] at hP
  have hn : i < ms.length := hlt
  have hza : z - 1 < z := by omega
  have hzb : z - 1 + (i + 1) = ms.length := by omega
  have hni : (i : Int) < (ms.length : Int) := by omega
  have hiw : IntKind.i64.wrap ((i : Int) + 1) = ((i + 1 : Nat) : Int) := wrap64 om
  have hqn : ((((q + 1) + 1) + 1) + 1) = k + 4 * ((i + 1 : Nat) : Int) := by push_cast; omega
  have q9 : KdsL [.one, KI, KI, KI, KI, .int .i16, .int .i16, .int .i16] [.slice l 0 ms.length cap 4, .int .i64 q, .int .i64 (i : Int), .int .i64 (ms.length : Int), .int .i64 v0, .int .i16 v1, .int .i16 v2, .int .i16 v3] := .cons rfl (.cons kA (.cons kA (.cons kA (.cons kA (.cons kA (.cons kA (.cons kA .nil)))))))
  refine run_mc (φ := φ0) (pm := pmR 1 [(.len (n1 0), nI 3), (.ia 4 (n1 0) (nI 2), .ptr 0 0)] 10) 20 (ws := [⟨l, (i * 4), [nI 4, .nd 5 (.int .i16), .nd 6 (.int .i16), .nd 7 (.int .i16)], false⟩]) (env := [(0, n1 0), (1, nI 1), (5, nI 2)]) q9 (.cons (win_mid row hP (dL q9)) .nil) (sepOk_ro rfl) (.cons (rule_len (dNd rfl rfl) (dNd rfl ⟨_, rfl⟩)) (.cons (rule_ia (k := i) (dNd rfl rfl) (dNd rfl ⟨_, rfl⟩) hn rfl) .nil)) (eC q9 (.cons c0 (.cons c1 (.cons ci .nil)))) tb_ok ap_ok ?_
  refine all2 kr ?_ ?_
  ·
   intro vs ls H10 E10 st hE
   have f11 : (i : Int) < (ms.length : Int) := dt st 0
   have b12 := eo st hE 17 (.ptr l ((i * 4) + 0))
   have b13 := eo st hE 15 (.int .i64 q)
   have B1 := es st hE [(15, .int .i64 q), (1, .int .i64 q), (0, .slice l 0 ms.length cap 4), (5, .int .i64 (i : Int))]
   have g17 : Grew H0 H10 := (gk st)
   have g18 : Only l H H10 := gO.grew g17
   have row20 := g17.at row
   refine res_store_in (d := none) (n := 1) (x := .tmp 17) (y := .tmp 15) kr (off := 0) (C' := [.int .i64 q, .int .i16 v1, .int .i16 v2, .int .i16 v3]) (vs := [.int .i64 q]) b12 row20 hP (by show AV.cells (E10 15) = _; rw [b13]; rfl) rfl (by simp) rfl rfl ?_
   intro H21 row22 oH21
   have g23 := g18.trans oH21
   refine run_mc (φ := φ0) (pm := pmR 1 [(.len (n1 0), nI 3), (.ia 4 (n1 0) (nI 2), .ptr 0 0)] 10) 20 (ws := [⟨l, (i * 4), [nI 1, .nd 5 (.int .i16), .nd 6 (.int .i16), .nd 7 (.int .i16)], false⟩]) (env := [(15, nI 1), (1, nI 1), (0, n1 0), (5, nI 2)]) q9 (.cons (win_mid row22 hP (dL q9)) .nil) (sepOk_ro rfl) (.cons (rule_len (dNd rfl rfl) (dNd rfl ⟨_, rfl⟩)) (.cons (rule_ia (k := i) (dNd rfl rfl) (dNd rfl ⟨_, rfl⟩) hn rfl) .nil)) (eC q9 (sn B1)) tb_ok ap_ok ?_
   refine all1 kr fun vs ls H25 E25 st hE => ?_
   have b26 := eo st hE 31 (.ptr l ((i * 4) + 1))
   obtain ⟨w27, hw27⟩ : ∃ z, z = (IntKind.wrap .i16 (IntKind.wrap .i64 (q + 1))) := ⟨_, rfl⟩
   have b28 : E25 28 = .int .i16 w27 := by rw [hw27]; exact eo st hE 28 _
   obtain ⟨w29, hw29⟩ : ∃ z, z = (IntKind.wrap .i64 (q + 1)) := ⟨_, rfl⟩
   have nw29 : w29 = (q + 1) := by rw [hw29]; exact e0
   have b30 : E25 1 = .int .i64 w29 := by rw [hw29]; exact eo st hE 1 _
   have b36 : E25 27 = .int .i64 w29 := by rw [hw29]; exact eo st hE 27 _
   have B2 := es st hE [(6, .int .i64 0), (20, .int .i64 0), (21, .bool true), (0, .slice l 0 ms.length cap 4), (5, .int .i64 (i : Int)), (24, .slice l 0 ms.length cap 4), (25, .int .i64 (i : Int)), (26, .int .i64 0)]
   have g42 : Grew H21 H25 := (gk st)
   have g43 : Only l H H25 := g23.grew g42
   have row45 := g42.at row22
   refine res_store_in (d := none) (n := 1) (x := .tmp 31) (y := .tmp 28) kr (off := 1) (C' := [.int .i64 q, .int .i16 w27, .int .i16 v2, .int .i16 v3]) (vs := [.int .i16 w27]) b26 row45 hP (by show AV.cells (E25 28) = _; rw [b28]; rfl) rfl (by simp) rfl rfl ?_
   intro H46 row47 oH46
   have g48 := g43.trans oH46
   have q49 := q9.app (kL : KdsL [.int .i16, KI] [.int .i16 w27, .int .i64 w29])
   refine run_mc (φ := φ0) (pm := pmR 1 [(.len (n1 0), nI 3), (.ia 4 (n1 0) (nI 2), .ptr 0 0)] 10) 20 (ws := [⟨l, (i * 4), [nI 1, .nd 8 (.int .i16), .nd 6 (.int .i16), .nd 7 (.int .i16)], false⟩]) (env := [(6, .lit (.int .i64 0)), (20, .lit (.int .i64 0)), (21, .lit (.bool true)), (0, n1 0), (5, nI 2), (24, n1 0), (25, nI 2), (26, .lit (.int .i64 0)), (28, .nd 8 (.int .i16)), (1, nI 9), (27, nI 9)]) q49 (.cons (win_mid row47 hP (dL q49)) .nil) (sepOk_ro rfl) (.cons (rule_len (dNd rfl rfl) (dNd rfl ⟨_, rfl⟩)) (.cons (rule_ia (k := i) (dNd rfl rfl) (dNd rfl ⟨_, rfl⟩) hn rfl) .nil)) (eC q49 (sc (sn B2) (.cons (put_no b28) (.cons (put_no b30) (.cons (put_no b36) .nil))))) tb_ok ap_ok ?_
   refine all1 kr fun vs ls H50 E50 st hE => ?_
   have b51 := eo st hE 31 (.ptr l ((i * 4) + 2))
   obtain ⟨w52, hw52⟩ : ∃ z, z = (IntKind.wrap .i16 (IntKind.wrap .i64 (w29 + 1))) := ⟨_, rfl⟩
   have b53 : E50 28 = .int .i16 w52 := by rw [hw52]; exact eo st hE 28 _
   obtain ⟨w54, hw54⟩ : ∃ z, z = (IntKind.wrap .i64 (w29 + 1)) := ⟨_, rfl⟩
   have nw54 : w54 = ((q + 1) + 1) := by rw [hw54, nw29]; exact e1
   have b55 : E50 1 = .int .i64 w54 := by rw [hw54]; exact eo st hE 1 _
   have b57 : E50 33 = .int .i64 w54 := by rw [hw54]; exact eo st hE 33 _
   have b65 : E50 27 = .int .i64 w54 := by rw [hw54]; exact eo st hE 27 _
   have B3 := es st hE [(32, .int .i64 w29), (6, .int .i64 1), (22, .int .i64 0), (23, .int .i64 1), (20, .int .i64 1), (21, .bool true), (0, .slice l 0 ms.length cap 4), (5, .int .i64 (i : Int)), (24, .slice l 0 ms.length cap 4), (25, .int .i64 (i : Int)), (26, .int .i64 1)]
   have g71 : Grew H46 H50 := (gk st)
   have g72 : Only l H H50 := g48.grew g71
   have row74 := g71.at row47
   refine res_store_in (d := none) (n := 1) (x := .tmp 31) (y := .tmp 28) kr (off := 2) (C' := [.int .i64 q, .int .i16 w27, .int .i16 w52, .int .i16 v3]) (vs := [.int .i16 w52]) b51 row74 hP (by show AV.cells (E50 28) = _; rw [b53]; rfl) rfl (by simp) rfl rfl ?_
   intro H75 row76 oH75
   have g77 := g72.trans oH75
   have q78 := q49.app (kL : KdsL [.int .i16, KI] [.int .i16 w52, .int .i64 w54])
   refine run_mc (φ := φ0) (pm := pmR 1 [(.len (n1 0), nI 3), (.ia 4 (n1 0) (nI 2), .ptr 0 0)] 10) 20 (ws := [⟨l, (i * 4), [nI 1, .nd 8 (.int .i16), .nd 10 (.int .i16), .nd 7 (.int .i16)], false⟩]) (env := [(32, nI 9), (6, .lit (.int .i64 1)), (22, .lit (.int .i64 0)), (23, .lit (.int .i64 1)), (20, .lit (.int .i64 1)), (21, .lit (.bool true)), (0, n1 0), (5, nI 2), (24, n1 0), (25, nI 2), (26, .lit (.int .i64 1)), (28, .nd 10 (.int .i16)), (1, nI 11), (33, nI 11), (27, nI 11)]) q78 (.cons (win_mid row76 hP (dL q78)) .nil) (sepOk_ro rfl) (.cons (rule_len (dNd rfl rfl) (dNd rfl ⟨_, rfl⟩)) (.cons (rule_ia (k := i) (dNd rfl rfl) (dNd rfl ⟨_, rfl⟩) hn rfl) .nil)) (eC q78 (sc (sn B3) (.cons (put_no b53) (.cons (put_no b55) (.cons (put_no b57) (.cons (put_no b65) .nil)))))) tb_ok ap_ok ?_
   refine all1 kr fun vs ls H79 E79 st hE => ?_
   have b80 := eo st hE 31 (.ptr l ((i * 4) + 3))
   obtain ⟨w81, hw81⟩ : ∃ z, z = (IntKind.wrap .i16 (IntKind.wrap .i64 (w54 + 1))) := ⟨_, rfl⟩
   have b82 : E79 28 = .int .i16 w81 := by rw [hw81]; exact eo st hE 28 _
   obtain ⟨w83, hw83⟩ : ∃ z, z = (IntKind.wrap .i64 (w54 + 1)) := ⟨_, rfl⟩
   have nw83 : w83 = (((q + 1) + 1) + 1) := by rw [hw83, nw54]; exact e2
   have b84 : E79 1 = .int .i64 w83 := by rw [hw83]; exact eo st hE 1 _
   have b86 : E79 33 = .int .i64 w83 := by rw [hw83]; exact eo st hE 33 _
   have b94 : E79 27 = .int .i64 w83 := by rw [hw83]; exact eo st hE 27 _
   have B4 := es st hE [(32, .int .i64 w54), (6, .int .i64 2), (22, .int .i64 1), (23, .int .i64 2), (20, .int .i64 2), (21, .bool true), (0, .slice l 0 ms.length cap 4), (5, .int .i64 (i : Int)), (24, .slice l 0 ms.length cap 4), (25, .int .i64 (i : Int)), (26, .int .i64 2)]
   have g100 : Grew H75 H79 := (gk st)
   have g101 : Only l H H79 := g77.grew g100
   have row103 := g100.at row76
   refine res_store_in (d := none) (n := 1) (x := .tmp 31) (y := .tmp 28) kr (off := 3) (C' := [.int .i64 q, .int .i16 w27, .int .i16 w52, .int .i16 w81]) (vs := [.int .i16 w81]) b80 row103 hP (by show AV.cells (E79 28) = _; rw [b82]; rfl) rfl (by simp) rfl rfl ?_
   intro H104 row105 oH104
   have g106 := g101.trans oH104
   have q107 := q78.app (kL : KdsL [.int .i16, KI] [.int .i16 w81, .int .i64 w83])
   refine run_mc (φ := φ0) (pm := pmR 1 [(.len (n1 0), nI 3), (.ia 4 (n1 0) (nI 2), .ptr 0 0)] 10) 20 (ws := [⟨l, (i * 4), [nI 1, .nd 8 (.int .i16), .nd 10 (.int .i16), .nd 12 (.int .i16)], false⟩]) (env := [(32, nI 11), (6, .lit (.int .i64 2)), (22, .lit (.int .i64 1)), (23, .lit (.int .i64 2)), (20, .lit (.int .i64 2)), (21, .lit (.bool true)), (0, n1 0), (5, nI 2), (24, n1 0), (25, nI 2), (26, .lit (.int .i64 2)), (28, .nd 12 (.int .i16)), (1, nI 13), (33, nI 13), (27, nI 13)]) q107 (.cons (win_mid row105 hP (dL q107)) .nil) (sepOk_ro rfl) (.cons (rule_len (dNd rfl rfl) (dNd rfl ⟨_, rfl⟩)) (.cons (rule_ia (k := i) (dNd rfl rfl) (dNd rfl ⟨_, rfl⟩) hn rfl) .nil)) (eC q107 (sc (sn B4) (.cons (put_no b82) (.cons (put_no b84) (.cons (put_no b86) (.cons (put_no b94) .nil)))))) tb_ok ap_ok ?_
   refine all1 kr fun vs ls H9 E9 st hE => ?_
   have g9 : Grew H104 H9 := (gk st)
   have r9 := g9.at row105
   have c9 : E9 1 = .int .i64 (IntKind.wrap .i64 (w83 + 1)) := env_of st.inn hE 1 kr
   have d9 : E9 5 = .int .i64 (IntKind.wrap .i64 ((i : Int) + 1)) := env_of st.inn hE 5 kr
   have z9 : E9 0 = .slice l 0 ms.length cap 4 := env_of st.inn hE 0 kr
   refine res_norm kr ⟨z - 1, hza, i + 1, hzb, z9, ?_, ?_, g106.grew g9, ?_⟩
   ·
    rw [c9, nw83, e3, hqn]
   ·
    rw [d9, hiw]
   ·
    rw [r9, mksReading_succ, ← hPe, ← hQ, ← hq, show [.int .i64 q, .int .i16 w27, .int .i16 w52, .int .i16 w81] = mkReading q from ?_, List.append_assoc]
    simp only [mkReading, nw29, nw54, nw83, hw27, hw52, hw81, e0, e1, e2, e3]
  ·
   intro vs ls H9 E9 st hE
   exact absurd hni (of_decide_eq_false (bfact (x := decide ((i : Int) < (ms.length : Int))) st.inn 0 kr))
 ·
  obtain rfl : i = ms.length := by omega
  have q108 : KdsL [.one, KI, KI] [.slice l 0 ms.length cap 4, .int .i64 q, .int .i64 (ms.length : Int)] := .cons rfl (.cons kA (.cons kA .nil))
  refine rD 0 10 [(.len (n1 0), nI 2)] [] [(0, n1 0), (1, nI 1), (5, nI 2)] q108 (.cons (rule_len (dNd rfl rfl) (dNd rfl ⟨_, rfl⟩)) .nil) (.cons c0 (.cons c1 (.cons ci .nil))) ?_
  refine all1 kr fun vs ls H109 E109 st hE => ?_
  have b110 := eo st hE 1 (.int .i64 q)
  have g111 : Grew H0 H109 := (gk st)
  have g112 : Only l H H109 := gO.grew g111
  have re := g111.at row
  refine res_exit (id := 0) kr ?_
  refine rC 0 10 [] [(1, nI 1)] q108 (.cons b110 .nil) ?_
  refine all1 kr fun vs ls H9 E9 st hE => ?_
  have g9 : Grew H109 H9 := (gk st)
  refine res_ex kr (end_same st.inn hE (.inr rfl) (a := .int .i64 q) kr (g112.grew g9).next ⟨by rw [hq], g112.grew g9, ?_⟩)
  rw [g9.at re]; simp
theorem k_heldReadingS (H : AHeap) (k : Int) (n : Nat) (S : AV) (hS : SlL H 4 (mksReading k n) S) (h0 : 0 ≤ k) (h1 : k ≤ 1152921504606846976) (hmax : n ≤ 1048576) : APure Try.prog 39 [S, .int .i64 k] H (.int .i64 (k + 4 * (n : Int))) := by
 refine res_start h_laws_heldReadingS (by simp) ?_
 have q1 : KdsL [.one, KI] [S, .int .i64 k] := kL
 refine rC 0 0 [] [(0, n1 0), (1, nI 1)] q1 (.cons (t := 0) rfl (.cons (t := 1) rfl .nil)) ?_
 refine all1 kr fun vs ls H2 E2 st hE => ?_
 have b3 := eo st hE 5 (.int .i64 0)
 have b4 := eo st hE 0 S
 have b5 := eo st hE 1 (.int .i64 k)
 have g6 : Grew H H2 := (gk st)
 have g7 : Grew H H2 := Grew.trans (Grew.refl _) g6
 refine res_loop kr (fun z E H' => ∃ i, z + i = n ∧ E 0 = S ∧ E 1 = .int .i64 (k + 4 * (i : Int)) ∧ E 5 = .int .i64 (i : Int) ∧ Grew H H') n
  ⟨0, by omega, b4, by simpa using b5, b3, g7⟩ ?_
 clear b4 b5 b3
 rintro z E0 H0 ⟨i, hz, c0, c1, ci, gO⟩
 obtain ⟨q, hq⟩ : ∃ q, q = k + 4 * (i : Int) := ⟨_, rfl⟩
 rw [← hq] at c1
 have hlen := mksReading_len k n
 rcases Nat.lt_or_ge i n with hlt | hge
 ·
  have hqb : -4611686018427387904 ≤ q ∧ q + 4 ≤ 4611686018427387904 := by omega
  have e0 : IntKind.i64.wrap (q + 1) = (q + 1) := wrap_i64 om om
  have e1 : IntKind.i64.wrap ((q + 1) + 1) = ((q + 1) + 1) := wrap_i64 om om
  have e2 : IntKind.i64.wrap (((q + 1) + 1) + 1) = (((q + 1) + 1) + 1) := wrap_i64 om om
  have e3 : IntKind.i64.wrap ((((q + 1) + 1) + 1) + 1) = ((((q + 1) + 1) + 1) + 1) := wrap_i64 om om
  have hza : z - 1 < z := by omega
  have hzb : z - 1 + (i + 1) = n := by omega
  have hni : (i : Int) < (n : Int) := by omega
  have hiw : IntKind.i64.wrap ((i : Int) + 1) = ((i + 1 : Nat) : Int) := wrap64 om
  have hqn : ((((q + 1) + 1) + 1) + 1) = k + 4 * ((i + 1 : Nat) : Int) := by push_cast; omega
  have hlm : i < (mksReading k n).length := by rw [hlen]; exact hlt
  obtain ⟨lS, cap, rest, wr, eS, gS0⟩ := hS.isSl hlm
  have gS := gO.at gS0
  have hm : (mksReading k n)[i] = mkReading q := by rw [hq, ← mksReading_get k hlt]; simp [List.getD_eq_getElem?_getD, hlm]
  have q8 : KdsL [.one, KI, KI, KI, KI, .int .i16, .int .i16, .int .i16] [S, .int .i64 q, .int .i64 (i : Int), .int .i64 (n : Int), .int .i64 q, .int .i16 (IntKind.wrap .i16 (q + 1)), .int .i16 (IntKind.wrap .i16 ((q + 1) + 1)), .int .i16 (IntKind.wrap .i16 (((q + 1) + 1) + 1))] := kL
  refine run_mc (φ := φ0) (pm := pmR 1 [(.len (n1 0), nI 3), (.ia 4 (n1 0) (nI 2), .ptr 0 0)] 10) 20 (ws := [⟨lS, (i * 4), [nI 4, .nd 5 (.int .i16), .nd 6 (.int .i16), .nd 7 (.int .i16)], false⟩]) (env := [(0, n1 0), (1, nI 1), (5, nI 2)]) q8 (.cons (win_elem (mksReading_recs k n) gS hlm rfl (by rw [hm]; exact (dL q8))) .nil) (sepOk_ro rfl) (.cons (⟨_, _, dNd rfl (slOne hS), dNd rfl ⟨_, rfl⟩, hlen ▸ slLen hS⟩) (.cons (rule_iaS (k := i) (dNd rfl (slOne hS)) eS (dNd rfl ⟨_, rfl⟩) hlm rfl) .nil)) (eC q8 (.cons c0 (.cons c1 (.cons ci .nil)))) tb_ok ap_ok ?_
  refine all6 kr ?_ ?_ ?_ ?_ ?_ ?_
  ·
   intro vs ls H9 E9 st hE
   exact absurd (show q = q by simp only [e0, e1, e2, e3]) (of_decide_eq_false (bfact (x := decide (q = q)) st.inn 0 kr))
  ·
   intro vs ls H9 E9 st hE
   exact absurd (show (IntKind.wrap .i16 (q + 1)) = (IntKind.wrap .i16 (IntKind.wrap .i64 (q + 1))) by simp only [e0, e1, e2, e3]) (of_decide_eq_false (bfact (x := decide ((IntKind.wrap .i16 (q + 1)) = (IntKind.wrap .i16 (IntKind.wrap .i64 (q + 1))))) st.inn 0 kr))
  ·
   intro vs ls H9 E9 st hE
   exact absurd (show (IntKind.wrap .i16 ((q + 1) + 1)) = (IntKind.wrap .i16 (IntKind.wrap .i64 ((IntKind.wrap .i64 (q + 1)) + 1))) by simp only [e0, e1, e2, e3]) (of_decide_eq_false (bfact (x := decide ((IntKind.wrap .i16 ((q + 1) + 1)) = (IntKind.wrap .i16 (IntKind.wrap .i64 ((IntKind.wrap .i64 (q + 1)) + 1))))) st.inn 0 kr))
  ·
   intro vs ls H9 E9 st hE
   exact absurd (show (IntKind.wrap .i16 (((q + 1) + 1) + 1)) = (IntKind.wrap .i16 (IntKind.wrap .i64 ((IntKind.wrap .i64 ((IntKind.wrap .i64 (q + 1)) + 1)) + 1))) by simp only [e0, e1, e2, e3]) (of_decide_eq_false (bfact (x := decide ((IntKind.wrap .i16 (((q + 1) + 1) + 1)) = (IntKind.wrap .i16 (IntKind.wrap .i64 ((IntKind.wrap .i64 ((IntKind.wrap .i64 (q + 1)) + 1)) + 1))))) st.inn 0 kr))
  ·
   intro vs ls H9 E9 st hE
   have g9 : Grew H0 H9 := (gk st)
   have z9 : E9 0 = S := env_of st.inn hE 0 kr
   have c9 : E9 1 = .int .i64 (IntKind.wrap .i64 ((IntKind.wrap .i64 ((IntKind.wrap .i64 ((IntKind.wrap .i64 (q + 1)) + 1)) + 1)) + 1)) := env_of st.inn hE 1 kr
   have d9 : E9 5 = .int .i64 (IntKind.wrap .i64 ((i : Int) + 1)) := env_of st.inn hE 5 kr
   refine res_norm kr ⟨z - 1, hza, i + 1, hzb, z9, ?_, ?_, gO.trans g9⟩
   ·
    rw [c9]; simp only [e0, e1, e2, e3]; rw [hqn]
   ·
    rw [d9, hiw]
  ·
   intro vs ls H9 E9 st hE
   exact absurd hni (of_decide_eq_false (bfact (x := decide ((i : Int) < (n : Int))) st.inn 0 kr))
 ·
  obtain rfl : i = n := by omega
  have q9 : KdsL [.one, KI, KI] [S, .int .i64 q, .int .i64 (i : Int)] := kL
  refine rD 0 10 [(.len (n1 0), nI 2)] [] [(0, n1 0), (1, nI 1), (5, nI 2)] q9 (.cons (⟨_, _, dNd rfl (slOne hS), dNd rfl ⟨_, rfl⟩, hlen ▸ slLen hS⟩) .nil) (.cons c0 (.cons c1 (.cons ci .nil))) ?_
  refine all1 kr fun vs ls H10 E10 st hE => ?_
  have b11 := eo st hE 1 (.int .i64 q)
  have g12 : Grew H0 H10 := (gk st)
  have g13 := Grew.trans gO g12
  refine res_exit (id := 0) kr ?_
  refine rC 0 10 [] [(1, nI 1)] q9 (.cons b11 .nil) ?_
  refine all1 kr fun vs ls H9 E9 st hE => ?_
  exact res_ex kr (end_flat st.inn hE (.inr rfl) (a := .int .i64 q) kr (g13.trans (gk st)) rfl ⟨by rw [hq], rfl⟩)
end Go.Proofs.Ytnleibiniajbnaa
