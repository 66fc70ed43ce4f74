/- Contracts of the law's words that write and read marks in slices of records: Spot. -/
import Derived.Test.YtnleibiniajbnaaTSpot
import Derived.Test.YtnleibiniajbnaaSxD
set_option linter.unusedVariables false
set_option linter.unusedSimpArgs false
namespace Go.Proofs.Ytnleibiniajbnaa
open Go.Ab
set_option maxRecDepth 100000
set_option maxHeartbeats 1000000
attribute [local irreducible] Res
def mkSpot (q : Int) : List AV := [.int .i16 (IntKind.wrap .i16 q), .int .i16 (IntKind.wrap .i16 (q + 1))]
def mksSpot (q : Int) (n : Nat) : List (List AV) := (List.range n).map fun (i : Nat) => mkSpot (q + 2 * (i : Int))
theorem mksSpot_len (q : Int) (n : Nat) : (mksSpot q n).length = n := by simp [mksSpot]
theorem mksSpot_recs (q : Int) (n : Nat) : Recs KS (mksSpot q n) := by
 intro m hm
 simp only [mksSpot, List.mem_map] at hm
 obtain ⟨i, _, rfl⟩ := hm
 exact .cons ⟨_, rfl⟩ (.cons ⟨_, rfl⟩ .nil)
theorem mksSpot_flat (q : Int) (n : Nat) : (mksSpot q n).flatten.length = n * 2 := by
 have := take_flat_len (mksSpot_recs q n).len (i := n) (by rw [mksSpot_len]; exact Nat.le_refl _)
 rwa [List.take_of_length_le (by rw [mksSpot_len]; exact Nat.le_refl _)] at this
theorem mksSpot_succ (q : Int) (n : Nat) : (mksSpot q (n + 1)).flatten = (mksSpot q n).flatten ++ mkSpot (q + 2 * (n : Int)) := by
 simp [mksSpot, List.range_succ]
theorem mksSpot_get (q : Int) {n i : Nat} (h : i < n) : (mksSpot q n).getD i [] = mkSpot (q + 2 * (i : Int)) := by
 simp [mksSpot, List.getD_eq_getElem?_getD, h]
theorem k_markSpotS (H : AHeap) (ms : List (List AV)) (hr : Recs KS ms) (l cap : Nat) (rest : List AV) (hg : H.get l = some (.row (ms.flatten ++ rest) true)) (k : Int) (h0 : 0 ≤ k) (h1 : k ≤ 1152921504606846976) (hmax : ms.length ≤ 1048576) : ACalls Try.prog 28 [.slice l 0 ms.length cap 2, .int .i64 k] H fun r H' => r = .int .i64 (k + 2 * (ms.length : Int)) ∧ Only l H H' ∧ H'.get l = some (.row ((mksSpot k ms.length).flatten ++ rest) true) := by
 refine res_start h_laws_markSpotS (by simp) ?_
 have row0 := hg
 have q1 : KdsL [.one, KI] [.slice l 0 ms.length cap 2, .int .i64 k] := .cons rfl (.cons ⟨_, rfl⟩ .nil)
 refine run_mc (φ := φ0) (pm := pmR 0 [] 0) 20 (ws := []) (env := [(0, n1 0), (1, nI 1)]) q1 .nil (sepOk_ro rfl) .nil (eC q1 (.cons (t := 0) rfl (.cons (t := 1) rfl .nil))) tb_ok ap_ok ?_
 refine all1 (by kernel_rfl) ?_
 intro vs ls H2 E2 st hE
 have b3 := eo st hE 5 (.int .i64 0)
 have b4 := eo st hE 0 (.slice l 0 ms.length cap 2)
 have b5 := eo st hE 1 (.int .i64 k)
 have g6 : Grew H H2 := (gk st)
 have g7 : Only l H H2 := (Only.refl _ _).grew g6
 clear st hE vs ls
 have r8 := g6.at hg
 refine res_loop (by kernel_rfl) (fun z E H' => ∃ i, z + i = ms.length ∧ E 0 = .slice l 0 ms.length cap 2 ∧ E 1 = .int .i64 (k + 2 * (i : Int)) ∧ E 5 = .int .i64 (i : Int) ∧ Only l H H' ∧ H'.get l = some (.row ((mksSpot k i).flatten ++ ((ms.drop i).flatten ++ rest)) true)) ms.length
  ⟨0, by omega, b4, by simpa using b5, b3, g7, by simpa [mksSpot] using r8⟩ ?_
 clear b4 b5 b3 r8
 rintro z E0 H0 ⟨i, hz, c0, c1, ci, gO, row⟩
 obtain ⟨q, hq⟩ : ∃ q, q = k + 2 * (i : Int) := ⟨_, rfl⟩
 rw [← hq] at c1
 rcases Nat.lt_or_ge i ms.length with hlt | hge
 ·
  obtain ⟨v0, v1, hm⟩ := partsSpot (hr.get hlt)
  have hqb : -4611686018427387904 ≤ q ∧ q + 2 ≤ 4611686018427387904 := by omega
  have e0 : IntKind.i64.wrap (q + 1) = (q + 1) := wrap_i64 (by omega) (by omega)
  have e1 : IntKind.i64.wrap ((q + 1) + 1) = ((q + 1) + 1) := wrap_i64 (by omega) (by omega)
  have hP : (mksSpot k i).flatten.length = i * 2 := mksSpot_flat k i
  have hd : (ms.drop i).flatten = ms[i] ++ (ms.drop (i + 1)).flatten := by rw [List.drop_eq_getElem_cons hlt, List.flatten_cons]
  rw [hd, hm, List.append_assoc] at row
  obtain ⟨Q, hQ⟩ : ∃ Q, Q = (ms.drop (i + 1)).flatten ++ rest := ⟨_, rfl⟩
  obtain ⟨P, hPe⟩ : ∃ P, P = (mksSpot k i).flatten := ⟨_, rfl⟩
  rw [← hQ, ← hPe] at row
  rw [← hPe] at hP
  have hn : i < ms.length := hlt
  have hza : z - 1 < z := by omega
  have hzb : z - 1 + (i + 1) = ms.length := by omega
  have hni : (i : Int) < (ms.length : Int) := by omega
  have hiw : IntKind.i64.wrap ((i : Int) + 1) = ((i + 1 : Nat) : Int) := wrap64 (by omega)
  have hqn : ((q + 1) + 1) = k + 2 * ((i + 1 : Nat) : Int) := by push_cast; omega
  have q9 : KdsL [.one, KI, KI, KI, .int .i16, .int .i16] [.slice l 0 ms.length cap 2, .int .i64 q, .int .i64 (i : Int), .int .i64 (ms.length : Int), .int .i16 v0, .int .i16 v1] := .cons rfl (.cons ⟨_, rfl⟩ (.cons ⟨_, rfl⟩ (.cons ⟨_, rfl⟩ (.cons ⟨_, rfl⟩ (.cons ⟨_, rfl⟩ .nil)))))
  refine run_mc (φ := φ0) (pm := pmR 1 [(.len (n1 0), nI 3), (.ia 2 (n1 0) (nI 2), .ptr 0 0)] 10) 20 (ws := [⟨l, (i * 2), [.nd 4 (.int .i16), .nd 5 (.int .i16)], false⟩]) (env := [(0, n1 0), (1, nI 1), (5, nI 2)]) q9 (.cons (win_mid row hP (dL q9)) .nil) (sepOk_ro rfl) (.cons (rule_len (dNd rfl rfl) (dNd rfl ⟨_, rfl⟩)) (.cons (rule_ia (k := i) (dNd rfl rfl) (dNd rfl ⟨_, rfl⟩) hn rfl) .nil)) (eC q9 (.cons c0 (.cons c1 (.cons ci .nil)))) tb_ok ap_ok ?_
  refine all2 (by kernel_rfl) ?_ ?_
  ·
   intro vs ls H10 E10 st hE
   have f11 : (i : Int) < (ms.length : Int) := dt st 0
   have b12 := eo st hE 23 (.ptr l ((i * 2) + 0))
   obtain ⟨w13, hw13⟩ : ∃ z, z = (IntKind.wrap .i16 q) := ⟨_, rfl⟩
   have b14 : E10 21 = .int .i16 w13 := by rw [hw13]; exact eo st hE 21 _
   have b15 := eo st hE 1 (.int .i64 q)
   have b16 := eo st hE 6 (.int .i64 0)
   have b17 := eo st hE 13 (.int .i64 0)
   have b18 := eo st hE 14 (.bool true)
   have b19 := eo st hE 0 (.slice l 0 ms.length cap 2)
   have b20 := eo st hE 5 (.int .i64 (i : Int))
   have b21 := eo st hE 20 (.int .i64 q)
   have b22 := eo st hE 17 (.slice l 0 ms.length cap 2)
   have b23 := eo st hE 18 (.int .i64 (i : Int))
   have b25 := eo st hE 19 (.int .i64 0)
   have g26 : Grew H0 H10 := (gk st)
   have g27 : Only l H H10 := gO.grew g26
   clear st hE vs ls
   have row29 := g26.at row
   refine res_store_in (d := none) (n := 1) (x := .tmp 23) (y := .tmp 21) (by kernel_rfl) (off := 0) (C' := [.int .i16 w13, .int .i16 v1]) (vs := [.int .i16 w13]) b12 row29 hP (by show AV.cells (E10 21) = _; rw [b14]; rfl) rfl (by simp) rfl rfl ?_
   intro H30 row31 oH30
   have g32 := g27.trans oH30
   have q33 := q9.app (.cons ⟨_, rfl⟩ .nil : KdsL [.int .i16] [.int .i16 w13])
   refine run_mc (φ := φ0) (pm := pmR 1 [(.len (n1 0), nI 3), (.ia 2 (n1 0) (nI 2), .ptr 0 0)] 10) 20 (ws := [⟨l, (i * 2), [.nd 6 (.int .i16), .nd 5 (.int .i16)], false⟩]) (env := [(21, .nd 6 (.int .i16)), (1, nI 1), (6, .lit (.int .i64 0)), (13, .lit (.int .i64 0)), (14, .lit (.bool true)), (0, n1 0), (5, nI 2), (20, nI 1), (17, n1 0), (18, nI 2), (19, .lit (.int .i64 0))]) q33 (.cons (win_mid row31 hP (dL q33)) .nil) (sepOk_ro rfl) (.cons (rule_len (dNd rfl rfl) (dNd rfl ⟨_, rfl⟩)) (.cons (rule_ia (k := i) (dNd rfl rfl) (dNd rfl ⟨_, rfl⟩) hn rfl) .nil)) (eC q33 (.cons (put_no b14) (.cons (put_no b15) (.cons (put_no b16) (.cons (put_no b17) (.cons (put_no b18) (.cons (put_no b19) (.cons (put_no b20) (.cons (put_no b21) (.cons (put_no b22) (.cons (put_no b23) (.cons (put_no b25) .nil)))))))))))) tb_ok ap_ok ?_
   refine all1 (by kernel_rfl) ?_
   intro vs ls H34 E34 st hE
   have b35 := eo st hE 23 (.ptr l ((i * 2) + 1))
   obtain ⟨w36, hw36⟩ : ∃ z, z = (IntKind.wrap .i16 (IntKind.wrap .i64 (q + 1))) := ⟨_, rfl⟩
   have b37 : E34 21 = .int .i16 w36 := by rw [hw36]; exact eo st hE 21 _
   obtain ⟨w38, hw38⟩ : ∃ z, z = (IntKind.wrap .i64 (q + 1)) := ⟨_, rfl⟩
   have nw38 : w38 = (q + 1) := by rw [hw38]; exact e0
   have b39 : E34 1 = .int .i64 w38 := by rw [hw38]; exact eo st hE 1 _
   have b40 := eo st hE 24 (.int .i64 q)
   have b41 : E34 25 = .int .i64 w38 := by rw [hw38]; exact eo st hE 25 _
   have b42 := eo st hE 6 (.int .i64 1)
   have b43 := eo st hE 15 (.int .i64 0)
   have b44 := eo st hE 16 (.int .i64 1)
   have b45 := eo st hE 13 (.int .i64 1)
   have b46 := eo st hE 14 (.bool true)
   have b47 := eo st hE 0 (.slice l 0 ms.length cap 2)
   have b48 := eo st hE 5 (.int .i64 (i : Int))
   have b49 : E34 20 = .int .i64 w38 := by rw [hw38]; exact eo st hE 20 _
   have b50 := eo st hE 17 (.slice l 0 ms.length cap 2)
   have b51 := eo st hE 18 (.int .i64 (i : Int))
   have b53 := eo st hE 19 (.int .i64 1)
   have g54 : Grew H30 H34 := (gk st)
   have g55 : Only l H H34 := g32.grew g54
   clear st hE vs ls
   have row57 := g54.at row31
   refine res_store_in (d := none) (n := 1) (x := .tmp 23) (y := .tmp 21) (by kernel_rfl) (off := 1) (C' := [.int .i16 w13, .int .i16 w36]) (vs := [.int .i16 w36]) b35 row57 hP (by show AV.cells (E34 21) = _; rw [b37]; rfl) rfl (by simp) rfl rfl ?_
   intro H58 row59 oH58
   have g60 := g55.trans oH58
   have q61 := q33.app (.cons ⟨_, rfl⟩ (.cons ⟨_, rfl⟩ .nil) : KdsL [.int .i16, KI] [.int .i16 w36, .int .i64 w38])
   refine run_mc (φ := φ0) (pm := pmR 1 [(.len (n1 0), nI 3), (.ia 2 (n1 0) (nI 2), .ptr 0 0)] 10) 20 (ws := [⟨l, (i * 2), [.nd 6 (.int .i16), .nd 7 (.int .i16)], false⟩]) (env := [(21, .nd 7 (.int .i16)), (1, nI 8), (24, nI 1), (25, nI 8), (6, .lit (.int .i64 1)), (15, .lit (.int .i64 0)), (16, .lit (.int .i64 1)), (13, .lit (.int .i64 1)), (14, .lit (.bool true)), (0, n1 0), (5, nI 2), (20, nI 8), (17, n1 0), (18, nI 2), (19, .lit (.int .i64 1))]) q61 (.cons (win_mid row59 hP (dL q61)) .nil) (sepOk_ro rfl) (.cons (rule_len (dNd rfl rfl) (dNd rfl ⟨_, rfl⟩)) (.cons (rule_ia (k := i) (dNd rfl rfl) (dNd rfl ⟨_, rfl⟩) hn rfl) .nil)) (eC q61 (.cons (put_no b37) (.cons (put_no b39) (.cons (put_no b40) (.cons (put_no b41) (.cons (put_no b42) (.cons (put_no b43) (.cons (put_no b44) (.cons (put_no b45) (.cons (put_no b46) (.cons (put_no b47) (.cons (put_no b48) (.cons (put_no b49) (.cons (put_no b50) (.cons (put_no b51) (.cons (put_no b53) .nil)))))))))))))))) tb_ok ap_ok ?_
   refine all1 (by kernel_rfl) ?_
   intro vs ls H9 E9 st hE
   have g9 : Grew H58 H9 := (gk st)
   have r9 := g9.at row59
   have c9 : E9 1 = .int .i64 (IntKind.wrap .i64 (w38 + 1)) := env_of st.inn hE 1 (by kernel_rfl)
   have d9 : E9 5 = .int .i64 (IntKind.wrap .i64 ((i : Int) + 1)) := env_of st.inn hE 5 (by kernel_rfl)
   have z9 : E9 0 = .slice l 0 ms.length cap 2 := env_of st.inn hE 0 (by kernel_rfl)
   refine res_norm (by kernel_rfl) ⟨z - 1, hza, i + 1, hzb, z9, ?_, ?_, g60.grew g9, ?_⟩
   ·
    rw [c9, nw38, e1, hqn]
   ·
    rw [d9, hiw]
   ·
    rw [r9, mksSpot_succ, ← hPe, ← hQ, ← hq, show [.int .i16 w13, .int .i16 w36] = mkSpot q from ?_, List.append_assoc]
    simp only [mkSpot, nw38, hw13, hw36, e0, e1]
  ·
   intro vs ls H9 E9 st hE
   exact absurd hni (of_decide_eq_false (bfact (x := decide ((i : Int) < (ms.length : Int))) st.inn 0 (by kernel_rfl)))
 ·
  obtain rfl : i = ms.length := by omega
  have q62 : KdsL [.one, KI, KI] [.slice l 0 ms.length cap 2, .int .i64 q, .int .i64 (ms.length : Int)] := .cons rfl (.cons ⟨_, rfl⟩ (.cons ⟨_, rfl⟩ .nil))
  refine run_mc (φ := φ0) (pm := pmR 0 [(.len (n1 0), nI 2)] 10) 20 (ws := []) (env := [(0, n1 0), (1, nI 1), (5, nI 2)]) q62 .nil (sepOk_ro rfl) (.cons (rule_len (dNd rfl rfl) (dNd rfl ⟨_, rfl⟩)) .nil) (eC q62 (.cons c0 (.cons c1 (.cons ci .nil)))) tb_ok ap_ok ?_
  refine all1 (by kernel_rfl) ?_
  intro vs ls H63 E63 st hE
  have b64 := eo st hE 1 (.int .i64 q)
  have g65 : Grew H0 H63 := (gk st)
  have g66 : Only l H H63 := gO.grew g65
  clear st hE vs ls
  have re := g65.at row
  refine res_exit (id := 0) (by kernel_rfl) ?_
  refine run_mc (φ := φ0) (pm := pmR 0 [] 10) 20 (ws := []) (env := [(1, nI 1)]) q62 .nil (sepOk_ro rfl) .nil (eC q62 (.cons b64 .nil)) tb_ok ap_ok ?_
  refine all1 (by kernel_rfl) ?_
  intro vs ls H9 E9 st hE
  have g9 : Grew H63 H9 := (gk st)
  refine res_ex (by kernel_rfl) (end_same st.inn hE (.inr rfl) (a := .int .i64 q) (by kernel_rfl) (g66.grew g9).next ⟨by rw [hq], g66.grew g9, ?_⟩)
  rw [g9.at re]; simp
theorem k_heldSpotS (H : AHeap) (k : Int) (n : Nat) (S : AV) (hS : SlL H 2 (mksSpot k n) S) (h0 : 0 ≤ k) (h1 : k ≤ 1152921504606846976) (hmax : n ≤ 1048576) : APure Try.prog 29 [S, .int .i64 k] H (.int .i64 (k + 2 * (n : Int))) := by
 refine res_start h_laws_heldSpotS (by simp) ?_
 have q1 : KdsL [.one, KI] [S, .int .i64 k] := .cons (slOne hS) (.cons ⟨_, rfl⟩ .nil)
 refine run_mc (φ := φ0) (pm := pmR 0 [] 0) 20 (ws := []) (env := [(0, n1 0), (1, nI 1)]) q1 .nil (sepOk_ro rfl) .nil (eC q1 (.cons (t := 0) rfl (.cons (t := 1) rfl .nil))) tb_ok ap_ok ?_
 refine all1 (by kernel_rfl) ?_
 intro vs ls H2 E2 st hE
 have b3 := eo st hE 5 (.int .i64 0)
 have b4 := eo st hE 0 S
 have b5 := eo st hE 1 (.int .i64 k)
 have g6 : Grew H H2 := (gk st)
 have g7 : Grew H H2 := Grew.trans (Grew.refl _) g6
 clear st hE vs ls
 refine res_loop (by kernel_rfl) (fun z E H' => ∃ i, z + i = n ∧ E 0 = S ∧ E 1 = .int .i64 (k + 2 * (i : Int)) ∧ E 5 = .int .i64 (i : Int) ∧ Grew H H') n
  ⟨0, by omega, b4, by simpa using b5, b3, g7⟩ ?_
 clear b4 b5 b3
 rintro z E0 H0 ⟨i, hz, c0, c1, ci, gO⟩
 obtain ⟨q, hq⟩ : ∃ q, q = k + 2 * (i : Int) := ⟨_, rfl⟩
 rw [← hq] at c1
 have hlen := mksSpot_len k n
 rcases Nat.lt_or_ge i n with hlt | hge
 ·
  have hqb : -4611686018427387904 ≤ q ∧ q + 2 ≤ 4611686018427387904 := by omega
  have e0 : IntKind.i64.wrap (q + 1) = (q + 1) := wrap_i64 (by omega) (by omega)
  have e1 : IntKind.i64.wrap ((q + 1) + 1) = ((q + 1) + 1) := wrap_i64 (by omega) (by omega)
  have hza : z - 1 < z := by omega
  have hzb : z - 1 + (i + 1) = n := by omega
  have hni : (i : Int) < (n : Int) := by omega
  have hiw : IntKind.i64.wrap ((i : Int) + 1) = ((i + 1 : Nat) : Int) := wrap64 (by omega)
  have hqn : ((q + 1) + 1) = k + 2 * ((i + 1 : Nat) : Int) := by push_cast; omega
  have hlm : i < (mksSpot k n).length := by rw [hlen]; exact hlt
  obtain ⟨lS, cap, rest, wr, eS, gS0⟩ := hS.isSl hlm
  have gS := gO.at gS0
  have hm : (mksSpot k n)[i] = mkSpot q := by rw [hq, ← mksSpot_get k hlt]; simp [List.getD_eq_getElem?_getD, hlm]
  have q8 : KdsL [.one, KI, KI, KI, .int .i16, .int .i16] [S, .int .i64 q, .int .i64 (i : Int), .int .i64 (n : Int), .int .i16 (IntKind.wrap .i16 q), .int .i16 (IntKind.wrap .i16 (q + 1))] := .cons (slOne hS) (.cons ⟨_, rfl⟩ (.cons ⟨_, rfl⟩ (.cons ⟨_, rfl⟩ (.cons ⟨_, rfl⟩ (.cons ⟨_, rfl⟩ .nil)))))
  refine run_mc (φ := φ0) (pm := pmR 1 [(.len (n1 0), nI 3), (.ia 2 (n1 0) (nI 2), .ptr 0 0)] 10) 20 (ws := [⟨lS, (i * 2), [.nd 4 (.int .i16), .nd 5 (.int .i16)], false⟩]) (env := [(0, n1 0), (1, nI 1), (5, nI 2)]) q8 (.cons (win_elem (mksSpot_recs k n) gS hlm rfl (by rw [hm]; exact (dL q8))) .nil) (sepOk_ro rfl) (.cons (⟨_, _, dNd rfl (slOne hS), dNd rfl ⟨_, rfl⟩, hlen ▸ slLen hS⟩) (.cons (rule_iaS (k := i) (dNd rfl (slOne hS)) eS (dNd rfl ⟨_, rfl⟩) hlm rfl) .nil)) (eC q8 (.cons c0 (.cons c1 (.cons ci .nil)))) tb_ok ap_ok ?_
  refine all4 (by kernel_rfl) ?_ ?_ ?_ ?_
  ·
   intro vs ls H9 E9 st hE
   exact absurd (show (IntKind.wrap .i16 q) = (IntKind.wrap .i16 q) by simp only [e0, e1]) (of_decide_eq_false (bfact (x := decide ((IntKind.wrap .i16 q) = (IntKind.wrap .i16 q))) st.inn 0 (by kernel_rfl)))
  ·
   intro vs ls H9 E9 st hE
   exact absurd (show (IntKind.wrap .i16 (q + 1)) = (IntKind.wrap .i16 (IntKind.wrap .i64 (q + 1))) by simp only [e0, e1]) (of_decide_eq_false (bfact (x := decide ((IntKind.wrap .i16 (q + 1)) = (IntKind.wrap .i16 (IntKind.wrap .i64 (q + 1))))) st.inn 0 (by kernel_rfl)))
  ·
   intro vs ls H9 E9 st hE
   have g9 : Grew H0 H9 := (gk st)
   have z9 : E9 0 = S := env_of st.inn hE 0 (by kernel_rfl)
   have c9 : E9 1 = .int .i64 (IntKind.wrap .i64 ((IntKind.wrap .i64 (q + 1)) + 1)) := env_of st.inn hE 1 (by kernel_rfl)
   have d9 : E9 5 = .int .i64 (IntKind.wrap .i64 ((i : Int) + 1)) := env_of st.inn hE 5 (by kernel_rfl)
   refine res_norm (by kernel_rfl) ⟨z - 1, hza, i + 1, hzb, z9, ?_, ?_, gO.trans g9⟩
   ·
    rw [c9]; simp only [e0, e1]; rw [hqn]
   ·
    rw [d9, hiw]
  ·
   intro vs ls H9 E9 st hE
   exact absurd hni (of_decide_eq_false (bfact (x := decide ((i : Int) < (n : Int))) st.inn 0 (by kernel_rfl)))
 ·
  obtain rfl : i = n := by omega
  have q9 : KdsL [.one, KI, KI] [S, .int .i64 q, .int .i64 (i : Int)] := .cons (slOne hS) (.cons ⟨_, rfl⟩ (.cons ⟨_, rfl⟩ .nil))
  refine run_mc (φ := φ0) (pm := pmR 0 [(.len (n1 0), nI 2)] 10) 20 (ws := []) (env := [(0, n1 0), (1, nI 1), (5, nI 2)]) q9 .nil (sepOk_ro rfl) (.cons (⟨_, _, dNd rfl (slOne hS), dNd rfl ⟨_, rfl⟩, hlen ▸ slLen hS⟩) .nil) (eC q9 (.cons c0 (.cons c1 (.cons ci .nil)))) tb_ok ap_ok ?_
  refine all1 (by kernel_rfl) ?_
  intro vs ls H10 E10 st hE
  have b11 := eo st hE 1 (.int .i64 q)
  have g12 : Grew H0 H10 := (gk st)
  have g13 : Grew H H10 := Grew.trans gO g12
  clear st hE vs ls
  refine res_exit (id := 0) (by kernel_rfl) ?_
  refine run_mc (φ := φ0) (pm := pmR 0 [] 10) 20 (ws := []) (env := [(1, nI 1)]) q9 .nil (sepOk_ro rfl) .nil (eC q9 (.cons b11 .nil)) tb_ok ap_ok ?_
  refine all1 (by kernel_rfl) ?_
  intro vs ls H9 E9 st hE
  exact res_ex (by kernel_rfl) (end_flat st.inn hE (.inr rfl) (a := .int .i64 q) (by kernel_rfl) (g13.trans (gk st)) rfl ⟨by rw [hq], rfl⟩)
end Go.Proofs.Ytnleibiniajbnaa
