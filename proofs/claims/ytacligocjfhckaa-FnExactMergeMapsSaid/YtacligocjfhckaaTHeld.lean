/- Contracts of the law's words that write and read marks in slices of records: Mark. -/
import Derived.Test.YtacligocjfhckaaTMap
import Derived.Test.YtacligocjfhckaaSxD
set_option linter.unusedVariables false
set_option linter.unusedSimpArgs false
namespace Go.Proofs.Ytacligocjfhckaa
open Go.Ab
set_option maxRecDepth 100000
set_option maxHeartbeats 1000000
attribute [local irreducible] Res
def mkMark (q : Int) : List AV := [.int .i32 (IntKind.wrap .i32 q), .int .i32 (IntKind.wrap .i32 (q + 1)), .int .i32 (IntKind.wrap .i32 ((q + 1) + 1)), .flt .f32 (some (floatOfInt .f32 (((q + 1) + 1) + 1))), .flt .f32 (some (floatOfInt .f32 ((((q + 1) + 1) + 1) + 1))), .flt .f32 (some (floatOfInt .f32 (((((q + 1) + 1) + 1) + 1) + 1))), .flt .f32 (some (floatOfInt .f32 ((((((q + 1) + 1) + 1) + 1) + 1) + 1))), .int .i64 (((((((q + 1) + 1) + 1) + 1) + 1) + 1) + 1), .int .i64 ((((((((q + 1) + 1) + 1) + 1) + 1) + 1) + 1) + 1)]
def mksMark (q : Int) (n : Nat) : List (List AV) := (List.range n).map fun (i : Nat) => mkMark (q + 9 * (i : Int))
theorem mksMark_len (q : Int) (n : Nat) : (mksMark q n).length = n := by simp [mksMark]
theorem mksMark_recs (q : Int) (n : Nat) : Recs KM (mksMark q n) := by
 intro m hm
 simp only [mksMark, List.mem_map] at hm
 obtain ⟨i, _, rfl⟩ := hm
 exact .cons ⟨_, rfl⟩ (.cons ⟨_, rfl⟩ (.cons ⟨_, rfl⟩ (.cons ⟨_, rfl, toF_ok _ _⟩ (.cons ⟨_, rfl, toF_ok _ _⟩ (.cons ⟨_, rfl, toF_ok _ _⟩ (.cons ⟨_, rfl, toF_ok _ _⟩ (.cons ⟨_, rfl⟩ (.cons ⟨_, rfl⟩ .nil))))))))
theorem mksMark_flat (q : Int) (n : Nat) : (mksMark q n).flatten.length = n * 9 := by
 have := take_flat_len (mksMark_recs q n).len (i := n) (by rw [mksMark_len]; exact Nat.le_refl _)
 rwa [List.take_of_length_le (by rw [mksMark_len]; exact Nat.le_refl _)] at this
theorem mksMark_succ (q : Int) (n : Nat) : (mksMark q (n + 1)).flatten = (mksMark q n).flatten ++ mkMark (q + 9 * (n : Int)) := by
 simp [mksMark, List.range_succ]
theorem mksMark_get (q : Int) {n i : Nat} (h : i < n) : (mksMark q n).getD i [] = mkMark (q + 9 * (i : Int)) := by
 simp [mksMark, List.getD_eq_getElem?_getD, h]
theorem k_markMarkS (H : AHeap) (ms : List (List AV)) (hr : Recs KM ms) (l cap : Nat) (rest : List AV) (hg : H.get l = some (.row (ms.flatten ++ rest) true)) (k : Int) (h0 : 0 ≤ k) (h1 : k ≤ 1152921504606846976) (hmax : ms.length ≤ 1048576) : ACalls Try.prog 40 [.slice l 0 ms.length cap 9, .int .i64 k] H fun r H' => r = .int .i64 (k + 9 * (ms.length : Int)) ∧ Only l H H' ∧ H'.get l = some (.row ((mksMark k ms.length).flatten ++ rest) true) := by
 refine res_start h_laws_markMarkS (by simp) ?_
 have row0 := hg
 refine run_mn (φ := φ0) (pm := pmR 0 [] 0) 20 (nk := [(.atom 0, .one), (.atom 1, .int .i64)]) (fs := []) (xs := [.slice l 0 ms.length cap 9, .int .i64 k]) (ws := []) (env := [(0, .nd 0 .one), (1, .nd 1 (.int .i64))]) ?_ ?_ tb_ok ap_ok ?_
 ·
  refine midN_in ?_ .nil _ ?_ ?_ ?_
  ·
   exact (.cons rfl rfl (.cons rfl ⟨_, rfl⟩ .nil))
  ·
   exact .nil
  ·
   exact sepOk_ro rfl
  ·
   exact .nil
 ·
  exact (envEq rfl (dNd rfl rfl) (envEq rfl (dNd rfl ⟨_, rfl⟩) envNil))
 refine all1 (by kernel_rfl) ?_
 intro vs ls H1 E1 st hE
 have b2 := eo st hE 5 (.int .i64 0)
 have b3 := eo st hE 0 (.slice l 0 ms.length cap 9)
 have b4 := eo st hE 1 (.int .i64 k)
 have g5 : Grew H H1 := (gk st)
 have g6 : Only l H H1 := (Only.refl _ _).grew g5
 clear st hE vs ls
 have r7 := g5.at hg
 refine res_loop (by kernel_rfl) (fun z E H' => ∃ i, z + i = ms.length ∧ E 0 = .slice l 0 ms.length cap 9 ∧ E 1 = .int .i64 (k + 9 * (i : Int)) ∧ E 5 = .int .i64 (i : Int) ∧ Only l H H' ∧ H'.get l = some (.row ((mksMark k i).flatten ++ ((ms.drop i).flatten ++ rest)) true)) ms.length
  ⟨0, by omega, b3, by simpa using b4, b2, g6, by simpa [mksMark] using r7⟩ ?_
 clear b3 b4 b2 r7
 rintro z E0 H0 ⟨i, hz, c0, c1, ci, gO, row⟩
 obtain ⟨q, hq⟩ : ∃ q, q = k + 9 * (i : Int) := ⟨_, rfl⟩
 rw [← hq] at c1
 rcases Nat.lt_or_ge i ms.length with hlt | hge
 ·
  obtain ⟨v0, v1, v2, v3, v4, v5, v6, v7, v8, hm, o3, o4, o5, o6⟩ := partsMark (hr.get hlt)
  have hqb : -4611686018427387904 ≤ q ∧ q + 9 ≤ 4611686018427387904 := by omega
  have e0 : IntKind.i64.wrap (q + 1) = (q + 1) := wrap_i64 (by omega) (by omega)
  have e1 : IntKind.i64.wrap ((q + 1) + 1) = ((q + 1) + 1) := wrap_i64 (by omega) (by omega)
  have e2 : IntKind.i64.wrap (((q + 1) + 1) + 1) = (((q + 1) + 1) + 1) := wrap_i64 (by omega) (by omega)
  have e3 : IntKind.i64.wrap ((((q + 1) + 1) + 1) + 1) = ((((q + 1) + 1) + 1) + 1) := wrap_i64 (by omega) (by omega)
  have e4 : IntKind.i64.wrap (((((q + 1) + 1) + 1) + 1) + 1) = (((((q + 1) + 1) + 1) + 1) + 1) := wrap_i64 (by omega) (by omega)
  have e5 : IntKind.i64.wrap ((((((q + 1) + 1) + 1) + 1) + 1) + 1) = ((((((q + 1) + 1) + 1) + 1) + 1) + 1) := wrap_i64 (by omega) (by omega)
  have e6 : IntKind.i64.wrap (((((((q + 1) + 1) + 1) + 1) + 1) + 1) + 1) = (((((((q + 1) + 1) + 1) + 1) + 1) + 1) + 1) := wrap_i64 (by omega) (by omega)
  have e7 : IntKind.i64.wrap ((((((((q + 1) + 1) + 1) + 1) + 1) + 1) + 1) + 1) = ((((((((q + 1) + 1) + 1) + 1) + 1) + 1) + 1) + 1) := wrap_i64 (by omega) (by omega)
  have e8 : IntKind.i64.wrap (((((((((q + 1) + 1) + 1) + 1) + 1) + 1) + 1) + 1) + 1) = (((((((((q + 1) + 1) + 1) + 1) + 1) + 1) + 1) + 1) + 1) := wrap_i64 (by omega) (by omega)
  have hP : (mksMark k i).flatten.length = i * 9 := mksMark_flat k i
  have hd : (ms.drop i).flatten = ms[i] ++ (ms.drop (i + 1)).flatten := by rw [List.drop_eq_getElem_cons hlt, List.flatten_cons]
  rw [hd, hm, List.append_assoc] at row
  obtain ⟨Q, hQ⟩ : ∃ Q, Q = (ms.drop (i + 1)).flatten ++ rest := ⟨_, rfl⟩
  obtain ⟨P, hPe⟩ : ∃ P, P = (mksMark k i).flatten := ⟨_, rfl⟩
  rw [← hQ, ← hPe] at row
  rw [← hPe] at hP
  have hn : i < ms.length := hlt
  have hza : z - 1 < z := by omega
  have hzb : z - 1 + (i + 1) = ms.length := by omega
  have hni : (i : Int) < (ms.length : Int) := by omega
  have hiw : IntKind.i64.wrap ((i : Int) + 1) = ((i + 1 : Nat) : Int) := wrap64 (by omega)
  have hqn : (((((((((q + 1) + 1) + 1) + 1) + 1) + 1) + 1) + 1) + 1) = k + 9 * ((i + 1 : Nat) : Int) := by push_cast; omega
  refine run_mn (φ := φ0) (pm := pmR 1 [(.len (.nd 0 .one), .nd 3 (.int .i64)), (.ia 9 (.nd 0 .one) (.nd 2 (.int .i64)), .ptr 0 0)] 10) 20 (nk := [(.atom 0, .one), (.atom 1, .int .i64), (.atom 2, .int .i64), (.atom 3, .int .i64), (.atom 4, .int .i32), (.atom 5, .int .i32), (.atom 6, .int .i32), (.atom 7, .flt .f32), (.atom 8, .flt .f32), (.atom 9, .flt .f32), (.atom 10, .flt .f32), (.atom 11, .int .i64), (.atom 12, .int .i64)]) (fs := []) (xs := [.slice l 0 ms.length cap 9, .int .i64 q, .int .i64 (i : Int), .int .i64 (ms.length : Int), .int .i32 v0, .int .i32 v1, .int .i32 v2, .flt .f32 v3, .flt .f32 v4, .flt .f32 v5, .flt .f32 v6, .int .i64 v7, .int .i64 v8]) (ws := [⟨l, (i * 9), [.nd 4 (.int .i32), .nd 5 (.int .i32), .nd 6 (.int .i32), .nd 7 (.flt .f32), .nd 8 (.flt .f32), .nd 9 (.flt .f32), .nd 10 (.flt .f32), .nd 11 (.int .i64), .nd 12 (.int .i64)], false⟩]) (env := [(0, .nd 0 .one), (1, .nd 1 (.int .i64)), (5, .nd 2 (.int .i64))]) ?_ ?_ tb_ok ap_ok ?_
  ·
   refine midN_in ?_ .nil _ ?_ ?_ ?_
   ·
    exact (.cons rfl rfl (.cons rfl ⟨_, rfl⟩ (.cons rfl ⟨_, rfl⟩ (.cons rfl ⟨_, rfl⟩ (.cons rfl ⟨_, rfl⟩ (.cons rfl ⟨_, rfl⟩ (.cons rfl ⟨_, rfl⟩ (.cons rfl ⟨_, rfl, o3⟩ (.cons rfl ⟨_, rfl, o4⟩ (.cons rfl ⟨_, rfl, o5⟩ (.cons rfl ⟨_, rfl, o6⟩ (.cons rfl ⟨_, rfl⟩ (.cons rfl ⟨_, rfl⟩ .nil)))))))))))))
   ·
    exact (.cons (win_mid row hP (dlCons (dNd rfl ⟨_, rfl⟩) (dlCons (dNd rfl ⟨_, rfl⟩) (dlCons (dNd rfl ⟨_, rfl⟩) (dlCons (dNd rfl ⟨_, rfl, o3⟩) (dlCons (dNd rfl ⟨_, rfl, o4⟩) (dlCons (dNd rfl ⟨_, rfl, o5⟩) (dlCons (dNd rfl ⟨_, rfl, o6⟩) (dlCons (dNd rfl ⟨_, rfl⟩) (dlCons (dNd rfl ⟨_, rfl⟩) dlNil)))))))))) .nil)
   ·
    exact sepOk_ro rfl
   ·
    exact (.cons (rule_len (dNd rfl rfl) (dNd rfl ⟨_, rfl⟩)) (.cons (rule_ia (k := i) (dNd rfl rfl) (dNd rfl ⟨_, rfl⟩) hn rfl) .nil))
  ·
   exact (envEq c0 (dNd rfl rfl) (envEq c1 (dNd rfl ⟨_, rfl⟩) (envEq ci (dNd rfl ⟨_, rfl⟩) envNil)))
  refine all2 (by kernel_rfl) ?_ ?_
  ·
   intro vs ls H8 E8 st hE
   have f9 : (i : Int) < (ms.length : Int) := dt st 0
   have b10 := eo st hE 25 (.ptr l ((i * 9) + 0))
   obtain ⟨w11, hw11⟩ : ∃ z, z = (IntKind.wrap .i32 q) := ⟨_, rfl⟩
   have b12 : E8 22 = .int .i32 w11 := by rw [hw11]; exact eo st hE 22 _
   have b13 := eo st hE 1 (.int .i64 q)
   have b14 := eo st hE 6 (.int .i64 0)
   have b15 := eo st hE 14 (.int .i64 0)
   have b16 := eo st hE 15 (.bool true)
   have b17 := eo st hE 0 (.slice l 0 ms.length cap 9)
   have b18 := eo st hE 5 (.int .i64 (i : Int))
   have b19 := eo st hE 21 (.int .i64 q)
   have b20 := eo st hE 18 (.slice l 0 ms.length cap 9)
   have b21 := eo st hE 19 (.int .i64 (i : Int))
   have b24 := eo st hE 20 (.int .i64 0)
   have g25 : Grew H0 H8 := (gk st)
   have g26 : Only l H H8 := gO.grew g25
   clear st hE vs ls
   have row28 := g25.at row
   refine res_store_in (d := none) (n := 1) (x := .tmp 25) (y := .tmp 22) (by kernel_rfl) (off := 0) (C' := [.int .i32 w11, .int .i32 v1, .int .i32 v2, .flt .f32 v3, .flt .f32 v4, .flt .f32 v5, .flt .f32 v6, .int .i64 v7, .int .i64 v8]) (vs := [.int .i32 w11]) b10 row28 hP (by show AV.cells (E8 22) = _; rw [b12]; rfl) rfl (by simp) rfl rfl ?_
   intro H29 row30 oH29
   have g31 := g26.trans oH29
   refine run_mn (φ := φ0) (pm := pmR 1 [(.len (.nd 0 .one), .nd 3 (.int .i64)), (.ia 9 (.nd 0 .one) (.nd 2 (.int .i64)), .ptr 0 0)] 10) 20 (nk := [(.atom 0, .one), (.atom 1, .int .i64), (.atom 2, .int .i64), (.atom 3, .int .i64), (.atom 4, .int .i32), (.atom 5, .int .i32), (.atom 6, .int .i32), (.atom 7, .flt .f32), (.atom 8, .flt .f32), (.atom 9, .flt .f32), (.atom 10, .flt .f32), (.atom 11, .int .i64), (.atom 12, .int .i64), (.atom 13, .int .i32)]) (fs := []) (xs := [.slice l 0 ms.length cap 9, .int .i64 q, .int .i64 (i : Int), .int .i64 (ms.length : Int), .int .i32 v0, .int .i32 v1, .int .i32 v2, .flt .f32 v3, .flt .f32 v4, .flt .f32 v5, .flt .f32 v6, .int .i64 v7, .int .i64 v8, .int .i32 w11]) (ws := [⟨l, (i * 9), [.nd 13 (.int .i32), .nd 5 (.int .i32), .nd 6 (.int .i32), .nd 7 (.flt .f32), .nd 8 (.flt .f32), .nd 9 (.flt .f32), .nd 10 (.flt .f32), .nd 11 (.int .i64), .nd 12 (.int .i64)], false⟩]) (env := [(22, .nd 13 (.int .i32)), (1, .nd 1 (.int .i64)), (6, .lit (.int .i64 0)), (14, .lit (.int .i64 0)), (15, .lit (.bool true)), (0, .nd 0 .one), (5, .nd 2 (.int .i64)), (21, .nd 1 (.int .i64)), (18, .nd 0 .one), (19, .nd 2 (.int .i64)), (20, .lit (.int .i64 0))]) ?_ ?_ tb_ok ap_ok ?_
   ·
    refine midN_in ?_ .nil _ ?_ ?_ ?_
    ·
     exact (.cons rfl rfl (.cons rfl ⟨_, rfl⟩ (.cons rfl ⟨_, rfl⟩ (.cons rfl ⟨_, rfl⟩ (.cons rfl ⟨_, rfl⟩ (.cons rfl ⟨_, rfl⟩ (.cons rfl ⟨_, rfl⟩ (.cons rfl ⟨_, rfl, o3⟩ (.cons rfl ⟨_, rfl, o4⟩ (.cons rfl ⟨_, rfl, o5⟩ (.cons rfl ⟨_, rfl, o6⟩ (.cons rfl ⟨_, rfl⟩ (.cons rfl ⟨_, rfl⟩ (.cons rfl ⟨_, rfl⟩ .nil))))))))))))))
    ·
     exact (.cons (win_mid row30 hP (dlCons (dNd rfl ⟨_, rfl⟩) (dlCons (dNd rfl ⟨_, rfl⟩) (dlCons (dNd rfl ⟨_, rfl⟩) (dlCons (dNd rfl ⟨_, rfl, o3⟩) (dlCons (dNd rfl ⟨_, rfl, o4⟩) (dlCons (dNd rfl ⟨_, rfl, o5⟩) (dlCons (dNd rfl ⟨_, rfl, o6⟩) (dlCons (dNd rfl ⟨_, rfl⟩) (dlCons (dNd rfl ⟨_, rfl⟩) dlNil)))))))))) .nil)
    ·
     exact sepOk_ro rfl
    ·
     exact (.cons (rule_len (dNd rfl rfl) (dNd rfl ⟨_, rfl⟩)) (.cons (rule_ia (k := i) (dNd rfl rfl) (dNd rfl ⟨_, rfl⟩) hn rfl) .nil))
   ·
    exact (envEq (put_no b12) (dNd rfl ⟨_, rfl⟩) (envEq (put_no b13) (dNd rfl ⟨_, rfl⟩) (envEq (put_no b14) (dLit rfl) (envEq (put_no b15) (dLit rfl) (envEq (put_no b16) (dLit rfl) (envEq (put_no b17) (dNd rfl rfl) (envEq (put_no b18) (dNd rfl ⟨_, rfl⟩) (envEq (put_no b19) (dNd rfl ⟨_, rfl⟩) (envEq (put_no b20) (dNd rfl rfl) (envEq (put_no b21) (dNd rfl ⟨_, rfl⟩) (envEq (put_no b24) (dLit rfl) envNil)))))))))))
   refine all1 (by kernel_rfl) ?_
   intro vs ls H32 E32 st hE
   have b33 := eo st hE 25 (.ptr l ((i * 9) + 1))
   obtain ⟨w34, hw34⟩ : ∃ z, z = (IntKind.wrap .i32 (IntKind.wrap .i64 (q + 1))) := ⟨_, rfl⟩
   have b35 : E32 22 = .int .i32 w34 := by rw [hw34]; exact eo st hE 22 _
   obtain ⟨w36, hw36⟩ : ∃ z, z = (IntKind.wrap .i64 (q + 1)) := ⟨_, rfl⟩
   have nw36 : w36 = (q + 1) := by rw [hw36]; exact e0
   have b37 : E32 1 = .int .i64 w36 := by rw [hw36]; exact eo st hE 1 _
   have b38 := eo st hE 26 (.int .i64 q)
   have b39 : E32 27 = .int .i64 w36 := by rw [hw36]; exact eo st hE 27 _
   have b40 := eo st hE 6 (.int .i64 1)
   have b41 := eo st hE 16 (.int .i64 0)
   have b42 := eo st hE 17 (.int .i64 1)
   have b43 := eo st hE 14 (.int .i64 1)
   have b44 := eo st hE 15 (.bool true)
   have b45 := eo st hE 0 (.slice l 0 ms.length cap 9)
   have b46 := eo st hE 5 (.int .i64 (i : Int))
   have b47 : E32 21 = .int .i64 w36 := by rw [hw36]; exact eo st hE 21 _
   have b48 := eo st hE 18 (.slice l 0 ms.length cap 9)
   have b49 := eo st hE 19 (.int .i64 (i : Int))
   have b52 := eo st hE 20 (.int .i64 1)
   have g53 : Grew H29 H32 := (gk st)
   have g54 : Only l H H32 := g31.grew g53
   clear st hE vs ls
   have row56 := g53.at row30
   refine res_store_in (d := none) (n := 1) (x := .tmp 25) (y := .tmp 22) (by kernel_rfl) (off := 1) (C' := [.int .i32 w11, .int .i32 w34, .int .i32 v2, .flt .f32 v3, .flt .f32 v4, .flt .f32 v5, .flt .f32 v6, .int .i64 v7, .int .i64 v8]) (vs := [.int .i32 w34]) b33 row56 hP (by show AV.cells (E32 22) = _; rw [b35]; rfl) rfl (by simp) rfl rfl ?_
   intro H57 row58 oH57
   have g59 := g54.trans oH57
   refine run_mn (φ := φ0) (pm := pmR 1 [(.len (.nd 0 .one), .nd 3 (.int .i64)), (.ia 9 (.nd 0 .one) (.nd 2 (.int .i64)), .ptr 0 0)] 10) 20 (nk := [(.atom 0, .one), (.atom 1, .int .i64), (.atom 2, .int .i64), (.atom 3, .int .i64), (.atom 4, .int .i32), (.atom 5, .int .i32), (.atom 6, .int .i32), (.atom 7, .flt .f32), (.atom 8, .flt .f32), (.atom 9, .flt .f32), (.atom 10, .flt .f32), (.atom 11, .int .i64), (.atom 12, .int .i64), (.atom 13, .int .i32), (.atom 14, .int .i32), (.atom 15, .int .i64)]) (fs := []) (xs := [.slice l 0 ms.length cap 9, .int .i64 q, .int .i64 (i : Int), .int .i64 (ms.length : Int), .int .i32 v0, .int .i32 v1, .int .i32 v2, .flt .f32 v3, .flt .f32 v4, .flt .f32 v5, .flt .f32 v6, .int .i64 v7, .int .i64 v8, .int .i32 w11, .int .i32 w34, .int .i64 w36]) (ws := [⟨l, (i * 9), [.nd 13 (.int .i32), .nd 14 (.int .i32), .nd 6 (.int .i32), .nd 7 (.flt .f32), .nd 8 (.flt .f32), .nd 9 (.flt .f32), .nd 10 (.flt .f32), .nd 11 (.int .i64), .nd 12 (.int .i64)], false⟩]) (env := [(22, .nd 14 (.int .i32)), (1, .nd 15 (.int .i64)), (26, .nd 1 (.int .i64)), (27, .nd 15 (.int .i64)), (6, .lit (.int .i64 1)), (16, .lit (.int .i64 0)), (17, .lit (.int .i64 1)), (14, .lit (.int .i64 1)), (15, .lit (.bool true)), (0, .nd 0 .one), (5, .nd 2 (.int .i64)), (21, .nd 15 (.int .i64)), (18, .nd 0 .one), (19, .nd 2 (.int .i64)), (20, .lit (.int .i64 1))]) ?_ ?_ tb_ok ap_ok ?_
   ·
    refine midN_in ?_ .nil _ ?_ ?_ ?_
    ·
     exact (.cons rfl rfl (.cons rfl ⟨_, rfl⟩ (.cons rfl ⟨_, rfl⟩ (.cons rfl ⟨_, rfl⟩ (.cons rfl ⟨_, rfl⟩ (.cons rfl ⟨_, rfl⟩ (.cons rfl ⟨_, rfl⟩ (.cons rfl ⟨_, rfl, o3⟩ (.cons rfl ⟨_, rfl, o4⟩ (.cons rfl ⟨_, rfl, o5⟩ (.cons rfl ⟨_, rfl, o6⟩ (.cons rfl ⟨_, rfl⟩ (.cons rfl ⟨_, rfl⟩ (.cons rfl ⟨_, rfl⟩ (.cons rfl ⟨_, rfl⟩ (.cons rfl ⟨_, rfl⟩ .nil))))))))))))))))
    ·
     exact (.cons (win_mid row58 hP (dlCons (dNd rfl ⟨_, rfl⟩) (dlCons (dNd rfl ⟨_, rfl⟩) (dlCons (dNd rfl ⟨_, rfl⟩) (dlCons (dNd rfl ⟨_, rfl, o3⟩) (dlCons (dNd rfl ⟨_, rfl, o4⟩) (dlCons (dNd rfl ⟨_, rfl, o5⟩) (dlCons (dNd rfl ⟨_, rfl, o6⟩) (dlCons (dNd rfl ⟨_, rfl⟩) (dlCons (dNd rfl ⟨_, rfl⟩) dlNil)))))))))) .nil)
    ·
     exact sepOk_ro rfl
    ·
     exact (.cons (rule_len (dNd rfl rfl) (dNd rfl ⟨_, rfl⟩)) (.cons (rule_ia (k := i) (dNd rfl rfl) (dNd rfl ⟨_, rfl⟩) hn rfl) .nil))
   ·
    exact (envEq (put_no b35) (dNd rfl ⟨_, rfl⟩) (envEq (put_no b37) (dNd rfl ⟨_, rfl⟩) (envEq (put_no b38) (dNd rfl ⟨_, rfl⟩) (envEq (put_no b39) (dNd rfl ⟨_, rfl⟩) (envEq (put_no b40) (dLit rfl) (envEq (put_no b41) (dLit rfl) (envEq (put_no b42) (dLit rfl) (envEq (put_no b43) (dLit rfl) (envEq (put_no b44) (dLit rfl) (envEq (put_no b45) (dNd rfl rfl) (envEq (put_no b46) (dNd rfl ⟨_, rfl⟩) (envEq (put_no b47) (dNd rfl ⟨_, rfl⟩) (envEq (put_no b48) (dNd rfl rfl) (envEq (put_no b49) (dNd rfl ⟨_, rfl⟩) (envEq (put_no b52) (dLit rfl) envNil)))))))))))))))
   refine all1 (by kernel_rfl) ?_
   intro vs ls H60 E60 st hE
   have b61 := eo st hE 25 (.ptr l ((i * 9) + 2))
   obtain ⟨w62, hw62⟩ : ∃ z, z = (IntKind.wrap .i32 (IntKind.wrap .i64 (w36 + 1))) := ⟨_, rfl⟩
   have b63 : E60 22 = .int .i32 w62 := by rw [hw62]; exact eo st hE 22 _
   obtain ⟨w64, hw64⟩ : ∃ z, z = (IntKind.wrap .i64 (w36 + 1)) := ⟨_, rfl⟩
   have nw64 : w64 = ((q + 1) + 1) := by rw [hw64, nw36]; exact e1
   have b65 : E60 1 = .int .i64 w64 := by rw [hw64]; exact eo st hE 1 _
   have b66 := eo st hE 26 (.int .i64 w36)
   have b67 : E60 27 = .int .i64 w64 := by rw [hw64]; exact eo st hE 27 _
   have b68 := eo st hE 6 (.int .i64 2)
   have b69 := eo st hE 16 (.int .i64 1)
   have b70 := eo st hE 17 (.int .i64 2)
   have b71 := eo st hE 14 (.int .i64 2)
   have b72 := eo st hE 15 (.bool true)
   have b73 := eo st hE 0 (.slice l 0 ms.length cap 9)
   have b74 := eo st hE 5 (.int .i64 (i : Int))
   have b75 : E60 21 = .int .i64 w64 := by rw [hw64]; exact eo st hE 21 _
   have b76 := eo st hE 18 (.slice l 0 ms.length cap 9)
   have b77 := eo st hE 19 (.int .i64 (i : Int))
   have b80 := eo st hE 20 (.int .i64 2)
   have g81 : Grew H57 H60 := (gk st)
   have g82 : Only l H H60 := g59.grew g81
   clear st hE vs ls
   have row84 := g81.at row58
   refine res_store_in (d := none) (n := 1) (x := .tmp 25) (y := .tmp 22) (by kernel_rfl) (off := 2) (C' := [.int .i32 w11, .int .i32 w34, .int .i32 w62, .flt .f32 v3, .flt .f32 v4, .flt .f32 v5, .flt .f32 v6, .int .i64 v7, .int .i64 v8]) (vs := [.int .i32 w62]) b61 row84 hP (by show AV.cells (E60 22) = _; rw [b63]; rfl) rfl (by simp) rfl rfl ?_
   intro H85 row86 oH85
   have g87 := g82.trans oH85
   refine run_mn (φ := φ0) (pm := pmR 1 [(.len (.nd 0 .one), .nd 3 (.int .i64)), (.ia 9 (.nd 0 .one) (.nd 2 (.int .i64)), .ptr 0 0)] 10) 20 (nk := [(.atom 0, .one), (.atom 1, .int .i64), (.atom 2, .int .i64), (.atom 3, .int .i64), (.atom 4, .int .i32), (.atom 5, .int .i32), (.atom 6, .int .i32), (.atom 7, .flt .f32), (.atom 8, .flt .f32), (.atom 9, .flt .f32), (.atom 10, .flt .f32), (.atom 11, .int .i64), (.atom 12, .int .i64), (.atom 13, .int .i32), (.atom 14, .int .i32), (.atom 15, .int .i64), (.atom 16, .int .i32), (.atom 17, .int .i64)]) (fs := []) (xs := [.slice l 0 ms.length cap 9, .int .i64 q, .int .i64 (i : Int), .int .i64 (ms.length : Int), .int .i32 v0, .int .i32 v1, .int .i32 v2, .flt .f32 v3, .flt .f32 v4, .flt .f32 v5, .flt .f32 v6, .int .i64 v7, .int .i64 v8, .int .i32 w11, .int .i32 w34, .int .i64 w36, .int .i32 w62, .int .i64 w64]) (ws := [⟨l, (i * 9), [.nd 13 (.int .i32), .nd 14 (.int .i32), .nd 16 (.int .i32), .nd 7 (.flt .f32), .nd 8 (.flt .f32), .nd 9 (.flt .f32), .nd 10 (.flt .f32), .nd 11 (.int .i64), .nd 12 (.int .i64)], false⟩]) (env := [(22, .nd 16 (.int .i32)), (1, .nd 17 (.int .i64)), (26, .nd 15 (.int .i64)), (27, .nd 17 (.int .i64)), (6, .lit (.int .i64 2)), (16, .lit (.int .i64 1)), (17, .lit (.int .i64 2)), (14, .lit (.int .i64 2)), (15, .lit (.bool true)), (0, .nd 0 .one), (5, .nd 2 (.int .i64)), (21, .nd 17 (.int .i64)), (18, .nd 0 .one), (19, .nd 2 (.int .i64)), (20, .lit (.int .i64 2))]) ?_ ?_ tb_ok ap_ok ?_
   ·
    refine midN_in ?_ .nil _ ?_ ?_ ?_
    ·
     exact (.cons rfl rfl (.cons rfl ⟨_, rfl⟩ (.cons rfl ⟨_, rfl⟩ (.cons rfl ⟨_, rfl⟩ (.cons rfl ⟨_, rfl⟩ (.cons rfl ⟨_, rfl⟩ (.cons rfl ⟨_, rfl⟩ (.cons rfl ⟨_, rfl, o3⟩ (.cons rfl ⟨_, rfl, o4⟩ (.cons rfl ⟨_, rfl, o5⟩ (.cons rfl ⟨_, rfl, o6⟩ (.cons rfl ⟨_, rfl⟩ (.cons rfl ⟨_, rfl⟩ (.cons rfl ⟨_, rfl⟩ (.cons rfl ⟨_, rfl⟩ (.cons rfl ⟨_, rfl⟩ (.cons rfl ⟨_, rfl⟩ (.cons rfl ⟨_, rfl⟩ .nil))))))))))))))))))
    ·
     exact (.cons (win_mid row86 hP (dlCons (dNd rfl ⟨_, rfl⟩) (dlCons (dNd rfl ⟨_, rfl⟩) (dlCons (dNd rfl ⟨_, rfl⟩) (dlCons (dNd rfl ⟨_, rfl, o3⟩) (dlCons (dNd rfl ⟨_, rfl, o4⟩) (dlCons (dNd rfl ⟨_, rfl, o5⟩) (dlCons (dNd rfl ⟨_, rfl, o6⟩) (dlCons (dNd rfl ⟨_, rfl⟩) (dlCons (dNd rfl ⟨_, rfl⟩) dlNil)))))))))) .nil)
    ·
     exact sepOk_ro rfl
    ·
     exact (.cons (rule_len (dNd rfl rfl) (dNd rfl ⟨_, rfl⟩)) (.cons (rule_ia (k := i) (dNd rfl rfl) (dNd rfl ⟨_, rfl⟩) hn rfl) .nil))
   ·
    exact (envEq (put_no b63) (dNd rfl ⟨_, rfl⟩) (envEq (put_no b65) (dNd rfl ⟨_, rfl⟩) (envEq (put_no b66) (dNd rfl ⟨_, rfl⟩) (envEq (put_no b67) (dNd rfl ⟨_, rfl⟩) (envEq (put_no b68) (dLit rfl) (envEq (put_no b69) (dLit rfl) (envEq (put_no b70) (dLit rfl) (envEq (put_no b71) (dLit rfl) (envEq (put_no b72) (dLit rfl) (envEq (put_no b73) (dNd rfl rfl) (envEq (put_no b74) (dNd rfl ⟨_, rfl⟩) (envEq (put_no b75) (dNd rfl ⟨_, rfl⟩) (envEq (put_no b76) (dNd rfl rfl) (envEq (put_no b77) (dNd rfl ⟨_, rfl⟩) (envEq (put_no b80) (dLit rfl) envNil)))))))))))))))
   refine all1 (by kernel_rfl) ?_
   intro vs ls H88 E88 st hE
   have b89 := eo st hE 39 (.ptr l ((i * 9) + 3))
   obtain ⟨w90, hw90⟩ : ∃ z, z = (some (floatOfInt .f32 (IntKind.wrap .i64 (w64 + 1)))) := ⟨_, rfl⟩
   have b91 : E88 36 = .flt .f32 w90 := by rw [hw90]; exact eo st hE 36 _
   obtain ⟨w92, hw92⟩ : ∃ z, z = (IntKind.wrap .i64 (w64 + 1)) := ⟨_, rfl⟩
   have nw92 : w92 = (((q + 1) + 1) + 1) := by rw [hw92, nw64]; exact e2
   have b93 : E88 1 = .int .i64 w92 := by rw [hw92]; exact eo st hE 1 _
   have b94 := eo st hE 7 (.int .i64 0)
   have b95 := eo st hE 28 (.int .i64 0)
   have b96 := eo st hE 29 (.bool true)
   have b97 := eo st hE 0 (.slice l 0 ms.length cap 9)
   have b98 := eo st hE 5 (.int .i64 (i : Int))
   have b99 : E88 35 = .int .i64 w92 := by rw [hw92]; exact eo st hE 35 _
   have b100 := eo st hE 32 (.slice l 0 ms.length cap 9)
   have b101 := eo st hE 33 (.int .i64 (i : Int))
   have b104 := eo st hE 34 (.int .i64 0)
   have g105 : Grew H85 H88 := (gk st)
   have g106 : Only l H H88 := g87.grew g105
   clear st hE vs ls
   have row108 := g105.at row86
   refine res_store_in (d := none) (n := 1) (x := .tmp 39) (y := .tmp 36) (by kernel_rfl) (off := 3) (C' := [.int .i32 w11, .int .i32 w34, .int .i32 w62, .flt .f32 w90, .flt .f32 v4, .flt .f32 v5, .flt .f32 v6, .int .i64 v7, .int .i64 v8]) (vs := [.flt .f32 w90]) b89 row108 hP (by show AV.cells (E88 36) = _; rw [b91]; rfl) rfl (by simp) rfl rfl ?_
   intro H109 row110 oH109
   have g111 := g106.trans oH109
   refine run_mn (φ := φ0) (pm := pmR 1 [(.len (.nd 0 .one), .nd 3 (.int .i64)), (.ia 9 (.nd 0 .one) (.nd 2 (.int .i64)), .ptr 0 0)] 10) 20 (nk := [(.atom 0, .one), (.atom 1, .int .i64), (.atom 2, .int .i64), (.atom 3, .int .i64), (.atom 4, .int .i32), (.atom 5, .int .i32), (.atom 6, .int .i32), (.atom 7, .flt .f32), (.atom 8, .flt .f32), (.atom 9, .flt .f32), (.atom 10, .flt .f32), (.atom 11, .int .i64), (.atom 12, .int .i64), (.atom 13, .int .i32), (.atom 14, .int .i32), (.atom 15, .int .i64), (.atom 16, .int .i32), (.atom 17, .int .i64), (.atom 18, .flt .f32), (.atom 19, .int .i64)]) (fs := []) (xs := [.slice l 0 ms.length cap 9, .int .i64 q, .int .i64 (i : Int), .int .i64 (ms.length : Int), .int .i32 v0, .int .i32 v1, .int .i32 v2, .flt .f32 v3, .flt .f32 v4, .flt .f32 v5, .flt .f32 v6, .int .i64 v7, .int .i64 v8, .int .i32 w11, .int .i32 w34, .int .i64 w36, .int .i32 w62, .int .i64 w64, .flt .f32 w90, .int .i64 w92]) (ws := [⟨l, (i * 9), [.nd 13 (.int .i32), .nd 14 (.int .i32), .nd 16 (.int .i32), .nd 18 (.flt .f32), .nd 8 (.flt .f32), .nd 9 (.flt .f32), .nd 10 (.flt .f32), .nd 11 (.int .i64), .nd 12 (.int .i64)], false⟩]) (env := [(36, .nd 18 (.flt .f32)), (1, .nd 19 (.int .i64)), (7, .lit (.int .i64 0)), (28, .lit (.int .i64 0)), (29, .lit (.bool true)), (0, .nd 0 .one), (5, .nd 2 (.int .i64)), (35, .nd 19 (.int .i64)), (32, .nd 0 .one), (33, .nd 2 (.int .i64)), (34, .lit (.int .i64 0))]) ?_ ?_ tb_ok ap_ok ?_
   ·
    refine midN_in ?_ .nil _ ?_ ?_ ?_
    ·
     exact (.cons rfl rfl (.cons rfl ⟨_, rfl⟩ (.cons rfl ⟨_, rfl⟩ (.cons rfl ⟨_, rfl⟩ (.cons rfl ⟨_, rfl⟩ (.cons rfl ⟨_, rfl⟩ (.cons rfl ⟨_, rfl⟩ (.cons rfl ⟨_, rfl, o3⟩ (.cons rfl ⟨_, rfl, o4⟩ (.cons rfl ⟨_, rfl, o5⟩ (.cons rfl ⟨_, rfl, o6⟩ (.cons rfl ⟨_, rfl⟩ (.cons rfl ⟨_, rfl⟩ (.cons rfl ⟨_, rfl⟩ (.cons rfl ⟨_, rfl⟩ (.cons rfl ⟨_, rfl⟩ (.cons rfl ⟨_, rfl⟩ (.cons rfl ⟨_, rfl⟩ (.cons rfl ⟨_, rfl, hw90 ▸ toF_ok _ _⟩ (.cons rfl ⟨_, rfl⟩ .nil))))))))))))))))))))
    ·
     exact (.cons (win_mid row110 hP (dlCons (dNd rfl ⟨_, rfl⟩) (dlCons (dNd rfl ⟨_, rfl⟩) (dlCons (dNd rfl ⟨_, rfl⟩) (dlCons (dNd rfl ⟨_, rfl, hw90 ▸ toF_ok _ _⟩) (dlCons (dNd rfl ⟨_, rfl, o4⟩) (dlCons (dNd rfl ⟨_, rfl, o5⟩) (dlCons (dNd rfl ⟨_, rfl, o6⟩) (dlCons (dNd rfl ⟨_, rfl⟩) (dlCons (dNd rfl ⟨_, rfl⟩) dlNil)))))))))) .nil)
    ·
     exact sepOk_ro rfl
    ·
     exact (.cons (rule_len (dNd rfl rfl) (dNd rfl ⟨_, rfl⟩)) (.cons (rule_ia (k := i) (dNd rfl rfl) (dNd rfl ⟨_, rfl⟩) hn rfl) .nil))
   ·
    exact (envEq (put_no b91) (dNd rfl ⟨_, rfl, hw90 ▸ toF_ok _ _⟩) (envEq (put_no b93) (dNd rfl ⟨_, rfl⟩) (envEq (put_no b94) (dLit rfl) (envEq (put_no b95) (dLit rfl) (envEq (put_no b96) (dLit rfl) (envEq (put_no b97) (dNd rfl rfl) (envEq (put_no b98) (dNd rfl ⟨_, rfl⟩) (envEq (put_no b99) (dNd rfl ⟨_, rfl⟩) (envEq (put_no b100) (dNd rfl rfl) (envEq (put_no b101) (dNd rfl ⟨_, rfl⟩) (envEq (put_no b104) (dLit rfl) envNil)))))))))))
   refine all1 (by kernel_rfl) ?_
   intro vs ls H112 E112 st hE
   have b113 := eo st hE 39 (.ptr l ((i * 9) + 4))
   obtain ⟨w114, hw114⟩ : ∃ z, z = (some (floatOfInt .f32 (IntKind.wrap .i64 (w92 + 1)))) := ⟨_, rfl⟩
   have b115 : E112 36 = .flt .f32 w114 := by rw [hw114]; exact eo st hE 36 _
   obtain ⟨w116, hw116⟩ : ∃ z, z = (IntKind.wrap .i64 (w92 + 1)) := ⟨_, rfl⟩
   have nw116 : w116 = ((((q + 1) + 1) + 1) + 1) := by rw [hw116, nw92]; exact e3
   have b117 : E112 1 = .int .i64 w116 := by rw [hw116]; exact eo st hE 1 _
   have b118 := eo st hE 40 (.int .i64 w92)
   have b119 : E112 41 = .int .i64 w116 := by rw [hw116]; exact eo st hE 41 _
   have b120 := eo st hE 7 (.int .i64 1)
   have b121 := eo st hE 30 (.int .i64 0)
   have b122 := eo st hE 31 (.int .i64 1)
   have b123 := eo st hE 28 (.int .i64 1)
   have b124 := eo st hE 29 (.bool true)
   have b125 := eo st hE 0 (.slice l 0 ms.length cap 9)
   have b126 := eo st hE 5 (.int .i64 (i : Int))
   have b127 : E112 35 = .int .i64 w116 := by rw [hw116]; exact eo st hE 35 _
   have b128 := eo st hE 32 (.slice l 0 ms.length cap 9)
   have b129 := eo st hE 33 (.int .i64 (i : Int))
   have b132 := eo st hE 34 (.int .i64 1)
   have g133 : Grew H109 H112 := (gk st)
   have g134 : Only l H H112 := g111.grew g133
   clear st hE vs ls
   have row136 := g133.at row110
   refine res_store_in (d := none) (n := 1) (x := .tmp 39) (y := .tmp 36) (by kernel_rfl) (off := 4) (C' := [.int .i32 w11, .int .i32 w34, .int .i32 w62, .flt .f32 w90, .flt .f32 w114, .flt .f32 v5, .flt .f32 v6, .int .i64 v7, .int .i64 v8]) (vs := [.flt .f32 w114]) b113 row136 hP (by show AV.cells (E112 36) = _; rw [b115]; rfl) rfl (by simp) rfl rfl ?_
   intro H137 row138 oH137
   have g139 := g134.trans oH137
   refine run_mn (φ := φ0) (pm := pmR 1 [(.len (.nd 0 .one), .nd 3 (.int .i64)), (.ia 9 (.nd 0 .one) (.nd 2 (.int .i64)), .ptr 0 0)] 10) 20 (nk := [(.atom 0, .one), (.atom 1, .int .i64), (.atom 2, .int .i64), (.atom 3, .int .i64), (.atom 4, .int .i32), (.atom 5, .int .i32), (.atom 6, .int .i32), (.atom 7, .flt .f32), (.atom 8, .flt .f32), (.atom 9, .flt .f32), (.atom 10, .flt .f32), (.atom 11, .int .i64), (.atom 12, .int .i64), (.atom 13, .int .i32), (.atom 14, .int .i32), (.atom 15, .int .i64), (.atom 16, .int .i32), (.atom 17, .int .i64), (.atom 18, .flt .f32), (.atom 19, .int .i64), (.atom 20, .flt .f32), (.atom 21, .int .i64)]) (fs := []) (xs := [.slice l 0 ms.length cap 9, .int .i64 q, .int .i64 (i : Int), .int .i64 (ms.length : Int), .int .i32 v0, .int .i32 v1, .int .i32 v2, .flt .f32 v3, .flt .f32 v4, .flt .f32 v5, .flt .f32 v6, .int .i64 v7, .int .i64 v8, .int .i32 w11, .int .i32 w34, .int .i64 w36, .int .i32 w62, .int .i64 w64, .flt .f32 w90, .int .i64 w92, .flt .f32 w114, .int .i64 w116]) (ws := [⟨l, (i * 9), [.nd 13 (.int .i32), .nd 14 (.int .i32), .nd 16 (.int .i32), .nd 18 (.flt .f32), .nd 20 (.flt .f32), .nd 9 (.flt .f32), .nd 10 (.flt .f32), .nd 11 (.int .i64), .nd 12 (.int .i64)], false⟩]) (env := [(36, .nd 20 (.flt .f32)), (1, .nd 21 (.int .i64)), (40, .nd 19 (.int .i64)), (41, .nd 21 (.int .i64)), (7, .lit (.int .i64 1)), (30, .lit (.int .i64 0)), (31, .lit (.int .i64 1)), (28, .lit (.int .i64 1)), (29, .lit (.bool true)), (0, .nd 0 .one), (5, .nd 2 (.int .i64)), (35, .nd 21 (.int .i64)), (32, .nd 0 .one), (33, .nd 2 (.int .i64)), (34, .lit (.int .i64 1))]) ?_ ?_ tb_ok ap_ok ?_
   ·
    refine midN_in ?_ .nil _ ?_ ?_ ?_
    ·
     exact (.cons rfl rfl (.cons rfl ⟨_, rfl⟩ (.cons rfl ⟨_, rfl⟩ (.cons rfl ⟨_, rfl⟩ (.cons rfl ⟨_, rfl⟩ (.cons rfl ⟨_, rfl⟩ (.cons rfl ⟨_, rfl⟩ (.cons rfl ⟨_, rfl, o3⟩ (.cons rfl ⟨_, rfl, o4⟩ (.cons rfl ⟨_, rfl, o5⟩ (.cons rfl ⟨_, rfl, o6⟩ (.cons rfl ⟨_, rfl⟩ (.cons rfl ⟨_, rfl⟩ (.cons rfl ⟨_, rfl⟩ (.cons rfl ⟨_, rfl⟩ (.cons rfl ⟨_, rfl⟩ (.cons rfl ⟨_, rfl⟩ (.cons rfl ⟨_, rfl⟩ (.cons rfl ⟨_, rfl, hw90 ▸ toF_ok _ _⟩ (.cons rfl ⟨_, rfl⟩ (.cons rfl ⟨_, rfl, hw114 ▸ toF_ok _ _⟩ (.cons rfl ⟨_, rfl⟩ .nil))))))))))))))))))))))
    ·
     exact (.cons (win_mid row138 hP (dlCons (dNd rfl ⟨_, rfl⟩) (dlCons (dNd rfl ⟨_, rfl⟩) (dlCons (dNd rfl ⟨_, rfl⟩) (dlCons (dNd rfl ⟨_, rfl, hw90 ▸ toF_ok _ _⟩) (dlCons (dNd rfl ⟨_, rfl, hw114 ▸ toF_ok _ _⟩) (dlCons (dNd rfl ⟨_, rfl, o5⟩) (dlCons (dNd rfl ⟨_, rfl, o6⟩) (dlCons (dNd rfl ⟨_, rfl⟩) (dlCons (dNd rfl ⟨_, rfl⟩) dlNil)))))))))) .nil)
    ·
     exact sepOk_ro rfl
    ·
     exact (.cons (rule_len (dNd rfl rfl) (dNd rfl ⟨_, rfl⟩)) (.cons (rule_ia (k := i) (dNd rfl rfl) (dNd rfl ⟨_, rfl⟩) hn rfl) .nil))
   ·
    exact (envEq (put_no b115) (dNd rfl ⟨_, rfl, hw114 ▸ toF_ok _ _⟩) (envEq (put_no b117) (dNd rfl ⟨_, rfl⟩) (envEq (put_no b118) (dNd rfl ⟨_, rfl⟩) (envEq (put_no b119) (dNd rfl ⟨_, rfl⟩) (envEq (put_no b120) (dLit rfl) (envEq (put_no b121) (dLit rfl) (envEq (put_no b122) (dLit rfl) (envEq (put_no b123) (dLit rfl) (envEq (put_no b124) (dLit rfl) (envEq (put_no b125) (dNd rfl rfl) (envEq (put_no b126) (dNd rfl ⟨_, rfl⟩) (envEq (put_no b127) (dNd rfl ⟨_, rfl⟩) (envEq (put_no b128) (dNd rfl rfl) (envEq (put_no b129) (dNd rfl ⟨_, rfl⟩) (envEq (put_no b132) (dLit rfl) envNil)))))))))))))))
   refine all1 (by kernel_rfl) ?_
   intro vs ls H140 E140 st hE
   have b141 := eo st hE 39 (.ptr l ((i * 9) + 5))
   obtain ⟨w142, hw142⟩ : ∃ z, z = (some (floatOfInt .f32 (IntKind.wrap .i64 (w116 + 1)))) := ⟨_, rfl⟩
   have b143 : E140 36 = .flt .f32 w142 := by rw [hw142]; exact eo st hE 36 _
   obtain ⟨w144, hw144⟩ : ∃ z, z = (IntKind.wrap .i64 (w116 + 1)) := ⟨_, rfl⟩
   have nw144 : w144 = (((((q + 1) + 1) + 1) + 1) + 1) := by rw [hw144, nw116]; exact e4
   have b145 : E140 1 = .int .i64 w144 := by rw [hw144]; exact eo st hE 1 _
   have b146 := eo st hE 40 (.int .i64 w116)
   have b147 : E140 41 = .int .i64 w144 := by rw [hw144]; exact eo st hE 41 _
   have b148 := eo st hE 7 (.int .i64 2)
   have b149 := eo st hE 30 (.int .i64 1)
   have b150 := eo st hE 31 (.int .i64 2)
   have b151 := eo st hE 28 (.int .i64 2)
   have b152 := eo st hE 29 (.bool true)
   have b153 := eo st hE 0 (.slice l 0 ms.length cap 9)
   have b154 := eo st hE 5 (.int .i64 (i : Int))
   have b155 : E140 35 = .int .i64 w144 := by rw [hw144]; exact eo st hE 35 _
   have b156 := eo st hE 32 (.slice l 0 ms.length cap 9)
   have b157 := eo st hE 33 (.int .i64 (i : Int))
   have b160 := eo st hE 34 (.int .i64 2)
   have g161 : Grew H137 H140 := (gk st)
   have g162 : Only l H H140 := g139.grew g161
   clear st hE vs ls
   have row164 := g161.at row138
   refine res_store_in (d := none) (n := 1) (x := .tmp 39) (y := .tmp 36) (by kernel_rfl) (off := 5) (C' := [.int .i32 w11, .int .i32 w34, .int .i32 w62, .flt .f32 w90, .flt .f32 w114, .flt .f32 w142, .flt .f32 v6, .int .i64 v7, .int .i64 v8]) (vs := [.flt .f32 w142]) b141 row164 hP (by show AV.cells (E140 36) = _; rw [b143]; rfl) rfl (by simp) rfl rfl ?_
   intro H165 row166 oH165
   have g167 := g162.trans oH165
   refine run_mn (φ := φ0) (pm := pmR 1 [(.len (.nd 0 .one), .nd 3 (.int .i64)), (.ia 9 (.nd 0 .one) (.nd 2 (.int .i64)), .ptr 0 0)] 10) 20 (nk := [(.atom 0, .one), (.atom 1, .int .i64), (.atom 2, .int .i64), (.atom 3, .int .i64), (.atom 4, .int .i32), (.atom 5, .int .i32), (.atom 6, .int .i32), (.atom 7, .flt .f32), (.atom 8, .flt .f32), (.atom 9, .flt .f32), (.atom 10, .flt .f32), (.atom 11, .int .i64), (.atom 12, .int .i64), (.atom 13, .int .i32), (.atom 14, .int .i32), (.atom 15, .int .i64), (.atom 16, .int .i32), (.atom 17, .int .i64), (.atom 18, .flt .f32), (.atom 19, .int .i64), (.atom 20, .flt .f32), (.atom 21, .int .i64), (.atom 22, .flt .f32), (.atom 23, .int .i64)]) (fs := []) (xs := [.slice l 0 ms.length cap 9, .int .i64 q, .int .i64 (i : Int), .int .i64 (ms.length : Int), .int .i32 v0, .int .i32 v1, .int .i32 v2, .flt .f32 v3, .flt .f32 v4, .flt .f32 v5, .flt .f32 v6, .int .i64 v7, .int .i64 v8, .int .i32 w11, .int .i32 w34, .int .i64 w36, .int .i32 w62, .int .i64 w64, .flt .f32 w90, .int .i64 w92, .flt .f32 w114, .int .i64 w116, .flt .f32 w142, .int .i64 w144]) (ws := [⟨l, (i * 9), [.nd 13 (.int .i32), .nd 14 (.int .i32), .nd 16 (.int .i32), .nd 18 (.flt .f32), .nd 20 (.flt .f32), .nd 22 (.flt .f32), .nd 10 (.flt .f32), .nd 11 (.int .i64), .nd 12 (.int .i64)], false⟩]) (env := [(36, .nd 22 (.flt .f32)), (1, .nd 23 (.int .i64)), (40, .nd 21 (.int .i64)), (41, .nd 23 (.int .i64)), (7, .lit (.int .i64 2)), (30, .lit (.int .i64 1)), (31, .lit (.int .i64 2)), (28, .lit (.int .i64 2)), (29, .lit (.bool true)), (0, .nd 0 .one), (5, .nd 2 (.int .i64)), (35, .nd 23 (.int .i64)), (32, .nd 0 .one), (33, .nd 2 (.int .i64)), (34, .lit (.int .i64 2))]) ?_ ?_ tb_ok ap_ok ?_
   ·
    refine midN_in ?_ .nil _ ?_ ?_ ?_
    ·
     exact (.cons rfl rfl (.cons rfl ⟨_, rfl⟩ (.cons rfl ⟨_, rfl⟩ (.cons rfl ⟨_, rfl⟩ (.cons rfl ⟨_, rfl⟩ (.cons rfl ⟨_, rfl⟩ (.cons rfl ⟨_, rfl⟩ (.cons rfl ⟨_, rfl, o3⟩ (.cons rfl ⟨_, rfl, o4⟩ (.cons rfl ⟨_, rfl, o5⟩ (.cons rfl ⟨_, rfl, o6⟩ (.cons rfl ⟨_, rfl⟩ (.cons rfl ⟨_, rfl⟩ (.cons rfl ⟨_, rfl⟩ (.cons rfl ⟨_, rfl⟩ (.cons rfl ⟨_, rfl⟩ (.cons rfl ⟨_, rfl⟩ (.cons rfl ⟨_, rfl⟩ (.cons rfl ⟨_, rfl, hw90 ▸ toF_ok _ _⟩ (.cons rfl ⟨_, rfl⟩ (.cons rfl ⟨_, rfl, hw114 ▸ toF_ok _ _⟩ (.cons rfl ⟨_, rfl⟩ (.cons rfl ⟨_, rfl, hw142 ▸ toF_ok _ _⟩ (.cons rfl ⟨_, rfl⟩ .nil))))))))))))))))))))))))
    ·
     exact (.cons (win_mid row166 hP (dlCons (dNd rfl ⟨_, rfl⟩) (dlCons (dNd rfl ⟨_, rfl⟩) (dlCons (dNd rfl ⟨_, rfl⟩) (dlCons (dNd rfl ⟨_, rfl, hw90 ▸ toF_ok _ _⟩) (dlCons (dNd rfl ⟨_, rfl, hw114 ▸ toF_ok _ _⟩) (dlCons (dNd rfl ⟨_, rfl, hw142 ▸ toF_ok _ _⟩) (dlCons (dNd rfl ⟨_, rfl, o6⟩) (dlCons (dNd rfl ⟨_, rfl⟩) (dlCons (dNd rfl ⟨_, rfl⟩) dlNil)))))))))) .nil)
    ·
     exact sepOk_ro rfl
    ·
     exact (.cons (rule_len (dNd rfl rfl) (dNd rfl ⟨_, rfl⟩)) (.cons (rule_ia (k := i) (dNd rfl rfl) (dNd rfl ⟨_, rfl⟩) hn rfl) .nil))
   ·
    exact (envEq (put_no b143) (dNd rfl ⟨_, rfl, hw142 ▸ toF_ok _ _⟩) (envEq (put_no b145) (dNd rfl ⟨_, rfl⟩) (envEq (put_no b146) (dNd rfl ⟨_, rfl⟩) (envEq (put_no b147) (dNd rfl ⟨_, rfl⟩) (envEq (put_no b148) (dLit rfl) (envEq (put_no b149) (dLit rfl) (envEq (put_no b150) (dLit rfl) (envEq (put_no b151) (dLit rfl) (envEq (put_no b152) (dLit rfl) (envEq (put_no b153) (dNd rfl rfl) (envEq (put_no b154) (dNd rfl ⟨_, rfl⟩) (envEq (put_no b155) (dNd rfl ⟨_, rfl⟩) (envEq (put_no b156) (dNd rfl rfl) (envEq (put_no b157) (dNd rfl ⟨_, rfl⟩) (envEq (put_no b160) (dLit rfl) envNil)))))))))))))))
   refine all1 (by kernel_rfl) ?_
   intro vs ls H168 E168 st hE
   have b169 := eo st hE 47 (.ptr l ((i * 9) + 6))
   obtain ⟨w170, hw170⟩ : ∃ z, z = (some (floatOfInt .f32 (IntKind.wrap .i64 (w144 + 1)))) := ⟨_, rfl⟩
   have b171 : E168 45 = .flt .f32 w170 := by rw [hw170]; exact eo st hE 45 _
   obtain ⟨w172, hw172⟩ : ∃ z, z = (IntKind.wrap .i64 (w144 + 1)) := ⟨_, rfl⟩
   have nw172 : w172 = ((((((q + 1) + 1) + 1) + 1) + 1) + 1) := by rw [hw172, nw144]; exact e5
   have b173 : E168 1 = .int .i64 w172 := by rw [hw172]; exact eo st hE 1 _
   have b174 := eo st hE 0 (.slice l 0 ms.length cap 9)
   have b175 := eo st hE 5 (.int .i64 (i : Int))
   have g176 : Grew H165 H168 := (gk st)
   have g177 : Only l H H168 := g167.grew g176
   clear st hE vs ls
   have row179 := g176.at row166
   refine res_store_in (d := none) (n := 1) (x := .tmp 47) (y := .tmp 45) (by kernel_rfl) (off := 6) (C' := [.int .i32 w11, .int .i32 w34, .int .i32 w62, .flt .f32 w90, .flt .f32 w114, .flt .f32 w142, .flt .f32 w170, .int .i64 v7, .int .i64 v8]) (vs := [.flt .f32 w170]) b169 row179 hP (by show AV.cells (E168 45) = _; rw [b171]; rfl) rfl (by simp) rfl rfl ?_
   intro H180 row181 oH180
   have g182 := g177.trans oH180
   refine run_mn (φ := φ0) (pm := pmR 1 [(.len (.nd 0 .one), .nd 3 (.int .i64)), (.ia 9 (.nd 0 .one) (.nd 2 (.int .i64)), .ptr 0 0)] 10) 20 (nk := [(.atom 0, .one), (.atom 1, .int .i64), (.atom 2, .int .i64), (.atom 3, .int .i64), (.atom 4, .int .i32), (.atom 5, .int .i32), (.atom 6, .int .i32), (.atom 7, .flt .f32), (.atom 8, .flt .f32), (.atom 9, .flt .f32), (.atom 10, .flt .f32), (.atom 11, .int .i64), (.atom 12, .int .i64), (.atom 13, .int .i32), (.atom 14, .int .i32), (.atom 15, .int .i64), (.atom 16, .int .i32), (.atom 17, .int .i64), (.atom 18, .flt .f32), (.atom 19, .int .i64), (.atom 20, .flt .f32), (.atom 21, .int .i64), (.atom 22, .flt .f32), (.atom 23, .int .i64), (.atom 24, .flt .f32), (.atom 25, .int .i64)]) (fs := []) (xs := [.slice l 0 ms.length cap 9, .int .i64 q, .int .i64 (i : Int), .int .i64 (ms.length : Int), .int .i32 v0, .int .i32 v1, .int .i32 v2, .flt .f32 v3, .flt .f32 v4, .flt .f32 v5, .flt .f32 v6, .int .i64 v7, .int .i64 v8, .int .i32 w11, .int .i32 w34, .int .i64 w36, .int .i32 w62, .int .i64 w64, .flt .f32 w90, .int .i64 w92, .flt .f32 w114, .int .i64 w116, .flt .f32 w142, .int .i64 w144, .flt .f32 w170, .int .i64 w172]) (ws := [⟨l, (i * 9), [.nd 13 (.int .i32), .nd 14 (.int .i32), .nd 16 (.int .i32), .nd 18 (.flt .f32), .nd 20 (.flt .f32), .nd 22 (.flt .f32), .nd 24 (.flt .f32), .nd 11 (.int .i64), .nd 12 (.int .i64)], false⟩]) (env := [(45, .nd 24 (.flt .f32)), (1, .nd 25 (.int .i64)), (0, .nd 0 .one), (5, .nd 2 (.int .i64))]) ?_ ?_ tb_ok ap_ok ?_
   ·
    refine midN_in ?_ .nil _ ?_ ?_ ?_
    ·
     exact (.cons rfl rfl (.cons rfl ⟨_, rfl⟩ (.cons rfl ⟨_, rfl⟩ (.cons rfl ⟨_, rfl⟩ (.cons rfl ⟨_, rfl⟩ (.cons rfl ⟨_, rfl⟩ (.cons rfl ⟨_, rfl⟩ (.cons rfl ⟨_, rfl, o3⟩ (.cons rfl ⟨_, rfl, o4⟩ (.cons rfl ⟨_, rfl, o5⟩ (.cons rfl ⟨_, rfl, o6⟩ (.cons rfl ⟨_, rfl⟩ (.cons rfl ⟨_, rfl⟩ (.cons rfl ⟨_, rfl⟩ (.cons rfl ⟨_, rfl⟩ (.cons rfl ⟨_, rfl⟩ (.cons rfl ⟨_, rfl⟩ (.cons rfl ⟨_, rfl⟩ (.cons rfl ⟨_, rfl, hw90 ▸ toF_ok _ _⟩ (.cons rfl ⟨_, rfl⟩ (.cons rfl ⟨_, rfl, hw114 ▸ toF_ok _ _⟩ (.cons rfl ⟨_, rfl⟩ (.cons rfl ⟨_, rfl, hw142 ▸ toF_ok _ _⟩ (.cons rfl ⟨_, rfl⟩ (.cons rfl ⟨_, rfl, hw170 ▸ toF_ok _ _⟩ (.cons rfl ⟨_, rfl⟩ .nil))))))))))))))))))))))))))
    ·
     exact (.cons (win_mid row181 hP (dlCons (dNd rfl ⟨_, rfl⟩) (dlCons (dNd rfl ⟨_, rfl⟩) (dlCons (dNd rfl ⟨_, rfl⟩) (dlCons (dNd rfl ⟨_, rfl, hw90 ▸ toF_ok _ _⟩) (dlCons (dNd rfl ⟨_, rfl, hw114 ▸ toF_ok _ _⟩) (dlCons (dNd rfl ⟨_, rfl, hw142 ▸ toF_ok _ _⟩) (dlCons (dNd rfl ⟨_, rfl, hw170 ▸ toF_ok _ _⟩) (dlCons (dNd rfl ⟨_, rfl⟩) (dlCons (dNd rfl ⟨_, rfl⟩) dlNil)))))))))) .nil)
    ·
     exact sepOk_ro rfl
    ·
     exact (.cons (rule_len (dNd rfl rfl) (dNd rfl ⟨_, rfl⟩)) (.cons (rule_ia (k := i) (dNd rfl rfl) (dNd rfl ⟨_, rfl⟩) hn rfl) .nil))
   ·
    exact (envEq (put_no b171) (dNd rfl ⟨_, rfl, hw170 ▸ toF_ok _ _⟩) (envEq (put_no b173) (dNd rfl ⟨_, rfl⟩) (envEq (put_no b174) (dNd rfl rfl) (envEq (put_no b175) (dNd rfl ⟨_, rfl⟩) envNil))))
   refine all1 (by kernel_rfl) ?_
   intro vs ls H183 E183 st hE
   have b184 := eo st hE 54 (.ptr l ((i * 9) + 7))
   obtain ⟨w185, hw185⟩ : ∃ z, z = (IntKind.wrap .i64 (w172 + 1)) := ⟨_, rfl⟩
   have nw185 : w185 = (((((((q + 1) + 1) + 1) + 1) + 1) + 1) + 1) := by rw [hw185, nw172]; exact e6
   have b186 : E183 52 = .int .i64 w185 := by rw [hw185]; exact eo st hE 52 _
   have b187 : E183 1 = .int .i64 w185 := by rw [hw185]; exact eo st hE 1 _
   have b188 := eo st hE 0 (.slice l 0 ms.length cap 9)
   have b189 := eo st hE 5 (.int .i64 (i : Int))
   have g190 : Grew H180 H183 := (gk st)
   have g191 : Only l H H183 := g182.grew g190
   clear st hE vs ls
   have row193 := g190.at row181
   refine res_store_in (d := none) (n := 1) (x := .tmp 54) (y := .tmp 52) (by kernel_rfl) (off := 7) (C' := [.int .i32 w11, .int .i32 w34, .int .i32 w62, .flt .f32 w90, .flt .f32 w114, .flt .f32 w142, .flt .f32 w170, .int .i64 w185, .int .i64 v8]) (vs := [.int .i64 w185]) b184 row193 hP (by show AV.cells (E183 52) = _; rw [b186]; rfl) rfl (by simp) rfl rfl ?_
   intro H194 row195 oH194
   have g196 := g191.trans oH194
   refine run_mn (φ := φ0) (pm := pmR 1 [(.len (.nd 0 .one), .nd 3 (.int .i64)), (.ia 9 (.nd 0 .one) (.nd 2 (.int .i64)), .ptr 0 0)] 10) 20 (nk := [(.atom 0, .one), (.atom 1, .int .i64), (.atom 2, .int .i64), (.atom 3, .int .i64), (.atom 4, .int .i32), (.atom 5, .int .i32), (.atom 6, .int .i32), (.atom 7, .flt .f32), (.atom 8, .flt .f32), (.atom 9, .flt .f32), (.atom 10, .flt .f32), (.atom 11, .int .i64), (.atom 12, .int .i64), (.atom 13, .int .i32), (.atom 14, .int .i32), (.atom 15, .int .i64), (.atom 16, .int .i32), (.atom 17, .int .i64), (.atom 18, .flt .f32), (.atom 19, .int .i64), (.atom 20, .flt .f32), (.atom 21, .int .i64), (.atom 22, .flt .f32), (.atom 23, .int .i64), (.atom 24, .flt .f32), (.atom 25, .int .i64), (.atom 26, .int .i64)]) (fs := []) (xs := [.slice l 0 ms.length cap 9, .int .i64 q, .int .i64 (i : Int), .int .i64 (ms.length : Int), .int .i32 v0, .int .i32 v1, .int .i32 v2, .flt .f32 v3, .flt .f32 v4, .flt .f32 v5, .flt .f32 v6, .int .i64 v7, .int .i64 v8, .int .i32 w11, .int .i32 w34, .int .i64 w36, .int .i32 w62, .int .i64 w64, .flt .f32 w90, .int .i64 w92, .flt .f32 w114, .int .i64 w116, .flt .f32 w142, .int .i64 w144, .flt .f32 w170, .int .i64 w172, .int .i64 w185]) (ws := [⟨l, (i * 9), [.nd 13 (.int .i32), .nd 14 (.int .i32), .nd 16 (.int .i32), .nd 18 (.flt .f32), .nd 20 (.flt .f32), .nd 22 (.flt .f32), .nd 24 (.flt .f32), .nd 26 (.int .i64), .nd 12 (.int .i64)], false⟩]) (env := [(52, .nd 26 (.int .i64)), (1, .nd 26 (.int .i64)), (0, .nd 0 .one), (5, .nd 2 (.int .i64))]) ?_ ?_ tb_ok ap_ok ?_
   ·
    refine midN_in ?_ .nil _ ?_ ?_ ?_
    ·
     exact (.cons rfl rfl (.cons rfl ⟨_, rfl⟩ (.cons rfl ⟨_, rfl⟩ (.cons rfl ⟨_, rfl⟩ (.cons rfl ⟨_, rfl⟩ (.cons rfl ⟨_, rfl⟩ (.cons rfl ⟨_, rfl⟩ (.cons rfl ⟨_, rfl, o3⟩ (.cons rfl ⟨_, rfl, o4⟩ (.cons rfl ⟨_, rfl, o5⟩ (.cons rfl ⟨_, rfl, o6⟩ (.cons rfl ⟨_, rfl⟩ (.cons rfl ⟨_, rfl⟩ (.cons rfl ⟨_, rfl⟩ (.cons rfl ⟨_, rfl⟩ (.cons rfl ⟨_, rfl⟩ (.cons rfl ⟨_, rfl⟩ (.cons rfl ⟨_, rfl⟩ (.cons rfl ⟨_, rfl, hw90 ▸ toF_ok _ _⟩ (.cons rfl ⟨_, rfl⟩ (.cons rfl ⟨_, rfl, hw114 ▸ toF_ok _ _⟩ (.cons rfl ⟨_, rfl⟩ (.cons rfl ⟨_, rfl, hw142 ▸ toF_ok _ _⟩ (.cons rfl ⟨_, rfl⟩ (.cons rfl ⟨_, rfl, hw170 ▸ toF_ok _ _⟩ (.cons rfl ⟨_, rfl⟩ (.cons rfl ⟨_, rfl⟩ .nil)))))))))))))))))))))))))))
    ·
     exact (.cons (win_mid row195 hP (dlCons (dNd rfl ⟨_, rfl⟩) (dlCons (dNd rfl ⟨_, rfl⟩) (dlCons (dNd rfl ⟨_, rfl⟩) (dlCons (dNd rfl ⟨_, rfl, hw90 ▸ toF_ok _ _⟩) (dlCons (dNd rfl ⟨_, rfl, hw114 ▸ toF_ok _ _⟩) (dlCons (dNd rfl ⟨_, rfl, hw142 ▸ toF_ok _ _⟩) (dlCons (dNd rfl ⟨_, rfl, hw170 ▸ toF_ok _ _⟩) (dlCons (dNd rfl ⟨_, rfl⟩) (dlCons (dNd rfl ⟨_, rfl⟩) dlNil)))))))))) .nil)
    ·
     exact sepOk_ro rfl
    ·
     exact (.cons (rule_len (dNd rfl rfl) (dNd rfl ⟨_, rfl⟩)) (.cons (rule_ia (k := i) (dNd rfl rfl) (dNd rfl ⟨_, rfl⟩) hn rfl) .nil))
   ·
    exact (envEq (put_no b186) (dNd rfl ⟨_, rfl⟩) (envEq (put_no b187) (dNd rfl ⟨_, rfl⟩) (envEq (put_no b188) (dNd rfl rfl) (envEq (put_no b189) (dNd rfl ⟨_, rfl⟩) envNil))))
   refine all1 (by kernel_rfl) ?_
   intro vs ls H197 E197 st hE
   have b198 := eo st hE 61 (.ptr l ((i * 9) + 8))
   obtain ⟨w199, hw199⟩ : ∃ z, z = (IntKind.wrap .i64 (w185 + 1)) := ⟨_, rfl⟩
   have nw199 : w199 = ((((((((q + 1) + 1) + 1) + 1) + 1) + 1) + 1) + 1) := by rw [hw199, nw185]; exact e7
   have b200 : E197 59 = .int .i64 w199 := by rw [hw199]; exact eo st hE 59 _
   have b201 : E197 1 = .int .i64 w199 := by rw [hw199]; exact eo st hE 1 _
   have b202 := eo st hE 5 (.int .i64 (i : Int))
   have b203 := eo st hE 0 (.slice l 0 ms.length cap 9)
   have g204 : Grew H194 H197 := (gk st)
   have g205 : Only l H H197 := g196.grew g204
   clear st hE vs ls
   have row207 := g204.at row195
   refine res_store_in (d := none) (n := 1) (x := .tmp 61) (y := .tmp 59) (by kernel_rfl) (off := 8) (C' := [.int .i32 w11, .int .i32 w34, .int .i32 w62, .flt .f32 w90, .flt .f32 w114, .flt .f32 w142, .flt .f32 w170, .int .i64 w185, .int .i64 w199]) (vs := [.int .i64 w199]) b198 row207 hP (by show AV.cells (E197 59) = _; rw [b200]; rfl) rfl (by simp) rfl rfl ?_
   intro H208 row209 oH208
   have g210 := g205.trans oH208
   refine run_mn (φ := φ0) (pm := pmR 1 [(.len (.nd 0 .one), .nd 3 (.int .i64)), (.ia 9 (.nd 0 .one) (.nd 2 (.int .i64)), .ptr 0 0)] 10) 20 (nk := [(.atom 0, .one), (.atom 1, .int .i64), (.atom 2, .int .i64), (.atom 3, .int .i64), (.atom 4, .int .i32), (.atom 5, .int .i32), (.atom 6, .int .i32), (.atom 7, .flt .f32), (.atom 8, .flt .f32), (.atom 9, .flt .f32), (.atom 10, .flt .f32), (.atom 11, .int .i64), (.atom 12, .int .i64), (.atom 13, .int .i32), (.atom 14, .int .i32), (.atom 15, .int .i64), (.atom 16, .int .i32), (.atom 17, .int .i64), (.atom 18, .flt .f32), (.atom 19, .int .i64), (.atom 20, .flt .f32), (.atom 21, .int .i64), (.atom 22, .flt .f32), (.atom 23, .int .i64), (.atom 24, .flt .f32), (.atom 25, .int .i64), (.atom 26, .int .i64), (.atom 27, .int .i64)]) (fs := []) (xs := [.slice l 0 ms.length cap 9, .int .i64 q, .int .i64 (i : Int), .int .i64 (ms.length : Int), .int .i32 v0, .int .i32 v1, .int .i32 v2, .flt .f32 v3, .flt .f32 v4, .flt .f32 v5, .flt .f32 v6, .int .i64 v7, .int .i64 v8, .int .i32 w11, .int .i32 w34, .int .i64 w36, .int .i32 w62, .int .i64 w64, .flt .f32 w90, .int .i64 w92, .flt .f32 w114, .int .i64 w116, .flt .f32 w142, .int .i64 w144, .flt .f32 w170, .int .i64 w172, .int .i64 w185, .int .i64 w199]) (ws := [⟨l, (i * 9), [.nd 13 (.int .i32), .nd 14 (.int .i32), .nd 16 (.int .i32), .nd 18 (.flt .f32), .nd 20 (.flt .f32), .nd 22 (.flt .f32), .nd 24 (.flt .f32), .nd 26 (.int .i64), .nd 27 (.int .i64)], false⟩]) (env := [(59, .nd 27 (.int .i64)), (1, .nd 27 (.int .i64)), (5, .nd 2 (.int .i64)), (0, .nd 0 .one)]) ?_ ?_ tb_ok ap_ok ?_
   ·
    refine midN_in ?_ .nil _ ?_ ?_ ?_
    ·
     exact (.cons rfl rfl (.cons rfl ⟨_, rfl⟩ (.cons rfl ⟨_, rfl⟩ (.cons rfl ⟨_, rfl⟩ (.cons rfl ⟨_, rfl⟩ (.cons rfl ⟨_, rfl⟩ (.cons rfl ⟨_, rfl⟩ (.cons rfl ⟨_, rfl, o3⟩ (.cons rfl ⟨_, rfl, o4⟩ (.cons rfl ⟨_, rfl, o5⟩ (.cons rfl ⟨_, rfl, o6⟩ (.cons rfl ⟨_, rfl⟩ (.cons rfl ⟨_, rfl⟩ (.cons rfl ⟨_, rfl⟩ (.cons rfl ⟨_, rfl⟩ (.cons rfl ⟨_, rfl⟩ (.cons rfl ⟨_, rfl⟩ (.cons rfl ⟨_, rfl⟩ (.cons rfl ⟨_, rfl, hw90 ▸ toF_ok _ _⟩ (.cons rfl ⟨_, rfl⟩ (.cons rfl ⟨_, rfl, hw114 ▸ toF_ok _ _⟩ (.cons rfl ⟨_, rfl⟩ (.cons rfl ⟨_, rfl, hw142 ▸ toF_ok _ _⟩ (.cons rfl ⟨_, rfl⟩ (.cons rfl ⟨_, rfl, hw170 ▸ toF_ok _ _⟩ (.cons rfl ⟨_, rfl⟩ (.cons rfl ⟨_, rfl⟩ (.cons rfl ⟨_, rfl⟩ .nil))))))))))))))))))))))))))))
    ·
     exact (.cons (win_mid row209 hP (dlCons (dNd rfl ⟨_, rfl⟩) (dlCons (dNd rfl ⟨_, rfl⟩) (dlCons (dNd rfl ⟨_, rfl⟩) (dlCons (dNd rfl ⟨_, rfl, hw90 ▸ toF_ok _ _⟩) (dlCons (dNd rfl ⟨_, rfl, hw114 ▸ toF_ok _ _⟩) (dlCons (dNd rfl ⟨_, rfl, hw142 ▸ toF_ok _ _⟩) (dlCons (dNd rfl ⟨_, rfl, hw170 ▸ toF_ok _ _⟩) (dlCons (dNd rfl ⟨_, rfl⟩) (dlCons (dNd rfl ⟨_, rfl⟩) dlNil)))))))))) .nil)
    ·
     exact sepOk_ro rfl
    ·
     exact (.cons (rule_len (dNd rfl rfl) (dNd rfl ⟨_, rfl⟩)) (.cons (rule_ia (k := i) (dNd rfl rfl) (dNd rfl ⟨_, rfl⟩) hn rfl) .nil))
   ·
    exact (envEq (put_no b200) (dNd rfl ⟨_, rfl⟩) (envEq (put_no b201) (dNd rfl ⟨_, rfl⟩) (envEq (put_no b202) (dNd rfl ⟨_, rfl⟩) (envEq (put_no b203) (dNd rfl rfl) envNil))))
   refine all1 (by kernel_rfl) ?_
   intro vs ls H9 E9 st hE
   have g9 : Grew H208 H9 := (gk st)
   have r9 := g9.at row209
   have c9 : E9 1 = .int .i64 (IntKind.wrap .i64 (w199 + 1)) := env_of st.inn hE 1 (by kernel_rfl)
   have d9 : E9 5 = .int .i64 (IntKind.wrap .i64 ((i : Int) + 1)) := env_of st.inn hE 5 (by kernel_rfl)
   have z9 : E9 0 = .slice l 0 ms.length cap 9 := env_of st.inn hE 0 (by kernel_rfl)
   refine res_norm (by kernel_rfl) ⟨z - 1, hza, i + 1, hzb, z9, ?_, ?_, g210.grew g9, ?_⟩
   ·
    rw [c9, nw199, e8, hqn]
   ·
    rw [d9, hiw]
   ·
    rw [r9, mksMark_succ, ← hPe, ← hQ, ← hq, show [.int .i32 w11, .int .i32 w34, .int .i32 w62, .flt .f32 w90, .flt .f32 w114, .flt .f32 w142, .flt .f32 w170, .int .i64 w185, .int .i64 w199] = mkMark q from ?_, List.append_assoc]
    simp only [mkMark, nw36, nw64, nw92, nw116, nw144, nw172, nw185, nw199, hw11, hw34, hw62, hw90, hw114, hw142, hw170, e0, e1, e2, e3, e4, e5, e6, e7, e8]
  ·
   intro vs ls H9 E9 st hE
   exact absurd hni (of_decide_eq_false (bfact (x := decide ((i : Int) < (ms.length : Int))) st.inn 0 (by kernel_rfl)))
 ·
  obtain rfl : i = ms.length := by omega
  refine run_mn (φ := φ0) (pm := pmR 0 [(.len (.nd 0 .one), .nd 2 (.int .i64))] 10) 20 (nk := [(.atom 0, .one), (.atom 1, .int .i64), (.atom 2, .int .i64)]) (fs := []) (xs := [.slice l 0 ms.length cap 9, .int .i64 q, .int .i64 (ms.length : Int)]) (ws := []) (env := [(0, .nd 0 .one), (1, .nd 1 (.int .i64)), (5, .nd 2 (.int .i64))]) ?_ ?_ tb_ok ap_ok ?_
  ·
   refine midN_in ?_ .nil _ ?_ ?_ ?_
   ·
    exact (.cons rfl rfl (.cons rfl ⟨_, rfl⟩ (.cons rfl ⟨_, rfl⟩ .nil)))
   ·
    exact .nil
   ·
    exact sepOk_ro rfl
   ·
    exact (.cons (rule_len (dNd rfl rfl) (dNd rfl ⟨_, rfl⟩)) .nil)
  ·
   exact (envEq c0 (dNd rfl rfl) (envEq c1 (dNd rfl ⟨_, rfl⟩) (envEq ci (dNd rfl ⟨_, rfl⟩) envNil)))
  refine all1 (by kernel_rfl) ?_
  intro vs ls H211 E211 st hE
  have b212 := eo st hE 1 (.int .i64 q)
  have g213 : Grew H0 H211 := (gk st)
  have g214 : Only l H H211 := gO.grew g213
  clear st hE vs ls
  have re := g213.at row
  refine res_exit (id := 0) (by kernel_rfl) ?_
  refine run_mn (φ := φ0) (pm := pmR 0 [] 10) 20 (nk := [(.atom 0, .one), (.atom 1, .int .i64), (.atom 2, .int .i64)]) (fs := []) (xs := [.slice l 0 ms.length cap 9, .int .i64 q, .int .i64 (ms.length : Int)]) (ws := []) (env := [(1, .nd 1 (.int .i64))]) ?_ ?_ tb_ok ap_ok ?_
  ·
   refine midN_in ?_ .nil _ ?_ ?_ ?_
   ·
    exact (.cons rfl rfl (.cons rfl ⟨_, rfl⟩ (.cons rfl ⟨_, rfl⟩ .nil)))
   ·
    exact .nil
   ·
    exact sepOk_ro rfl
   ·
    exact .nil
  ·
   exact (envEq b212 (dNd rfl ⟨_, rfl⟩) envNil)
  refine all1 (by kernel_rfl) ?_
  intro vs ls H9 E9 st hE
  have g9 : Grew H211 H9 := (gk st)
  refine res_ex (by kernel_rfl) (end_same st.inn hE (.inr rfl) (a := .int .i64 q) (by kernel_rfl) (g214.grew g9).next ⟨by rw [hq], g214.grew g9, ?_⟩)
  rw [g9.at re]; simp
theorem k_heldMarkS (H : AHeap) (k : Int) (n : Nat) (S : AV) (hS : SlL H 9 (mksMark k n) S) (h0 : 0 ≤ k) (h1 : k ≤ 1152921504606846976) (hmax : n ≤ 1048576) : APure Try.prog 41 [S, .int .i64 k] H (.int .i64 (k + 9 * (n : Int))) := by
 refine res_start h_laws_heldMarkS (by simp) ?_
 refine run_mn (φ := φ0) (pm := pmR 0 [] 0) 20 (nk := [(.atom 0, .one), (.atom 1, .int .i64)]) (fs := []) (xs := [S, .int .i64 k]) (ws := []) (env := [(0, .nd 0 .one), (1, .nd 1 (.int .i64))]) ?_ ?_ tb_ok ap_ok ?_
 ·
  refine midN_in ?_ .nil _ ?_ ?_ ?_
  ·
   exact (.cons rfl (slOne hS) (.cons rfl ⟨_, rfl⟩ .nil))
  ·
   exact .nil
  ·
   exact sepOk_ro rfl
  ·
   exact .nil
 ·
  exact (envEq rfl (dNd rfl (slOne hS)) (envEq rfl (dNd rfl ⟨_, rfl⟩) envNil))
 refine all1 (by kernel_rfl) ?_
 intro vs ls H1 E1 st hE
 have b2 := eo st hE 5 (.int .i64 0)
 have b3 := eo st hE 0 S
 have b4 := eo st hE 1 (.int .i64 k)
 have g5 : Grew H H1 := (gk st)
 have g6 : Grew H H1 := Grew.trans (Grew.refl _) g5
 clear st hE vs ls
 refine res_loop (by kernel_rfl) (fun z E H' => ∃ i, z + i = n ∧ E 0 = S ∧ E 1 = .int .i64 (k + 9 * (i : Int)) ∧ E 5 = .int .i64 (i : Int) ∧ Grew H H') n
  ⟨0, by omega, b3, by simpa using b4, b2, g6⟩ ?_
 clear b3 b4 b2
 rintro z E0 H0 ⟨i, hz, c0, c1, ci, gO⟩
 obtain ⟨q, hq⟩ : ∃ q, q = k + 9 * (i : Int) := ⟨_, rfl⟩
 rw [← hq] at c1
 have hlen := mksMark_len k n
 rcases Nat.lt_or_ge i n with hlt | hge
 ·
  have hqb : -4611686018427387904 ≤ q ∧ q + 9 ≤ 4611686018427387904 := by omega
  have e0 : IntKind.i64.wrap (q + 1) = (q + 1) := wrap_i64 (by omega) (by omega)
  have e1 : IntKind.i64.wrap ((q + 1) + 1) = ((q + 1) + 1) := wrap_i64 (by omega) (by omega)
  have e2 : IntKind.i64.wrap (((q + 1) + 1) + 1) = (((q + 1) + 1) + 1) := wrap_i64 (by omega) (by omega)
  have e3 : IntKind.i64.wrap ((((q + 1) + 1) + 1) + 1) = ((((q + 1) + 1) + 1) + 1) := wrap_i64 (by omega) (by omega)
  have e4 : IntKind.i64.wrap (((((q + 1) + 1) + 1) + 1) + 1) = (((((q + 1) + 1) + 1) + 1) + 1) := wrap_i64 (by omega) (by omega)
  have e5 : IntKind.i64.wrap ((((((q + 1) + 1) + 1) + 1) + 1) + 1) = ((((((q + 1) + 1) + 1) + 1) + 1) + 1) := wrap_i64 (by omega) (by omega)
  have e6 : IntKind.i64.wrap (((((((q + 1) + 1) + 1) + 1) + 1) + 1) + 1) = (((((((q + 1) + 1) + 1) + 1) + 1) + 1) + 1) := wrap_i64 (by omega) (by omega)
  have e7 : IntKind.i64.wrap ((((((((q + 1) + 1) + 1) + 1) + 1) + 1) + 1) + 1) = ((((((((q + 1) + 1) + 1) + 1) + 1) + 1) + 1) + 1) := wrap_i64 (by omega) (by omega)
  have e8 : IntKind.i64.wrap (((((((((q + 1) + 1) + 1) + 1) + 1) + 1) + 1) + 1) + 1) = (((((((((q + 1) + 1) + 1) + 1) + 1) + 1) + 1) + 1) + 1) := wrap_i64 (by omega) (by omega)
  have hza : z - 1 < z := by omega
  have hzb : z - 1 + (i + 1) = n := by omega
  have hni : (i : Int) < (n : Int) := by omega
  have hiw : IntKind.i64.wrap ((i : Int) + 1) = ((i + 1 : Nat) : Int) := wrap64 (by omega)
  have hqn : (((((((((q + 1) + 1) + 1) + 1) + 1) + 1) + 1) + 1) + 1) = k + 9 * ((i + 1 : Nat) : Int) := by push_cast; omega
  have hlm : i < (mksMark k n).length := by rw [hlen]; exact hlt
  obtain ⟨lS, cap, rest, wr, eS, gS0⟩ := hS.isSl hlm
  have gS := gO.at gS0
  have hm : (mksMark k n)[i] = mkMark q := by rw [hq, ← mksMark_get k hlt]; simp [List.getD_eq_getElem?_getD, hlm]
  refine run_mn (φ := φ0) (pm := pmR 1 [(.len (.nd 0 .one), .nd 3 (.int .i64)), (.ia 9 (.nd 0 .one) (.nd 2 (.int .i64)), .ptr 0 0)] 10) 20 (nk := [(.atom 0, .one), (.atom 1, .int .i64), (.atom 2, .int .i64), (.atom 3, .int .i64), (.atom 4, .int .i32), (.atom 5, .int .i32), (.atom 6, .int .i32), (.atom 7, .flt .f32), (.atom 8, .flt .f32), (.atom 9, .flt .f32), (.atom 10, .flt .f32), (.atom 11, .int .i64), (.atom 12, .int .i64)]) (fs := []) (xs := [S, .int .i64 q, .int .i64 (i : Int), .int .i64 (n : Int), .int .i32 (IntKind.wrap .i32 q), .int .i32 (IntKind.wrap .i32 (q + 1)), .int .i32 (IntKind.wrap .i32 ((q + 1) + 1)), .flt .f32 (some (floatOfInt .f32 (((q + 1) + 1) + 1))), .flt .f32 (some (floatOfInt .f32 ((((q + 1) + 1) + 1) + 1))), .flt .f32 (some (floatOfInt .f32 (((((q + 1) + 1) + 1) + 1) + 1))), .flt .f32 (some (floatOfInt .f32 ((((((q + 1) + 1) + 1) + 1) + 1) + 1))), .int .i64 (((((((q + 1) + 1) + 1) + 1) + 1) + 1) + 1), .int .i64 ((((((((q + 1) + 1) + 1) + 1) + 1) + 1) + 1) + 1)]) (ws := [⟨lS, (i * 9), [.nd 4 (.int .i32), .nd 5 (.int .i32), .nd 6 (.int .i32), .nd 7 (.flt .f32), .nd 8 (.flt .f32), .nd 9 (.flt .f32), .nd 10 (.flt .f32), .nd 11 (.int .i64), .nd 12 (.int .i64)], false⟩]) (env := [(0, .nd 0 .one), (1, .nd 1 (.int .i64)), (5, .nd 2 (.int .i64))]) ?_ ?_ tb_ok ap_ok ?_
  ·
   refine midN_in ?_ .nil _ ?_ ?_ ?_
   ·
    exact (.cons rfl (slOne hS) (.cons rfl ⟨_, rfl⟩ (.cons rfl ⟨_, rfl⟩ (.cons rfl ⟨_, rfl⟩ (.cons rfl ⟨_, rfl⟩ (.cons rfl ⟨_, rfl⟩ (.cons rfl ⟨_, rfl⟩ (.cons rfl ⟨_, rfl, toF_ok _ _⟩ (.cons rfl ⟨_, rfl, toF_ok _ _⟩ (.cons rfl ⟨_, rfl, toF_ok _ _⟩ (.cons rfl ⟨_, rfl, toF_ok _ _⟩ (.cons rfl ⟨_, rfl⟩ (.cons rfl ⟨_, rfl⟩ .nil)))))))))))))
   ·
    exact (.cons (win_elem (mksMark_recs k n) gS hlm rfl (by rw [hm]; exact (dlCons (dNd rfl ⟨_, rfl⟩) (dlCons (dNd rfl ⟨_, rfl⟩) (dlCons (dNd rfl ⟨_, rfl⟩) (dlCons (dNd rfl ⟨_, rfl, toF_ok _ _⟩) (dlCons (dNd rfl ⟨_, rfl, toF_ok _ _⟩) (dlCons (dNd rfl ⟨_, rfl, toF_ok _ _⟩) (dlCons (dNd rfl ⟨_, rfl, toF_ok _ _⟩) (dlCons (dNd rfl ⟨_, rfl⟩) (dlCons (dNd rfl ⟨_, rfl⟩) dlNil))))))))))) .nil)
   ·
    exact sepOk_ro rfl
   ·
    exact (.cons (⟨_, _, dNd rfl (slOne hS), dNd rfl ⟨_, rfl⟩, hlen ▸ slLen hS⟩) (.cons (rule_iaS (k := i) (dNd rfl (slOne hS)) eS (dNd rfl ⟨_, rfl⟩) hlm rfl) .nil))
  ·
   exact (envEq c0 (dNd rfl (slOne hS)) (envEq c1 (dNd rfl ⟨_, rfl⟩) (envEq ci (dNd rfl ⟨_, rfl⟩) envNil)))
  refine all11 (by kernel_rfl) ?_ ?_ ?_ ?_ ?_ ?_ ?_ ?_ ?_ ?_ ?_
  ·
   intro vs ls H9 E9 st hE
   exact absurd (show (IntKind.wrap .i32 q) = (IntKind.wrap .i32 q) by simp only [e0, e1, e2, e3, e4, e5, e6, e7, e8]) (of_decide_eq_false (bfact (x := decide ((IntKind.wrap .i32 q) = (IntKind.wrap .i32 q))) st.inn 0 (by kernel_rfl)))
  ·
   intro vs ls H9 E9 st hE
   exact absurd (show (IntKind.wrap .i32 (q + 1)) = (IntKind.wrap .i32 (IntKind.wrap .i64 (q + 1))) by simp only [e0, e1, e2, e3, e4, e5, e6, e7, e8]) (of_decide_eq_false (bfact (x := decide ((IntKind.wrap .i32 (q + 1)) = (IntKind.wrap .i32 (IntKind.wrap .i64 (q + 1))))) st.inn 0 (by kernel_rfl)))
  ·
   intro vs ls H9 E9 st hE
   exact absurd (show (IntKind.wrap .i32 ((q + 1) + 1)) = (IntKind.wrap .i32 (IntKind.wrap .i64 ((IntKind.wrap .i64 (q + 1)) + 1))) by simp only [e0, e1, e2, e3, e4, e5, e6, e7, e8]) (of_decide_eq_false (bfact (x := decide ((IntKind.wrap .i32 ((q + 1) + 1)) = (IntKind.wrap .i32 (IntKind.wrap .i64 ((IntKind.wrap .i64 (q + 1)) + 1))))) st.inn 0 (by kernel_rfl)))
  ·
   intro vs ls H9 E9 st hE
   have f9 : (ford .f32 (some (floatOfInt .f32 (((q + 1) + 1) + 1))) (some (floatOfInt .f32 (IntKind.wrap .i64 ((IntKind.wrap .i64 ((IntKind.wrap .i64 (q + 1)) + 1)) + 1)))) == some .eq) = false := bf st 0
   simp only [e0, e1, e2, e3, e4, e5, e6, e7, e8] at f9
   rw [ford_self (toF_ok _ _)] at f9; cases f9
  ·
   intro vs ls H9 E9 st hE
   have f9 : (ford .f32 (some (floatOfInt .f32 ((((q + 1) + 1) + 1) + 1))) (some (floatOfInt .f32 (IntKind.wrap .i64 ((IntKind.wrap .i64 ((IntKind.wrap .i64 ((IntKind.wrap .i64 (q + 1)) + 1)) + 1)) + 1)))) == some .eq) = false := bf st 0
   simp only [e0, e1, e2, e3, e4, e5, e6, e7, e8] at f9
   rw [ford_self (toF_ok _ _)] at f9; cases f9
  ·
   intro vs ls H9 E9 st hE
   have f9 : (ford .f32 (some (floatOfInt .f32 (((((q + 1) + 1) + 1) + 1) + 1))) (some (floatOfInt .f32 (IntKind.wrap .i64 ((IntKind.wrap .i64 ((IntKind.wrap .i64 ((IntKind.wrap .i64 ((IntKind.wrap .i64 (q + 1)) + 1)) + 1)) + 1)) + 1)))) == some .eq) = false := bf st 0
   simp only [e0, e1, e2, e3, e4, e5, e6, e7, e8] at f9
   rw [ford_self (toF_ok _ _)] at f9; cases f9
  ·
   intro vs ls H9 E9 st hE
   have f9 : (ford .f32 (some (floatOfInt .f32 ((((((q + 1) + 1) + 1) + 1) + 1) + 1))) (some (floatOfInt .f32 (IntKind.wrap .i64 ((IntKind.wrap .i64 ((IntKind.wrap .i64 ((IntKind.wrap .i64 ((IntKind.wrap .i64 ((IntKind.wrap .i64 (q + 1)) + 1)) + 1)) + 1)) + 1)) + 1)))) == some .eq) = false := bf st 0
   simp only [e0, e1, e2, e3, e4, e5, e6, e7, e8] at f9
   rw [ford_self (toF_ok _ _)] at f9; cases f9
  ·
   intro vs ls H9 E9 st hE
   exact absurd (show (((((((q + 1) + 1) + 1) + 1) + 1) + 1) + 1) = (IntKind.wrap .i64 ((IntKind.wrap .i64 ((IntKind.wrap .i64 ((IntKind.wrap .i64 ((IntKind.wrap .i64 ((IntKind.wrap .i64 ((IntKind.wrap .i64 (q + 1)) + 1)) + 1)) + 1)) + 1)) + 1)) + 1)) by simp only [e0, e1, e2, e3, e4, e5, e6, e7, e8]) (of_decide_eq_false (bfact (x := decide ((((((((q + 1) + 1) + 1) + 1) + 1) + 1) + 1) = (IntKind.wrap .i64 ((IntKind.wrap .i64 ((IntKind.wrap .i64 ((IntKind.wrap .i64 ((IntKind.wrap .i64 ((IntKind.wrap .i64 ((IntKind.wrap .i64 (q + 1)) + 1)) + 1)) + 1)) + 1)) + 1)) + 1)))) st.inn 0 (by kernel_rfl)))
  ·
   intro vs ls H9 E9 st hE
   exact absurd (show ((((((((q + 1) + 1) + 1) + 1) + 1) + 1) + 1) + 1) = (IntKind.wrap .i64 ((IntKind.wrap .i64 ((IntKind.wrap .i64 ((IntKind.wrap .i64 ((IntKind.wrap .i64 ((IntKind.wrap .i64 ((IntKind.wrap .i64 ((IntKind.wrap .i64 (q + 1)) + 1)) + 1)) + 1)) + 1)) + 1)) + 1)) + 1)) by simp only [e0, e1, e2, e3, e4, e5, e6, e7, e8]) (of_decide_eq_false (bfact (x := decide (((((((((q + 1) + 1) + 1) + 1) + 1) + 1) + 1) + 1) = (IntKind.wrap .i64 ((IntKind.wrap .i64 ((IntKind.wrap .i64 ((IntKind.wrap .i64 ((IntKind.wrap .i64 ((IntKind.wrap .i64 ((IntKind.wrap .i64 ((IntKind.wrap .i64 (q + 1)) + 1)) + 1)) + 1)) + 1)) + 1)) + 1)) + 1)))) st.inn 0 (by kernel_rfl)))
  ·
   intro vs ls H9 E9 st hE
   have g9 : Grew H0 H9 := (gk st)
   have z9 : E9 0 = S := env_of st.inn hE 0 (by kernel_rfl)
   have c9 : E9 1 = .int .i64 (IntKind.wrap .i64 ((IntKind.wrap .i64 ((IntKind.wrap .i64 ((IntKind.wrap .i64 ((IntKind.wrap .i64 ((IntKind.wrap .i64 ((IntKind.wrap .i64 ((IntKind.wrap .i64 ((IntKind.wrap .i64 (q + 1)) + 1)) + 1)) + 1)) + 1)) + 1)) + 1)) + 1)) + 1)) := env_of st.inn hE 1 (by kernel_rfl)
   have d9 : E9 5 = .int .i64 (IntKind.wrap .i64 ((i : Int) + 1)) := env_of st.inn hE 5 (by kernel_rfl)
   refine res_norm (by kernel_rfl) ⟨z - 1, hza, i + 1, hzb, z9, ?_, ?_, gO.trans g9⟩
   ·
    rw [c9]; simp only [e0, e1, e2, e3, e4, e5, e6, e7, e8]; rw [hqn]
   ·
    rw [d9, hiw]
  ·
   intro vs ls H9 E9 st hE
   exact absurd hni (of_decide_eq_false (bfact (x := decide ((i : Int) < (n : Int))) st.inn 0 (by kernel_rfl)))
 ·
  obtain rfl : i = n := by omega
  refine run_mn (φ := φ0) (pm := pmR 0 [(.len (.nd 0 .one), .nd 2 (.int .i64))] 10) 20 (nk := [(.atom 0, .one), (.atom 1, .int .i64), (.atom 2, .int .i64)]) (fs := []) (xs := [S, .int .i64 q, .int .i64 (i : Int)]) (ws := []) (env := [(0, .nd 0 .one), (1, .nd 1 (.int .i64)), (5, .nd 2 (.int .i64))]) ?_ ?_ tb_ok ap_ok ?_
  ·
   refine midN_in ?_ .nil _ ?_ ?_ ?_
   ·
    exact (.cons rfl (slOne hS) (.cons rfl ⟨_, rfl⟩ (.cons rfl ⟨_, rfl⟩ .nil)))
   ·
    exact .nil
   ·
    exact sepOk_ro rfl
   ·
    exact (.cons (⟨_, _, dNd rfl (slOne hS), dNd rfl ⟨_, rfl⟩, hlen ▸ slLen hS⟩) .nil)
  ·
   exact (envEq c0 (dNd rfl (slOne hS)) (envEq c1 (dNd rfl ⟨_, rfl⟩) (envEq ci (dNd rfl ⟨_, rfl⟩) envNil)))
  refine all1 (by kernel_rfl) ?_
  intro vs ls H7 E7 st hE
  have b8 := eo st hE 1 (.int .i64 q)
  have g9 : Grew H0 H7 := (gk st)
  have g10 : Grew H H7 := Grew.trans gO g9
  clear st hE vs ls
  refine res_exit (id := 0) (by kernel_rfl) ?_
  refine run_mn (φ := φ0) (pm := pmR 0 [] 10) 20 (nk := [(.atom 0, .one), (.atom 1, .int .i64), (.atom 2, .int .i64)]) (fs := []) (xs := [S, .int .i64 q, .int .i64 (i : Int)]) (ws := []) (env := [(1, .nd 1 (.int .i64))]) ?_ ?_ tb_ok ap_ok ?_
  ·
   refine midN_in ?_ .nil _ ?_ ?_ ?_
   ·
    exact (.cons rfl (slOne hS) (.cons rfl ⟨_, rfl⟩ (.cons rfl ⟨_, rfl⟩ .nil)))
   ·
    exact .nil
   ·
    exact sepOk_ro rfl
   ·
    exact .nil
  ·
   exact (envEq b8 (dNd rfl ⟨_, rfl⟩) envNil)
  refine all1 (by kernel_rfl) ?_
  intro vs ls H9 E9 st hE
  exact res_ex (by kernel_rfl) (end_flat st.inn hE (.inr rfl) (a := .int .i64 q) (by kernel_rfl) (g10.trans (gk st)) rfl ⟨by rw [hq], rfl⟩)
end Go.Proofs.Ytacligocjfhckaa
