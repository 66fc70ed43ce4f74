/- Contracts of the law's words that write and read marks in slices of records: Link. -/
import Derived.Test.YtcmoeocemmeofaaTHeldP
import Derived.Test.YtcmoeocemmeofaaSxD
set_option linter.unusedVariables false
set_option linter.unusedSimpArgs false
namespace Go.Proofs.Ytcmoeocemmeofaa
open Go.Ab
set_option maxRecDepth 100000
set_option maxHeartbeats 1000000
attribute [local irreducible] Res
def mkLink (q : Int) : List AV := [.int .i64 q, .int .i64 (q + 1), .flt .f32 (some (floatOfInt .f32 ((q + 1) + 1))), .flt .f32 (some (floatOfInt .f32 (((q + 1) + 1) + 1))), .flt .f32 (some (floatOfInt .f32 ((((q + 1) + 1) + 1) + 1))), .flt .f32 (some (floatOfInt .f32 (((((q + 1) + 1) + 1) + 1) + 1)))]
def mksLink (q : Int) (n : Nat) : List (List AV) := (List.range n).map fun (i : Nat) => mkLink (q + 6 * (i : Int))
theorem mksLink_len (q : Int) (n : Nat) : (mksLink q n).length = n := by simp [mksLink]
theorem mksLink_recs (q : Int) (n : Nat) : Recs KL (mksLink q n) := by
 intro m hm
 simp only [mksLink, List.mem_map] at hm
 obtain ⟨i, _, rfl⟩ := hm
 exact .cons ⟨_, rfl⟩ (.cons ⟨_, rfl⟩ (.cons ⟨_, rfl, toF_ok _ _⟩ (.cons ⟨_, rfl, toF_ok _ _⟩ (.cons ⟨_, rfl, toF_ok _ _⟩ (.cons ⟨_, rfl, toF_ok _ _⟩ .nil)))))
theorem mksLink_flat (q : Int) (n : Nat) : (mksLink q n).flatten.length = n * 6 := by
 have := take_flat_len (mksLink_recs q n).len (i := n) (by rw [mksLink_len]; exact Nat.le_refl _)
 rwa [List.take_of_length_le (by rw [mksLink_len]; exact Nat.le_refl _)] at this
theorem mksLink_succ (q : Int) (n : Nat) : (mksLink q (n + 1)).flatten = (mksLink q n).flatten ++ mkLink (q + 6 * (n : Int)) := by
 simp [mksLink, List.range_succ]
theorem mksLink_get (q : Int) {n i : Nat} (h : i < n) : (mksLink q n).getD i [] = mkLink (q + 6 * (i : Int)) := by
 simp [mksLink, List.getD_eq_getElem?_getD, h]
theorem k_markLinkS (H : AHeap) (ms : List (List AV)) (hr : Recs KL ms) (l cap : Nat) (rest : List AV) (hg : H.get l = some (.row (ms.flatten ++ rest) true)) (k : Int) (h0 : 0 ≤ k) (h1 : k ≤ 1152921504606846976) (hmax : ms.length ≤ 1048576) : ACalls Try.prog 74 [.slice l 0 ms.length cap 6, .int .i64 k] H fun r H' => r = .int .i64 (k + 6 * (ms.length : Int)) ∧ Only l H H' ∧ H'.get l = some (.row ((mksLink k ms.length).flatten ++ rest) true) := by
 refine res_start h_laws_markLinkS (by simp) ?_
 have row0 := hg
 refine run_mn (φ := φ0) (pm := pmR 0 [] 0) 20 (nk := [(.atom 0, .one), (.atom 1, .int .i64)]) (fs := []) (xs := [.slice l 0 ms.length cap 6, .int .i64 k]) (ws := []) (env := [(0, .nd 0 .one), (1, .nd 1 (.int .i64))]) ?_ ?_ tb_ok ap_ok ?_
 ·
  refine midN_in ?_ .nil _ ?_ ?_ ?_
  ·
   exact (.cons rfl rfl (.cons rfl ⟨_, rfl⟩ .nil))
  ·
   exact .nil
  ·
   exact sepOk_ro rfl
  ·
   exact .nil
 ·
  exact (envEq rfl (dNd rfl rfl) (envEq rfl (dNd rfl ⟨_, rfl⟩) envNil))
 refine all1 (by kernel_rfl) ?_
 intro vs ls H1 E1 st hE
 have b2 := eo st hE 5 (.int .i64 0)
 have b3 := eo st hE 0 (.slice l 0 ms.length cap 6)
 have b4 := eo st hE 1 (.int .i64 k)
 have g5 : Grew H H1 := (gk st)
 have g6 : Only l H H1 := (Only.refl _ _).grew g5
 clear st hE vs ls
 have r7 := g5.at hg
 refine res_loop (by kernel_rfl) (fun z E H' => ∃ i, z + i = ms.length ∧ E 0 = .slice l 0 ms.length cap 6 ∧ E 1 = .int .i64 (k + 6 * (i : Int)) ∧ E 5 = .int .i64 (i : Int) ∧ Only l H H' ∧ H'.get l = some (.row ((mksLink k i).flatten ++ ((ms.drop i).flatten ++ rest)) true)) ms.length
  ⟨0, by omega, b3, by simpa using b4, b2, g6, by simpa [mksLink] using r7⟩ ?_
 clear b3 b4 b2 r7
 rintro z E0 H0 ⟨i, hz, c0, c1, ci, gO, row⟩
 obtain ⟨q, hq⟩ : ∃ q, q = k + 6 * (i : Int) := ⟨_, rfl⟩
 rw [← hq] at c1
 rcases Nat.lt_or_ge i ms.length with hlt | hge
 ·
  obtain ⟨v0, v1, v2, v3, v4, v5, hm, o2, o3, o4, o5⟩ := partsLink (hr.get hlt)
  have hqb : -4611686018427387904 ≤ q ∧ q + 6 ≤ 4611686018427387904 := by omega
  have e0 : IntKind.i64.wrap (q + 1) = (q + 1) := wrap_i64 (by omega) (by omega)
  have e1 : IntKind.i64.wrap ((q + 1) + 1) = ((q + 1) + 1) := wrap_i64 (by omega) (by omega)
  have e2 : IntKind.i64.wrap (((q + 1) + 1) + 1) = (((q + 1) + 1) + 1) := wrap_i64 (by omega) (by omega)
  have e3 : IntKind.i64.wrap ((((q + 1) + 1) + 1) + 1) = ((((q + 1) + 1) + 1) + 1) := wrap_i64 (by omega) (by omega)
  have e4 : IntKind.i64.wrap (((((q + 1) + 1) + 1) + 1) + 1) = (((((q + 1) + 1) + 1) + 1) + 1) := wrap_i64 (by omega) (by omega)
  have e5 : IntKind.i64.wrap ((((((q + 1) + 1) + 1) + 1) + 1) + 1) = ((((((q + 1) + 1) + 1) + 1) + 1) + 1) := wrap_i64 (by omega) (by omega)
  have hP : (mksLink k i).flatten.length = i * 6 := mksLink_flat k i
  have hd : (ms.drop i).flatten = ms[i] ++ (ms.drop (i + 1)).flatten := by rw [List.drop_eq_getElem_cons hlt, List.flatten_cons]
  rw [hd, hm, List.append_assoc] at row
  obtain ⟨Q, hQ⟩ : ∃ Q, Q = (ms.drop (i + 1)).flatten ++ rest := ⟨_, rfl⟩
  obtain ⟨P, hPe⟩ : ∃ P, P = (mksLink k i).flatten := ⟨_, rfl⟩
  rw [← hQ, ← hPe] at row
  rw [← hPe] at hP
  have hn : i < ms.length := hlt
  have hza : z - 1 < z := by omega
  have hzb : z - 1 + (i + 1) = ms.length := by omega
  have hni : (i : Int) < (ms.length : Int) := by omega
  have hiw : IntKind.i64.wrap ((i : Int) + 1) = ((i + 1 : Nat) : Int) := wrap64 (by omega)
  have hqn : ((((((q + 1) + 1) + 1) + 1) + 1) + 1) = k + 6 * ((i + 1 : Nat) : Int) := by push_cast; omega
  refine run_mn (φ := φ0) (pm := pmR 1 [(.len (.nd 0 .one), .nd 3 (.int .i64)), (.ia 6 (.nd 0 .one) (.nd 2 (.int .i64)), .ptr 0 0)] 10) 20 (nk := [(.atom 0, .one), (.atom 1, .int .i64), (.atom 2, .int .i64), (.atom 3, .int .i64), (.atom 4, .int .i64), (.atom 5, .int .i64), (.atom 6, .flt .f32), (.atom 7, .flt .f32), (.atom 8, .flt .f32), (.atom 9, .flt .f32)]) (fs := []) (xs := [.slice l 0 ms.length cap 6, .int .i64 q, .int .i64 (i : Int), .int .i64 (ms.length : Int), .int .i64 v0, .int .i64 v1, .flt .f32 v2, .flt .f32 v3, .flt .f32 v4, .flt .f32 v5]) (ws := [⟨l, (i * 6), [.nd 4 (.int .i64), .nd 5 (.int .i64), .nd 6 (.flt .f32), .nd 7 (.flt .f32), .nd 8 (.flt .f32), .nd 9 (.flt .f32)], false⟩]) (env := [(0, .nd 0 .one), (1, .nd 1 (.int .i64)), (5, .nd 2 (.int .i64))]) ?_ ?_ tb_ok ap_ok ?_
  ·
   refine midN_in ?_ .nil _ ?_ ?_ ?_
   ·
    exact (.cons rfl rfl (.cons rfl ⟨_, rfl⟩ (.cons rfl ⟨_, rfl⟩ (.cons rfl ⟨_, rfl⟩ (.cons rfl ⟨_, rfl⟩ (.cons rfl ⟨_, rfl⟩ (.cons rfl ⟨_, rfl, o2⟩ (.cons rfl ⟨_, rfl, o3⟩ (.cons rfl ⟨_, rfl, o4⟩ (.cons rfl ⟨_, rfl, o5⟩ .nil))))))))))
   ·
    exact (.cons (win_mid row hP (dlCons (dNd rfl ⟨_, rfl⟩) (dlCons (dNd rfl ⟨_, rfl⟩) (dlCons (dNd rfl ⟨_, rfl, o2⟩) (dlCons (dNd rfl ⟨_, rfl, o3⟩) (dlCons (dNd rfl ⟨_, rfl, o4⟩) (dlCons (dNd rfl ⟨_, rfl, o5⟩) dlNil))))))) .nil)
   ·
    exact sepOk_ro rfl
   ·
    exact (.cons (rule_len (dNd rfl rfl) (dNd rfl ⟨_, rfl⟩)) (.cons (rule_ia (k := i) (dNd rfl rfl) (dNd rfl ⟨_, rfl⟩) hn rfl) .nil))
  ·
   exact (envEq c0 (dNd rfl rfl) (envEq c1 (dNd rfl ⟨_, rfl⟩) (envEq ci (dNd rfl ⟨_, rfl⟩) envNil)))
  refine all2 (by kernel_rfl) ?_ ?_
  ·
   intro vs ls H8 E8 st hE
   have f9 : (i : Int) < (ms.length : Int) := dt st 0
   have b10 := eo st hE 17 (.ptr l ((i * 6) + 0))
   have b11 := eo st hE 15 (.int .i64 q)
   have b12 := eo st hE 1 (.int .i64 q)
   have b13 := eo st hE 0 (.slice l 0 ms.length cap 6)
   have b14 := eo st hE 5 (.int .i64 (i : Int))
   have g15 : Grew H0 H8 := (gk st)
   have g16 : Only l H H8 := gO.grew g15
   clear st hE vs ls
   have row18 := g15.at row
   refine res_store_in (d := none) (n := 1) (x := .tmp 17) (y := .tmp 15) (by kernel_rfl) (off := 0) (C' := [.int .i64 q, .int .i64 v1, .flt .f32 v2, .flt .f32 v3, .flt .f32 v4, .flt .f32 v5]) (vs := [.int .i64 q]) b10 row18 hP (by show AV.cells (E8 15) = _; rw [b11]; rfl) rfl (by simp) rfl rfl ?_
   intro H19 row20 oH19
   have g21 := g16.trans oH19
   refine run_mn (φ := φ0) (pm := pmR 1 [(.len (.nd 0 .one), .nd 3 (.int .i64)), (.ia 6 (.nd 0 .one) (.nd 2 (.int .i64)), .ptr 0 0)] 10) 20 (nk := [(.atom 0, .one), (.atom 1, .int .i64), (.atom 2, .int .i64), (.atom 3, .int .i64), (.atom 4, .int .i64), (.atom 5, .int .i64), (.atom 6, .flt .f32), (.atom 7, .flt .f32), (.atom 8, .flt .f32), (.atom 9, .flt .f32)]) (fs := []) (xs := [.slice l 0 ms.length cap 6, .int .i64 q, .int .i64 (i : Int), .int .i64 (ms.length : Int), .int .i64 v0, .int .i64 v1, .flt .f32 v2, .flt .f32 v3, .flt .f32 v4, .flt .f32 v5]) (ws := [⟨l, (i * 6), [.nd 1 (.int .i64), .nd 5 (.int .i64), .nd 6 (.flt .f32), .nd 7 (.flt .f32), .nd 8 (.flt .f32), .nd 9 (.flt .f32)], false⟩]) (env := [(15, .nd 1 (.int .i64)), (1, .nd 1 (.int .i64)), (0, .nd 0 .one), (5, .nd 2 (.int .i64))]) ?_ ?_ tb_ok ap_ok ?_
   ·
    refine midN_in ?_ .nil _ ?_ ?_ ?_
    ·
     exact (.cons rfl rfl (.cons rfl ⟨_, rfl⟩ (.cons rfl ⟨_, rfl⟩ (.cons rfl ⟨_, rfl⟩ (.cons rfl ⟨_, rfl⟩ (.cons rfl ⟨_, rfl⟩ (.cons rfl ⟨_, rfl, o2⟩ (.cons rfl ⟨_, rfl, o3⟩ (.cons rfl ⟨_, rfl, o4⟩ (.cons rfl ⟨_, rfl, o5⟩ .nil))))))))))
    ·
     exact (.cons (win_mid row20 hP (dlCons (dNd rfl ⟨_, rfl⟩) (dlCons (dNd rfl ⟨_, rfl⟩) (dlCons (dNd rfl ⟨_, rfl, o2⟩) (dlCons (dNd rfl ⟨_, rfl, o3⟩) (dlCons (dNd rfl ⟨_, rfl, o4⟩) (dlCons (dNd rfl ⟨_, rfl, o5⟩) dlNil))))))) .nil)
    ·
     exact sepOk_ro rfl
    ·
     exact (.cons (rule_len (dNd rfl rfl) (dNd rfl ⟨_, rfl⟩)) (.cons (rule_ia (k := i) (dNd rfl rfl) (dNd rfl ⟨_, rfl⟩) hn rfl) .nil))
   ·
    exact (envEq (put_no b11) (dNd rfl ⟨_, rfl⟩) (envEq (put_no b12) (dNd rfl ⟨_, rfl⟩) (envEq (put_no b13) (dNd rfl rfl) (envEq (put_no b14) (dNd rfl ⟨_, rfl⟩) envNil))))
   refine all1 (by kernel_rfl) ?_
   intro vs ls H22 E22 st hE
   have b23 := eo st hE 24 (.ptr l ((i * 6) + 1))
   obtain ⟨w24, hw24⟩ : ∃ z, z = (IntKind.wrap .i64 (q + 1)) := ⟨_, rfl⟩
   have nw24 : w24 = (q + 1) := by rw [hw24]; exact e0
   have b25 : E22 22 = .int .i64 w24 := by rw [hw24]; exact eo st hE 22 _
   have b26 : E22 1 = .int .i64 w24 := by rw [hw24]; exact eo st hE 1 _
   have b27 := eo st hE 0 (.slice l 0 ms.length cap 6)
   have b28 := eo st hE 5 (.int .i64 (i : Int))
   have g29 : Grew H19 H22 := (gk st)
   have g30 : Only l H H22 := g21.grew g29
   clear st hE vs ls
   have row32 := g29.at row20
   refine res_store_in (d := none) (n := 1) (x := .tmp 24) (y := .tmp 22) (by kernel_rfl) (off := 1) (C' := [.int .i64 q, .int .i64 w24, .flt .f32 v2, .flt .f32 v3, .flt .f32 v4, .flt .f32 v5]) (vs := [.int .i64 w24]) b23 row32 hP (by show AV.cells (E22 22) = _; rw [b25]; rfl) rfl (by simp) rfl rfl ?_
   intro H33 row34 oH33
   have g35 := g30.trans oH33
   refine run_mn (φ := φ0) (pm := pmR 1 [(.len (.nd 0 .one), .nd 3 (.int .i64)), (.ia 6 (.nd 0 .one) (.nd 2 (.int .i64)), .ptr 0 0)] 10) 20 (nk := [(.atom 0, .one), (.atom 1, .int .i64), (.atom 2, .int .i64), (.atom 3, .int .i64), (.atom 4, .int .i64), (.atom 5, .int .i64), (.atom 6, .flt .f32), (.atom 7, .flt .f32), (.atom 8, .flt .f32), (.atom 9, .flt .f32), (.atom 10, .int .i64)]) (fs := []) (xs := [.slice l 0 ms.length cap 6, .int .i64 q, .int .i64 (i : Int), .int .i64 (ms.length : Int), .int .i64 v0, .int .i64 v1, .flt .f32 v2, .flt .f32 v3, .flt .f32 v4, .flt .f32 v5, .int .i64 w24]) (ws := [⟨l, (i * 6), [.nd 1 (.int .i64), .nd 10 (.int .i64), .nd 6 (.flt .f32), .nd 7 (.flt .f32), .nd 8 (.flt .f32), .nd 9 (.flt .f32)], false⟩]) (env := [(22, .nd 10 (.int .i64)), (1, .nd 10 (.int .i64)), (0, .nd 0 .one), (5, .nd 2 (.int .i64))]) ?_ ?_ tb_ok ap_ok ?_
   ·
    refine midN_in ?_ .nil _ ?_ ?_ ?_
    ·
     exact (.cons rfl rfl (.cons rfl ⟨_, rfl⟩ (.cons rfl ⟨_, rfl⟩ (.cons rfl ⟨_, rfl⟩ (.cons rfl ⟨_, rfl⟩ (.cons rfl ⟨_, rfl⟩ (.cons rfl ⟨_, rfl, o2⟩ (.cons rfl ⟨_, rfl, o3⟩ (.cons rfl ⟨_, rfl, o4⟩ (.cons rfl ⟨_, rfl, o5⟩ (.cons rfl ⟨_, rfl⟩ .nil)))))))))))
    ·
     exact (.cons (win_mid row34 hP (dlCons (dNd rfl ⟨_, rfl⟩) (dlCons (dNd rfl ⟨_, rfl⟩) (dlCons (dNd rfl ⟨_, rfl, o2⟩) (dlCons (dNd rfl ⟨_, rfl, o3⟩) (dlCons (dNd rfl ⟨_, rfl, o4⟩) (dlCons (dNd rfl ⟨_, rfl, o5⟩) dlNil))))))) .nil)
    ·
     exact sepOk_ro rfl
    ·
     exact (.cons (rule_len (dNd rfl rfl) (dNd rfl ⟨_, rfl⟩)) (.cons (rule_ia (k := i) (dNd rfl rfl) (dNd rfl ⟨_, rfl⟩) hn rfl) .nil))
   ·
    exact (envEq (put_no b25) (dNd rfl ⟨_, rfl⟩) (envEq (put_no b26) (dNd rfl ⟨_, rfl⟩) (envEq (put_no b27) (dNd rfl rfl) (envEq (put_no b28) (dNd rfl ⟨_, rfl⟩) envNil))))
   refine all1 (by kernel_rfl) ?_
   intro vs ls H36 E36 st hE
   have b37 := eo st hE 38 (.ptr l ((i * 6) + 2))
   obtain ⟨w38, hw38⟩ : ∃ z, z = (some (floatOfInt .f32 (IntKind.wrap .i64 (w24 + 1)))) := ⟨_, rfl⟩
   have b39 : E36 35 = .flt .f32 w38 := by rw [hw38]; exact eo st hE 35 _
   obtain ⟨w40, hw40⟩ : ∃ z, z = (IntKind.wrap .i64 (w24 + 1)) := ⟨_, rfl⟩
   have nw40 : w40 = ((q + 1) + 1) := by rw [hw40, nw24]; exact e1
   have b41 : E36 1 = .int .i64 w40 := by rw [hw40]; exact eo st hE 1 _
   have b42 := eo st hE 6 (.int .i64 0)
   have b43 := eo st hE 27 (.int .i64 0)
   have b44 := eo st hE 28 (.bool true)
   have b45 := eo st hE 0 (.slice l 0 ms.length cap 6)
   have b46 := eo st hE 5 (.int .i64 (i : Int))
   have b47 : E36 34 = .int .i64 w40 := by rw [hw40]; exact eo st hE 34 _
   have b48 := eo st hE 31 (.slice l 0 ms.length cap 6)
   have b49 := eo st hE 32 (.int .i64 (i : Int))
   have b52 := eo st hE 33 (.int .i64 0)
   have g53 : Grew H33 H36 := (gk st)
   have g54 : Only l H H36 := g35.grew g53
   clear st hE vs ls
   have row56 := g53.at row34
   refine res_store_in (d := none) (n := 1) (x := .tmp 38) (y := .tmp 35) (by kernel_rfl) (off := 2) (C' := [.int .i64 q, .int .i64 w24, .flt .f32 w38, .flt .f32 v3, .flt .f32 v4, .flt .f32 v5]) (vs := [.flt .f32 w38]) b37 row56 hP (by show AV.cells (E36 35) = _; rw [b39]; rfl) rfl (by simp) rfl rfl ?_
   intro H57 row58 oH57
   have g59 := g54.trans oH57
   refine run_mn (φ := φ0) (pm := pmR 1 [(.len (.nd 0 .one), .nd 3 (.int .i64)), (.ia 6 (.nd 0 .one) (.nd 2 (.int .i64)), .ptr 0 0)] 10) 20 (nk := [(.atom 0, .one), (.atom 1, .int .i64), (.atom 2, .int .i64), (.atom 3, .int .i64), (.atom 4, .int .i64), (.atom 5, .int .i64), (.atom 6, .flt .f32), (.atom 7, .flt .f32), (.atom 8, .flt .f32), (.atom 9, .flt .f32), (.atom 10, .int .i64), (.atom 11, .flt .f32), (.atom 12, .int .i64)]) (fs := []) (xs := [.slice l 0 ms.length cap 6, .int .i64 q, .int .i64 (i : Int), .int .i64 (ms.length : Int), .int .i64 v0, .int .i64 v1, .flt .f32 v2, .flt .f32 v3, .flt .f32 v4, .flt .f32 v5, .int .i64 w24, .flt .f32 w38, .int .i64 w40]) (ws := [⟨l, (i * 6), [.nd 1 (.int .i64), .nd 10 (.int .i64), .nd 11 (.flt .f32), .nd 7 (.flt .f32), .nd 8 (.flt .f32), .nd 9 (.flt .f32)], false⟩]) (env := [(35, .nd 11 (.flt .f32)), (1, .nd 12 (.int .i64)), (6, .lit (.int .i64 0)), (27, .lit (.int .i64 0)), (28, .lit (.bool true)), (0, .nd 0 .one), (5, .nd 2 (.int .i64)), (34, .nd 12 (.int .i64)), (31, .nd 0 .one), (32, .nd 2 (.int .i64)), (33, .lit (.int .i64 0))]) ?_ ?_ tb_ok ap_ok ?_
   ·
    refine midN_in ?_ .nil _ ?_ ?_ ?_
    ·
     exact (.cons rfl rfl (.cons rfl ⟨_, rfl⟩ (.cons rfl ⟨_, rfl⟩ (.cons rfl ⟨_, rfl⟩ (.cons rfl ⟨_, rfl⟩ (.cons rfl ⟨_, rfl⟩ (.cons rfl ⟨_, rfl, o2⟩ (.cons rfl ⟨_, rfl, o3⟩ (.cons rfl ⟨_, rfl, o4⟩ (.cons rfl ⟨_, rfl, o5⟩ (.cons rfl ⟨_, rfl⟩ (.cons rfl ⟨_, rfl, hw38 ▸ toF_ok _ _⟩ (.cons rfl ⟨_, rfl⟩ .nil)))))))))))))
    ·
     exact (.cons (win_mid row58 hP (dlCons (dNd rfl ⟨_, rfl⟩) (dlCons (dNd rfl ⟨_, rfl⟩) (dlCons (dNd rfl ⟨_, rfl, hw38 ▸ toF_ok _ _⟩) (dlCons (dNd rfl ⟨_, rfl, o3⟩) (dlCons (dNd rfl ⟨_, rfl, o4⟩) (dlCons (dNd rfl ⟨_, rfl, o5⟩) dlNil))))))) .nil)
    ·
     exact sepOk_ro rfl
    ·
     exact (.cons (rule_len (dNd rfl rfl) (dNd rfl ⟨_, rfl⟩)) (.cons (rule_ia (k := i) (dNd rfl rfl) (dNd rfl ⟨_, rfl⟩) hn rfl) .nil))
   ·
    exact (envEq (put_no b39) (dNd rfl ⟨_, rfl, hw38 ▸ toF_ok _ _⟩) (envEq (put_no b41) (dNd rfl ⟨_, rfl⟩) (envEq (put_no b42) (dLit rfl) (envEq (put_no b43) (dLit rfl) (envEq (put_no b44) (dLit rfl) (envEq (put_no b45) (dNd rfl rfl) (envEq (put_no b46) (dNd rfl ⟨_, rfl⟩) (envEq (put_no b47) (dNd rfl ⟨_, rfl⟩) (envEq (put_no b48) (dNd rfl rfl) (envEq (put_no b49) (dNd rfl ⟨_, rfl⟩) (envEq (put_no b52) (dLit rfl) envNil)))))))))))
   refine all1 (by kernel_rfl) ?_
   intro vs ls H60 E60 st hE
   have b61 := eo st hE 38 (.ptr l ((i * 6) + 3))
   obtain ⟨w62, hw62⟩ : ∃ z, z = (some (floatOfInt .f32 (IntKind.wrap .i64 (w40 + 1)))) := ⟨_, rfl⟩
   have b63 : E60 35 = .flt .f32 w62 := by rw [hw62]; exact eo st hE 35 _
   obtain ⟨w64, hw64⟩ : ∃ z, z = (IntKind.wrap .i64 (w40 + 1)) := ⟨_, rfl⟩
   have nw64 : w64 = (((q + 1) + 1) + 1) := by rw [hw64, nw40]; exact e2
   have b65 : E60 1 = .int .i64 w64 := by rw [hw64]; exact eo st hE 1 _
   have b66 := eo st hE 39 (.int .i64 w40)
   have b67 : E60 40 = .int .i64 w64 := by rw [hw64]; exact eo st hE 40 _
   have b68 := eo st hE 6 (.int .i64 1)
   have b69 := eo st hE 29 (.int .i64 0)
   have b70 := eo st hE 30 (.int .i64 1)
   have b71 := eo st hE 27 (.int .i64 1)
   have b72 := eo st hE 28 (.bool true)
   have b73 := eo st hE 0 (.slice l 0 ms.length cap 6)
   have b74 := eo st hE 5 (.int .i64 (i : Int))
   have b75 : E60 34 = .int .i64 w64 := by rw [hw64]; exact eo st hE 34 _
   have b76 := eo st hE 31 (.slice l 0 ms.length cap 6)
   have b77 := eo st hE 32 (.int .i64 (i : Int))
   have b80 := eo st hE 33 (.int .i64 1)
   have g81 : Grew H57 H60 := (gk st)
   have g82 : Only l H H60 := g59.grew g81
   clear st hE vs ls
   have row84 := g81.at row58
   refine res_store_in (d := none) (n := 1) (x := .tmp 38) (y := .tmp 35) (by kernel_rfl) (off := 3) (C' := [.int .i64 q, .int .i64 w24, .flt .f32 w38, .flt .f32 w62, .flt .f32 v4, .flt .f32 v5]) (vs := [.flt .f32 w62]) b61 row84 hP (by show AV.cells (E60 35) = _; rw [b63]; rfl) rfl (by simp) rfl rfl ?_
   intro H85 row86 oH85
   have g87 := g82.trans oH85
   refine run_mn (φ := φ0) (pm := pmR 1 [(.len (.nd 0 .one), .nd 3 (.int .i64)), (.ia 6 (.nd 0 .one) (.nd 2 (.int .i64)), .ptr 0 0)] 10) 20 (nk := [(.atom 0, .one), (.atom 1, .int .i64), (.atom 2, .int .i64), (.atom 3, .int .i64), (.atom 4, .int .i64), (.atom 5, .int .i64), (.atom 6, .flt .f32), (.atom 7, .flt .f32), (.atom 8, .flt .f32), (.atom 9, .flt .f32), (.atom 10, .int .i64), (.atom 11, .flt .f32), (.atom 12, .int .i64), (.atom 13, .flt .f32), (.atom 14, .int .i64)]) (fs := []) (xs := [.slice l 0 ms.length cap 6, .int .i64 q, .int .i64 (i : Int), .int .i64 (ms.length : Int), .int .i64 v0, .int .i64 v1, .flt .f32 v2, .flt .f32 v3, .flt .f32 v4, .flt .f32 v5, .int .i64 w24, .flt .f32 w38, .int .i64 w40, .flt .f32 w62, .int .i64 w64]) (ws := [⟨l, (i * 6), [.nd 1 (.int .i64), .nd 10 (.int .i64), .nd 11 (.flt .f32), .nd 13 (.flt .f32), .nd 8 (.flt .f32), .nd 9 (.flt .f32)], false⟩]) (env := [(35, .nd 13 (.flt .f32)), (1, .nd 14 (.int .i64)), (39, .nd 12 (.int .i64)), (40, .nd 14 (.int .i64)), (6, .lit (.int .i64 1)), (29, .lit (.int .i64 0)), (30, .lit (.int .i64 1)), (27, .lit (.int .i64 1)), (28, .lit (.bool true)), (0, .nd 0 .one), (5, .nd 2 (.int .i64)), (34, .nd 14 (.int .i64)), (31, .nd 0 .one), (32, .nd 2 (.int .i64)), (33, .lit (.int .i64 1))]) ?_ ?_ tb_ok ap_ok ?_
   ·
    refine midN_in ?_ .nil _ ?_ ?_ ?_
    ·
     exact (.cons rfl rfl (.cons rfl ⟨_, rfl⟩ (.cons rfl ⟨_, rfl⟩ (.cons rfl ⟨_, rfl⟩ (.cons rfl ⟨_, rfl⟩ (.cons rfl ⟨_, rfl⟩ (.cons rfl ⟨_, rfl, o2⟩ (.cons rfl ⟨_, rfl, o3⟩ (.cons rfl ⟨_, rfl, o4⟩ (.cons rfl ⟨_, rfl, o5⟩ (.cons rfl ⟨_, rfl⟩ (.cons rfl ⟨_, rfl, hw38 ▸ toF_ok _ _⟩ (.cons rfl ⟨_, rfl⟩ (.cons rfl ⟨_, rfl, hw62 ▸ toF_ok _ _⟩ (.cons rfl ⟨_, rfl⟩ .nil)))))))))))))))
    ·
     exact (.cons (win_mid row86 hP (dlCons (dNd rfl ⟨_, rfl⟩) (dlCons (dNd rfl ⟨_, rfl⟩) (dlCons (dNd rfl ⟨_, rfl, hw38 ▸ toF_ok _ _⟩) (dlCons (dNd rfl ⟨_, rfl, hw62 ▸ toF_ok _ _⟩) (dlCons (dNd rfl ⟨_, rfl, o4⟩) (dlCons (dNd rfl ⟨_, rfl, o5⟩) dlNil))))))) .nil)
    ·
     exact sepOk_ro rfl
    ·
     exact (.cons (rule_len (dNd rfl rfl) (dNd rfl ⟨_, rfl⟩)) (.cons (rule_ia (k := i) (dNd rfl rfl) (dNd rfl ⟨_, rfl⟩) hn rfl) .nil))
   ·
    exact (envEq (put_no b63) (dNd rfl ⟨_, rfl, hw62 ▸ toF_ok _ _⟩) (envEq (put_no b65) (dNd rfl ⟨_, rfl⟩) (envEq (put_no b66) (dNd rfl ⟨_, rfl⟩) (envEq (put_no b67) (dNd rfl ⟨_, rfl⟩) (envEq (put_no b68) (dLit rfl) (envEq (put_no b69) (dLit rfl) (envEq (put_no b70) (dLit rfl) (envEq (put_no b71) (dLit rfl) (envEq (put_no b72) (dLit rfl) (envEq (put_no b73) (dNd rfl rfl) (envEq (put_no b74) (dNd rfl ⟨_, rfl⟩) (envEq (put_no b75) (dNd rfl ⟨_, rfl⟩) (envEq (put_no b76) (dNd rfl rfl) (envEq (put_no b77) (dNd rfl ⟨_, rfl⟩) (envEq (put_no b80) (dLit rfl) envNil)))))))))))))))
   refine all1 (by kernel_rfl) ?_
   intro vs ls H88 E88 st hE
   have b89 := eo st hE 38 (.ptr l ((i * 6) + 4))
   obtain ⟨w90, hw90⟩ : ∃ z, z = (some (floatOfInt .f32 (IntKind.wrap .i64 (w64 + 1)))) := ⟨_, rfl⟩
   have b91 : E88 35 = .flt .f32 w90 := by rw [hw90]; exact eo st hE 35 _
   obtain ⟨w92, hw92⟩ : ∃ z, z = (IntKind.wrap .i64 (w64 + 1)) := ⟨_, rfl⟩
   have nw92 : w92 = ((((q + 1) + 1) + 1) + 1) := by rw [hw92, nw64]; exact e3
   have b93 : E88 1 = .int .i64 w92 := by rw [hw92]; exact eo st hE 1 _
   have b94 := eo st hE 39 (.int .i64 w64)
   have b95 : E88 40 = .int .i64 w92 := by rw [hw92]; exact eo st hE 40 _
   have b96 := eo st hE 6 (.int .i64 2)
   have b97 := eo st hE 29 (.int .i64 1)
   have b98 := eo st hE 30 (.int .i64 2)
   have b99 := eo st hE 27 (.int .i64 2)
   have b100 := eo st hE 28 (.bool true)
   have b101 := eo st hE 0 (.slice l 0 ms.length cap 6)
   have b102 := eo st hE 5 (.int .i64 (i : Int))
   have b103 : E88 34 = .int .i64 w92 := by rw [hw92]; exact eo st hE 34 _
   have b104 := eo st hE 31 (.slice l 0 ms.length cap 6)
   have b105 := eo st hE 32 (.int .i64 (i : Int))
   have b108 := eo st hE 33 (.int .i64 2)
   have g109 : Grew H85 H88 := (gk st)
   have g110 : Only l H H88 := g87.grew g109
   clear st hE vs ls
   have row112 := g109.at row86
   refine res_store_in (d := none) (n := 1) (x := .tmp 38) (y := .tmp 35) (by kernel_rfl) (off := 4) (C' := [.int .i64 q, .int .i64 w24, .flt .f32 w38, .flt .f32 w62, .flt .f32 w90, .flt .f32 v5]) (vs := [.flt .f32 w90]) b89 row112 hP (by show AV.cells (E88 35) = _; rw [b91]; rfl) rfl (by simp) rfl rfl ?_
   intro H113 row114 oH113
   have g115 := g110.trans oH113
   refine run_mn (φ := φ0) (pm := pmR 1 [(.len (.nd 0 .one), .nd 3 (.int .i64)), (.ia 6 (.nd 0 .one) (.nd 2 (.int .i64)), .ptr 0 0)] 10) 20 (nk := [(.atom 0, .one), (.atom 1, .int .i64), (.atom 2, .int .i64), (.atom 3, .int .i64), (.atom 4, .int .i64), (.atom 5, .int .i64), (.atom 6, .flt .f32), (.atom 7, .flt .f32), (.atom 8, .flt .f32), (.atom 9, .flt .f32), (.atom 10, .int .i64), (.atom 11, .flt .f32), (.atom 12, .int .i64), (.atom 13, .flt .f32), (.atom 14, .int .i64), (.atom 15, .flt .f32), (.atom 16, .int .i64)]) (fs := []) (xs := [.slice l 0 ms.length cap 6, .int .i64 q, .int .i64 (i : Int), .int .i64 (ms.length : Int), .int .i64 v0, .int .i64 v1, .flt .f32 v2, .flt .f32 v3, .flt .f32 v4, .flt .f32 v5, .int .i64 w24, .flt .f32 w38, .int .i64 w40, .flt .f32 w62, .int .i64 w64, .flt .f32 w90, .int .i64 w92]) (ws := [⟨l, (i * 6), [.nd 1 (.int .i64), .nd 10 (.int .i64), .nd 11 (.flt .f32), .nd 13 (.flt .f32), .nd 15 (.flt .f32), .nd 9 (.flt .f32)], false⟩]) (env := [(35, .nd 15 (.flt .f32)), (1, .nd 16 (.int .i64)), (39, .nd 14 (.int .i64)), (40, .nd 16 (.int .i64)), (6, .lit (.int .i64 2)), (29, .lit (.int .i64 1)), (30, .lit (.int .i64 2)), (27, .lit (.int .i64 2)), (28, .lit (.bool true)), (0, .nd 0 .one), (5, .nd 2 (.int .i64)), (34, .nd 16 (.int .i64)), (31, .nd 0 .one), (32, .nd 2 (.int .i64)), (33, .lit (.int .i64 2))]) ?_ ?_ tb_ok ap_ok ?_
   ·
    refine midN_in ?_ .nil _ ?_ ?_ ?_
    ·
     exact (.cons rfl rfl (.cons rfl ⟨_, rfl⟩ (.cons rfl ⟨_, rfl⟩ (.cons rfl ⟨_, rfl⟩ (.cons rfl ⟨_, rfl⟩ (.cons rfl ⟨_, rfl⟩ (.cons rfl ⟨_, rfl, o2⟩ (.cons rfl ⟨_, rfl, o3⟩ (.cons rfl ⟨_, rfl, o4⟩ (.cons rfl ⟨_, rfl, o5⟩ (.cons rfl ⟨_, rfl⟩ (.cons rfl ⟨_, rfl, hw38 ▸ toF_ok _ _⟩ (.cons rfl ⟨_, rfl⟩ (.cons rfl ⟨_, rfl, hw62 ▸ toF_ok _ _⟩ (.cons rfl ⟨_, rfl⟩ (.cons rfl ⟨_, rfl, hw90 ▸ toF_ok _ _⟩ (.cons rfl ⟨_, rfl⟩ .nil)))))))))))))))))
    ·
     exact (.cons (win_mid row114 hP (dlCons (dNd rfl ⟨_, rfl⟩) (dlCons (dNd rfl ⟨_, rfl⟩) (dlCons (dNd rfl ⟨_, rfl, hw38 ▸ toF_ok _ _⟩) (dlCons (dNd rfl ⟨_, rfl, hw62 ▸ toF_ok _ _⟩) (dlCons (dNd rfl ⟨_, rfl, hw90 ▸ toF_ok _ _⟩) (dlCons (dNd rfl ⟨_, rfl, o5⟩) dlNil))))))) .nil)
    ·
     exact sepOk_ro rfl
    ·
     exact (.cons (rule_len (dNd rfl rfl) (dNd rfl ⟨_, rfl⟩)) (.cons (rule_ia (k := i) (dNd rfl rfl) (dNd rfl ⟨_, rfl⟩) hn rfl) .nil))
   ·
    exact (envEq (put_no b91) (dNd rfl ⟨_, rfl, hw90 ▸ toF_ok _ _⟩) (envEq (put_no b93) (dNd rfl ⟨_, rfl⟩) (envEq (put_no b94) (dNd rfl ⟨_, rfl⟩) (envEq (put_no b95) (dNd rfl ⟨_, rfl⟩) (envEq (put_no b96) (dLit rfl) (envEq (put_no b97) (dLit rfl) (envEq (put_no b98) (dLit rfl) (envEq (put_no b99) (dLit rfl) (envEq (put_no b100) (dLit rfl) (envEq (put_no b101) (dNd rfl rfl) (envEq (put_no b102) (dNd rfl ⟨_, rfl⟩) (envEq (put_no b103) (dNd rfl ⟨_, rfl⟩) (envEq (put_no b104) (dNd rfl rfl) (envEq (put_no b105) (dNd rfl ⟨_, rfl⟩) (envEq (put_no b108) (dLit rfl) envNil)))))))))))))))
   refine all1 (by kernel_rfl) ?_
   intro vs ls H116 E116 st hE
   have b117 := eo st hE 46 (.ptr l ((i * 6) + 5))
   obtain ⟨w118, hw118⟩ : ∃ z, z = (some (floatOfInt .f32 (IntKind.wrap .i64 (w92 + 1)))) := ⟨_, rfl⟩
   have b119 : E116 44 = .flt .f32 w118 := by rw [hw118]; exact eo st hE 44 _
   obtain ⟨w120, hw120⟩ : ∃ z, z = (IntKind.wrap .i64 (w92 + 1)) := ⟨_, rfl⟩
   have nw120 : w120 = (((((q + 1) + 1) + 1) + 1) + 1) := by rw [hw120, nw92]; exact e4
   have b121 : E116 1 = .int .i64 w120 := by rw [hw120]; exact eo st hE 1 _
   have b122 := eo st hE 5 (.int .i64 (i : Int))
   have b123 := eo st hE 0 (.slice l 0 ms.length cap 6)
   have g124 : Grew H113 H116 := (gk st)
   have g125 : Only l H H116 := g115.grew g124
   clear st hE vs ls
   have row127 := g124.at row114
   refine res_store_in (d := none) (n := 1) (x := .tmp 46) (y := .tmp 44) (by kernel_rfl) (off := 5) (C' := [.int .i64 q, .int .i64 w24, .flt .f32 w38, .flt .f32 w62, .flt .f32 w90, .flt .f32 w118]) (vs := [.flt .f32 w118]) b117 row127 hP (by show AV.cells (E116 44) = _; rw [b119]; rfl) rfl (by simp) rfl rfl ?_
   intro H128 row129 oH128
   have g130 := g125.trans oH128
   refine run_mn (φ := φ0) (pm := pmR 1 [(.len (.nd 0 .one), .nd 3 (.int .i64)), (.ia 6 (.nd 0 .one) (.nd 2 (.int .i64)), .ptr 0 0)] 10) 20 (nk := [(.atom 0, .one), (.atom 1, .int .i64), (.atom 2, .int .i64), (.atom 3, .int .i64), (.atom 4, .int .i64), (.atom 5, .int .i64), (.atom 6, .flt .f32), (.atom 7, .flt .f32), (.atom 8, .flt .f32), (.atom 9, .flt .f32), (.atom 10, .int .i64), (.atom 11, .flt .f32), (.atom 12, .int .i64), (.atom 13, .flt .f32), (.atom 14, .int .i64), (.atom 15, .flt .f32), (.atom 16, .int .i64), (.atom 17, .flt .f32), (.atom 18, .int .i64)]) (fs := []) (xs := [.slice l 0 ms.length cap 6, .int .i64 q, .int .i64 (i : Int), .int .i64 (ms.length : Int), .int .i64 v0, .int .i64 v1, .flt .f32 v2, .flt .f32 v3, .flt .f32 v4, .flt .f32 v5, .int .i64 w24, .flt .f32 w38, .int .i64 w40, .flt .f32 w62, .int .i64 w64, .flt .f32 w90, .int .i64 w92, .flt .f32 w118, .int .i64 w120]) (ws := [⟨l, (i * 6), [.nd 1 (.int .i64), .nd 10 (.int .i64), .nd 11 (.flt .f32), .nd 13 (.flt .f32), .nd 15 (.flt .f32), .nd 17 (.flt .f32)], false⟩]) (env := [(44, .nd 17 (.flt .f32)), (1, .nd 18 (.int .i64)), (5, .nd 2 (.int .i64)), (0, .nd 0 .one)]) ?_ ?_ tb_ok ap_ok ?_
   ·
    refine midN_in ?_ .nil _ ?_ ?_ ?_
    ·
     exact (.cons rfl rfl (.cons rfl ⟨_, rfl⟩ (.cons rfl ⟨_, rfl⟩ (.cons rfl ⟨_, rfl⟩ (.cons rfl ⟨_, rfl⟩ (.cons rfl ⟨_, rfl⟩ (.cons rfl ⟨_, rfl, o2⟩ (.cons rfl ⟨_, rfl, o3⟩ (.cons rfl ⟨_, rfl, o4⟩ (.cons rfl ⟨_, rfl, o5⟩ (.cons rfl ⟨_, rfl⟩ (.cons rfl ⟨_, rfl, hw38 ▸ toF_ok _ _⟩ (.cons rfl ⟨_, rfl⟩ (.cons rfl ⟨_, rfl, hw62 ▸ toF_ok _ _⟩ (.cons rfl ⟨_, rfl⟩ (.cons rfl ⟨_, rfl, hw90 ▸ toF_ok _ _⟩ (.cons rfl ⟨_, rfl⟩ (.cons rfl ⟨_, rfl, hw118 ▸ toF_ok _ _⟩ (.cons rfl ⟨_, rfl⟩ .nil)))))))))))))))))))
    ·
     exact (.cons (win_mid row129 hP (dlCons (dNd rfl ⟨_, rfl⟩) (dlCons (dNd rfl ⟨_, rfl⟩) (dlCons (dNd rfl ⟨_, rfl, hw38 ▸ toF_ok _ _⟩) (dlCons (dNd rfl ⟨_, rfl, hw62 ▸ toF_ok _ _⟩) (dlCons (dNd rfl ⟨_, rfl, hw90 ▸ toF_ok _ _⟩) (dlCons (dNd rfl ⟨_, rfl, hw118 ▸ toF_ok _ _⟩) dlNil))))))) .nil)
    ·
     exact sepOk_ro rfl
    ·
     exact (.cons (rule_len (dNd rfl rfl) (dNd rfl ⟨_, rfl⟩)) (.cons (rule_ia (k := i) (dNd rfl rfl) (dNd rfl ⟨_, rfl⟩) hn rfl) .nil))
   ·
    exact (envEq (put_no b119) (dNd rfl ⟨_, rfl, hw118 ▸ toF_ok _ _⟩) (envEq (put_no b121) (dNd rfl ⟨_, rfl⟩) (envEq (put_no b122) (dNd rfl ⟨_, rfl⟩) (envEq (put_no b123) (dNd rfl rfl) envNil))))
   refine all1 (by kernel_rfl) ?_
   intro vs ls H9 E9 st hE
   have g9 : Grew H128 H9 := (gk st)
   have r9 := g9.at row129
   have c9 : E9 1 = .int .i64 (IntKind.wrap .i64 (w120 + 1)) := env_of st.inn hE 1 (by kernel_rfl)
   have d9 : E9 5 = .int .i64 (IntKind.wrap .i64 ((i : Int) + 1)) := env_of st.inn hE 5 (by kernel_rfl)
   have z9 : E9 0 = .slice l 0 ms.length cap 6 := env_of st.inn hE 0 (by kernel_rfl)
   refine res_norm (by kernel_rfl) ⟨z - 1, hza, i + 1, hzb, z9, ?_, ?_, g130.grew g9, ?_⟩
   ·
    rw [c9, nw120, e5, hqn]
   ·
    rw [d9, hiw]
   ·
    rw [r9, mksLink_succ, ← hPe, ← hQ, ← hq, show [.int .i64 q, .int .i64 w24, .flt .f32 w38, .flt .f32 w62, .flt .f32 w90, .flt .f32 w118] = mkLink q from ?_, List.append_assoc]
    simp only [mkLink, nw24, nw40, nw64, nw92, nw120, hw38, hw62, hw90, hw118, e0, e1, e2, e3, e4, e5]
  ·
   intro vs ls H9 E9 st hE
   exact absurd hni (of_decide_eq_false (bfact (x := decide ((i : Int) < (ms.length : Int))) st.inn 0 (by kernel_rfl)))
 ·
  obtain rfl : i = ms.length := by omega
  refine run_mn (φ := φ0) (pm := pmR 0 [(.len (.nd 0 .one), .nd 2 (.int .i64))] 10) 20 (nk := [(.atom 0, .one), (.atom 1, .int .i64), (.atom 2, .int .i64)]) (fs := []) (xs := [.slice l 0 ms.length cap 6, .int .i64 q, .int .i64 (ms.length : Int)]) (ws := []) (env := [(0, .nd 0 .one), (1, .nd 1 (.int .i64)), (5, .nd 2 (.int .i64))]) ?_ ?_ tb_ok ap_ok ?_
  ·
   refine midN_in ?_ .nil _ ?_ ?_ ?_
   ·
    exact (.cons rfl rfl (.cons rfl ⟨_, rfl⟩ (.cons rfl ⟨_, rfl⟩ .nil)))
   ·
    exact .nil
   ·
    exact sepOk_ro rfl
   ·
    exact (.cons (rule_len (dNd rfl rfl) (dNd rfl ⟨_, rfl⟩)) .nil)
  ·
   exact (envEq c0 (dNd rfl rfl) (envEq c1 (dNd rfl ⟨_, rfl⟩) (envEq ci (dNd rfl ⟨_, rfl⟩) envNil)))
  refine all1 (by kernel_rfl) ?_
  intro vs ls H131 E131 st hE
  have b132 := eo st hE 1 (.int .i64 q)
  have g133 : Grew H0 H131 := (gk st)
  have g134 : Only l H H131 := gO.grew g133
  clear st hE vs ls
  have re := g133.at row
  refine res_exit (id := 0) (by kernel_rfl) ?_
  refine run_mn (φ := φ0) (pm := pmR 0 [] 10) 20 (nk := [(.atom 0, .one), (.atom 1, .int .i64), (.atom 2, .int .i64)]) (fs := []) (xs := [.slice l 0 ms.length cap 6, .int .i64 q, .int .i64 (ms.length : Int)]) (ws := []) (env := [(1, .nd 1 (.int .i64))]) ?_ ?_ tb_ok ap_ok ?_
  ·
   refine midN_in ?_ .nil _ ?_ ?_ ?_
   ·
    exact (.cons rfl rfl (.cons rfl ⟨_, rfl⟩ (.cons rfl ⟨_, rfl⟩ .nil)))
   ·
    exact .nil
   ·
    exact sepOk_ro rfl
   ·
    exact .nil
  ·
   exact (envEq b132 (dNd rfl ⟨_, rfl⟩) envNil)
  refine all1 (by kernel_rfl) ?_
  intro vs ls H9 E9 st hE
  have g9 : Grew H131 H9 := (gk st)
  refine res_ex (by kernel_rfl) (end_same st.inn hE (.inr rfl) (a := .int .i64 q) (by kernel_rfl) (g134.grew g9).next ⟨by rw [hq], g134.grew g9, ?_⟩)
  rw [g9.at re]; simp
theorem k_heldLinkS (H : AHeap) (k : Int) (n : Nat) (S : AV) (hS : SlL H 6 (mksLink k n) S) (h0 : 0 ≤ k) (h1 : k ≤ 1152921504606846976) (hmax : n ≤ 1048576) : APure Try.prog 75 [S, .int .i64 k] H (.int .i64 (k + 6 * (n : Int))) := by
 refine res_start h_laws_heldLinkS (by simp) ?_
 refine run_mn (φ := φ0) (pm := pmR 0 [] 0) 20 (nk := [(.atom 0, .one), (.atom 1, .int .i64)]) (fs := []) (xs := [S, .int .i64 k]) (ws := []) (env := [(0, .nd 0 .one), (1, .nd 1 (.int .i64))]) ?_ ?_ tb_ok ap_ok ?_
 ·
  refine midN_in ?_ .nil _ ?_ ?_ ?_
  ·
   exact (.cons rfl (slOne hS) (.cons rfl ⟨_, rfl⟩ .nil))
  ·
   exact .nil
  ·
   exact sepOk_ro rfl
  ·
   exact .nil
 ·
  exact (envEq rfl (dNd rfl (slOne hS)) (envEq rfl (dNd rfl ⟨_, rfl⟩) envNil))
 refine all1 (by kernel_rfl) ?_
 intro vs ls H1 E1 st hE
 have b2 := eo st hE 5 (.int .i64 0)
 have b3 := eo st hE 0 S
 have b4 := eo st hE 1 (.int .i64 k)
 have g5 : Grew H H1 := (gk st)
 have g6 : Grew H H1 := Grew.trans (Grew.refl _) g5
 clear st hE vs ls
 refine res_loop (by kernel_rfl) (fun z E H' => ∃ i, z + i = n ∧ E 0 = S ∧ E 1 = .int .i64 (k + 6 * (i : Int)) ∧ E 5 = .int .i64 (i : Int) ∧ Grew H H') n
  ⟨0, by omega, b3, by simpa using b4, b2, g6⟩ ?_
 clear b3 b4 b2
 rintro z E0 H0 ⟨i, hz, c0, c1, ci, gO⟩
 obtain ⟨q, hq⟩ : ∃ q, q = k + 6 * (i : Int) := ⟨_, rfl⟩
 rw [← hq] at c1
 have hlen := mksLink_len k n
 rcases Nat.lt_or_ge i n with hlt | hge
 ·
  have hqb : -4611686018427387904 ≤ q ∧ q + 6 ≤ 4611686018427387904 := by omega
  have e0 : IntKind.i64.wrap (q + 1) = (q + 1) := wrap_i64 (by omega) (by omega)
  have e1 : IntKind.i64.wrap ((q + 1) + 1) = ((q + 1) + 1) := wrap_i64 (by omega) (by omega)
  have e2 : IntKind.i64.wrap (((q + 1) + 1) + 1) = (((q + 1) + 1) + 1) := wrap_i64 (by omega) (by omega)
  have e3 : IntKind.i64.wrap ((((q + 1) + 1) + 1) + 1) = ((((q + 1) + 1) + 1) + 1) := wrap_i64 (by omega) (by omega)
  have e4 : IntKind.i64.wrap (((((q + 1) + 1) + 1) + 1) + 1) = (((((q + 1) + 1) + 1) + 1) + 1) := wrap_i64 (by omega) (by omega)
  have e5 : IntKind.i64.wrap ((((((q + 1) + 1) + 1) + 1) + 1) + 1) = ((((((q + 1) + 1) + 1) + 1) + 1) + 1) := wrap_i64 (by omega) (by omega)
  have hza : z - 1 < z := by omega
  have hzb : z - 1 + (i + 1) = n := by omega
  have hni : (i : Int) < (n : Int) := by omega
  have hiw : IntKind.i64.wrap ((i : Int) + 1) = ((i + 1 : Nat) : Int) := wrap64 (by omega)
  have hqn : ((((((q + 1) + 1) + 1) + 1) + 1) + 1) = k + 6 * ((i + 1 : Nat) : Int) := by push_cast; omega
  have hlm : i < (mksLink k n).length := by rw [hlen]; exact hlt
  obtain ⟨lS, cap, rest, wr, eS, gS0⟩ := hS.isSl hlm
  have gS := gO.at gS0
  have hm : (mksLink k n)[i] = mkLink q := by rw [hq, ← mksLink_get k hlt]; simp [List.getD_eq_getElem?_getD, hlm]
  refine run_mn (φ := φ0) (pm := pmR 1 [(.len (.nd 0 .one), .nd 3 (.int .i64)), (.ia 6 (.nd 0 .one) (.nd 2 (.int .i64)), .ptr 0 0)] 10) 20 (nk := [(.atom 0, .one), (.atom 1, .int .i64), (.atom 2, .int .i64), (.atom 3, .int .i64), (.atom 4, .int .i64), (.atom 5, .int .i64), (.atom 6, .flt .f32), (.atom 7, .flt .f32), (.atom 8, .flt .f32), (.atom 9, .flt .f32)]) (fs := []) (xs := [S, .int .i64 q, .int .i64 (i : Int), .int .i64 (n : Int), .int .i64 q, .int .i64 (q + 1), .flt .f32 (some (floatOfInt .f32 ((q + 1) + 1))), .flt .f32 (some (floatOfInt .f32 (((q + 1) + 1) + 1))), .flt .f32 (some (floatOfInt .f32 ((((q + 1) + 1) + 1) + 1))), .flt .f32 (some (floatOfInt .f32 (((((q + 1) + 1) + 1) + 1) + 1)))]) (ws := [⟨lS, (i * 6), [.nd 4 (.int .i64), .nd 5 (.int .i64), .nd 6 (.flt .f32), .nd 7 (.flt .f32), .nd 8 (.flt .f32), .nd 9 (.flt .f32)], false⟩]) (env := [(0, .nd 0 .one), (1, .nd 1 (.int .i64)), (5, .nd 2 (.int .i64))]) ?_ ?_ tb_ok ap_ok ?_
  ·
   refine midN_in ?_ .nil _ ?_ ?_ ?_
   ·
    exact (.cons rfl (slOne hS) (.cons rfl ⟨_, rfl⟩ (.cons rfl ⟨_, rfl⟩ (.cons rfl ⟨_, rfl⟩ (.cons rfl ⟨_, rfl⟩ (.cons rfl ⟨_, rfl⟩ (.cons rfl ⟨_, rfl, toF_ok _ _⟩ (.cons rfl ⟨_, rfl, toF_ok _ _⟩ (.cons rfl ⟨_, rfl, toF_ok _ _⟩ (.cons rfl ⟨_, rfl, toF_ok _ _⟩ .nil))))))))))
   ·
    exact (.cons (win_elem (mksLink_recs k n) gS hlm rfl (by rw [hm]; exact (dlCons (dNd rfl ⟨_, rfl⟩) (dlCons (dNd rfl ⟨_, rfl⟩) (dlCons (dNd rfl ⟨_, rfl, toF_ok _ _⟩) (dlCons (dNd rfl ⟨_, rfl, toF_ok _ _⟩) (dlCons (dNd rfl ⟨_, rfl, toF_ok _ _⟩) (dlCons (dNd rfl ⟨_, rfl, toF_ok _ _⟩) dlNil)))))))) .nil)
   ·
    exact sepOk_ro rfl
   ·
    exact (.cons (⟨_, _, dNd rfl (slOne hS), dNd rfl ⟨_, rfl⟩, hlen ▸ slLen hS⟩) (.cons (rule_iaS (k := i) (dNd rfl (slOne hS)) eS (dNd rfl ⟨_, rfl⟩) hlm rfl) .nil))
  ·
   exact (envEq c0 (dNd rfl (slOne hS)) (envEq c1 (dNd rfl ⟨_, rfl⟩) (envEq ci (dNd rfl ⟨_, rfl⟩) envNil)))
  refine all8 (by kernel_rfl) ?_ ?_ ?_ ?_ ?_ ?_ ?_ ?_
  ·
   intro vs ls H9 E9 st hE
   exact absurd (show q = q by simp only [e0, e1, e2, e3, e4, e5]) (of_decide_eq_false (bfact (x := decide (q = q)) st.inn 0 (by kernel_rfl)))
  ·
   intro vs ls H9 E9 st hE
   exact absurd (show (q + 1) = (IntKind.wrap .i64 (q + 1)) by simp only [e0, e1, e2, e3, e4, e5]) (of_decide_eq_false (bfact (x := decide ((q + 1) = (IntKind.wrap .i64 (q + 1)))) st.inn 0 (by kernel_rfl)))
  ·
   intro vs ls H9 E9 st hE
   have f9 : (ford .f32 (some (floatOfInt .f32 ((q + 1) + 1))) (some (floatOfInt .f32 (IntKind.wrap .i64 ((IntKind.wrap .i64 (q + 1)) + 1)))) == some .eq) = false := bf st 0
   try simp only [e0, e1, e2, e3, e4, e5] at f9
   rw [ford_self (toF_ok _ _)] at f9; cases f9
  ·
   intro vs ls H9 E9 st hE
   have f9 : (ford .f32 (some (floatOfInt .f32 (((q + 1) + 1) + 1))) (some (floatOfInt .f32 (IntKind.wrap .i64 ((IntKind.wrap .i64 ((IntKind.wrap .i64 (q + 1)) + 1)) + 1)))) == some .eq) = false := bf st 0
   try simp only [e0, e1, e2, e3, e4, e5] at f9
   rw [ford_self (toF_ok _ _)] at f9; cases f9
  ·
   intro vs ls H9 E9 st hE
   have f9 : (ford .f32 (some (floatOfInt .f32 ((((q + 1) + 1) + 1) + 1))) (some (floatOfInt .f32 (IntKind.wrap .i64 ((IntKind.wrap .i64 ((IntKind.wrap .i64 ((IntKind.wrap .i64 (q + 1)) + 1)) + 1)) + 1)))) == some .eq) = false := bf st 0
   try simp only [e0, e1, e2, e3, e4, e5] at f9
   rw [ford_self (toF_ok _ _)] at f9; cases f9
  ·
   intro vs ls H9 E9 st hE
   have f9 : (ford .f32 (some (floatOfInt .f32 (((((q + 1) + 1) + 1) + 1) + 1))) (some (floatOfInt .f32 (IntKind.wrap .i64 ((IntKind.wrap .i64 ((IntKind.wrap .i64 ((IntKind.wrap .i64 ((IntKind.wrap .i64 (q + 1)) + 1)) + 1)) + 1)) + 1)))) == some .eq) = false := bf st 0
   try simp only [e0, e1, e2, e3, e4, e5] at f9
   rw [ford_self (toF_ok _ _)] at f9; cases f9
  ·
   intro vs ls H9 E9 st hE
   have g9 : Grew H0 H9 := (gk st)
   have z9 : E9 0 = S := env_of st.inn hE 0 (by kernel_rfl)
   have c9 : E9 1 = .int .i64 (IntKind.wrap .i64 ((IntKind.wrap .i64 ((IntKind.wrap .i64 ((IntKind.wrap .i64 ((IntKind.wrap .i64 ((IntKind.wrap .i64 (q + 1)) + 1)) + 1)) + 1)) + 1)) + 1)) := env_of st.inn hE 1 (by kernel_rfl)
   have d9 : E9 5 = .int .i64 (IntKind.wrap .i64 ((i : Int) + 1)) := env_of st.inn hE 5 (by kernel_rfl)
   refine res_norm (by kernel_rfl) ⟨z - 1, hza, i + 1, hzb, z9, ?_, ?_, gO.trans g9⟩
   ·
    rw [c9]; simp only [e0, e1, e2, e3, e4, e5]; rw [hqn]
   ·
    rw [d9, hiw]
  ·
   intro vs ls H9 E9 st hE
   exact absurd hni (of_decide_eq_false (bfact (x := decide ((i : Int) < (n : Int))) st.inn 0 (by kernel_rfl)))
 ·
  obtain rfl : i = n := by omega
  refine run_mn (φ := φ0) (pm := pmR 0 [(.len (.nd 0 .one), .nd 2 (.int .i64))] 10) 20 (nk := [(.atom 0, .one), (.atom 1, .int .i64), (.atom 2, .int .i64)]) (fs := []) (xs := [S, .int .i64 q, .int .i64 (i : Int)]) (ws := []) (env := [(0, .nd 0 .one), (1, .nd 1 (.int .i64)), (5, .nd 2 (.int .i64))]) ?_ ?_ tb_ok ap_ok ?_
  ·
   refine midN_in ?_ .nil _ ?_ ?_ ?_
   ·
    exact (.cons rfl (slOne hS) (.cons rfl ⟨_, rfl⟩ (.cons rfl ⟨_, rfl⟩ .nil)))
   ·
    exact .nil
   ·
    exact sepOk_ro rfl
   ·
    exact (.cons (⟨_, _, dNd rfl (slOne hS), dNd rfl ⟨_, rfl⟩, hlen ▸ slLen hS⟩) .nil)
  ·
   exact (envEq c0 (dNd rfl (slOne hS)) (envEq c1 (dNd rfl ⟨_, rfl⟩) (envEq ci (dNd rfl ⟨_, rfl⟩) envNil)))
  refine all1 (by kernel_rfl) ?_
  intro vs ls H7 E7 st hE
  have b8 := eo st hE 1 (.int .i64 q)
  have g9 : Grew H0 H7 := (gk st)
  have g10 : Grew H H7 := Grew.trans gO g9
  clear st hE vs ls
  refine res_exit (id := 0) (by kernel_rfl) ?_
  refine run_mn (φ := φ0) (pm := pmR 0 [] 10) 20 (nk := [(.atom 0, .one), (.atom 1, .int .i64), (.atom 2, .int .i64)]) (fs := []) (xs := [S, .int .i64 q, .int .i64 (i : Int)]) (ws := []) (env := [(1, .nd 1 (.int .i64))]) ?_ ?_ tb_ok ap_ok ?_
  ·
   refine midN_in ?_ .nil _ ?_ ?_ ?_
   ·
    exact (.cons rfl (slOne hS) (.cons rfl ⟨_, rfl⟩ (.cons rfl ⟨_, rfl⟩ .nil)))
   ·
    exact .nil
   ·
    exact sepOk_ro rfl
   ·
    exact .nil
  ·
   exact (envEq b8 (dNd rfl ⟨_, rfl⟩) envNil)
  refine all1 (by kernel_rfl) ?_
  intro vs ls H9 E9 st hE
  exact res_ex (by kernel_rfl) (end_flat st.inn hE (.inr rfl) (a := .int .i64 q) (by kernel_rfl) (g10.trans (gk st)) rfl ⟨by rw [hq], rfl⟩)
end Go.Proofs.Ytcmoeocemmeofaa
