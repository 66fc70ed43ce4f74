/- Contracts of the law's words that write and read marks in slices of records: Pose. -/
import Derived.Test.YtcmoeocemmeofaaTToLink
import Derived.Test.YtcmoeocemmeofaaSxD
set_option linter.unusedVariables false
set_option linter.unusedSimpArgs false
namespace Go.Proofs.Ytcmoeocemmeofaa
open Go.Ab
set_option maxRecDepth 100000
set_option maxHeartbeats 1000000
attribute [local irreducible] Res
def mkPose (q : Int) : List AV := [.flt .f32 (some (floatOfInt .f32 q)), .flt .f32 (some (floatOfInt .f32 (q + 1))), .flt .f32 (some (floatOfInt .f32 ((q + 1) + 1)))]
def mksPose (q : Int) (n : Nat) : List (List AV) := (List.range n).map fun (i : Nat) => mkPose (q + 3 * (i : Int))
theorem mksPose_len (q : Int) (n : Nat) : (mksPose q n).length = n := by simp [mksPose]
theorem mksPose_recs (q : Int) (n : Nat) : Recs KP (mksPose q n) := by
 intro m hm
 simp only [mksPose, List.mem_map] at hm
 obtain ⟨i, _, rfl⟩ := hm
 exact .cons ⟨_, rfl, toF_ok _ _⟩ (.cons ⟨_, rfl, toF_ok _ _⟩ (.cons ⟨_, rfl, toF_ok _ _⟩ .nil))
theorem mksPose_flat (q : Int) (n : Nat) : (mksPose q n).flatten.length = n * 3 := by
 have := take_flat_len (mksPose_recs q n).len (i := n) (by rw [mksPose_len]; exact Nat.le_refl _)
 rwa [List.take_of_length_le (by rw [mksPose_len]; exact Nat.le_refl _)] at this
theorem mksPose_succ (q : Int) (n : Nat) : (mksPose q (n + 1)).flatten = (mksPose q n).flatten ++ mkPose (q + 3 * (n : Int)) := by
 simp [mksPose, List.range_succ]
theorem mksPose_get (q : Int) {n i : Nat} (h : i < n) : (mksPose q n).getD i [] = mkPose (q + 3 * (i : Int)) := by
 simp [mksPose, List.getD_eq_getElem?_getD, h]
theorem k_markPoseS (H : AHeap) (ms : List (List AV)) (hr : Recs KP ms) (l cap : Nat) (rest : List AV) (hg : H.get l = some (.row (ms.flatten ++ rest) true)) (k : Int) (h0 : 0 ≤ k) (h1 : k ≤ 1152921504606846976) (hmax : ms.length ≤ 1048576) : ACalls Try.prog 24 [.slice l 0 ms.length cap 3, .int .i64 k] H fun r H' => r = .int .i64 (k + 3 * (ms.length : Int)) ∧ Only l H H' ∧ H'.get l = some (.row ((mksPose k ms.length).flatten ++ rest) true) := by
 refine res_start h_laws_markPoseS (by simp) ?_
 have row0 := hg
 refine run_mn (φ := φ0) (pm := pmR 0 [] 0) 20 (nk := [(.atom 0, .one), (.atom 1, .int .i64)]) (fs := []) (xs := [.slice l 0 ms.length cap 3, .int .i64 k]) (ws := []) (env := [(0, .nd 0 .one), (1, .nd 1 (.int .i64))]) ?_ ?_ tb_ok ap_ok ?_
 ·
  refine midN_in ?_ .nil _ ?_ ?_ ?_
  ·
   exact (.cons rfl rfl (.cons rfl ⟨_, rfl⟩ .nil))
  ·
   exact .nil
  ·
   exact sepOk_ro rfl
  ·
   exact .nil
 ·
  exact (envEq rfl (dNd rfl rfl) (envEq rfl (dNd rfl ⟨_, rfl⟩) envNil))
 refine all1 (by kernel_rfl) ?_
 intro vs ls H1 E1 st hE
 have b2 := eo st hE 5 (.int .i64 0)
 have b3 := eo st hE 0 (.slice l 0 ms.length cap 3)
 have b4 := eo st hE 1 (.int .i64 k)
 have g5 : Grew H H1 := (gk st)
 have g6 : Only l H H1 := (Only.refl _ _).grew g5
 clear st hE vs ls
 have r7 := g5.at hg
 refine res_loop (by kernel_rfl) (fun z E H' => ∃ i, z + i = ms.length ∧ E 0 = .slice l 0 ms.length cap 3 ∧ E 1 = .int .i64 (k + 3 * (i : Int)) ∧ E 5 = .int .i64 (i : Int) ∧ Only l H H' ∧ H'.get l = some (.row ((mksPose k i).flatten ++ ((ms.drop i).flatten ++ rest)) true)) ms.length
  ⟨0, by omega, b3, by simpa using b4, b2, g6, by simpa [mksPose] using r7⟩ ?_
 clear b3 b4 b2 r7
 rintro z E0 H0 ⟨i, hz, c0, c1, ci, gO, row⟩
 obtain ⟨q, hq⟩ : ∃ q, q = k + 3 * (i : Int) := ⟨_, rfl⟩
 rw [← hq] at c1
 rcases Nat.lt_or_ge i ms.length with hlt | hge
 ·
  obtain ⟨v0, v1, v2, hm, o0, o1, o2⟩ := partsPose (hr.get hlt)
  have hqb : -4611686018427387904 ≤ q ∧ q + 3 ≤ 4611686018427387904 := by omega
  have e0 : IntKind.i64.wrap (q + 1) = (q + 1) := wrap_i64 (by omega) (by omega)
  have e1 : IntKind.i64.wrap ((q + 1) + 1) = ((q + 1) + 1) := wrap_i64 (by omega) (by omega)
  have e2 : IntKind.i64.wrap (((q + 1) + 1) + 1) = (((q + 1) + 1) + 1) := wrap_i64 (by omega) (by omega)
  have hP : (mksPose k i).flatten.length = i * 3 := mksPose_flat k i
  have hd : (ms.drop i).flatten = ms[i] ++ (ms.drop (i + 1)).flatten := by rw [List.drop_eq_getElem_cons hlt, List.flatten_cons]
  rw [hd, hm, List.append_assoc] at row
  obtain ⟨Q, hQ⟩ : ∃ Q, Q = (ms.drop (i + 1)).flatten ++ rest := ⟨_, rfl⟩
  obtain ⟨P, hPe⟩ : ∃ P, P = (mksPose k i).flatten := ⟨_, rfl⟩
  rw [← hQ, ← hPe] at row
  rw [← hPe] at hP
  have hn : i < ms.length := hlt
  have hza : z - 1 < z := by omega
  have hzb : z - 1 + (i + 1) = ms.length := by omega
  have hni : (i : Int) < (ms.length : Int) := by omega
  have hiw : IntKind.i64.wrap ((i : Int) + 1) = ((i + 1 : Nat) : Int) := wrap64 (by omega)
  have hqn : (((q + 1) + 1) + 1) = k + 3 * ((i + 1 : Nat) : Int) := by push_cast; omega
  refine run_mn (φ := φ0) (pm := pmR 1 [(.len (.nd 0 .one), .nd 3 (.int .i64)), (.ia 3 (.nd 0 .one) (.nd 2 (.int .i64)), .ptr 0 0)] 10) 20 (nk := [(.atom 0, .one), (.atom 1, .int .i64), (.atom 2, .int .i64), (.atom 3, .int .i64), (.atom 4, .flt .f32), (.atom 5, .flt .f32), (.atom 6, .flt .f32)]) (fs := []) (xs := [.slice l 0 ms.length cap 3, .int .i64 q, .int .i64 (i : Int), .int .i64 (ms.length : Int), .flt .f32 v0, .flt .f32 v1, .flt .f32 v2]) (ws := [⟨l, (i * 3), [.nd 4 (.flt .f32), .nd 5 (.flt .f32), .nd 6 (.flt .f32)], false⟩]) (env := [(0, .nd 0 .one), (1, .nd 1 (.int .i64)), (5, .nd 2 (.int .i64))]) ?_ ?_ tb_ok ap_ok ?_
  ·
   refine midN_in ?_ .nil _ ?_ ?_ ?_
   ·
    exact (.cons rfl rfl (.cons rfl ⟨_, rfl⟩ (.cons rfl ⟨_, rfl⟩ (.cons rfl ⟨_, rfl⟩ (.cons rfl ⟨_, rfl, o0⟩ (.cons rfl ⟨_, rfl, o1⟩ (.cons rfl ⟨_, rfl, o2⟩ .nil)))))))
   ·
    exact (.cons (win_mid row hP (dlCons (dNd rfl ⟨_, rfl, o0⟩) (dlCons (dNd rfl ⟨_, rfl, o1⟩) (dlCons (dNd rfl ⟨_, rfl, o2⟩) dlNil)))) .nil)
   ·
    exact sepOk_ro rfl
   ·
    exact (.cons (rule_len (dNd rfl rfl) (dNd rfl ⟨_, rfl⟩)) (.cons (rule_ia (k := i) (dNd rfl rfl) (dNd rfl ⟨_, rfl⟩) hn rfl) .nil))
  ·
   exact (envEq c0 (dNd rfl rfl) (envEq c1 (dNd rfl ⟨_, rfl⟩) (envEq ci (dNd rfl ⟨_, rfl⟩) envNil)))
  refine all2 (by kernel_rfl) ?_ ?_
  ·
   intro vs ls H8 E8 st hE
   have f9 : (i : Int) < (ms.length : Int) := dt st 0
   have b10 := eo st hE 23 (.ptr l ((i * 3) + 0))
   obtain ⟨w11, hw11⟩ : ∃ z, z = (some (floatOfInt .f32 q)) := ⟨_, rfl⟩
   have b12 : E8 21 = .flt .f32 w11 := by rw [hw11]; exact eo st hE 21 _
   have b13 := eo st hE 1 (.int .i64 q)
   have b14 := eo st hE 6 (.int .i64 0)
   have b15 := eo st hE 13 (.int .i64 0)
   have b16 := eo st hE 14 (.bool true)
   have b17 := eo st hE 0 (.slice l 0 ms.length cap 3)
   have b18 := eo st hE 5 (.int .i64 (i : Int))
   have b19 := eo st hE 20 (.int .i64 q)
   have b20 := eo st hE 17 (.slice l 0 ms.length cap 3)
   have b21 := eo st hE 18 (.int .i64 (i : Int))
   have b23 := eo st hE 19 (.int .i64 0)
   have g24 : Grew H0 H8 := (gk st)
   have g25 : Only l H H8 := gO.grew g24
   clear st hE vs ls
   have row27 := g24.at row
   refine res_store_in (d := none) (n := 1) (x := .tmp 23) (y := .tmp 21) (by kernel_rfl) (off := 0) (C' := [.flt .f32 w11, .flt .f32 v1, .flt .f32 v2]) (vs := [.flt .f32 w11]) b10 row27 hP (by show AV.cells (E8 21) = _; rw [b12]; rfl) rfl (by simp) rfl rfl ?_
   intro H28 row29 oH28
   have g30 := g25.trans oH28
   refine run_mn (φ := φ0) (pm := pmR 1 [(.len (.nd 0 .one), .nd 3 (.int .i64)), (.ia 3 (.nd 0 .one) (.nd 2 (.int .i64)), .ptr 0 0)] 10) 20 (nk := [(.atom 0, .one), (.atom 1, .int .i64), (.atom 2, .int .i64), (.atom 3, .int .i64), (.atom 4, .flt .f32), (.atom 5, .flt .f32), (.atom 6, .flt .f32), (.atom 7, .flt .f32)]) (fs := []) (xs := [.slice l 0 ms.length cap 3, .int .i64 q, .int .i64 (i : Int), .int .i64 (ms.length : Int), .flt .f32 v0, .flt .f32 v1, .flt .f32 v2, .flt .f32 w11]) (ws := [⟨l, (i * 3), [.nd 7 (.flt .f32), .nd 5 (.flt .f32), .nd 6 (.flt .f32)], false⟩]) (env := [(21, .nd 7 (.flt .f32)), (1, .nd 1 (.int .i64)), (6, .lit (.int .i64 0)), (13, .lit (.int .i64 0)), (14, .lit (.bool true)), (0, .nd 0 .one), (5, .nd 2 (.int .i64)), (20, .nd 1 (.int .i64)), (17, .nd 0 .one), (18, .nd 2 (.int .i64)), (19, .lit (.int .i64 0))]) ?_ ?_ tb_ok ap_ok ?_
   ·
    refine midN_in ?_ .nil _ ?_ ?_ ?_
    ·
     exact (.cons rfl rfl (.cons rfl ⟨_, rfl⟩ (.cons rfl ⟨_, rfl⟩ (.cons rfl ⟨_, rfl⟩ (.cons rfl ⟨_, rfl, o0⟩ (.cons rfl ⟨_, rfl, o1⟩ (.cons rfl ⟨_, rfl, o2⟩ (.cons rfl ⟨_, rfl, hw11 ▸ toF_ok _ _⟩ .nil))))))))
    ·
     exact (.cons (win_mid row29 hP (dlCons (dNd rfl ⟨_, rfl, hw11 ▸ toF_ok _ _⟩) (dlCons (dNd rfl ⟨_, rfl, o1⟩) (dlCons (dNd rfl ⟨_, rfl, o2⟩) dlNil)))) .nil)
    ·
     exact sepOk_ro rfl
    ·
     exact (.cons (rule_len (dNd rfl rfl) (dNd rfl ⟨_, rfl⟩)) (.cons (rule_ia (k := i) (dNd rfl rfl) (dNd rfl ⟨_, rfl⟩) hn rfl) .nil))
   ·
    exact (envEq (put_no b12) (dNd rfl ⟨_, rfl, hw11 ▸ toF_ok _ _⟩) (envEq (put_no b13) (dNd rfl ⟨_, rfl⟩) (envEq (put_no b14) (dLit rfl) (envEq (put_no b15) (dLit rfl) (envEq (put_no b16) (dLit rfl) (envEq (put_no b17) (dNd rfl rfl) (envEq (put_no b18) (dNd rfl ⟨_, rfl⟩) (envEq (put_no b19) (dNd rfl ⟨_, rfl⟩) (envEq (put_no b20) (dNd rfl rfl) (envEq (put_no b21) (dNd rfl ⟨_, rfl⟩) (envEq (put_no b23) (dLit rfl) envNil)))))))))))
   refine all1 (by kernel_rfl) ?_
   intro vs ls H31 E31 st hE
   have b32 := eo st hE 23 (.ptr l ((i * 3) + 1))
   obtain ⟨w33, hw33⟩ : ∃ z, z = (some (floatOfInt .f32 (IntKind.wrap .i64 (q + 1)))) := ⟨_, rfl⟩
   have b34 : E31 21 = .flt .f32 w33 := by rw [hw33]; exact eo st hE 21 _
   obtain ⟨w35, hw35⟩ : ∃ z, z = (IntKind.wrap .i64 (q + 1)) := ⟨_, rfl⟩
   have nw35 : w35 = (q + 1) := by rw [hw35]; exact e0
   have b36 : E31 1 = .int .i64 w35 := by rw [hw35]; exact eo st hE 1 _
   have b37 := eo st hE 24 (.int .i64 q)
   have b38 : E31 25 = .int .i64 w35 := by rw [hw35]; exact eo st hE 25 _
   have b39 := eo st hE 6 (.int .i64 1)
   have b40 := eo st hE 15 (.int .i64 0)
   have b41 := eo st hE 16 (.int .i64 1)
   have b42 := eo st hE 13 (.int .i64 1)
   have b43 := eo st hE 14 (.bool true)
   have b44 := eo st hE 0 (.slice l 0 ms.length cap 3)
   have b45 := eo st hE 5 (.int .i64 (i : Int))
   have b46 : E31 20 = .int .i64 w35 := by rw [hw35]; exact eo st hE 20 _
   have b47 := eo st hE 17 (.slice l 0 ms.length cap 3)
   have b48 := eo st hE 18 (.int .i64 (i : Int))
   have b50 := eo st hE 19 (.int .i64 1)
   have g51 : Grew H28 H31 := (gk st)
   have g52 : Only l H H31 := g30.grew g51
   clear st hE vs ls
   have row54 := g51.at row29
   refine res_store_in (d := none) (n := 1) (x := .tmp 23) (y := .tmp 21) (by kernel_rfl) (off := 1) (C' := [.flt .f32 w11, .flt .f32 w33, .flt .f32 v2]) (vs := [.flt .f32 w33]) b32 row54 hP (by show AV.cells (E31 21) = _; rw [b34]; rfl) rfl (by simp) rfl rfl ?_
   intro H55 row56 oH55
   have g57 := g52.trans oH55
   refine run_mn (φ := φ0) (pm := pmR 1 [(.len (.nd 0 .one), .nd 3 (.int .i64)), (.ia 3 (.nd 0 .one) (.nd 2 (.int .i64)), .ptr 0 0)] 10) 20 (nk := [(.atom 0, .one), (.atom 1, .int .i64), (.atom 2, .int .i64), (.atom 3, .int .i64), (.atom 4, .flt .f32), (.atom 5, .flt .f32), (.atom 6, .flt .f32), (.atom 7, .flt .f32), (.atom 8, .flt .f32), (.atom 9, .int .i64)]) (fs := []) (xs := [.slice l 0 ms.length cap 3, .int .i64 q, .int .i64 (i : Int), .int .i64 (ms.length : Int), .flt .f32 v0, .flt .f32 v1, .flt .f32 v2, .flt .f32 w11, .flt .f32 w33, .int .i64 w35]) (ws := [⟨l, (i * 3), [.nd 7 (.flt .f32), .nd 8 (.flt .f32), .nd 6 (.flt .f32)], false⟩]) (env := [(21, .nd 8 (.flt .f32)), (1, .nd 9 (.int .i64)), (24, .nd 1 (.int .i64)), (25, .nd 9 (.int .i64)), (6, .lit (.int .i64 1)), (15, .lit (.int .i64 0)), (16, .lit (.int .i64 1)), (13, .lit (.int .i64 1)), (14, .lit (.bool true)), (0, .nd 0 .one), (5, .nd 2 (.int .i64)), (20, .nd 9 (.int .i64)), (17, .nd 0 .one), (18, .nd 2 (.int .i64)), (19, .lit (.int .i64 1))]) ?_ ?_ tb_ok ap_ok ?_
   ·
    refine midN_in ?_ .nil _ ?_ ?_ ?_
    ·
     exact (.cons rfl rfl (.cons rfl ⟨_, rfl⟩ (.cons rfl ⟨_, rfl⟩ (.cons rfl ⟨_, rfl⟩ (.cons rfl ⟨_, rfl, o0⟩ (.cons rfl ⟨_, rfl, o1⟩ (.cons rfl ⟨_, rfl, o2⟩ (.cons rfl ⟨_, rfl, hw11 ▸ toF_ok _ _⟩ (.cons rfl ⟨_, rfl, hw33 ▸ toF_ok _ _⟩ (.cons rfl ⟨_, rfl⟩ .nil))))))))))
    ·
     exact (.cons (win_mid row56 hP (dlCons (dNd rfl ⟨_, rfl, hw11 ▸ toF_ok _ _⟩) (dlCons (dNd rfl ⟨_, rfl, hw33 ▸ toF_ok _ _⟩) (dlCons (dNd rfl ⟨_, rfl, o2⟩) dlNil)))) .nil)
    ·
     exact sepOk_ro rfl
    ·
     exact (.cons (rule_len (dNd rfl rfl) (dNd rfl ⟨_, rfl⟩)) (.cons (rule_ia (k := i) (dNd rfl rfl) (dNd rfl ⟨_, rfl⟩) hn rfl) .nil))
   ·
    exact (envEq (put_no b34) (dNd rfl ⟨_, rfl, hw33 ▸ toF_ok _ _⟩) (envEq (put_no b36) (dNd rfl ⟨_, rfl⟩) (envEq (put_no b37) (dNd rfl ⟨_, rfl⟩) (envEq (put_no b38) (dNd rfl ⟨_, rfl⟩) (envEq (put_no b39) (dLit rfl) (envEq (put_no b40) (dLit rfl) (envEq (put_no b41) (dLit rfl) (envEq (put_no b42) (dLit rfl) (envEq (put_no b43) (dLit rfl) (envEq (put_no b44) (dNd rfl rfl) (envEq (put_no b45) (dNd rfl ⟨_, rfl⟩) (envEq (put_no b46) (dNd rfl ⟨_, rfl⟩) (envEq (put_no b47) (dNd rfl rfl) (envEq (put_no b48) (dNd rfl ⟨_, rfl⟩) (envEq (put_no b50) (dLit rfl) envNil)))))))))))))))
   refine all1 (by kernel_rfl) ?_
   intro vs ls H58 E58 st hE
   have b59 := eo st hE 23 (.ptr l ((i * 3) + 2))
   obtain ⟨w60, hw60⟩ : ∃ z, z = (some (floatOfInt .f32 (IntKind.wrap .i64 (w35 + 1)))) := ⟨_, rfl⟩
   have b61 : E58 21 = .flt .f32 w60 := by rw [hw60]; exact eo st hE 21 _
   obtain ⟨w62, hw62⟩ : ∃ z, z = (IntKind.wrap .i64 (w35 + 1)) := ⟨_, rfl⟩
   have nw62 : w62 = ((q + 1) + 1) := by rw [hw62, nw35]; exact e1
   have b63 : E58 1 = .int .i64 w62 := by rw [hw62]; exact eo st hE 1 _
   have b64 := eo st hE 24 (.int .i64 w35)
   have b65 : E58 25 = .int .i64 w62 := by rw [hw62]; exact eo st hE 25 _
   have b66 := eo st hE 6 (.int .i64 2)
   have b67 := eo st hE 15 (.int .i64 1)
   have b68 := eo st hE 16 (.int .i64 2)
   have b69 := eo st hE 13 (.int .i64 2)
   have b70 := eo st hE 14 (.bool true)
   have b71 := eo st hE 0 (.slice l 0 ms.length cap 3)
   have b72 := eo st hE 5 (.int .i64 (i : Int))
   have b73 : E58 20 = .int .i64 w62 := by rw [hw62]; exact eo st hE 20 _
   have b74 := eo st hE 17 (.slice l 0 ms.length cap 3)
   have b75 := eo st hE 18 (.int .i64 (i : Int))
   have b77 := eo st hE 19 (.int .i64 2)
   have g78 : Grew H55 H58 := (gk st)
   have g79 : Only l H H58 := g57.grew g78
   clear st hE vs ls
   have row81 := g78.at row56
   refine res_store_in (d := none) (n := 1) (x := .tmp 23) (y := .tmp 21) (by kernel_rfl) (off := 2) (C' := [.flt .f32 w11, .flt .f32 w33, .flt .f32 w60]) (vs := [.flt .f32 w60]) b59 row81 hP (by show AV.cells (E58 21) = _; rw [b61]; rfl) rfl (by simp) rfl rfl ?_
   intro H82 row83 oH82
   have g84 := g79.trans oH82
   refine run_mn (φ := φ0) (pm := pmR 1 [(.len (.nd 0 .one), .nd 3 (.int .i64)), (.ia 3 (.nd 0 .one) (.nd 2 (.int .i64)), .ptr 0 0)] 10) 20 (nk := [(.atom 0, .one), (.atom 1, .int .i64), (.atom 2, .int .i64), (.atom 3, .int .i64), (.atom 4, .flt .f32), (.atom 5, .flt .f32), (.atom 6, .flt .f32), (.atom 7, .flt .f32), (.atom 8, .flt .f32), (.atom 9, .int .i64), (.atom 10, .flt .f32), (.atom 11, .int .i64)]) (fs := []) (xs := [.slice l 0 ms.length cap 3, .int .i64 q, .int .i64 (i : Int), .int .i64 (ms.length : Int), .flt .f32 v0, .flt .f32 v1, .flt .f32 v2, .flt .f32 w11, .flt .f32 w33, .int .i64 w35, .flt .f32 w60, .int .i64 w62]) (ws := [⟨l, (i * 3), [.nd 7 (.flt .f32), .nd 8 (.flt .f32), .nd 10 (.flt .f32)], false⟩]) (env := [(21, .nd 10 (.flt .f32)), (1, .nd 11 (.int .i64)), (24, .nd 9 (.int .i64)), (25, .nd 11 (.int .i64)), (6, .lit (.int .i64 2)), (15, .lit (.int .i64 1)), (16, .lit (.int .i64 2)), (13, .lit (.int .i64 2)), (14, .lit (.bool true)), (0, .nd 0 .one), (5, .nd 2 (.int .i64)), (20, .nd 11 (.int .i64)), (17, .nd 0 .one), (18, .nd 2 (.int .i64)), (19, .lit (.int .i64 2))]) ?_ ?_ tb_ok ap_ok ?_
   ·
    refine midN_in ?_ .nil _ ?_ ?_ ?_
    ·
     exact (.cons rfl rfl (.cons rfl ⟨_, rfl⟩ (.cons rfl ⟨_, rfl⟩ (.cons rfl ⟨_, rfl⟩ (.cons rfl ⟨_, rfl, o0⟩ (.cons rfl ⟨_, rfl, o1⟩ (.cons rfl ⟨_, rfl, o2⟩ (.cons rfl ⟨_, rfl, hw11 ▸ toF_ok _ _⟩ (.cons rfl ⟨_, rfl, hw33 ▸ toF_ok _ _⟩ (.cons rfl ⟨_, rfl⟩ (.cons rfl ⟨_, rfl, hw60 ▸ toF_ok _ _⟩ (.cons rfl ⟨_, rfl⟩ .nil))))))))))))
    ·
     exact (.cons (win_mid row83 hP (dlCons (dNd rfl ⟨_, rfl, hw11 ▸ toF_ok _ _⟩) (dlCons (dNd rfl ⟨_, rfl, hw33 ▸ toF_ok _ _⟩) (dlCons (dNd rfl ⟨_, rfl, hw60 ▸ toF_ok _ _⟩) dlNil)))) .nil)
    ·
     exact sepOk_ro rfl
    ·
     exact (.cons (rule_len (dNd rfl rfl) (dNd rfl ⟨_, rfl⟩)) (.cons (rule_ia (k := i) (dNd rfl rfl) (dNd rfl ⟨_, rfl⟩) hn rfl) .nil))
   ·
    exact (envEq (put_no b61) (dNd rfl ⟨_, rfl, hw60 ▸ toF_ok _ _⟩) (envEq (put_no b63) (dNd rfl ⟨_, rfl⟩) (envEq (put_no b64) (dNd rfl ⟨_, rfl⟩) (envEq (put_no b65) (dNd rfl ⟨_, rfl⟩) (envEq (put_no b66) (dLit rfl) (envEq (put_no b67) (dLit rfl) (envEq (put_no b68) (dLit rfl) (envEq (put_no b69) (dLit rfl) (envEq (put_no b70) (dLit rfl) (envEq (put_no b71) (dNd rfl rfl) (envEq (put_no b72) (dNd rfl ⟨_, rfl⟩) (envEq (put_no b73) (dNd rfl ⟨_, rfl⟩) (envEq (put_no b74) (dNd rfl rfl) (envEq (put_no b75) (dNd rfl ⟨_, rfl⟩) (envEq (put_no b77) (dLit rfl) envNil)))))))))))))))
   refine all1 (by kernel_rfl) ?_
   intro vs ls H9 E9 st hE
   have g9 : Grew H82 H9 := (gk st)
   have r9 := g9.at row83
   have c9 : E9 1 = .int .i64 (IntKind.wrap .i64 (w62 + 1)) := env_of st.inn hE 1 (by kernel_rfl)
   have d9 : E9 5 = .int .i64 (IntKind.wrap .i64 ((i : Int) + 1)) := env_of st.inn hE 5 (by kernel_rfl)
   have z9 : E9 0 = .slice l 0 ms.length cap 3 := env_of st.inn hE 0 (by kernel_rfl)
   refine res_norm (by kernel_rfl) ⟨z - 1, hza, i + 1, hzb, z9, ?_, ?_, g84.grew g9, ?_⟩
   ·
    rw [c9, nw62, e2, hqn]
   ·
    rw [d9, hiw]
   ·
    rw [r9, mksPose_succ, ← hPe, ← hQ, ← hq, show [.flt .f32 w11, .flt .f32 w33, .flt .f32 w60] = mkPose q from ?_, List.append_assoc]
    simp only [mkPose, nw35, nw62, hw11, hw33, hw60, e0, e1, e2]
  ·
   intro vs ls H9 E9 st hE
   exact absurd hni (of_decide_eq_false (bfact (x := decide ((i : Int) < (ms.length : Int))) st.inn 0 (by kernel_rfl)))
 ·
  obtain rfl : i = ms.length := by omega
  refine run_mn (φ := φ0) (pm := pmR 0 [(.len (.nd 0 .one), .nd 2 (.int .i64))] 10) 20 (nk := [(.atom 0, .one), (.atom 1, .int .i64), (.atom 2, .int .i64)]) (fs := []) (xs := [.slice l 0 ms.length cap 3, .int .i64 q, .int .i64 (ms.length : Int)]) (ws := []) (env := [(0, .nd 0 .one), (1, .nd 1 (.int .i64)), (5, .nd 2 (.int .i64))]) ?_ ?_ tb_ok ap_ok ?_
  ·
   refine midN_in ?_ .nil _ ?_ ?_ ?_
   ·
    exact (.cons rfl rfl (.cons rfl ⟨_, rfl⟩ (.cons rfl ⟨_, rfl⟩ .nil)))
   ·
    exact .nil
   ·
    exact sepOk_ro rfl
   ·
    exact (.cons (rule_len (dNd rfl rfl) (dNd rfl ⟨_, rfl⟩)) .nil)
  ·
   exact (envEq c0 (dNd rfl rfl) (envEq c1 (dNd rfl ⟨_, rfl⟩) (envEq ci (dNd rfl ⟨_, rfl⟩) envNil)))
  refine all1 (by kernel_rfl) ?_
  intro vs ls H85 E85 st hE
  have b86 := eo st hE 1 (.int .i64 q)
  have g87 : Grew H0 H85 := (gk st)
  have g88 : Only l H H85 := gO.grew g87
  clear st hE vs ls
  have re := g87.at row
  refine res_exit (id := 0) (by kernel_rfl) ?_
  refine run_mn (φ := φ0) (pm := pmR 0 [] 10) 20 (nk := [(.atom 0, .one), (.atom 1, .int .i64), (.atom 2, .int .i64)]) (fs := []) (xs := [.slice l 0 ms.length cap 3, .int .i64 q, .int .i64 (ms.length : Int)]) (ws := []) (env := [(1, .nd 1 (.int .i64))]) ?_ ?_ tb_ok ap_ok ?_
  ·
   refine midN_in ?_ .nil _ ?_ ?_ ?_
   ·
    exact (.cons rfl rfl (.cons rfl ⟨_, rfl⟩ (.cons rfl ⟨_, rfl⟩ .nil)))
   ·
    exact .nil
   ·
    exact sepOk_ro rfl
   ·
    exact .nil
  ·
   exact (envEq b86 (dNd rfl ⟨_, rfl⟩) envNil)
  refine all1 (by kernel_rfl) ?_
  intro vs ls H9 E9 st hE
  have g9 : Grew H85 H9 := (gk st)
  refine res_ex (by kernel_rfl) (end_same st.inn hE (.inr rfl) (a := .int .i64 q) (by kernel_rfl) (g88.grew g9).next ⟨by rw [hq], g88.grew g9, ?_⟩)
  rw [g9.at re]; simp
theorem k_heldPoseS (H : AHeap) (k : Int) (n : Nat) (S : AV) (hS : SlL H 3 (mksPose k n) S) (h0 : 0 ≤ k) (h1 : k ≤ 1152921504606846976) (hmax : n ≤ 1048576) : APure Try.prog 25 [S, .int .i64 k] H (.int .i64 (k + 3 * (n : Int))) := by
 refine res_start h_laws_heldPoseS (by simp) ?_
 refine run_mn (φ := φ0) (pm := pmR 0 [] 0) 20 (nk := [(.atom 0, .one), (.atom 1, .int .i64)]) (fs := []) (xs := [S, .int .i64 k]) (ws := []) (env := [(0, .nd 0 .one), (1, .nd 1 (.int .i64))]) ?_ ?_ tb_ok ap_ok ?_
 ·
  refine midN_in ?_ .nil _ ?_ ?_ ?_
  ·
   exact (.cons rfl (slOne hS) (.cons rfl ⟨_, rfl⟩ .nil))
  ·
   exact .nil
  ·
   exact sepOk_ro rfl
  ·
   exact .nil
 ·
  exact (envEq rfl (dNd rfl (slOne hS)) (envEq rfl (dNd rfl ⟨_, rfl⟩) envNil))
 refine all1 (by kernel_rfl) ?_
 intro vs ls H1 E1 st hE
 have b2 := eo st hE 5 (.int .i64 0)
 have b3 := eo st hE 0 S
 have b4 := eo st hE 1 (.int .i64 k)
 have g5 : Grew H H1 := (gk st)
 have g6 : Grew H H1 := Grew.trans (Grew.refl _) g5
 clear st hE vs ls
 refine res_loop (by kernel_rfl) (fun z E H' => ∃ i, z + i = n ∧ E 0 = S ∧ E 1 = .int .i64 (k + 3 * (i : Int)) ∧ E 5 = .int .i64 (i : Int) ∧ Grew H H') n
  ⟨0, by omega, b3, by simpa using b4, b2, g6⟩ ?_
 clear b3 b4 b2
 rintro z E0 H0 ⟨i, hz, c0, c1, ci, gO⟩
 obtain ⟨q, hq⟩ : ∃ q, q = k + 3 * (i : Int) := ⟨_, rfl⟩
 rw [← hq] at c1
 have hlen := mksPose_len k n
 rcases Nat.lt_or_ge i n with hlt | hge
 ·
  have hqb : -4611686018427387904 ≤ q ∧ q + 3 ≤ 4611686018427387904 := by omega
  have e0 : IntKind.i64.wrap (q + 1) = (q + 1) := wrap_i64 (by omega) (by omega)
  have e1 : IntKind.i64.wrap ((q + 1) + 1) = ((q + 1) + 1) := wrap_i64 (by omega) (by omega)
  have e2 : IntKind.i64.wrap (((q + 1) + 1) + 1) = (((q + 1) + 1) + 1) := wrap_i64 (by omega) (by omega)
  have hza : z - 1 < z := by omega
  have hzb : z - 1 + (i + 1) = n := by omega
  have hni : (i : Int) < (n : Int) := by omega
  have hiw : IntKind.i64.wrap ((i : Int) + 1) = ((i + 1 : Nat) : Int) := wrap64 (by omega)
  have hqn : (((q + 1) + 1) + 1) = k + 3 * ((i + 1 : Nat) : Int) := by push_cast; omega
  have hlm : i < (mksPose k n).length := by rw [hlen]; exact hlt
  obtain ⟨lS, cap, rest, wr, eS, gS0⟩ := hS.isSl hlm
  have gS := gO.at gS0
  have hm : (mksPose k n)[i] = mkPose q := by rw [hq, ← mksPose_get k hlt]; simp [List.getD_eq_getElem?_getD, hlm]
  refine run_mn (φ := φ0) (pm := pmR 1 [(.len (.nd 0 .one), .nd 3 (.int .i64)), (.ia 3 (.nd 0 .one) (.nd 2 (.int .i64)), .ptr 0 0)] 10) 20 (nk := [(.atom 0, .one), (.atom 1, .int .i64), (.atom 2, .int .i64), (.atom 3, .int .i64), (.atom 4, .flt .f32), (.atom 5, .flt .f32), (.atom 6, .flt .f32)]) (fs := []) (xs := [S, .int .i64 q, .int .i64 (i : Int), .int .i64 (n : Int), .flt .f32 (some (floatOfInt .f32 q)), .flt .f32 (some (floatOfInt .f32 (q + 1))), .flt .f32 (some (floatOfInt .f32 ((q + 1) + 1)))]) (ws := [⟨lS, (i * 3), [.nd 4 (.flt .f32), .nd 5 (.flt .f32), .nd 6 (.flt .f32)], false⟩]) (env := [(0, .nd 0 .one), (1, .nd 1 (.int .i64)), (5, .nd 2 (.int .i64))]) ?_ ?_ tb_ok ap_ok ?_
  ·
   refine midN_in ?_ .nil _ ?_ ?_ ?_
   ·
    exact (.cons rfl (slOne hS) (.cons rfl ⟨_, rfl⟩ (.cons rfl ⟨_, rfl⟩ (.cons rfl ⟨_, rfl⟩ (.cons rfl ⟨_, rfl, toF_ok _ _⟩ (.cons rfl ⟨_, rfl, toF_ok _ _⟩ (.cons rfl ⟨_, rfl, toF_ok _ _⟩ .nil)))))))
   ·
    exact (.cons (win_elem (mksPose_recs k n) gS hlm rfl (by rw [hm]; exact (dlCons (dNd rfl ⟨_, rfl, toF_ok _ _⟩) (dlCons (dNd rfl ⟨_, rfl, toF_ok _ _⟩) (dlCons (dNd rfl ⟨_, rfl, toF_ok _ _⟩) dlNil))))) .nil)
   ·
    exact sepOk_ro rfl
   ·
    exact (.cons (⟨_, _, dNd rfl (slOne hS), dNd rfl ⟨_, rfl⟩, hlen ▸ slLen hS⟩) (.cons (rule_iaS (k := i) (dNd rfl (slOne hS)) eS (dNd rfl ⟨_, rfl⟩) hlm rfl) .nil))
  ·
   exact (envEq c0 (dNd rfl (slOne hS)) (envEq c1 (dNd rfl ⟨_, rfl⟩) (envEq ci (dNd rfl ⟨_, rfl⟩) envNil)))
  refine all5 (by kernel_rfl) ?_ ?_ ?_ ?_ ?_
  ·
   intro vs ls H9 E9 st hE
   have f9 : (ford .f32 (some (floatOfInt .f32 q)) (some (floatOfInt .f32 q)) == some .eq) = false := bf st 0
   try simp only [e0, e1, e2] at f9
   rw [ford_self (toF_ok _ _)] at f9; cases f9
  ·
   intro vs ls H9 E9 st hE
   have f9 : (ford .f32 (some (floatOfInt .f32 (q + 1))) (some (floatOfInt .f32 (IntKind.wrap .i64 (q + 1)))) == some .eq) = false := bf st 0
   try simp only [e0, e1, e2] at f9
   rw [ford_self (toF_ok _ _)] at f9; cases f9
  ·
   intro vs ls H9 E9 st hE
   have f9 : (ford .f32 (some (floatOfInt .f32 ((q + 1) + 1))) (some (floatOfInt .f32 (IntKind.wrap .i64 ((IntKind.wrap .i64 (q + 1)) + 1)))) == some .eq) = false := bf st 0
   try simp only [e0, e1, e2] at f9
   rw [ford_self (toF_ok _ _)] at f9; cases f9
  ·
   intro vs ls H9 E9 st hE
   have g9 : Grew H0 H9 := (gk st)
   have z9 : E9 0 = S := env_of st.inn hE 0 (by kernel_rfl)
   have c9 : E9 1 = .int .i64 (IntKind.wrap .i64 ((IntKind.wrap .i64 ((IntKind.wrap .i64 (q + 1)) + 1)) + 1)) := env_of st.inn hE 1 (by kernel_rfl)
   have d9 : E9 5 = .int .i64 (IntKind.wrap .i64 ((i : Int) + 1)) := env_of st.inn hE 5 (by kernel_rfl)
   refine res_norm (by kernel_rfl) ⟨z - 1, hza, i + 1, hzb, z9, ?_, ?_, gO.trans g9⟩
   ·
    rw [c9]; simp only [e0, e1, e2]; rw [hqn]
   ·
    rw [d9, hiw]
  ·
   intro vs ls H9 E9 st hE
   exact absurd hni (of_decide_eq_false (bfact (x := decide ((i : Int) < (n : Int))) st.inn 0 (by kernel_rfl)))
 ·
  obtain rfl : i = n := by omega
  refine run_mn (φ := φ0) (pm := pmR 0 [(.len (.nd 0 .one), .nd 2 (.int .i64))] 10) 20 (nk := [(.atom 0, .one), (.atom 1, .int .i64), (.atom 2, .int .i64)]) (fs := []) (xs := [S, .int .i64 q, .int .i64 (i : Int)]) (ws := []) (env := [(0, .nd 0 .one), (1, .nd 1 (.int .i64)), (5, .nd 2 (.int .i64))]) ?_ ?_ tb_ok ap_ok ?_
  ·
   refine midN_in ?_ .nil _ ?_ ?_ ?_
   ·
    exact (.cons rfl (slOne hS) (.cons rfl ⟨_, rfl⟩ (.cons rfl ⟨_, rfl⟩ .nil)))
   ·
    exact .nil
   ·
    exact sepOk_ro rfl
   ·
    exact (.cons (⟨_, _, dNd rfl (slOne hS), dNd rfl ⟨_, rfl⟩, hlen ▸ slLen hS⟩) .nil)
  ·
   exact (envEq c0 (dNd rfl (slOne hS)) (envEq c1 (dNd rfl ⟨_, rfl⟩) (envEq ci (dNd rfl ⟨_, rfl⟩) envNil)))
  refine all1 (by kernel_rfl) ?_
  intro vs ls H7 E7 st hE
  have b8 := eo st hE 1 (.int .i64 q)
  have g9 : Grew H0 H7 := (gk st)
  have g10 : Grew H H7 := Grew.trans gO g9
  clear st hE vs ls
  refine res_exit (id := 0) (by kernel_rfl) ?_
  refine run_mn (φ := φ0) (pm := pmR 0 [] 10) 20 (nk := [(.atom 0, .one), (.atom 1, .int .i64), (.atom 2, .int .i64)]) (fs := []) (xs := [S, .int .i64 q, .int .i64 (i : Int)]) (ws := []) (env := [(1, .nd 1 (.int .i64))]) ?_ ?_ tb_ok ap_ok ?_
  ·
   refine midN_in ?_ .nil _ ?_ ?_ ?_
   ·
    exact (.cons rfl (slOne hS) (.cons rfl ⟨_, rfl⟩ (.cons rfl ⟨_, rfl⟩ .nil)))
   ·
    exact .nil
   ·
    exact sepOk_ro rfl
   ·
    exact .nil
  ·
   exact (envEq b8 (dNd rfl ⟨_, rfl⟩) envNil)
  refine all1 (by kernel_rfl) ?_
  intro vs ls H9 E9 st hE
  exact res_ex (by kernel_rfl) (end_flat st.inn hE (.inr rfl) (a := .int .i64 q) (by kernel_rfl) (g10.trans (gk st)) rfl ⟨by rw [hq], rfl⟩)
end Go.Proofs.Ytcmoeocemmeofaa
