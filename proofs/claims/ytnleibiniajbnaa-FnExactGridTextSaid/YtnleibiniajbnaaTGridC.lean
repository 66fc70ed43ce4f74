/- Contracts: grids that are the same; copies of grids. -/
import Derived.Test.YtnleibiniajbnaaTGridB
import Derived.Test.YtnleibiniajbnaaSxD
set_option linter.unusedVariables false
set_option linter.unusedSimpArgs false
namespace Go.Proofs.Ytnleibiniajbnaa
open Go.Ab
set_option maxRecDepth 100000
set_option maxHeartbeats 1000000
attribute [local irreducible] Res
theorem w_toByteS (H : AHeap) (ms : List (List AV)) (hr : Recs KB ms) (S : AV) (hS : SlL H 1 ms S) (mxms : ms.length ≤ 1048576) : ACalls Try.prog 33 [S] H fun r H' => Grew H H' ∧ SlW H' 1 ms r ∧ FreshS H.next r := by
 refine res_start h_laws_toByteS (by simp) ?_
 refine run_mn (φ := φ0) (pm := pmR 0 [(.len (.nd 0 .one), .nd 1 (.int .i64))] 0) 20 (nk := [(.atom 0, .one), (.atom 1, .int .i64)]) (fs := []) (xs := [S, .int .i64 (ms.length : Int)]) (ws := []) (env := [(0, .nd 0 .one)]) ?_ ?_ tb_ok ap_ok ?_
 ·
  refine midN_in ?_ .nil _ ?_ ?_ ?_
  ·
   exact (.cons rfl (slOne hS) (.cons rfl ⟨_, rfl⟩ .nil))
  ·
   exact .nil
  ·
   exact sepOk_ro rfl
  ·
   exact (.cons (⟨_, _, (dNd rfl (slOne hS)), (dNd rfl ⟨_, rfl⟩), slLen hS⟩) .nil)
 ·
  exact (envEq rfl (dNd rfl (slOne hS)) envNil)
 refine all1 (by kernel_rfl) ?_
 intro vs ls H1 E1 st hE
 have b2 := eo st hE 6 (.int .i64 (ms.length : Int))
 have b3 := eo st hE 0 S
 have g4 : Grew H H1 := (gk st)
 have g5 : Grew H H1 := Grew.trans (Grew.refl _) g4
 clear st hE vs ls
 refine res_mk (d := some 7) (sz := 1) (bytes := 1) (zs := [.int .u8 0]) (x := .tmp 6) (y := .tmp 6) (by kernel_rfl) (n := ms.length) b2 b2 (by omega) (by omega) ?_
 have hlo : H.next ≤ H1.next := g5.next
 have gA : Grew H (H1.new (.row (List.replicate ms.length ([.int .u8 0] : List AV)).flatten true)) := g5.new _
 have rowA : (H1.new (.row (List.replicate ms.length ([.int .u8 0] : List AV)).flatten true)).get H1.next = some (.row (List.replicate ms.length ([.int .u8 0] : List AV)).flatten true) := by rw [AHeap.new_get, if_pos rfl]
 generalize H1.new (.row (List.replicate ms.length ([.int .u8 0] : List AV)).flatten true) = HA at gA rowA ⊢
 generalize hloe : H1.next = lo at hlo rowA ⊢
 refine run_mn (φ := φ0) (pm := pmR 0 [] 0) 20 (nk := [(.atom 0, .one), (.atom 1, .int .i64), (.atom 2, .one)]) (fs := []) (xs := [S, .int .i64 (ms.length : Int), .slice lo 0 ms.length ms.length 1]) (ws := []) (env := [(6, .nd 1 (.int .i64)), (0, .nd 0 .one), (7, .nd 2 .one)]) ?_ ?_ tb_ok ap_ok ?_
 ·
  refine midN_in ?_ .nil _ ?_ ?_ ?_
  ·
   exact (.cons rfl (slOne hS) (.cons rfl ⟨_, rfl⟩ (.cons rfl rfl .nil)))
  ·
   exact .nil
  ·
   exact sepOk_ro rfl
  ·
   exact .nil
 ·
  exact (envEq (put_ne rfl b2) (dNd rfl ⟨_, rfl⟩) (envEq (put_ne rfl b3) (dNd rfl (slOne hS)) (envEq put_same (dNd rfl rfl) envNil)))
 refine all1 (by kernel_rfl) ?_
 intro vs ls H6 E6 st hE
 have b7 := eo st hE 4 (.int .i64 0)
 have b8 := eo st hE 0 S
 have b9 := eo st hE 3 (.slice lo 0 ms.length ms.length 1)
 have g10 : Grew HA H6 := (gk st)
 have g11 : Grew H H6 := Grew.trans gA g10
 clear st hE vs ls
 refine res_loop (by kernel_rfl) (fun z E H' => ∃ i, z + i = ms.length ∧ E 0 = S ∧ E 3 = .slice lo 0 ms.length ms.length 1 ∧ E 4 = .int .i64 (i : Int) ∧ Grew H H' ∧ H'.get lo = some (.row ((ms.take i).flatten ++ (List.replicate (ms.length - i) ([.int .u8 0] : List AV)).flatten) true)) ms.length
  ⟨0, by omega, b8, b9, b7, g11, by rw [g10.at rowA]; simp⟩ ?_
 rintro z E0 H0 ⟨i, hz, c0, c3, ci, gO, row⟩
 rcases Nat.lt_or_ge i ms.length with hlt | hge
 ·
  obtain ⟨v0, hm⟩ := partsByte (hr.get hlt)
  obtain ⟨lS, cap, rest, wr, eS, gB⟩ := hS.isSl hlt
  have gS := gO.at gB
  have hza : z - 1 < z := by omega
  have hzb : z - 1 + (i + 1) = ms.length := by omega
  have hnj : (i : Int) < (ms.length : Int) := by omega
  have hiw : IntKind.i64.wrap ((i : Int) + 1) = ((i + 1 : Nat) : Int) := wrap64 (by omega)
  have hpl : (ms.take i).flatten.length = i * 1 := take_flat_len hr.len (Nat.le_of_lt hlt)
  have hsp : ms.length - i = (ms.length - (i + 1)) + 1 := by omega
  rw [hsp, List.replicate_succ, List.flatten_cons] at row
  have htk : (ms.take (i + 1)).flatten = (ms.take i).flatten ++ [.int .u8 v0] := by rw [take_flat_succ hlt, hm]
  refine run_mn (φ := φ0) (pm := pmR 1 [(.len (.nd 0 .one), .nd 3 (.int .i64)), (.ia 1 (.nd 0 .one) (.nd 2 (.int .i64)), .ptr 0 0), (.ia 1 (.nd 1 .one) (.nd 2 (.int .i64)), .nd 4 .one)] 10) 20 (nk := [(.atom 0, .one), (.atom 1, .one), (.atom 2, .int .i64), (.atom 3, .int .i64), (.atom 4, .one), (.atom 5, .int .u8)]) (fs := []) (xs := [S, .slice lo 0 ms.length ms.length 1, .int .i64 (i : Int), .int .i64 (ms.length : Int), .ptr lo (i * 1), .int .u8 v0]) (ws := [⟨lS, (i * 1), [.nd 5 (.int .u8)], false⟩]) (env := [(4, .nd 2 (.int .i64)), (0, .nd 0 .one), (3, .nd 1 .one)]) ?_ ?_ tb_ok ap_ok ?_
  ·
   refine midN_in ?_ .nil _ ?_ ?_ ?_
   ·
    exact (.cons rfl (slOne hS) (.cons rfl rfl (.cons rfl ⟨_, rfl⟩ (.cons rfl ⟨_, rfl⟩ (.cons rfl rfl (.cons rfl ⟨_, rfl⟩ .nil))))))
   ·
    exact (.cons (win_elem hr gS hlt rfl (by rw [hm]; exact (dlCons (dNd rfl ⟨_, rfl⟩) dlNil))) .nil)
   ·
    exact sepOk_ro rfl
   ·
    exact (.cons (⟨_, _, dNd rfl (slOne hS), dNd rfl ⟨_, rfl⟩, slLen hS⟩) (.cons (rule_iaS (k := i) (dNd rfl (slOne hS)) eS (dNd rfl ⟨_, rfl⟩) hlt rfl) (.cons (rule_ia' (k := i) (dNd rfl rfl) (dNd rfl ⟨_, rfl⟩) hlt (dNd rfl rfl)) .nil)))
  ·
   exact (envEq ci (dNd rfl ⟨_, rfl⟩) (envEq c0 (dNd rfl (slOne hS)) (envEq c3 (dNd rfl rfl) envNil)))
  refine all2 (by kernel_rfl) ?_ ?_
  ·
   intro vs ls H12 E12 st hE
   have f13 : (i : Int) < (ms.length : Int) := dt st 0
   have b14 := eo st hE 0 S
   have b15 := eo st hE 3 (.slice lo 0 ms.length ms.length 1)
   have b16 := eo st hE 4 (.int .i64 (i : Int))
   have b17 := eo st hE 20 (.ptr lo (i * 1))
   have b18 := eo st hE 19 (.int .u8 v0)
   have g19 : Grew H0 H12 := (gk st)
   have g20 : Grew H H12 := Grew.trans gO g19
   clear st hE vs ls
   have row2 := g19.at row
   refine res_store_in (d := none) (n := 1) (x := .tmp 20) (y := .tmp 19) (by kernel_rfl) (b := i * 1) (off := 0) (C := [.int .u8 0]) (C' := [.int .u8 v0]) (vs := [.int .u8 v0]) b17 row2 hpl (by show AV.cells (E12 19) = _; rw [b18]; rfl) rfl (by simp) rfl rfl ?_
   intro H7 row7 o7
   have gO7 : Grew H H7 := ⟨Nat.le_trans g20.next o7.next, fun l hl => (o7.get l (Nat.lt_of_lt_of_le hl g20.next) (by omega)).trans (g20.get l hl)⟩
   rw [← List.append_assoc, ← htk] at row7
   refine run_mn (φ := φ0) (pm := pmR 0 [] 10) 20 (nk := [(.atom 0, .one), (.atom 1, .one), (.atom 2, .int .i64), (.atom 3, .int .i64), (.atom 4, .one), (.atom 5, .int .u8)]) (fs := []) (xs := [S, .slice lo 0 ms.length ms.length 1, .int .i64 (i : Int), .int .i64 (ms.length : Int), .ptr lo (i * 1), .int .u8 v0]) (ws := []) (env := [(0, .nd 0 .one), (3, .nd 1 .one), (4, .nd 2 (.int .i64))]) ?_ ?_ tb_ok ap_ok ?_
   ·
    refine midN_in ?_ .nil _ ?_ ?_ ?_
    ·
     exact (.cons rfl (slOne hS) (.cons rfl rfl (.cons rfl ⟨_, rfl⟩ (.cons rfl ⟨_, rfl⟩ (.cons rfl rfl (.cons rfl ⟨_, rfl⟩ .nil))))))
    ·
     exact .nil
    ·
     exact sepOk_ro rfl
    ·
     exact .nil
   ·
    exact (envEq (put_no b14) (dNd rfl (slOne hS)) (envEq (put_no b15) (dNd rfl rfl) (envEq (put_no b16) (dNd rfl ⟨_, rfl⟩) envNil)))
   refine all1 (by kernel_rfl) ?_
   intro vs ls H9 E9 st hE
   have g9 : Grew H7 H9 := (gk st)
   have z0 : E9 0 = S := env_of st.inn hE 0 (by kernel_rfl)
   have z3 : E9 3 = .slice lo 0 ms.length ms.length 1 := env_of st.inn hE 3 (by kernel_rfl)
   have zi : E9 4 = .int .i64 (IntKind.wrap .i64 ((i : Int) + 1)) := env_of st.inn hE 4 (by kernel_rfl)
   exact res_norm (by kernel_rfl) ⟨z - 1, hza, i + 1, hzb, z0, z3, by rw [zi, hiw], gO7.trans g9, g9.at row7⟩
  ·
   intro vs ls H9 E9 st hE
   exact absurd hnj (of_decide_eq_false (bfact (x := decide ((i : Int) < (ms.length : Int))) st.inn 0 (by kernel_rfl)))
 ·
  obtain rfl : i = ms.length := by omega
  refine run_mn (φ := φ0) (pm := pmR 0 [(.len (.nd 0 .one), .nd 2 (.int .i64))] 10) 20 (nk := [(.atom 0, .one), (.atom 1, .one), (.atom 2, .int .i64)]) (fs := []) (xs := [S, .slice lo 0 ms.length ms.length 1, .int .i64 (ms.length : Int)]) (ws := []) (env := [(4, .nd 2 (.int .i64)), (0, .nd 0 .one), (3, .nd 1 .one)]) ?_ ?_ tb_ok ap_ok ?_
  ·
   refine midN_in ?_ .nil _ ?_ ?_ ?_
   ·
    exact (.cons rfl (slOne hS) (.cons rfl rfl (.cons rfl ⟨_, rfl⟩ .nil)))
   ·
    exact .nil
   ·
    exact sepOk_ro rfl
   ·
    exact (.cons (⟨_, _, dNd rfl (slOne hS), dNd rfl ⟨_, rfl⟩, slLen hS⟩) .nil)
  ·
   exact (envEq ci (dNd rfl ⟨_, rfl⟩) (envEq c0 (dNd rfl (slOne hS)) (envEq c3 (dNd rfl rfl) envNil)))
  refine all1 (by kernel_rfl) ?_
  intro vs ls H22 E22 st hE
  have b23 := eo st hE 3 (.slice lo 0 ms.length ms.length 1)
  have g24 : Grew H0 H22 := (gk st)
  have g25 : Grew H H22 := Grew.trans gO g24
  clear st hE vs ls
  have re := g24.at row
  rw [Nat.sub_self, List.take_length] at re
  refine res_exit (id := 0) (by kernel_rfl) ?_
  refine run_mn (φ := φ0) (pm := pmR 0 [] 10) 20 (nk := [(.atom 0, .one), (.atom 1, .one), (.atom 2, .int .i64)]) (fs := []) (xs := [S, .slice lo 0 ms.length ms.length 1, .int .i64 (ms.length : Int)]) (ws := []) (env := [(3, .nd 1 .one)]) ?_ ?_ tb_ok ap_ok ?_
  ·
   refine midN_in ?_ .nil _ ?_ ?_ ?_
   ·
    exact (.cons rfl (slOne hS) (.cons rfl rfl (.cons rfl ⟨_, rfl⟩ .nil)))
   ·
    exact .nil
   ·
    exact sepOk_ro rfl
   ·
    exact .nil
  ·
   exact (envEq b23 (dNd rfl rfl) envNil)
  refine all1 (by kernel_rfl) ?_
  intro vs ls H9 E9 st hE
  have g9 : Grew H22 H9 := (gk st)
  exact res_ex (by kernel_rfl) (end_same st.inn hE (.inr rfl) (a := .slice lo 0 ms.length ms.length 1) (by kernel_rfl) (Nat.le_trans g25.next g9.next) ⟨g25.trans g9, .sl (rest := []) (by simpa using g9.at re) rfl (Nat.le_refl _), .of_le hlo⟩)
theorem k_szByteS (H : AHeap) (ms : List (List AV)) (S : AV) (hS : SlL H 1 ms S) (left : Int) (h0 : -1 ≤ left) (h1 : left ≤ 4611686018427387904) (hm : ms.length ≤ 9223372036854775807) : APure Try.prog 67 [S, .int .i64 left] H (.int .i64 (if left - ms.length < 0 then -1 else left - ms.length)) := by
 refine res_start h_laws_szByteS (by simp) ?_
 refine run_mn (φ := φ0) (pm := pmR 0 [(.len (.nd 0 .one), .nd 2 (.int .i64))] 0) 20 (nk := [(.atom 0, .one), (.atom 1, .int .i64), (.atom 2, .int .i64)]) (fs := []) (xs := [S, .int .i64 left, .int .i64 (ms.length : Int)]) (ws := []) (env := [(0, .nd 0 .one), (1, .nd 1 (.int .i64))]) ?_ ?_ tb_ok ap_ok ?_
 ·
  refine midN_in ?_ .nil _ ?_ ?_ ?_
  ·
   exact (.cons rfl (slOne hS) (.cons rfl ⟨_, rfl⟩ (.cons rfl ⟨_, rfl⟩ .nil)))
  ·
   exact .nil
  ·
   exact sepOk_ro rfl
  ·
   exact (.cons (⟨_, _, (dNd rfl (slOne hS)), (dNd rfl ⟨_, rfl⟩), slLen hS⟩) .nil)
 ·
  exact (envEq rfl (dNd rfl (slOne hS)) (envEq rfl (dNd rfl ⟨_, rfl⟩) envNil))
 refine all2 (by kernel_rfl) ?_ ?_
 ·
  intro vs ls H1 E1 st hE
  have f2 : (IntKind.wrap .i64 (left - (ms.length : Int))) < 0 := dt st 0
  have hw : IntKind.i64.wrap (left - (ms.length : Int)) = left - ms.length := wrap_i64 (by omega) (by omega)
  rw [hw] at f2
  refine res_ex (by kernel_rfl) (end_flat st.inn hE (.inr rfl) (a := .int .i64 (-1)) (by kernel_rfl) (Grew.trans (Grew.refl _) (gk st)) rfl ⟨?_, rfl⟩)
  first | rw [hw] | skip
  congr 1; split <;> omega
 ·
  intro vs ls H3 E3 st hE
  have f4 : ¬ ((IntKind.wrap .i64 (left - (ms.length : Int))) < 0) := df st 0
  have hw : IntKind.i64.wrap (left - (ms.length : Int)) = left - ms.length := wrap_i64 (by omega) (by omega)
  rw [hw] at f4
  refine res_ex (by kernel_rfl) (end_flat st.inn hE (.inr rfl) (a := .int .i64 (IntKind.wrap .i64 (left - (ms.length : Int)))) (by kernel_rfl) (Grew.trans (Grew.refl _) (gk st)) rfl ⟨?_, rfl⟩)
  first | rw [hw] | skip
  congr 1; split <;> omega
theorem k_szGrid (H : AHeap) (x y : Int) (ms : List (List AV)) (S : AV) (hS : SlL H 1 ms S) (hmx : ms.length ≤ 9223372036854775807) (left : Int) (h0 : -1 ≤ left) (h1 : left ≤ 4611686018427387904) : APure Try.prog 13 [.agg [.int .i64 x, .int .i64 y, S], .int .i64 left] H (.int .i64 (if left - ms.length < 0 then -1 else left - ms.length)) := by
 refine res_start h_laws_szGrid (by simp) ?_
 obtain ⟨q1, kq1, hq1⟩ : ∃ r : Int, (∀ H9, Grew H H9 → APure Try.prog 67 [S, .int .i64 left] H9 (.int .i64 r)) ∧ ((left - ms.length < 0 ∧ r = -1) ∨ (0 ≤ left - ms.length ∧ r = left - ms.length)) := ⟨_, fun H9 hk => k_szByteS H9 ms S (hS.grew (Grew.trans (Grew.refl _) hk)) left (by omega) (by omega) hmx, by split <;> omega⟩
 refine run_mn (φ := φ0) (pm := pmR 0 [(.call 67 [.nd 0 .one, .nd 3 (.int .i64)], .nd 4 (.int .i64))] 0) 20 (nk := [(.atom 0, .one), (.atom 1, .int .i64), (.atom 2, .int .i64), (.atom 3, .int .i64), (.atom 4, .int .i64)]) (fs := []) (xs := [S, .int .i64 x, .int .i64 y, .int .i64 left, .int .i64 q1]) (ws := []) (env := [(0, .agg [.nd 1 (.int .i64), .nd 2 (.int .i64), .nd 0 .one]), (1, .nd 3 (.int .i64))]) ?_ ?_ tb_ok ap_ok ?_
 ·
  refine midN_in ?_ .nil _ ?_ ?_ ?_
  ·
   exact (.cons rfl (slOne hS) (.cons rfl ⟨_, rfl⟩ (.cons rfl ⟨_, rfl⟩ (.cons rfl ⟨_, rfl⟩ (.cons rfl ⟨_, rfl⟩ .nil)))))
  ·
   exact .nil
  ·
   exact sepOk_ro rfl
  ·
   exact (.cons (rule_call (args := [S, .int .i64 left]) (dlCons (dNd rfl (slOne hS)) (dlCons (dNd rfl ⟨_, rfl⟩) dlNil)) (dNd rfl ⟨_, rfl⟩) (fun H9 hk => kq1 H9 (hk.grew (Nat.le_refl _)))) .nil)
 ·
  exact (envEq rfl (dAgg (dlCons (dNd rfl ⟨_, rfl⟩) (dlCons (dNd rfl ⟨_, rfl⟩) (dlCons (dNd rfl (slOne hS)) dlNil)))) (envEq rfl (dNd rfl ⟨_, rfl⟩) envNil))
 refine all2 (by kernel_rfl) ?_ ?_
 ·
  intro vs ls H2 E2 st hE
  have f3 : q1 < 0 := dt st 0
  refine res_ex (by kernel_rfl) (end_flat st.inn hE (.inr rfl) (a := .int .i64 (-1)) (by kernel_rfl) (Grew.trans (Grew.refl _) (gk st)) rfl ⟨?_, rfl⟩)
  congr 1; split <;> omega
 ·
  intro vs ls H4 E4 st hE
  have f5 : ¬ (q1 < 0) := df st 0
  refine res_ex (by kernel_rfl) (end_flat st.inn hE (.inr rfl) (a := .int .i64 q1) (by kernel_rfl) (Grew.trans (Grew.refl _) (gk st)) rfl ⟨?_, rfl⟩)
  congr 1; split <;> omega
theorem k_toGrid (H : AHeap) (x y : Int) (ms : List (List AV)) (hr : Recs KB ms) (S : AV) (hS : SlL H 1 ms S) (mxms : ms.length ≤ 1048576) : ACalls Try.prog 15 [.agg [.int .i64 x, .int .i64 y, S]] H fun r H' => Grew H H' ∧ ∃ S', r = .agg [.int .i64 x, .int .i64 y, S'] ∧ SlW H' 1 ms S' ∧ FreshS H.next S' := by
 refine res_start h_laws_toGrid (by simp) ?_
 refine run_mn (φ := φ0) (pm := pmR 0 [] 0) 20 (nk := [(.atom 0, .one), (.atom 1, .int .i64), (.atom 2, .int .i64)]) (fs := []) (xs := [S, .int .i64 x, .int .i64 y]) (ws := []) (env := [(0, .agg [.nd 1 (.int .i64), .nd 2 (.int .i64), .nd 0 .one])]) ?_ ?_ tb_ok ap_ok ?_
 ·
  refine midN_in ?_ .nil _ ?_ ?_ ?_
  ·
   exact (.cons rfl (slOne hS) (.cons rfl ⟨_, rfl⟩ (.cons rfl ⟨_, rfl⟩ .nil)))
  ·
   exact .nil
  ·
   exact sepOk_ro rfl
  ·
   exact .nil
 ·
  exact (envEq rfl (dAgg (dlCons (dNd rfl ⟨_, rfl⟩) (dlCons (dNd rfl ⟨_, rfl⟩) (dlCons (dNd rfl (slOne hS)) dlNil)))) envNil)
 refine all1 (by kernel_rfl) ?_
 intro vs ls H1 E1 st hE
 obtain ⟨p2, e3, r4, n5⟩ := ptr_of st.inn hE 3 2 (by kernel_rfl) (ds := [.int .i64 x, .int .i64 y, .nilslice]) (by kernel_rfl)
 have op2 : H.next ≤ p2 := Nat.le_trans (Nat.le_refl _) (n5 (Nat.le_of_ble_eq_true rfl))
 obtain ⟨p6, e7, r8, n9⟩ := ptr_of st.inn hE 2 1 (by kernel_rfl) (ds := [.int .i64 0, .int .i64 0, .nilslice]) (by kernel_rfl)
 have op6 : H.next ≤ p6 := Nat.le_trans (Nat.le_refl _) (n9 (Nat.le_of_ble_eq_true rfl))
 have ne10 : Apart p2 p6 := ⟨ptr_ne st.inn hE 3 2 2 1 (by kernel_rfl) (by kernel_rfl) (cs := [.nd 1 (.int .i64), .nd 2 (.int .i64), .lit .nilslice]) (by kernel_rfl) (by decide) e3 e7⟩
 have b11 := eo st hE 11 S
 have g12 : Grew H H1 := (gk st)
 have g13 : Grew H H1 := Grew.trans (Grew.refl _) g12
 clear st hE vs ls
 refine res_call (d := (some 12)) (f := 33) (args := [.tmp 11]) (by kernel_rfl) (R := fun z H' => Grew H1 H' ∧ SlW H' 1 ms z ∧ FreshS H1.next z) ?_ ?_
 ·
  show ACalls _ _ [E1 11] _ _
  rw [b11]
  exact w_toByteS H1 ms hr S (hS.grew g13) mxms
 rintro S14 H15 ⟨gS14, sS14, fS14⟩
 have ne16 : ApartL (S14) p2 := fS14.apartL (H1.lt_of_get r4)
 have ne17 : ApartL (S14) p6 := fS14.apartL (H1.lt_of_get r8)
 have fr18 : FreshS H.next (S14) := fS14.mono g13.next
 have g19 : Grew H H15 := Grew.trans g13 gS14
 have r20 := gS14.at r4
 have r21 := gS14.at r8
 refine run_mn (φ := φ0) (pm := pmR 0 [] 0) 20 (nk := [(.atom 0, .one), (.atom 1, .int .i64), (.atom 2, .int .i64), (.atom 3, .one)]) (fs := []) (xs := [S, .int .i64 x, .int .i64 y, S14]) (ws := [⟨p2, 0, [.nd 1 (.int .i64), .nd 2 (.int .i64), .lit .nilslice], true⟩, ⟨p6, 0, [.lit (.int .i64 0), .lit (.int .i64 0), .lit .nilslice], true⟩]) (env := [(11, .nd 0 .one), (3, .ptr 0 0), (2, .ptr 1 0), (12, .nd 3 .one)]) ?_ ?_ tb_ok ap_ok ?_
 ·
  refine midN_in ?_ .nil _ ?_ ?_ ?_
  ·
   exact (.cons rfl (slOne hS) (.cons rfl ⟨_, rfl⟩ (.cons rfl ⟨_, rfl⟩ (.cons rfl sS14.one .nil))))
  ·
   exact (.cons (win_own r20 (dlCons (dNd rfl ⟨_, rfl⟩) (dlCons (dNd rfl ⟨_, rfl⟩) (dlCons (dLit rfl) dlNil)))) (.cons (win_own r21 (dlCons (dLit rfl) (dlCons (dLit rfl) (dlCons (dLit rfl) dlNil)))) .nil))
  ·
   exact ⟨(fun v hv h => (by simp at hv; rcases hv with rfl <;> first | (simp at h; done) | exact Apart.ne (by assumption) | exact (Apart.ne (by assumption)).symm)), ⟨(fun v hv => (by cases hv)), trivial⟩⟩
  ·
   exact .nil
 ·
  exact (envEq (put_ne rfl b11) (dNd rfl (slOne hS)) (envEq (put_ne rfl e3) (dPtr (l := p2) (o := 0) rfl) (envEq (put_ne rfl e7) (dPtr (l := p6) (o := 0) rfl) (envEq put_same (dNd rfl sS14.one) envNil))))
 refine all1 (by kernel_rfl) ?_
 intro vs ls H22 E22 st hE
 have gz : Grew H H22 := (grew_own g19 (st.inn.kept) ⟨op2, ⟨op6, trivial⟩⟩)
 exact res_ex (by kernel_rfl) (end_same st.inn hE (.inr rfl) (a := .agg [.int .i64 x, .int .i64 y, S14]) (by kernel_rfl) gz.next ⟨gz, _, rfl, (sS14.keep st.inn.kept ⟨by assumption, ⟨by assumption, trivial⟩⟩), fr18⟩)
open Classical
end Go.Proofs.Ytnleibiniajbnaa
