/- Contracts: marks that are left out: by their time, by their weight. -/
import Derived.Test.YtgjhjemmddojfaaMapW
import Derived.Test.YtgjhjemmddojfaaSxD
set_option linter.unusedVariables false
set_option linter.unusedSimpArgs false
namespace Go.Proofs.Ytgjhjemmddojfaa
open Go.Ab
set_option maxRecDepth 100000
set_option maxHeartbeats 1000000
attribute [local irreducible] Res
def lastLt (t : Int) : List AV → Bool
  | [_, _, _, _, _, _, _, _, .int _ la] => decide (la < t)
  | _ => false
def lightB (w : Option Nat) : List AV → Bool
  | [_, _, _, _, _, _, .flt _ x, _, _] => ford .f32 x w == some .lt
  | _ => false
theorem k_lastFn (v0 : Int) (v1 : Int) (v2 : Int) (v3 : Option Nat) (v4 : Option Nat) (v5 : Option Nat) (v6 : Option Nat) (v7 : Int) (v8 : Int) (o3 : fOk .f32 v3) (o4 : fOk .f32 v4) (o5 : fOk .f32 v5) (o6 : fOk .f32 v6) (t : Int) (H : AHeap) (c : Nat) (hg : H.get c = some (.row [.int .i64 t] true)) : APure Try.prog 80 [.agg [.int .i32 v0, .int .i32 v1, .int .i32 v2, .flt .f32 v3, .flt .f32 v4, .flt .f32 v5, .flt .f32 v6, .int .i64 v7, .int .i64 v8], .ptr c 0] H (.bool (lastLt t [.int .i32 v0, .int .i32 v1, .int .i32 v2, .flt .f32 v3, .flt .f32 v4, .flt .f32 v5, .flt .f32 v6, .int .i64 v7, .int .i64 v8])) := by
  refine res_start h_impl_ForgetBefore_1 (by simp) ?_
  refine run_mn (φ := φ0) (pm := pmR 1 [] 0) 20 (nk := [(.atom 0, .int .i32), (.atom 1, .int .i32), (.atom 2, .int .i32), (.atom 3, .flt .f32), (.atom 4, .flt .f32), (.atom 5, .flt .f32), (.atom 6, .flt .f32), (.atom 7, .int .i64), (.atom 8, .int .i64), (.atom 9, .int .i64)]) (fs := []) (xs := [.int .i32 v0, .int .i32 v1, .int .i32 v2, .flt .f32 v3, .flt .f32 v4, .flt .f32 v5, .flt .f32 v6, .int .i64 v7, .int .i64 v8, .int .i64 t]) (ws := [⟨c, 0, [.nd 9 (.int .i64)], false⟩]) (env := [(0, .agg [.nd 0 (.int .i32), .nd 1 (.int .i32), .nd 2 (.int .i32), .nd 3 (.flt .f32), .nd 4 (.flt .f32), .nd 5 (.flt .f32), .nd 6 (.flt .f32), .nd 7 (.int .i64), .nd 8 (.int .i64)]), (1, .ptr 0 0)]) ?_ ?_ tb_ok ap_ok ?_
  · refine midN_in ?_ .nil _ ?_ ?_ ?_
    · exact (.cons rfl ⟨_, rfl⟩ (.cons rfl ⟨_, rfl⟩ (.cons rfl ⟨_, rfl⟩ (.cons rfl ⟨_, rfl, o3⟩ (.cons rfl ⟨_, rfl, o4⟩ (.cons rfl ⟨_, rfl, o5⟩ (.cons rfl ⟨_, rfl, o6⟩ (.cons rfl ⟨_, rfl⟩ (.cons rfl ⟨_, rfl⟩ (.cons rfl ⟨_, rfl⟩ .nil))))))))))
    · exact (.cons (win_row hg (dlCons (dNd rfl ⟨_, rfl⟩) dlNil)) .nil)
    · exact sepOk_ro rfl
    · exact .nil
  · exact (envEq rfl (dAgg (dlCons (dNd rfl ⟨_, rfl⟩) (dlCons (dNd rfl ⟨_, rfl⟩) (dlCons (dNd rfl ⟨_, rfl⟩) (dlCons (dNd rfl ⟨_, rfl, o3⟩) (dlCons (dNd rfl ⟨_, rfl, o4⟩) (dlCons (dNd rfl ⟨_, rfl, o5⟩) (dlCons (dNd rfl ⟨_, rfl, o6⟩) (dlCons (dNd rfl ⟨_, rfl⟩) (dlCons (dNd rfl ⟨_, rfl⟩) dlNil)))))))))) (envEq rfl (dPtr (l := c) (o := 0) rfl) envNil))
  refine all1 (by kernel_rfl) ?_
  intro vs ls H1 E1 st hE
  refine res_ex (by kernel_rfl) (end_flat st.inn hE (.inr rfl) (a := .bool (decide (v8 < t))) (by kernel_rfl) (Grew.trans (Grew.refl _) (st.kept.grew (Nat.le_of_ble_eq_true (by kernel_rfl)))) rfl ⟨?_, rfl⟩)
  rfl
theorem k_lightFn (v0 : Int) (v1 : Int) (v2 : Int) (v3 : Option Nat) (v4 : Option Nat) (v5 : Option Nat) (v6 : Option Nat) (v7 : Int) (v8 : Int) (o3 : fOk .f32 v3) (o4 : fOk .f32 v4) (o5 : fOk .f32 v5) (o6 : fOk .f32 v6) (wt : Option Nat) (hw : fOk .f32 wt) (H : AHeap) (c : Nat) (hg : H.get c = some (.row [.flt .f32 wt] true)) : APure Try.prog 82 [.agg [.int .i32 v0, .int .i32 v1, .int .i32 v2, .flt .f32 v3, .flt .f32 v4, .flt .f32 v5, .flt .f32 v6, .int .i64 v7, .int .i64 v8], .ptr c 0] H (.bool (lightB wt [.int .i32 v0, .int .i32 v1, .int .i32 v2, .flt .f32 v3, .flt .f32 v4, .flt .f32 v5, .flt .f32 v6, .int .i64 v7, .int .i64 v8])) := by
  refine res_start h_impl_LeaveLighter_1 (by simp) ?_
  refine run_mn (φ := φ0) (pm := pmR 1 [] 0) 20 (nk := [(.atom 0, .int .i32), (.atom 1, .int .i32), (.atom 2, .int .i32), (.atom 3, .flt .f32), (.atom 4, .flt .f32), (.atom 5, .flt .f32), (.atom 6, .flt .f32), (.atom 7, .int .i64), (.atom 8, .int .i64), (.atom 9, .flt .f32)]) (fs := []) (xs := [.int .i32 v0, .int .i32 v1, .int .i32 v2, .flt .f32 v3, .flt .f32 v4, .flt .f32 v5, .flt .f32 v6, .int .i64 v7, .int .i64 v8, .flt .f32 wt]) (ws := [⟨c, 0, [.nd 9 (.flt .f32)], false⟩]) (env := [(0, .agg [.nd 0 (.int .i32), .nd 1 (.int .i32), .nd 2 (.int .i32), .nd 3 (.flt .f32), .nd 4 (.flt .f32), .nd 5 (.flt .f32), .nd 6 (.flt .f32), .nd 7 (.int .i64), .nd 8 (.int .i64)]), (1, .ptr 0 0)]) ?_ ?_ tb_ok ap_ok ?_
  · refine midN_in ?_ .nil _ ?_ ?_ ?_
    · exact (.cons rfl ⟨_, rfl⟩ (.cons rfl ⟨_, rfl⟩ (.cons rfl ⟨_, rfl⟩ (.cons rfl ⟨_, rfl, o3⟩ (.cons rfl ⟨_, rfl, o4⟩ (.cons rfl ⟨_, rfl, o5⟩ (.cons rfl ⟨_, rfl, o6⟩ (.cons rfl ⟨_, rfl⟩ (.cons rfl ⟨_, rfl⟩ (.cons rfl ⟨_, rfl, hw⟩ .nil))))))))))
    · exact (.cons (win_row hg (dlCons (dNd rfl ⟨_, rfl, hw⟩) dlNil)) .nil)
    · exact sepOk_ro rfl
    · exact .nil
  · exact (envEq rfl (dAgg (dlCons (dNd rfl ⟨_, rfl⟩) (dlCons (dNd rfl ⟨_, rfl⟩) (dlCons (dNd rfl ⟨_, rfl⟩) (dlCons (dNd rfl ⟨_, rfl, o3⟩) (dlCons (dNd rfl ⟨_, rfl, o4⟩) (dlCons (dNd rfl ⟨_, rfl, o5⟩) (dlCons (dNd rfl ⟨_, rfl, o6⟩) (dlCons (dNd rfl ⟨_, rfl⟩) (dlCons (dNd rfl ⟨_, rfl⟩) dlNil)))))))))) (envEq rfl (dPtr (l := c) (o := 0) rfl) envNil))
  refine all1 (by kernel_rfl) ?_
  intro vs ls H1 E1 st hE
  refine res_ex (by kernel_rfl) (end_flat st.inn hE (.inr rfl) (a := .bool (ford .f32 v6 wt == some .lt)) (by kernel_rfl) (Grew.trans (Grew.refl _) (st.kept.grew (Nat.le_of_ble_eq_true (by kernel_rfl)))) rfl ⟨?_, rfl⟩)
  rfl
theorem k_DeleteLast_index (H : AHeap) (ms : List (List AV)) (hr : Recs KM ms) (S : AV) (hS : SlL H 9 ms S) (mxms : ms.length ≤ 1048576) (t : Int) (c : Nat) (hg : H.get c = some (.row [.int .i64 t] true)) : APure Try.prog 108 [S, .func 80 [] [.ptr c 0]] H (.int .i64 (idxF (fun i => lastLt t (ms.getD i [])) ms.length)) := by
  refine res_start h_slices_IndexFunc_impl_Mark_impl_Mark (by simp) ?_
  refine run_mn (φ := φ0) (pm := pmR 1 [(.len (.nd 0 .one), .nd 2 (.int .i64))] 0) 20 (nk := [(.atom 0, .one), (.atom 1, .int .i64), (.atom 2, .int .i64)]) (fs := []) (xs := [S, .int .i64 t, .int .i64 (ms.length : Int)]) (ws := [⟨c, 0, [.nd 1 (.int .i64)], false⟩]) (env := [(0, .nd 0 .one), (1, .fn 80 [] [.ptr 0 0])]) ?_ ?_ tb_ok ap_ok ?_
  · refine midN_in ?_ .nil _ ?_ ?_ ?_
    · exact (.cons rfl (slOne hS) (.cons rfl ⟨_, rfl⟩ (.cons rfl ⟨_, rfl⟩ .nil)))
    · exact (.cons (win_row hg (dlCons (dNd rfl ⟨_, rfl⟩) dlNil)) .nil)
    · exact sepOk_ro rfl
    · exact (.cons (⟨_, _, (dNd rfl (slOne hS)), (dNd rfl ⟨_, rfl⟩), slLen hS⟩) .nil)
  · exact (envEq rfl (dNd rfl (slOne hS)) (envEq rfl (dFn' dlNil (dlCons (dPtr (l := c) (o := 0) rfl) dlNil)) envNil))
  refine all1 (by kernel_rfl) ?_
  intro vs ls H1 E1 st hE
  have b2 : E1 8 = .int .i64 0 := env_of st.inn hE 8 (by kernel_rfl)
  have b3 : E1 7 = .int .i64 (ms.length : Int) := env_of st.inn hE 7 (by kernel_rfl)
  have b4 : E1 1 = .func 80 [] [.ptr c 0] := env_of st.inn hE 1 (by kernel_rfl)
  have b5 : E1 0 = S := env_of st.inn hE 0 (by kernel_rfl)
  have g6 : Grew H H1 := (st.kept.grew (Nat.le_of_ble_eq_true (by kernel_rfl)))
  have g7 : Grew H H1 := Grew.trans (Grew.refl _) g6
  have r8 := g6.at hg
  clear st hE vs ls
  refine res_scan (by kernel_rfl) [(7, .int .i64 (ms.length : Int)), (1, .func 80 [] [.ptr c 0]), (0, S)] 8 ms.length (fun i => ∀ j, j < i → lastLt t (ms.getD j []) = false) (.cons b3 (.cons b4 (.cons b5 .nil))) b2 (Grew.refl _) upTo0 ?_
  intro i9 hli9 hIi9 Ei9 Hi9 hsi9 hci9 hgi9
  have g10 : Grew H Hi9 := Grew.trans g7 hgi9
  have r11 := hgi9.at r8
  refine run_mn (φ := φ0) (pm := pmR 1 [] 0) 20 (nk := [(.atom 0, .one), (.atom 1, .int .i64), (.atom 2, .int .i64), (.atom 3, .int .i64)]) (fs := []) (xs := [S, .int .i64 t, .int .i64 (ms.length : Int), .int .i64 (i9 : Int)]) (ws := [⟨c, 0, [.nd 1 (.int .i64)], false⟩]) (env := [(7, .nd 2 (.int .i64)), (1, .fn 80 [] [.ptr 0 0]), (0, .nd 0 .one), (8, .nd 3 (.int .i64))]) ?_ ?_ tb_ok ap_ok ?_
  · refine midN_in ?_ .nil _ ?_ ?_ ?_
    · exact (.cons rfl (slOne hS) (.cons rfl ⟨_, rfl⟩ (.cons rfl ⟨_, rfl⟩ (.cons rfl ⟨_, rfl⟩ .nil))))
    · exact (.cons (win_row r11 (dlCons (dNd rfl ⟨_, rfl⟩) dlNil)) .nil)
    · exact sepOk_ro rfl
    · exact .nil
  · exact (envEq (hsi9.at 0 rfl) (dNd rfl ⟨_, rfl⟩) (envEq (hsi9.at 1 rfl) (dFn' dlNil (dlCons (dPtr (l := c) (o := 0) rfl) dlNil)) (envEq (hsi9.at 2 rfl) (dNd rfl (slOne hS)) (envEq hci9 (dNd rfl ⟨_, rfl⟩) envNil))))
  refine all2 (by kernel_rfl) ?_ ?_
  ·
    intro vs ls H12 E12 st hE
    have f13 : (i9 : Int) < (ms.length : Int) := of_decide_eq_true (bfact (x := decide ((i9 : Int) < (ms.length : Int))) st.inn 0 (by kernel_rfl))
    have b14 : E12 12 = S := env_of st.inn hE 12 (by kernel_rfl)
    have b15 : E12 13 = .int .i64 (i9 : Int) := env_of st.inn hE 13 (by kernel_rfl)
    have b16 : E12 11 = .func 80 [] [.ptr c 0] := env_of st.inn hE 11 (by kernel_rfl)
    have b17 : E12 5 = .int .i64 (i9 : Int) := env_of st.inn hE 5 (by kernel_rfl)
    have b18 : E12 8 = .int .i64 (i9 : Int) := env_of st.inn hE 8 (by kernel_rfl)
    have b19 : E12 7 = .int .i64 (ms.length : Int) := env_of st.inn hE 7 (by kernel_rfl)
    have b20 : E12 1 = .func 80 [] [.ptr c 0] := env_of st.inn hE 1 (by kernel_rfl)
    have b21 : E12 0 = S := env_of st.inn hE 0 (by kernel_rfl)
    have g22 : Grew Hi9 H12 := (st.kept.grew (Nat.le_of_ble_eq_true (by kernel_rfl)))
    have g23 : Grew H H12 := Grew.trans g10 g22
    have g24 : Grew H1 H12 := Grew.trans hgi9 g22
    have r25 := g22.at r11
    clear st hE vs ls
    have hlt26 : i9 < ms.length := by omega
    obtain ⟨lS26, cap26, rest26, wr26, eS26, gB26⟩ := hS.isSl hlt26
    have gS26 := g23.at gB26
    obtain ⟨v26_0, v26_1, v26_2, v26_3, v26_4, v26_5, v26_6, v26_7, v26_8, hm26, ho26_3, ho26_4, ho26_5, ho26_6⟩ := partsMark (hr.get hlt26)
    have he26 : ms.getD i9 [] = [.int .i32 v26_0, .int .i32 v26_1, .int .i32 v26_2, .flt .f32 v26_3, .flt .f32 v26_4, .flt .f32 v26_5, .flt .f32 v26_6, .int .i64 v26_7, .int .i64 v26_8] := by rw [← hm26]; simp [List.getD_eq_getElem?_getD, hlt26]
    refine run_mn (φ := φ0) (pm := pmR 2 [(.ia 9 (.nd 0 .one) (.nd 3 (.int .i64)), .ptr 1 0), (.call 80 [.agg [.nd 4 (.int .i32), .nd 5 (.int .i32), .nd 6 (.int .i32), .nd 7 (.flt .f32), .nd 8 (.flt .f32), .nd 9 (.flt .f32), .nd 10 (.flt .f32), .nd 11 (.int .i64), .nd 12 (.int .i64)], .ptr 0 0], .nd 13 .bool)] 0) 20 (nk := [(.atom 0, .one), (.atom 1, .int .i64), (.atom 2, .int .i64), (.atom 3, .int .i64), (.atom 4, .int .i32), (.atom 5, .int .i32), (.atom 6, .int .i32), (.atom 7, .flt .f32), (.atom 8, .flt .f32), (.atom 9, .flt .f32), (.atom 10, .flt .f32), (.atom 11, .int .i64), (.atom 12, .int .i64), (.atom 13, .bool)]) (fs := []) (xs := [S, .int .i64 t, .int .i64 (ms.length : Int), .int .i64 (i9 : Int), .int .i32 v26_0, .int .i32 v26_1, .int .i32 v26_2, .flt .f32 v26_3, .flt .f32 v26_4, .flt .f32 v26_5, .flt .f32 v26_6, .int .i64 v26_7, .int .i64 v26_8, .bool (lastLt t [.int .i32 v26_0, .int .i32 v26_1, .int .i32 v26_2, .flt .f32 v26_3, .flt .f32 v26_4, .flt .f32 v26_5, .flt .f32 v26_6, .int .i64 v26_7, .int .i64 v26_8])]) (ws := [⟨c, 0, [.nd 1 (.int .i64)], false⟩, ⟨lS26, (i9 * 9), [.nd 4 (.int .i32), .nd 5 (.int .i32), .nd 6 (.int .i32), .nd 7 (.flt .f32), .nd 8 (.flt .f32), .nd 9 (.flt .f32), .nd 10 (.flt .f32), .nd 11 (.int .i64), .nd 12 (.int .i64)], false⟩]) (env := [(12, .nd 0 .one), (13, .nd 3 (.int .i64)), (11, .fn 80 [] [.ptr 0 0]), (5, .nd 3 (.int .i64)), (8, .nd 3 (.int .i64)), (7, .nd 2 (.int .i64)), (1, .fn 80 [] [.ptr 0 0]), (0, .nd 0 .one)]) ?_ ?_ tb_ok ap_ok ?_
    · refine midN_in ?_ .nil _ ?_ ?_ ?_
      · exact (.cons rfl (slOne hS) (.cons rfl ⟨_, rfl⟩ (.cons rfl ⟨_, rfl⟩ (.cons rfl ⟨_, rfl⟩ (.cons rfl ⟨_, rfl⟩ (.cons rfl ⟨_, rfl⟩ (.cons rfl ⟨_, rfl⟩ (.cons rfl ⟨_, rfl, ho26_3⟩ (.cons rfl ⟨_, rfl, ho26_4⟩ (.cons rfl ⟨_, rfl, ho26_5⟩ (.cons rfl ⟨_, rfl, ho26_6⟩ (.cons rfl ⟨_, rfl⟩ (.cons rfl ⟨_, rfl⟩ (.cons rfl ⟨_, rfl⟩ .nil))))))))))))))
      · exact (.cons (win_row r25 (dlCons (dNd rfl ⟨_, rfl⟩) dlNil)) (.cons (win_elem hr gS26 hlt26 rfl (by rw [hm26]; exact (dlCons (dNd rfl ⟨_, rfl⟩) (dlCons (dNd rfl ⟨_, rfl⟩) (dlCons (dNd rfl ⟨_, rfl⟩) (dlCons (dNd rfl ⟨_, rfl, ho26_3⟩) (dlCons (dNd rfl ⟨_, rfl, ho26_4⟩) (dlCons (dNd rfl ⟨_, rfl, ho26_5⟩) (dlCons (dNd rfl ⟨_, rfl, ho26_6⟩) (dlCons (dNd rfl ⟨_, rfl⟩) (dlCons (dNd rfl ⟨_, rfl⟩) dlNil))))))))))) .nil))
      · exact sepOk_ro rfl
      · exact (.cons (rule_iaS (k := i9) (dNd rfl (slOne hS)) eS26 (dNd rfl ⟨_, rfl⟩) hlt26 rfl) (.cons (rule_call (args := [.agg [.int .i32 v26_0, .int .i32 v26_1, .int .i32 v26_2, .flt .f32 v26_3, .flt .f32 v26_4, .flt .f32 v26_5, .flt .f32 v26_6, .int .i64 v26_7, .int .i64 v26_8], .ptr c 0]) (dlCons (dAgg (dlCons (dNd rfl ⟨_, rfl⟩) (dlCons (dNd rfl ⟨_, rfl⟩) (dlCons (dNd rfl ⟨_, rfl⟩) (dlCons (dNd rfl ⟨_, rfl, ho26_3⟩) (dlCons (dNd rfl ⟨_, rfl, ho26_4⟩) (dlCons (dNd rfl ⟨_, rfl, ho26_5⟩) (dlCons (dNd rfl ⟨_, rfl, ho26_6⟩) (dlCons (dNd rfl ⟨_, rfl⟩) (dlCons (dNd rfl ⟨_, rfl⟩) dlNil)))))))))) (dlCons (dPtr (l := c) (o := 0) rfl) dlNil)) (dNd rfl ⟨_, rfl⟩) (fun H9 hk => k_lastFn v26_0 v26_1 v26_2 v26_3 v26_4 v26_5 v26_6 v26_7 v26_8 ho26_3 ho26_4 ho26_5 ho26_6 t H9 c ((hk.grew (Nat.le_refl _)).at r25))) .nil))
    · exact (envEq b14 (dNd rfl (slOne hS)) (envEq b15 (dNd rfl ⟨_, rfl⟩) (envEq b16 (dFn' dlNil (dlCons (dPtr (l := c) (o := 0) rfl) dlNil)) (envEq b17 (dNd rfl ⟨_, rfl⟩) (envEq b18 (dNd rfl ⟨_, rfl⟩) (envEq b19 (dNd rfl ⟨_, rfl⟩) (envEq b20 (dFn' dlNil (dlCons (dPtr (l := c) (o := 0) rfl) dlNil)) (envEq b21 (dNd rfl (slOne hS)) envNil))))))))
    refine all2 (by kernel_rfl) ?_ ?_
    ·
      intro vs ls H27 E27 st hE
      have f28 : (lastLt t [.int .i32 v26_0, .int .i32 v26_1, .int .i32 v26_2, .flt .f32 v26_3, .flt .f32 v26_4, .flt .f32 v26_5, .flt .f32 v26_6, .int .i64 v26_7, .int .i64 v26_8]) = true := bfact st.inn 0 (by kernel_rfl)
      refine res_ret (by kernel_rfl) (end_flat st.inn hE (.inr rfl) (a := .int .i64 (i9 : Int)) (by kernel_rfl) (Grew.trans g23 (st.kept.grew (Nat.le_of_ble_eq_true (by kernel_rfl)))) rfl ⟨?_, rfl⟩)
      rw [idxF_at hlt26 hIi9 (by show lastLt t _ = true; rw [he26]; exact f28)]
    ·
      intro vs ls H29 E29 st hE
      have f30 : (lastLt t [.int .i32 v26_0, .int .i32 v26_1, .int .i32 v26_2, .flt .f32 v26_3, .flt .f32 v26_4, .flt .f32 v26_5, .flt .f32 v26_6, .int .i64 v26_7, .int .i64 v26_8]) = false := bfact st.inn 0 (by kernel_rfl)
      have hlti9 : i9 < ms.length := by omega
      refine res_next (sl := [(7, .int .i64 (ms.length : Int)), (1, .func 80 [] [.ptr c 0]), (0, S)]) (ti := 8) (i := i9) (Inv := fun i => ∀ j, j < i → lastLt t (ms.getD j []) = false) (by kernel_rfl) st.inn hE hlti9 (by kernel_rfl) (w := (IntKind.wrap .i64 ((i9 : Int) + 1))) (by kernel_rfl) (wrap64 (by omega)) (Grew.trans g24 (st.kept.grew (Nat.le_of_ble_eq_true (by kernel_rfl)))) ?_
      exact upTo hIi9 (by rw [he26]; exact f30)
  ·
    intro vs ls H31 E31 st hE
    have f32 : ¬ ((i9 : Int) < (ms.length : Int)) := of_decide_eq_false (bfact (x := decide ((i9 : Int) < (ms.length : Int))) st.inn 0 (by kernel_rfl))
    have b33 : E31 8 = .int .i64 (i9 : Int) := env_of st.inn hE 8 (by kernel_rfl)
    have b34 : E31 7 = .int .i64 (ms.length : Int) := env_of st.inn hE 7 (by kernel_rfl)
    obtain ⟨w35, hw35⟩ : ∃ z, z = (decide ((i9 : Int) < (ms.length : Int))) := ⟨_, rfl⟩
    have b36 : E31 9 = .bool w35 := by rw [hw35]; exact env_of st.inn hE 9 (by kernel_rfl)
    have b37 : E31 1 = .func 80 [] [.ptr c 0] := env_of st.inn hE 1 (by kernel_rfl)
    have b38 : E31 0 = S := env_of st.inn hE 0 (by kernel_rfl)
    have g39 : Grew Hi9 H31 := (st.kept.grew (Nat.le_of_ble_eq_true (by kernel_rfl)))
    have g40 : Grew H H31 := Grew.trans g10 g39
    have g41 : Grew H1 H31 := Grew.trans hgi9 g39
    have r42 := g39.at r11
    clear st hE vs ls
    refine res_exit (id := 0) (by kernel_rfl) ?_
    refine run_mn (φ := φ0) (pm := pmR 1 [] 0) 20 (nk := [(.atom 0, .one), (.atom 1, .int .i64), (.atom 2, .int .i64), (.atom 3, .int .i64), (.atom 4, .bool)]) (fs := []) (xs := [S, .int .i64 t, .int .i64 (ms.length : Int), .int .i64 (i9 : Int), .bool w35]) (ws := [⟨c, 0, [.nd 1 (.int .i64)], false⟩]) (env := [(8, .nd 3 (.int .i64)), (7, .nd 2 (.int .i64)), (9, .nd 4 .bool), (1, .fn 80 [] [.ptr 0 0]), (0, .nd 0 .one)]) ?_ ?_ tb_ok ap_ok ?_
    · refine midN_in ?_ .nil _ ?_ ?_ ?_
      · exact (.cons rfl (slOne hS) (.cons rfl ⟨_, rfl⟩ (.cons rfl ⟨_, rfl⟩ (.cons rfl ⟨_, rfl⟩ (.cons rfl ⟨_, rfl⟩ .nil)))))
      · exact (.cons (win_row r42 (dlCons (dNd rfl ⟨_, rfl⟩) dlNil)) .nil)
      · exact sepOk_ro rfl
      · exact .nil
    · exact (envEq b33 (dNd rfl ⟨_, rfl⟩) (envEq b34 (dNd rfl ⟨_, rfl⟩) (envEq b36 (dNd rfl ⟨_, rfl⟩) (envEq b37 (dFn' dlNil (dlCons (dPtr (l := c) (o := 0) rfl) dlNil)) (envEq b38 (dNd rfl (slOne hS)) envNil)))))
    refine all1 (by kernel_rfl) ?_
    intro vs ls H43 E43 st hE
    refine res_ex (by kernel_rfl) (end_flat st.inn hE (.inr rfl) (a := .int .i64 (-1)) (by kernel_rfl) (Grew.trans g40 (st.kept.grew (Nat.le_of_ble_eq_true (by kernel_rfl)))) rfl ⟨?_, rfl⟩)
    rw [idxF_none (fun j hj => hIi9 j (by omega))]
theorem k_DeleteLast (H : AHeap) (ms : List (List AV)) (hr : Recs KM ms) (S : AV) (hS : SlF H 9 ms S) (mxms : ms.length ≤ 1048576) (t : Int) (c : Nat) (hg : H.get c = some (.row [.int .i64 t] true)) (hap : ApartL S c) : ACalls Try.prog 85 [S, .func 80 [] [.ptr c 0]] H fun r H' => OnlyS S H H' ∧ SlW H' 9 (ms.filter fun m => !lastLt t m) r ∧ ∀ l, AtS r l → AtS S l := by
  cases hS with
  | nil h0 =>
    subst h0
    refine res_start h_slices_DeleteFunc_impl_Mark_impl_Mark (by simp) ?_
    refine run_mn (φ := φ0) (pm := pmR 1 [(.call 108 [.lit .nilslice, .fn 80 [] [.ptr 0 0]], .lit (.int .i64 (-1)))] 0) 20 (nk := [(.atom 0, .int .i64)]) (fs := []) (xs := [.int .i64 t]) (ws := [⟨c, 0, [.nd 0 (.int .i64)], false⟩]) (env := [(0, .lit .nilslice), (1, .fn 80 [] [.ptr 0 0])]) ?_ ?_ tb_ok ap_ok ?_
    · refine midN_in ?_ .nil _ ?_ ?_ ?_
      · exact (.cons rfl ⟨_, rfl⟩ .nil)
      · exact (.cons (win_row hg (dlCons (dNd rfl ⟨_, rfl⟩) dlNil)) .nil)
      · exact sepOk_ro rfl
      · exact (.cons (rule_call (args := [.nilslice, .func 80 [] [.ptr c 0]]) (dlCons (dLit rfl) (dlCons (dFn' dlNil (dlCons (dPtr (l := c) (o := 0) rfl) dlNil)) dlNil)) (dLit rfl) (fun H9 hk => k_DeleteLast_index H9 [] .nil .nilslice (.nil rfl) (by decide) t c ((hk.grew (Nat.le_refl _)).at hg))) .nil)
    · exact (envEq rfl (dLit rfl) (envEq rfl (dFn' dlNil (dlCons (dPtr (l := c) (o := 0) rfl) dlNil)) envNil))
    refine all1 (by kernel_rfl) ?_
    intro vs ls H1 E1 st hE
    have g9 : Grew H H1 := (Grew.trans (Grew.refl _) (st.kept.grew (Nat.le_of_ble_eq_true (by kernel_rfl))))
    exact res_ex (by kernel_rfl) (end_same st.inn hE (.inr rfl) (a := .nilslice) (by kernel_rfl) g9.next ⟨.of_grew g9, .nil rfl, fun l hl => hl⟩)
  | @sl l n cap hg0 hn hc =>
    subst hn
    have hSL : SlL H 9 ms (.slice l 0 ms.length cap 9) := .sl (rest := []) (by simpa using hg0) rfl hc
    have hlc : Apart c l := ⟨fun e => hap.ne ⟨_, _, _, _, by rw [e]⟩⟩
    refine res_start h_slices_DeleteFunc_impl_Mark_impl_Mark (by simp) ?_
    refine run_mn (φ := φ0) (pm := pmR 1 [(.call 108 [.nd 0 .one, .fn 80 [] [.ptr 0 0]], .nd 2 (.int .i64))] 0) 20 (nk := [(.atom 0, .one), (.atom 1, .int .i64), (.atom 2, .int .i64)]) (fs := []) (xs := [.slice l 0 ms.length cap 9, .int .i64 t, .int .i64 (idxF (fun i => lastLt t (ms.getD i [])) ms.length)]) (ws := [⟨c, 0, [.nd 1 (.int .i64)], false⟩]) (env := [(0, .nd 0 .one), (1, .fn 80 [] [.ptr 0 0])]) ?_ ?_ tb_ok ap_ok ?_
    · refine midN_in ?_ .nil _ ?_ ?_ ?_
      · exact (.cons rfl rfl (.cons rfl ⟨_, rfl⟩ (.cons rfl ⟨_, rfl⟩ .nil)))
      · exact (.cons (win_row hg (dlCons (dNd rfl ⟨_, rfl⟩) dlNil)) .nil)
      · exact sepOk_ro rfl
      · exact (.cons (rule_call (args := [.slice l 0 ms.length cap 9, .func 80 [] [.ptr c 0]]) (dlCons (dNd rfl rfl) (dlCons (dFn' dlNil (dlCons (dPtr (l := c) (o := 0) rfl) dlNil)) dlNil)) (dNd rfl ⟨_, rfl⟩) (fun H9 hk => k_DeleteLast_index H9 ms hr _ (hSL.grew (Grew.trans (Grew.refl _) (hk.grew (Nat.le_refl _)))) mxms t c ((hk.grew (Nat.le_refl _)).at hg))) .nil)
    · exact (envEq rfl (dNd rfl rfl) (envEq rfl (dFn' dlNil (dlCons (dPtr (l := c) (o := 0) rfl) dlNil)) envNil))
    refine all2 (by kernel_rfl) ?_ ?_
    ·
      intro vs ls H1 E1 st hE
      have f2 : (idxF (fun i => lastLt t (ms.getD i [])) ms.length) = (-1) := of_decide_eq_true (bfact (x := decide ((idxF (fun i => lastLt t (ms.getD i [])) ms.length) = (-1))) st.inn 0 (by kernel_rfl))
      have g9 : Grew H H1 := (Grew.trans (Grew.refl _) (st.kept.grew (Nat.le_of_ble_eq_true (by kernel_rfl))))
      have hq : ∀ i, i < ms.length → lastLt t (ms.getD i []) = false := idxF_m1 f2
      exact res_ex (by kernel_rfl) (end_same st.inn hE (.inr rfl) (a := .slice l 0 ms.length cap 9) (by kernel_rfl) g9.next ⟨.of_grew g9, by rw [keepTo_all (Q := lastLt t) hq]; exact .sl (rest := []) (by simpa using g9.at hg0) rfl hc, fun l hl => hl⟩)
    ·
      intro vs ls H3 E3 st hE
      have f4 : ¬ ((idxF (fun i => lastLt t (ms.getD i [])) ms.length) = (-1)) := of_decide_eq_false (bfact (x := decide ((idxF (fun i => lastLt t (ms.getD i [])) ms.length) = (-1))) st.inn 0 (by kernel_rfl))
      have b5 : E3 0 = .slice l 0 ms.length cap 9 := env_of st.inn hE 0 (by kernel_rfl)
      have b6 : E3 1 = .func 80 [] [.ptr c 0] := env_of st.inn hE 1 (by kernel_rfl)
      have b7 : E3 5 = .int .i64 (idxF (fun i => lastLt t (ms.getD i [])) ms.length) := env_of st.inn hE 5 (by kernel_rfl)
      obtain ⟨w8, hw8⟩ : ∃ z, z = (IntKind.wrap .i64 ((idxF (fun i => lastLt t (ms.getD i [])) ms.length) + 1)) := ⟨_, rfl⟩
      have b9 : E3 6 = .int .i64 w8 := by rw [hw8]; exact env_of st.inn hE 6 (by kernel_rfl)
      have g10 : Grew H H3 := (st.kept.grew (Nat.le_of_ble_eq_true (by kernel_rfl)))
      have g11 : Grew H H3 := Grew.trans (Grew.refl _) g10
      have r12 := g10.at hg
      clear st hE vs ls
      obtain ⟨i0, hi0, hidx, hbef, hat⟩ := idxF_some f4
      have e5 : E3 5 = .int .i64 (i0 : Int) := by rw [← hidx]; exact b7
      have e6 : E3 6 = .int .i64 ((i0 + 1 : Nat) : Int) := by rw [b9, hw8, hidx, wrap64 (by omega)]
      have hkf := keepTo_first (Q := lastLt t) hi0 hbef hat
      have hlen0 : (keepTo (lastLt t) ms (i0 + 1)).length = i0 := by rw [hkf, List.length_take]; omega
      have hfl : (ms.take i0).flatten.length = i0 * 9 := take_flat_len hr.len (Nat.le_of_lt hi0)
      have hm0 : (ms[i0]).length = 9 := hr.len _ (List.getElem_mem hi0)
      refine res_loop (by kernel_rfl) (fun z E H' => ∃ j J, z + j = ms.length ∧ i0 < j ∧ E 0 = .slice l 0 ms.length cap 9 ∧ E 1 = .func 80 [] [.ptr c 0] ∧ E 5 = .int .i64 (((keepTo (lastLt t) ms j).length : Nat) : Int) ∧ E 6 = .int .i64 (j : Int) ∧ Only l H H' ∧ (keepTo (lastLt t) ms j).length < j ∧ J.length + (keepTo (lastLt t) ms j).length * 9 = j * 9 ∧ H'.get l = some (.row ((keepTo (lastLt t) ms j).flatten ++ (J ++ (ms.drop j).flatten)) true)) (ms.length - (i0 + 1))
        ⟨i0 + 1, ms[i0], by omega, by omega, b5, b6, by rw [hlen0]; exact e5, e6, .of_grew g11, by omega, by rw [hlen0, hm0]; omega, by
          rw [hkf, g11.at hg0]
          congr 2
          rw [← List.append_assoc, ← take_flat_succ hi0, ← List.flatten_append, List.take_append_drop]⟩ ?_
      rintro z E0 H0 ⟨j, J, hz, hij, c0, c1, c5, c6, gO, hlt0, hJ, row⟩
      have hcr := gO.at hg hlc
      have hkl := keepTo_le (Q := lastLt t) (ms := ms) (j := j) (by omega)
      have hkr := keepTo_recs (Q := lastLt t) hr j
      obtain ⟨P, hP⟩ : ∃ P, P = keepTo (lastLt t) ms j := ⟨_, rfl⟩
      rw [← hP] at c5 hJ row hkl hkr hlt0
      have hPl : P.flatten.length = P.length * 9 := flat_len' hkr rfl
      rcases Nat.lt_or_ge j ms.length with hlt | hge
      ·
        have hsuc := keepTo_succ (Q := lastLt t) hlt
        rw [← hP] at hsuc
        obtain ⟨v0, v1, v2, v3, v4, v5, v6, v7, v8, hm, o3, o4, o5, o6⟩ := partsMark (hr.get hlt)
        have hd : (ms.drop j).flatten = ms[j] ++ (ms.drop (j + 1)).flatten := by rw [List.drop_eq_getElem_cons hlt, List.flatten_cons]
        have hza : z - 1 < z := by omega
        have hzb : z - 1 + (j + 1) = ms.length := by omega
        have hnj : (j : Int) < (ms.length : Int) := by omega
        have hjw : IntKind.i64.wrap ((j : Int) + 1) = ((j + 1 : Nat) : Int) := wrap64 (by omega)
        have hiw : IntKind.i64.wrap ((P.length : Int) + 1) = ((P.length + 1 : Nat) : Int) := wrap64 (by omega)
        have hin : P.length < ms.length := by omega
        rw [hd, hm] at row
        have rowe : H0.get l = some (.row ((P.flatten ++ J) ++ ([.int .i32 v0, .int .i32 v1, .int .i32 v2, .flt .f32 v3, .flt .f32 v4, .flt .f32 v5, .flt .f32 v6, .int .i64 v7, .int .i64 v8] ++ (ms.drop (j + 1)).flatten)) true) := by rw [row]; simp only [List.append_assoc]
        have hPJ : (P.flatten ++ J).length = j * 9 := by rw [List.length_append]; omega
        rw [hm] at hsuc
        refine run_mn (φ := φ0) (pm := pmR 2 [(.len (.nd 0 .one), .nd 3 (.int .i64)), (.ia 9 (.nd 0 .one) (.nd 2 (.int .i64)), .ptr 1 0), (.ia 9 (.nd 0 .one) (.nd 1 (.int .i64)), .nd 4 .one), (.call 80 [.agg [.nd 5 (.int .i32), .nd 6 (.int .i32), .nd 7 (.int .i32), .nd 8 (.flt .f32), .nd 9 (.flt .f32), .nd 10 (.flt .f32), .nd 11 (.flt .f32), .nd 12 (.int .i64), .nd 13 (.int .i64)], .ptr 0 0], .nd 15 .bool)] 0) 20 (nk := [(.atom 0, .one), (.atom 1, .int .i64), (.atom 2, .int .i64), (.atom 3, .int .i64), (.atom 4, .one), (.atom 5, .int .i32), (.atom 6, .int .i32), (.atom 7, .int .i32), (.atom 8, .flt .f32), (.atom 9, .flt .f32), (.atom 10, .flt .f32), (.atom 11, .flt .f32), (.atom 12, .int .i64), (.atom 13, .int .i64), (.atom 14, .int .i64), (.atom 15, .bool)]) (fs := []) (xs := [.slice l 0 ms.length cap 9, .int .i64 (P.length : Int), .int .i64 (j : Int), .int .i64 (ms.length : Int), .ptr l (P.length * 9), .int .i32 v0, .int .i32 v1, .int .i32 v2, .flt .f32 v3, .flt .f32 v4, .flt .f32 v5, .flt .f32 v6, .int .i64 v7, .int .i64 v8, .int .i64 t, .bool (lastLt t [.int .i32 v0, .int .i32 v1, .int .i32 v2, .flt .f32 v3, .flt .f32 v4, .flt .f32 v5, .flt .f32 v6, .int .i64 v7, .int .i64 v8])]) (ws := [⟨c, 0, [.nd 14 (.int .i64)], false⟩, ⟨l, (j * 9), [.nd 5 (.int .i32), .nd 6 (.int .i32), .nd 7 (.int .i32), .nd 8 (.flt .f32), .nd 9 (.flt .f32), .nd 10 (.flt .f32), .nd 11 (.flt .f32), .nd 12 (.int .i64), .nd 13 (.int .i64)], false⟩]) (env := [(0, .nd 0 .one), (1, .fn 80 [] [.ptr 0 0]), (5, .nd 1 (.int .i64)), (6, .nd 2 (.int .i64))]) ?_ ?_ tb_ok ap_ok ?_
        · refine midN_in ?_ .nil _ ?_ ?_ ?_
          · exact (.cons rfl rfl (.cons rfl ⟨_, rfl⟩ (.cons rfl ⟨_, rfl⟩ (.cons rfl ⟨_, rfl⟩ (.cons rfl rfl (.cons rfl ⟨_, rfl⟩ (.cons rfl ⟨_, rfl⟩ (.cons rfl ⟨_, rfl⟩ (.cons rfl ⟨_, rfl, o3⟩ (.cons rfl ⟨_, rfl, o4⟩ (.cons rfl ⟨_, rfl, o5⟩ (.cons rfl ⟨_, rfl, o6⟩ (.cons rfl ⟨_, rfl⟩ (.cons rfl ⟨_, rfl⟩ (.cons rfl ⟨_, rfl⟩ (.cons rfl ⟨_, rfl⟩ .nil))))))))))))))))
          · exact (.cons (win_row hcr (dlCons (dNd rfl ⟨_, rfl⟩) dlNil)) (.cons (win_mid rowe hPJ (dlCons (dNd rfl ⟨_, rfl⟩) (dlCons (dNd rfl ⟨_, rfl⟩) (dlCons (dNd rfl ⟨_, rfl⟩) (dlCons (dNd rfl ⟨_, rfl, o3⟩) (dlCons (dNd rfl ⟨_, rfl, o4⟩) (dlCons (dNd rfl ⟨_, rfl, o5⟩) (dlCons (dNd rfl ⟨_, rfl, o6⟩) (dlCons (dNd rfl ⟨_, rfl⟩) (dlCons (dNd rfl ⟨_, rfl⟩) dlNil)))))))))) .nil))
          · exact sepOk_ro rfl
          · exact (.cons (rule_len (dNd rfl rfl) (dNd rfl ⟨_, rfl⟩)) (.cons (rule_ia (k := j) (dNd rfl rfl) (dNd rfl ⟨_, rfl⟩) hlt rfl) (.cons (rule_ia' (k := P.length) (dNd rfl rfl) (dNd rfl ⟨_, rfl⟩) hin (dNd rfl rfl)) (.cons (rule_call (args := [.agg [.int .i32 v0, .int .i32 v1, .int .i32 v2, .flt .f32 v3, .flt .f32 v4, .flt .f32 v5, .flt .f32 v6, .int .i64 v7, .int .i64 v8], .ptr c 0]) (dlCons (dAgg (dlCons (dNd rfl ⟨_, rfl⟩) (dlCons (dNd rfl ⟨_, rfl⟩) (dlCons (dNd rfl ⟨_, rfl⟩) (dlCons (dNd rfl ⟨_, rfl, o3⟩) (dlCons (dNd rfl ⟨_, rfl, o4⟩) (dlCons (dNd rfl ⟨_, rfl, o5⟩) (dlCons (dNd rfl ⟨_, rfl, o6⟩) (dlCons (dNd rfl ⟨_, rfl⟩) (dlCons (dNd rfl ⟨_, rfl⟩) dlNil)))))))))) (dlCons (dPtr (l := c) (o := 0) rfl) dlNil)) (dNd rfl ⟨_, rfl⟩) (fun H9 hk => k_lastFn v0 v1 v2 v3 v4 v5 v6 v7 v8 o3 o4 o5 o6 t H9 c ((hk.grew (Nat.le_refl _)).at hcr))) .nil))))
        · exact (envEq c0 (dNd rfl rfl) (envEq c1 (dFn' dlNil (dlCons (dPtr (l := c) (o := 0) rfl) dlNil)) (envEq c5 (dNd rfl ⟨_, rfl⟩) (envEq c6 (dNd rfl ⟨_, rfl⟩) envNil))))
        refine all3 (by kernel_rfl) ?_ ?_ ?_
        ·
          intro vs ls H13 E13 st hE
          have f14 : (lastLt t [.int .i32 v0, .int .i32 v1, .int .i32 v2, .flt .f32 v3, .flt .f32 v4, .flt .f32 v5, .flt .f32 v6, .int .i64 v7, .int .i64 v8]) = false := bfact st.inn 0 (by kernel_rfl)
          have f15 : (j : Int) < (ms.length : Int) := of_decide_eq_true (bfact (x := decide ((j : Int) < (ms.length : Int))) st.inn 1 (by kernel_rfl))
          have b16 : E13 0 = .slice l 0 ms.length cap 9 := env_of st.inn hE 0 (by kernel_rfl)
          have b17 : E13 1 = .func 80 [] [.ptr c 0] := env_of st.inn hE 1 (by kernel_rfl)
          have b18 : E13 5 = .int .i64 (P.length : Int) := env_of st.inn hE 5 (by kernel_rfl)
          have b19 : E13 6 = .int .i64 (j : Int) := env_of st.inn hE 6 (by kernel_rfl)
          have b20 : E13 33 = .ptr l (P.length * 9) := env_of st.inn hE 33 (by kernel_rfl)
          have b21 : E13 32 = .agg [.int .i32 v0, .int .i32 v1, .int .i32 v2, .flt .f32 v3, .flt .f32 v4, .flt .f32 v5, .flt .f32 v6, .int .i64 v7, .int .i64 v8] := env_of st.inn hE 32 (by kernel_rfl)
          have g22 : Grew H0 H13 := (st.kept.grew (Nat.le_of_ble_eq_true (by kernel_rfl)))
          have g23 : Only l H H13 := gO.grew g22
          have r24 := g22.at hcr
          clear st hE vs ls
          rw [f14, if_neg (by decide)] at hsuc
          have row2 := g22.at row
          obtain ⟨J1, J2, hJ12, hJ1⟩ : ∃ J1 J2, J = J1 ++ J2 ∧ J1.length = 9 := ⟨J.take 9, J.drop 9, (List.take_append_drop _ _).symm, by rw [List.length_take]; omega⟩
          rw [hJ12, List.append_assoc J1 J2] at row2
          refine res_store_in (d := none) (n := 9) (x := .tmp 33) (y := .tmp 32) (by kernel_rfl) (b := P.length * 9) (off := 0) (C := J1) (C' := [.int .i32 v0, .int .i32 v1, .int .i32 v2, .flt .f32 v3, .flt .f32 v4, .flt .f32 v5, .flt .f32 v6, .int .i64 v7, .int .i64 v8]) (vs := [.int .i32 v0, .int .i32 v1, .int .i32 v2, .flt .f32 v3, .flt .f32 v4, .flt .f32 v5, .flt .f32 v6, .int .i64 v7, .int .i64 v8]) b20 row2 hPl (by show AV.cells (E13 32) = _; rw [b21]; rfl) rfl (by omega) rfl (by unfold laid; simp [List.drop_eq_nil_of_le (Nat.le_of_eq hJ1)]) ?_
          intro H7 row7 o7
          have gO7 := g23.trans o7
          have hcr7 := gO7.at hg hlc
          refine run_mn (φ := φ0) (pm := pmR 1 [(.len (.nd 0 .one), .nd 3 (.int .i64))] 0) 20 (nk := [(.atom 0, .one), (.atom 1, .int .i64), (.atom 2, .int .i64), (.atom 3, .int .i64), (.atom 4, .one), (.atom 5, .int .i32), (.atom 6, .int .i32), (.atom 7, .int .i32), (.atom 8, .flt .f32), (.atom 9, .flt .f32), (.atom 10, .flt .f32), (.atom 11, .flt .f32), (.atom 12, .int .i64), (.atom 13, .int .i64), (.atom 14, .int .i64), (.atom 15, .bool)]) (fs := []) (xs := [.slice l 0 ms.length cap 9, .int .i64 (P.length : Int), .int .i64 (j : Int), .int .i64 (ms.length : Int), .ptr l (P.length * 9), .int .i32 v0, .int .i32 v1, .int .i32 v2, .flt .f32 v3, .flt .f32 v4, .flt .f32 v5, .flt .f32 v6, .int .i64 v7, .int .i64 v8, .int .i64 t, .bool (lastLt t [.int .i32 v0, .int .i32 v1, .int .i32 v2, .flt .f32 v3, .flt .f32 v4, .flt .f32 v5, .flt .f32 v6, .int .i64 v7, .int .i64 v8])]) (ws := [⟨c, 0, [.nd 14 (.int .i64)], false⟩]) (env := [(0, .nd 0 .one), (1, .fn 80 [] [.ptr 0 0]), (5, .nd 1 (.int .i64)), (6, .nd 2 (.int .i64))]) ?_ ?_ tb_ok ap_ok ?_
          · refine midN_in ?_ .nil _ ?_ ?_ ?_
            · exact (.cons rfl rfl (.cons rfl ⟨_, rfl⟩ (.cons rfl ⟨_, rfl⟩ (.cons rfl ⟨_, rfl⟩ (.cons rfl rfl (.cons rfl ⟨_, rfl⟩ (.cons rfl ⟨_, rfl⟩ (.cons rfl ⟨_, rfl⟩ (.cons rfl ⟨_, rfl, o3⟩ (.cons rfl ⟨_, rfl, o4⟩ (.cons rfl ⟨_, rfl, o5⟩ (.cons rfl ⟨_, rfl, o6⟩ (.cons rfl ⟨_, rfl⟩ (.cons rfl ⟨_, rfl⟩ (.cons rfl ⟨_, rfl⟩ (.cons rfl ⟨_, rfl⟩ .nil))))))))))))))))
            · exact (.cons (win_row hcr7 (dlCons (dNd rfl ⟨_, rfl⟩) dlNil)) .nil)
            · exact sepOk_ro rfl
            · exact (.cons (rule_len (dNd rfl rfl) (dNd rfl ⟨_, rfl⟩)) .nil)
          · exact (envEq (put_no b16) (dNd rfl rfl) (envEq (put_no b17) (dFn' dlNil (dlCons (dPtr (l := c) (o := 0) rfl) dlNil)) (envEq (put_no b18) (dNd rfl ⟨_, rfl⟩) (envEq (put_no b19) (dNd rfl ⟨_, rfl⟩) envNil))))
          refine all1 (by kernel_rfl) ?_
          intro vs ls H9 E9 st hE
          have g9 : Grew H7 H9 := (st.kept.grew (Nat.le_of_ble_eq_true (by kernel_rfl)))
          have z0 : E9 0 = .slice l 0 ms.length cap 9 := env_of st.inn hE 0 (by kernel_rfl)
          have z1 : E9 1 = .func 80 [] [.ptr c 0] := env_of st.inn hE 1 (by kernel_rfl)
          have z5 : E9 5 = .int .i64 (IntKind.wrap .i64 ((P.length : Int) + 1)) := env_of st.inn hE 5 (by kernel_rfl)
          have z6 : E9 6 = .int .i64 (IntKind.wrap .i64 ((j : Int) + 1)) := env_of st.inn hE 6 (by kernel_rfl)
          have hJl : J.length = 9 + J2.length := by rw [hJ12, List.length_append, hJ1]
          have hsl : (P ++ [([.int .i32 v0, .int .i32 v1, .int .i32 v2, .flt .f32 v3, .flt .f32 v4, .flt .f32 v5, .flt .f32 v6, .int .i64 v7, .int .i64 v8] : List AV)]).length = P.length + 1 := by rw [List.length_append]; rfl
          exact res_norm (by kernel_rfl) ⟨z - 1, hza, j + 1, J2 ++ [.int .i32 v0, .int .i32 v1, .int .i32 v2, .flt .f32 v3, .flt .f32 v4, .flt .f32 v5, .flt .f32 v6, .int .i64 v7, .int .i64 v8], hzb, by omega, z0, z1, by rw [hsuc, hsl, z5, hiw], by rw [z6, hjw], gO7.grew g9, by rw [hsuc, hsl]; omega, by rw [hsuc, hsl, List.length_append]; show J2.length + 9 + _ = _; omega, by rw [hsuc, g9.at row7, List.flatten_append]; simp only [List.append_assoc, List.flatten_cons, List.flatten_nil, List.append_nil]⟩
        ·
          intro vs ls H9 E9 st hE
          have fq : (lastLt t [.int .i32 v0, .int .i32 v1, .int .i32 v2, .flt .f32 v3, .flt .f32 v4, .flt .f32 v5, .flt .f32 v6, .int .i64 v7, .int .i64 v8]) = true := bfact st.inn 0 (by kernel_rfl)
          rw [fq, if_pos rfl, List.append_nil] at hsuc
          have g9 : Grew H0 H9 := (st.kept.grew (Nat.le_of_ble_eq_true (by kernel_rfl)))
          have z0 : E9 0 = .slice l 0 ms.length cap 9 := env_of st.inn hE 0 (by kernel_rfl)
          have z1 : E9 1 = .func 80 [] [.ptr c 0] := env_of st.inn hE 1 (by kernel_rfl)
          have z5 : E9 5 = .int .i64 (P.length : Int) := env_of st.inn hE 5 (by kernel_rfl)
          have z6 : E9 6 = .int .i64 (IntKind.wrap .i64 ((j : Int) + 1)) := env_of st.inn hE 6 (by kernel_rfl)
          exact res_norm (by kernel_rfl) ⟨z - 1, hza, j + 1, J ++ [.int .i32 v0, .int .i32 v1, .int .i32 v2, .flt .f32 v3, .flt .f32 v4, .flt .f32 v5, .flt .f32 v6, .int .i64 v7, .int .i64 v8], hzb, by omega, z0, z1, by rw [hsuc]; exact z5, by rw [z6, hjw], gO.grew g9, by rw [hsuc]; omega, by rw [hsuc, List.length_append]; show J.length + 9 + _ = _; omega, by rw [hsuc, g9.at row]; simp only [List.append_assoc]⟩
        ·
          intro vs ls H9 E9 st hE
          exact absurd hnj (of_decide_eq_false (bfact (x := decide ((j : Int) < (ms.length : Int))) st.inn 0 (by kernel_rfl)))
      ·
        obtain rfl : j = ms.length := by omega
        refine run_mn (φ := φ0) (pm := pmR 1 [(.len (.nd 0 .one), .nd 2 (.int .i64))] 0) 20 (nk := [(.atom 0, .one), (.atom 1, .int .i64), (.atom 2, .int .i64), (.atom 3, .int .i64)]) (fs := []) (xs := [.slice l 0 ms.length cap 9, .int .i64 (P.length : Int), .int .i64 (ms.length : Int), .int .i64 t]) (ws := [⟨c, 0, [.nd 3 (.int .i64)], false⟩]) (env := [(0, .nd 0 .one), (1, .fn 80 [] [.ptr 0 0]), (5, .nd 1 (.int .i64)), (6, .nd 2 (.int .i64))]) ?_ ?_ tb_ok ap_ok ?_
        · refine midN_in ?_ .nil _ ?_ ?_ ?_
          · exact (.cons rfl rfl (.cons rfl ⟨_, rfl⟩ (.cons rfl ⟨_, rfl⟩ (.cons rfl ⟨_, rfl⟩ .nil))))
          · exact (.cons (win_row hcr (dlCons (dNd rfl ⟨_, rfl⟩) dlNil)) .nil)
          · exact sepOk_ro rfl
          · exact (.cons (rule_len (dNd rfl rfl) (dNd rfl ⟨_, rfl⟩)) .nil)
        · exact (envEq c0 (dNd rfl rfl) (envEq c1 (dFn' dlNil (dlCons (dPtr (l := c) (o := 0) rfl) dlNil)) (envEq c5 (dNd rfl ⟨_, rfl⟩) (envEq c6 (dNd rfl ⟨_, rfl⟩) envNil))))
        refine all1 (by kernel_rfl) ?_
        intro vs ls H26 E26 st hE
        have b27 : E26 0 = .slice l 0 ms.length cap 9 := env_of st.inn hE 0 (by kernel_rfl)
        have b28 : E26 5 = .int .i64 (P.length : Int) := env_of st.inn hE 5 (by kernel_rfl)
        have g29 : Grew H0 H26 := (st.kept.grew (Nat.le_of_ble_eq_true (by kernel_rfl)))
        have g30 : Only l H H26 := gO.grew g29
        have r31 := g29.at hcr
        clear st hE vs ls
        have row2 := g29.at row
        rw [List.drop_length, List.flatten_nil] at row2
        refine res_exit (id := 0) (by kernel_rfl) ?_
        refine run_mn (φ := φ0) (pm := pmR 0 [(.slSl 9 (.nd 0 .one) (some (.nd 1 (.int .i64))) none, .nd 2 .one), (.slSl 9 (.nd 0 .one) none (some (.nd 1 (.int .i64))), .nd 3 .one)] 0) 20 (nk := [(.atom 0, .one), (.atom 1, .int .i64), (.atom 2, .one), (.atom 3, .one)]) (fs := []) (xs := [.slice l 0 ms.length cap 9, .int .i64 (P.length : Int), .slice l (P.length * 9) (ms.length - P.length) (cap - P.length) 9, .slice l 0 P.length cap 9]) (ws := []) (env := [(0, .nd 0 .one), (5, .nd 1 (.int .i64))]) ?_ ?_ tb_ok ap_ok ?_
        · refine midN_in ?_ .nil _ ?_ ?_ ?_
          · exact (.cons rfl rfl (.cons rfl ⟨_, rfl⟩ (.cons rfl rfl (.cons rfl rfl .nil))))
          · exact .nil
          · exact sepOk_ro rfl
          · exact (.cons (rule_from (dNd rfl rfl) (dNd rfl ⟨_, rfl⟩) (dNd rfl rfl) (by omega) (by omega)) (.cons (rule_to (dNd rfl rfl) (dNd rfl ⟨_, rfl⟩) (dNd rfl rfl) (by omega)) .nil))
        · exact (envEq b27 (dNd rfl rfl) (envEq b28 (dNd rfl ⟨_, rfl⟩) envNil))
        refine all1 (by kernel_rfl) ?_
        intro vs ls H32 E32 st hE
        have b33 : E32 38 = .slice l (P.length * 9) (ms.length - P.length) (cap - P.length) 9 := env_of st.inn hE 38 (by kernel_rfl)
        have b34 : E32 0 = .slice l 0 ms.length cap 9 := env_of st.inn hE 0 (by kernel_rfl)
        have b35 : E32 5 = .int .i64 (P.length : Int) := env_of st.inn hE 5 (by kernel_rfl)
        have g36 : Grew H26 H32 := (st.kept.grew (Nat.le_of_ble_eq_true (by kernel_rfl)))
        have g37 : Only l H H32 := g30.grew g36
        clear st hE vs ls
        have row3 := g36.at row2
        refine res_clear (d := none) (sz := 9) (zs := [.int .i32 0, .int .i32 0, .int .i32 0, .flt .f32 (some 0), .flt .f32 (some 0), .flt .f32 (some 0), .flt .f32 (some 0), .int .i64 0, .int .i64 0]) (x := .tmp 38) (by kernel_rfl) (p := P.flatten) (C := J) (q := []) b33 row3 hPl (by rw [Nat.sub_mul]; omega) rfl rfl ?_
        intro H7 C7 row7 o7
        have gO7 := g37.trans o7
        refine run_mn (φ := φ0) (pm := pmR 0 [(.slSl 9 (.nd 0 .one) (some (.nd 1 (.int .i64))) none, .nd 2 .one), (.slSl 9 (.nd 0 .one) none (some (.nd 1 (.int .i64))), .nd 3 .one)] 0) 20 (nk := [(.atom 0, .one), (.atom 1, .int .i64), (.atom 2, .one), (.atom 3, .one)]) (fs := []) (xs := [.slice l 0 ms.length cap 9, .int .i64 (P.length : Int), .slice l (P.length * 9) (ms.length - P.length) (cap - P.length) 9, .slice l 0 P.length cap 9]) (ws := []) (env := [(38, .nd 2 .one), (0, .nd 0 .one), (5, .nd 1 (.int .i64))]) ?_ ?_ tb_ok ap_ok ?_
        · refine midN_in ?_ .nil _ ?_ ?_ ?_
          · exact (.cons rfl rfl (.cons rfl ⟨_, rfl⟩ (.cons rfl rfl (.cons rfl rfl .nil))))
          · exact .nil
          · exact sepOk_ro rfl
          · exact (.cons (rule_from (dNd rfl rfl) (dNd rfl ⟨_, rfl⟩) (dNd rfl rfl) (by omega) (by omega)) (.cons (rule_to (dNd rfl rfl) (dNd rfl ⟨_, rfl⟩) (dNd rfl rfl) (by omega)) .nil))
        · exact (envEq (put_no b33) (dNd rfl rfl) (envEq (put_no b34) (dNd rfl rfl) (envEq (put_no b35) (dNd rfl ⟨_, rfl⟩) envNil)))
        refine all1 (by kernel_rfl) ?_
        intro vs ls H9 E9 st hE
        have g9 : Grew H7 H9 := (st.kept.grew (Nat.le_of_ble_eq_true (by kernel_rfl)))
        have gz := gO7.grew g9
        have hfull : P = ms.filter (fun m => !lastLt t m) := by rw [hP, keepTo_full]
        exact res_ex (by kernel_rfl) (end_same st.inn hE (.inr rfl) (a := .slice l 0 P.length cap 9) (by kernel_rfl) gz.next ⟨.of_only gz, by rw [← hfull]; exact .sl (rest := C7 ++ []) (g9.at row7) rfl (by omega), fun l' hl => by rw [atS hl]; exact ⟨_, _, _, _, rfl⟩⟩)
theorem k_DeleteLight_index (H : AHeap) (ms : List (List AV)) (hr : Recs KM ms) (S : AV) (hS : SlL H 9 ms S) (mxms : ms.length ≤ 1048576) (wt : Option Nat) (hw : fOk .f32 wt) (c : Nat) (hg : H.get c = some (.row [.flt .f32 wt] true)) : APure Try.prog 108 [S, .func 82 [] [.ptr c 0]] H (.int .i64 (idxF (fun i => lightB wt (ms.getD i [])) ms.length)) := by
  refine res_start h_slices_IndexFunc_impl_Mark_impl_Mark (by simp) ?_
  refine run_mn (φ := φ0) (pm := pmR 1 [(.len (.nd 0 .one), .nd 2 (.int .i64))] 0) 20 (nk := [(.atom 0, .one), (.atom 1, .flt .f32), (.atom 2, .int .i64)]) (fs := []) (xs := [S, .flt .f32 wt, .int .i64 (ms.length : Int)]) (ws := [⟨c, 0, [.nd 1 (.flt .f32)], false⟩]) (env := [(0, .nd 0 .one), (1, .fn 82 [] [.ptr 0 0])]) ?_ ?_ tb_ok ap_ok ?_
  · refine midN_in ?_ .nil _ ?_ ?_ ?_
    · exact (.cons rfl (slOne hS) (.cons rfl ⟨_, rfl, hw⟩ (.cons rfl ⟨_, rfl⟩ .nil)))
    · exact (.cons (win_row hg (dlCons (dNd rfl ⟨_, rfl, hw⟩) dlNil)) .nil)
    · exact sepOk_ro rfl
    · exact (.cons (⟨_, _, (dNd rfl (slOne hS)), (dNd rfl ⟨_, rfl⟩), slLen hS⟩) .nil)
  · exact (envEq rfl (dNd rfl (slOne hS)) (envEq rfl (dFn' dlNil (dlCons (dPtr (l := c) (o := 0) rfl) dlNil)) envNil))
  refine all1 (by kernel_rfl) ?_
  intro vs ls H1 E1 st hE
  have b2 : E1 8 = .int .i64 0 := env_of st.inn hE 8 (by kernel_rfl)
  have b3 : E1 7 = .int .i64 (ms.length : Int) := env_of st.inn hE 7 (by kernel_rfl)
  have b4 : E1 1 = .func 82 [] [.ptr c 0] := env_of st.inn hE 1 (by kernel_rfl)
  have b5 : E1 0 = S := env_of st.inn hE 0 (by kernel_rfl)
  have g6 : Grew H H1 := (st.kept.grew (Nat.le_of_ble_eq_true (by kernel_rfl)))
  have g7 : Grew H H1 := Grew.trans (Grew.refl _) g6
  have r8 := g6.at hg
  clear st hE vs ls
  refine res_scan (by kernel_rfl) [(7, .int .i64 (ms.length : Int)), (1, .func 82 [] [.ptr c 0]), (0, S)] 8 ms.length (fun i => ∀ j, j < i → lightB wt (ms.getD j []) = false) (.cons b3 (.cons b4 (.cons b5 .nil))) b2 (Grew.refl _) upTo0 ?_
  intro i9 hli9 hIi9 Ei9 Hi9 hsi9 hci9 hgi9
  have g10 : Grew H Hi9 := Grew.trans g7 hgi9
  have r11 := hgi9.at r8
  refine run_mn (φ := φ0) (pm := pmR 1 [] 0) 20 (nk := [(.atom 0, .one), (.atom 1, .flt .f32), (.atom 2, .int .i64), (.atom 3, .int .i64)]) (fs := []) (xs := [S, .flt .f32 wt, .int .i64 (ms.length : Int), .int .i64 (i9 : Int)]) (ws := [⟨c, 0, [.nd 1 (.flt .f32)], false⟩]) (env := [(7, .nd 2 (.int .i64)), (1, .fn 82 [] [.ptr 0 0]), (0, .nd 0 .one), (8, .nd 3 (.int .i64))]) ?_ ?_ tb_ok ap_ok ?_
  · refine midN_in ?_ .nil _ ?_ ?_ ?_
    · exact (.cons rfl (slOne hS) (.cons rfl ⟨_, rfl, hw⟩ (.cons rfl ⟨_, rfl⟩ (.cons rfl ⟨_, rfl⟩ .nil))))
    · exact (.cons (win_row r11 (dlCons (dNd rfl ⟨_, rfl, hw⟩) dlNil)) .nil)
    · exact sepOk_ro rfl
    · exact .nil
  · exact (envEq (hsi9.at 0 rfl) (dNd rfl ⟨_, rfl⟩) (envEq (hsi9.at 1 rfl) (dFn' dlNil (dlCons (dPtr (l := c) (o := 0) rfl) dlNil)) (envEq (hsi9.at 2 rfl) (dNd rfl (slOne hS)) (envEq hci9 (dNd rfl ⟨_, rfl⟩) envNil))))
  refine all2 (by kernel_rfl) ?_ ?_
  ·
    intro vs ls H12 E12 st hE
    have f13 : (i9 : Int) < (ms.length : Int) := of_decide_eq_true (bfact (x := decide ((i9 : Int) < (ms.length : Int))) st.inn 0 (by kernel_rfl))
    have b14 : E12 12 = S := env_of st.inn hE 12 (by kernel_rfl)
    have b15 : E12 13 = .int .i64 (i9 : Int) := env_of st.inn hE 13 (by kernel_rfl)
    have b16 : E12 11 = .func 82 [] [.ptr c 0] := env_of st.inn hE 11 (by kernel_rfl)
    have b17 : E12 5 = .int .i64 (i9 : Int) := env_of st.inn hE 5 (by kernel_rfl)
    have b18 : E12 8 = .int .i64 (i9 : Int) := env_of st.inn hE 8 (by kernel_rfl)
    have b19 : E12 7 = .int .i64 (ms.length : Int) := env_of st.inn hE 7 (by kernel_rfl)
    have b20 : E12 1 = .func 82 [] [.ptr c 0] := env_of st.inn hE 1 (by kernel_rfl)
    have b21 : E12 0 = S := env_of st.inn hE 0 (by kernel_rfl)
    have g22 : Grew Hi9 H12 := (st.kept.grew (Nat.le_of_ble_eq_true (by kernel_rfl)))
    have g23 : Grew H H12 := Grew.trans g10 g22
    have g24 : Grew H1 H12 := Grew.trans hgi9 g22
    have r25 := g22.at r11
    clear st hE vs ls
    have hlt26 : i9 < ms.length := by omega
    obtain ⟨lS26, cap26, rest26, wr26, eS26, gB26⟩ := hS.isSl hlt26
    have gS26 := g23.at gB26
    obtain ⟨v26_0, v26_1, v26_2, v26_3, v26_4, v26_5, v26_6, v26_7, v26_8, hm26, ho26_3, ho26_4, ho26_5, ho26_6⟩ := partsMark (hr.get hlt26)
    have he26 : ms.getD i9 [] = [.int .i32 v26_0, .int .i32 v26_1, .int .i32 v26_2, .flt .f32 v26_3, .flt .f32 v26_4, .flt .f32 v26_5, .flt .f32 v26_6, .int .i64 v26_7, .int .i64 v26_8] := by rw [← hm26]; simp [List.getD_eq_getElem?_getD, hlt26]
    refine run_mn (φ := φ0) (pm := pmR 2 [(.ia 9 (.nd 0 .one) (.nd 3 (.int .i64)), .ptr 1 0), (.call 82 [.agg [.nd 4 (.int .i32), .nd 5 (.int .i32), .nd 6 (.int .i32), .nd 7 (.flt .f32), .nd 8 (.flt .f32), .nd 9 (.flt .f32), .nd 10 (.flt .f32), .nd 11 (.int .i64), .nd 12 (.int .i64)], .ptr 0 0], .nd 13 .bool)] 0) 20 (nk := [(.atom 0, .one), (.atom 1, .flt .f32), (.atom 2, .int .i64), (.atom 3, .int .i64), (.atom 4, .int .i32), (.atom 5, .int .i32), (.atom 6, .int .i32), (.atom 7, .flt .f32), (.atom 8, .flt .f32), (.atom 9, .flt .f32), (.atom 10, .flt .f32), (.atom 11, .int .i64), (.atom 12, .int .i64), (.atom 13, .bool)]) (fs := []) (xs := [S, .flt .f32 wt, .int .i64 (ms.length : Int), .int .i64 (i9 : Int), .int .i32 v26_0, .int .i32 v26_1, .int .i32 v26_2, .flt .f32 v26_3, .flt .f32 v26_4, .flt .f32 v26_5, .flt .f32 v26_6, .int .i64 v26_7, .int .i64 v26_8, .bool (lightB wt [.int .i32 v26_0, .int .i32 v26_1, .int .i32 v26_2, .flt .f32 v26_3, .flt .f32 v26_4, .flt .f32 v26_5, .flt .f32 v26_6, .int .i64 v26_7, .int .i64 v26_8])]) (ws := [⟨c, 0, [.nd 1 (.flt .f32)], false⟩, ⟨lS26, (i9 * 9), [.nd 4 (.int .i32), .nd 5 (.int .i32), .nd 6 (.int .i32), .nd 7 (.flt .f32), .nd 8 (.flt .f32), .nd 9 (.flt .f32), .nd 10 (.flt .f32), .nd 11 (.int .i64), .nd 12 (.int .i64)], false⟩]) (env := [(12, .nd 0 .one), (13, .nd 3 (.int .i64)), (11, .fn 82 [] [.ptr 0 0]), (5, .nd 3 (.int .i64)), (8, .nd 3 (.int .i64)), (7, .nd 2 (.int .i64)), (1, .fn 82 [] [.ptr 0 0]), (0, .nd 0 .one)]) ?_ ?_ tb_ok ap_ok ?_
    · refine midN_in ?_ .nil _ ?_ ?_ ?_
      · exact (.cons rfl (slOne hS) (.cons rfl ⟨_, rfl, hw⟩ (.cons rfl ⟨_, rfl⟩ (.cons rfl ⟨_, rfl⟩ (.cons rfl ⟨_, rfl⟩ (.cons rfl ⟨_, rfl⟩ (.cons rfl ⟨_, rfl⟩ (.cons rfl ⟨_, rfl, ho26_3⟩ (.cons rfl ⟨_, rfl, ho26_4⟩ (.cons rfl ⟨_, rfl, ho26_5⟩ (.cons rfl ⟨_, rfl, ho26_6⟩ (.cons rfl ⟨_, rfl⟩ (.cons rfl ⟨_, rfl⟩ (.cons rfl ⟨_, rfl⟩ .nil))))))))))))))
      · exact (.cons (win_row r25 (dlCons (dNd rfl ⟨_, rfl, hw⟩) dlNil)) (.cons (win_elem hr gS26 hlt26 rfl (by rw [hm26]; exact (dlCons (dNd rfl ⟨_, rfl⟩) (dlCons (dNd rfl ⟨_, rfl⟩) (dlCons (dNd rfl ⟨_, rfl⟩) (dlCons (dNd rfl ⟨_, rfl, ho26_3⟩) (dlCons (dNd rfl ⟨_, rfl, ho26_4⟩) (dlCons (dNd rfl ⟨_, rfl, ho26_5⟩) (dlCons (dNd rfl ⟨_, rfl, ho26_6⟩) (dlCons (dNd rfl ⟨_, rfl⟩) (dlCons (dNd rfl ⟨_, rfl⟩) dlNil))))))))))) .nil))
      · exact sepOk_ro rfl
      · exact (.cons (rule_iaS (k := i9) (dNd rfl (slOne hS)) eS26 (dNd rfl ⟨_, rfl⟩) hlt26 rfl) (.cons (rule_call (args := [.agg [.int .i32 v26_0, .int .i32 v26_1, .int .i32 v26_2, .flt .f32 v26_3, .flt .f32 v26_4, .flt .f32 v26_5, .flt .f32 v26_6, .int .i64 v26_7, .int .i64 v26_8], .ptr c 0]) (dlCons (dAgg (dlCons (dNd rfl ⟨_, rfl⟩) (dlCons (dNd rfl ⟨_, rfl⟩) (dlCons (dNd rfl ⟨_, rfl⟩) (dlCons (dNd rfl ⟨_, rfl, ho26_3⟩) (dlCons (dNd rfl ⟨_, rfl, ho26_4⟩) (dlCons (dNd rfl ⟨_, rfl, ho26_5⟩) (dlCons (dNd rfl ⟨_, rfl, ho26_6⟩) (dlCons (dNd rfl ⟨_, rfl⟩) (dlCons (dNd rfl ⟨_, rfl⟩) dlNil)))))))))) (dlCons (dPtr (l := c) (o := 0) rfl) dlNil)) (dNd rfl ⟨_, rfl⟩) (fun H9 hk => k_lightFn v26_0 v26_1 v26_2 v26_3 v26_4 v26_5 v26_6 v26_7 v26_8 ho26_3 ho26_4 ho26_5 ho26_6 wt hw H9 c ((hk.grew (Nat.le_refl _)).at r25))) .nil))
    · exact (envEq b14 (dNd rfl (slOne hS)) (envEq b15 (dNd rfl ⟨_, rfl⟩) (envEq b16 (dFn' dlNil (dlCons (dPtr (l := c) (o := 0) rfl) dlNil)) (envEq b17 (dNd rfl ⟨_, rfl⟩) (envEq b18 (dNd rfl ⟨_, rfl⟩) (envEq b19 (dNd rfl ⟨_, rfl⟩) (envEq b20 (dFn' dlNil (dlCons (dPtr (l := c) (o := 0) rfl) dlNil)) (envEq b21 (dNd rfl (slOne hS)) envNil))))))))
    refine all2 (by kernel_rfl) ?_ ?_
    ·
      intro vs ls H27 E27 st hE
      have f28 : (lightB wt [.int .i32 v26_0, .int .i32 v26_1, .int .i32 v26_2, .flt .f32 v26_3, .flt .f32 v26_4, .flt .f32 v26_5, .flt .f32 v26_6, .int .i64 v26_7, .int .i64 v26_8]) = true := bfact st.inn 0 (by kernel_rfl)
      refine res_ret (by kernel_rfl) (end_flat st.inn hE (.inr rfl) (a := .int .i64 (i9 : Int)) (by kernel_rfl) (Grew.trans g23 (st.kept.grew (Nat.le_of_ble_eq_true (by kernel_rfl)))) rfl ⟨?_, rfl⟩)
      rw [idxF_at hlt26 hIi9 (by show lightB wt _ = true; rw [he26]; exact f28)]
    ·
      intro vs ls H29 E29 st hE
      have f30 : (lightB wt [.int .i32 v26_0, .int .i32 v26_1, .int .i32 v26_2, .flt .f32 v26_3, .flt .f32 v26_4, .flt .f32 v26_5, .flt .f32 v26_6, .int .i64 v26_7, .int .i64 v26_8]) = false := bfact st.inn 0 (by kernel_rfl)
      have hlti9 : i9 < ms.length := by omega
      refine res_next (sl := [(7, .int .i64 (ms.length : Int)), (1, .func 82 [] [.ptr c 0]), (0, S)]) (ti := 8) (i := i9) (Inv := fun i => ∀ j, j < i → lightB wt (ms.getD j []) = false) (by kernel_rfl) st.inn hE hlti9 (by kernel_rfl) (w := (IntKind.wrap .i64 ((i9 : Int) + 1))) (by kernel_rfl) (wrap64 (by omega)) (Grew.trans g24 (st.kept.grew (Nat.le_of_ble_eq_true (by kernel_rfl)))) ?_
      exact upTo hIi9 (by rw [he26]; exact f30)
  ·
    intro vs ls H31 E31 st hE
    have f32 : ¬ ((i9 : Int) < (ms.length : Int)) := of_decide_eq_false (bfact (x := decide ((i9 : Int) < (ms.length : Int))) st.inn 0 (by kernel_rfl))
    have b33 : E31 8 = .int .i64 (i9 : Int) := env_of st.inn hE 8 (by kernel_rfl)
    have b34 : E31 7 = .int .i64 (ms.length : Int) := env_of st.inn hE 7 (by kernel_rfl)
    obtain ⟨w35, hw35⟩ : ∃ z, z = (decide ((i9 : Int) < (ms.length : Int))) := ⟨_, rfl⟩
    have b36 : E31 9 = .bool w35 := by rw [hw35]; exact env_of st.inn hE 9 (by kernel_rfl)
    have b37 : E31 1 = .func 82 [] [.ptr c 0] := env_of st.inn hE 1 (by kernel_rfl)
    have b38 : E31 0 = S := env_of st.inn hE 0 (by kernel_rfl)
    have g39 : Grew Hi9 H31 := (st.kept.grew (Nat.le_of_ble_eq_true (by kernel_rfl)))
    have g40 : Grew H H31 := Grew.trans g10 g39
    have g41 : Grew H1 H31 := Grew.trans hgi9 g39
    have r42 := g39.at r11
    clear st hE vs ls
    refine res_exit (id := 0) (by kernel_rfl) ?_
    refine run_mn (φ := φ0) (pm := pmR 1 [] 0) 20 (nk := [(.atom 0, .one), (.atom 1, .flt .f32), (.atom 2, .int .i64), (.atom 3, .int .i64), (.atom 4, .bool)]) (fs := []) (xs := [S, .flt .f32 wt, .int .i64 (ms.length : Int), .int .i64 (i9 : Int), .bool w35]) (ws := [⟨c, 0, [.nd 1 (.flt .f32)], false⟩]) (env := [(8, .nd 3 (.int .i64)), (7, .nd 2 (.int .i64)), (9, .nd 4 .bool), (1, .fn 82 [] [.ptr 0 0]), (0, .nd 0 .one)]) ?_ ?_ tb_ok ap_ok ?_
    · refine midN_in ?_ .nil _ ?_ ?_ ?_
      · exact (.cons rfl (slOne hS) (.cons rfl ⟨_, rfl, hw⟩ (.cons rfl ⟨_, rfl⟩ (.cons rfl ⟨_, rfl⟩ (.cons rfl ⟨_, rfl⟩ .nil)))))
      · exact (.cons (win_row r42 (dlCons (dNd rfl ⟨_, rfl, hw⟩) dlNil)) .nil)
      · exact sepOk_ro rfl
      · exact .nil
    · exact (envEq b33 (dNd rfl ⟨_, rfl⟩) (envEq b34 (dNd rfl ⟨_, rfl⟩) (envEq b36 (dNd rfl ⟨_, rfl⟩) (envEq b37 (dFn' dlNil (dlCons (dPtr (l := c) (o := 0) rfl) dlNil)) (envEq b38 (dNd rfl (slOne hS)) envNil)))))
    refine all1 (by kernel_rfl) ?_
    intro vs ls H43 E43 st hE
    refine res_ex (by kernel_rfl) (end_flat st.inn hE (.inr rfl) (a := .int .i64 (-1)) (by kernel_rfl) (Grew.trans g40 (st.kept.grew (Nat.le_of_ble_eq_true (by kernel_rfl)))) rfl ⟨?_, rfl⟩)
    rw [idxF_none (fun j hj => hIi9 j (by omega))]
theorem k_DeleteLight (H : AHeap) (ms : List (List AV)) (hr : Recs KM ms) (S : AV) (hS : SlF H 9 ms S) (mxms : ms.length ≤ 1048576) (wt : Option Nat) (hw : fOk .f32 wt) (c : Nat) (hg : H.get c = some (.row [.flt .f32 wt] true)) (hap : ApartL S c) : ACalls Try.prog 85 [S, .func 82 [] [.ptr c 0]] H fun r H' => OnlyS S H H' ∧ SlW H' 9 (ms.filter fun m => !lightB wt m) r ∧ ∀ l, AtS r l → AtS S l := by
  cases hS with
  | nil h0 =>
    subst h0
    refine res_start h_slices_DeleteFunc_impl_Mark_impl_Mark (by simp) ?_
    refine run_mn (φ := φ0) (pm := pmR 1 [(.call 108 [.lit .nilslice, .fn 82 [] [.ptr 0 0]], .lit (.int .i64 (-1)))] 0) 20 (nk := [(.atom 0, .flt .f32)]) (fs := []) (xs := [.flt .f32 wt]) (ws := [⟨c, 0, [.nd 0 (.flt .f32)], false⟩]) (env := [(0, .lit .nilslice), (1, .fn 82 [] [.ptr 0 0])]) ?_ ?_ tb_ok ap_ok ?_
    · refine midN_in ?_ .nil _ ?_ ?_ ?_
      · exact (.cons rfl ⟨_, rfl, hw⟩ .nil)
      · exact (.cons (win_row hg (dlCons (dNd rfl ⟨_, rfl, hw⟩) dlNil)) .nil)
      · exact sepOk_ro rfl
      · exact (.cons (rule_call (args := [.nilslice, .func 82 [] [.ptr c 0]]) (dlCons (dLit rfl) (dlCons (dFn' dlNil (dlCons (dPtr (l := c) (o := 0) rfl) dlNil)) dlNil)) (dLit rfl) (fun H9 hk => k_DeleteLight_index H9 [] .nil .nilslice (.nil rfl) (by decide) wt hw c ((hk.grew (Nat.le_refl _)).at hg))) .nil)
    · exact (envEq rfl (dLit rfl) (envEq rfl (dFn' dlNil (dlCons (dPtr (l := c) (o := 0) rfl) dlNil)) envNil))
    refine all1 (by kernel_rfl) ?_
    intro vs ls H1 E1 st hE
    have g9 : Grew H H1 := (Grew.trans (Grew.refl _) (st.kept.grew (Nat.le_of_ble_eq_true (by kernel_rfl))))
    exact res_ex (by kernel_rfl) (end_same st.inn hE (.inr rfl) (a := .nilslice) (by kernel_rfl) g9.next ⟨.of_grew g9, .nil rfl, fun l hl => hl⟩)
  | @sl l n cap hg0 hn hc =>
    subst hn
    have hSL : SlL H 9 ms (.slice l 0 ms.length cap 9) := .sl (rest := []) (by simpa using hg0) rfl hc
    have hlc : Apart c l := ⟨fun e => hap.ne ⟨_, _, _, _, by rw [e]⟩⟩
    refine res_start h_slices_DeleteFunc_impl_Mark_impl_Mark (by simp) ?_
    refine run_mn (φ := φ0) (pm := pmR 1 [(.call 108 [.nd 0 .one, .fn 82 [] [.ptr 0 0]], .nd 2 (.int .i64))] 0) 20 (nk := [(.atom 0, .one), (.atom 1, .flt .f32), (.atom 2, .int .i64)]) (fs := []) (xs := [.slice l 0 ms.length cap 9, .flt .f32 wt, .int .i64 (idxF (fun i => lightB wt (ms.getD i [])) ms.length)]) (ws := [⟨c, 0, [.nd 1 (.flt .f32)], false⟩]) (env := [(0, .nd 0 .one), (1, .fn 82 [] [.ptr 0 0])]) ?_ ?_ tb_ok ap_ok ?_
    · refine midN_in ?_ .nil _ ?_ ?_ ?_
      · exact (.cons rfl rfl (.cons rfl ⟨_, rfl, hw⟩ (.cons rfl ⟨_, rfl⟩ .nil)))
      · exact (.cons (win_row hg (dlCons (dNd rfl ⟨_, rfl, hw⟩) dlNil)) .nil)
      · exact sepOk_ro rfl
      · exact (.cons (rule_call (args := [.slice l 0 ms.length cap 9, .func 82 [] [.ptr c 0]]) (dlCons (dNd rfl rfl) (dlCons (dFn' dlNil (dlCons (dPtr (l := c) (o := 0) rfl) dlNil)) dlNil)) (dNd rfl ⟨_, rfl⟩) (fun H9 hk => k_DeleteLight_index H9 ms hr _ (hSL.grew (Grew.trans (Grew.refl _) (hk.grew (Nat.le_refl _)))) mxms wt hw c ((hk.grew (Nat.le_refl _)).at hg))) .nil)
    · exact (envEq rfl (dNd rfl rfl) (envEq rfl (dFn' dlNil (dlCons (dPtr (l := c) (o := 0) rfl) dlNil)) envNil))
    refine all2 (by kernel_rfl) ?_ ?_
    ·
      intro vs ls H1 E1 st hE
      have f2 : (idxF (fun i => lightB wt (ms.getD i [])) ms.length) = (-1) := of_decide_eq_true (bfact (x := decide ((idxF (fun i => lightB wt (ms.getD i [])) ms.length) = (-1))) st.inn 0 (by kernel_rfl))
      have g9 : Grew H H1 := (Grew.trans (Grew.refl _) (st.kept.grew (Nat.le_of_ble_eq_true (by kernel_rfl))))
      have hq : ∀ i, i < ms.length → lightB wt (ms.getD i []) = false := idxF_m1 f2
      exact res_ex (by kernel_rfl) (end_same st.inn hE (.inr rfl) (a := .slice l 0 ms.length cap 9) (by kernel_rfl) g9.next ⟨.of_grew g9, by rw [keepTo_all (Q := lightB wt) hq]; exact .sl (rest := []) (by simpa using g9.at hg0) rfl hc, fun l hl => hl⟩)
    ·
      intro vs ls H3 E3 st hE
      have f4 : ¬ ((idxF (fun i => lightB wt (ms.getD i [])) ms.length) = (-1)) := of_decide_eq_false (bfact (x := decide ((idxF (fun i => lightB wt (ms.getD i [])) ms.length) = (-1))) st.inn 0 (by kernel_rfl))
      have b5 : E3 0 = .slice l 0 ms.length cap 9 := env_of st.inn hE 0 (by kernel_rfl)
      have b6 : E3 1 = .func 82 [] [.ptr c 0] := env_of st.inn hE 1 (by kernel_rfl)
      have b7 : E3 5 = .int .i64 (idxF (fun i => lightB wt (ms.getD i [])) ms.length) := env_of st.inn hE 5 (by kernel_rfl)
      obtain ⟨w8, hw8⟩ : ∃ z, z = (IntKind.wrap .i64 ((idxF (fun i => lightB wt (ms.getD i [])) ms.length) + 1)) := ⟨_, rfl⟩
      have b9 : E3 6 = .int .i64 w8 := by rw [hw8]; exact env_of st.inn hE 6 (by kernel_rfl)
      have g10 : Grew H H3 := (st.kept.grew (Nat.le_of_ble_eq_true (by kernel_rfl)))
      have g11 : Grew H H3 := Grew.trans (Grew.refl _) g10
      have r12 := g10.at hg
      clear st hE vs ls
      obtain ⟨i0, hi0, hidx, hbef, hat⟩ := idxF_some f4
      have e5 : E3 5 = .int .i64 (i0 : Int) := by rw [← hidx]; exact b7
      have e6 : E3 6 = .int .i64 ((i0 + 1 : Nat) : Int) := by rw [b9, hw8, hidx, wrap64 (by omega)]
      have hkf := keepTo_first (Q := lightB wt) hi0 hbef hat
      have hlen0 : (keepTo (lightB wt) ms (i0 + 1)).length = i0 := by rw [hkf, List.length_take]; omega
      have hfl : (ms.take i0).flatten.length = i0 * 9 := take_flat_len hr.len (Nat.le_of_lt hi0)
      have hm0 : (ms[i0]).length = 9 := hr.len _ (List.getElem_mem hi0)
      refine res_loop (by kernel_rfl) (fun z E H' => ∃ j J, z + j = ms.length ∧ i0 < j ∧ E 0 = .slice l 0 ms.length cap 9 ∧ E 1 = .func 82 [] [.ptr c 0] ∧ E 5 = .int .i64 (((keepTo (lightB wt) ms j).length : Nat) : Int) ∧ E 6 = .int .i64 (j : Int) ∧ Only l H H' ∧ (keepTo (lightB wt) ms j).length < j ∧ J.length + (keepTo (lightB wt) ms j).length * 9 = j * 9 ∧ H'.get l = some (.row ((keepTo (lightB wt) ms j).flatten ++ (J ++ (ms.drop j).flatten)) true)) (ms.length - (i0 + 1))
        ⟨i0 + 1, ms[i0], by omega, by omega, b5, b6, by rw [hlen0]; exact e5, e6, .of_grew g11, by omega, by rw [hlen0, hm0]; omega, by
          rw [hkf, g11.at hg0]
          congr 2
          rw [← List.append_assoc, ← take_flat_succ hi0, ← List.flatten_append, List.take_append_drop]⟩ ?_
      rintro z E0 H0 ⟨j, J, hz, hij, c0, c1, c5, c6, gO, hlt0, hJ, row⟩
      have hcr := gO.at hg hlc
      have hkl := keepTo_le (Q := lightB wt) (ms := ms) (j := j) (by omega)
      have hkr := keepTo_recs (Q := lightB wt) hr j
      obtain ⟨P, hP⟩ : ∃ P, P = keepTo (lightB wt) ms j := ⟨_, rfl⟩
      rw [← hP] at c5 hJ row hkl hkr hlt0
      have hPl : P.flatten.length = P.length * 9 := flat_len' hkr rfl
      rcases Nat.lt_or_ge j ms.length with hlt | hge
      ·
        have hsuc := keepTo_succ (Q := lightB wt) hlt
        rw [← hP] at hsuc
        obtain ⟨v0, v1, v2, v3, v4, v5, v6, v7, v8, hm, o3, o4, o5, o6⟩ := partsMark (hr.get hlt)
        have hd : (ms.drop j).flatten = ms[j] ++ (ms.drop (j + 1)).flatten := by rw [List.drop_eq_getElem_cons hlt, List.flatten_cons]
        have hza : z - 1 < z := by omega
        have hzb : z - 1 + (j + 1) = ms.length := by omega
        have hnj : (j : Int) < (ms.length : Int) := by omega
        have hjw : IntKind.i64.wrap ((j : Int) + 1) = ((j + 1 : Nat) : Int) := wrap64 (by omega)
        have hiw : IntKind.i64.wrap ((P.length : Int) + 1) = ((P.length + 1 : Nat) : Int) := wrap64 (by omega)
        have hin : P.length < ms.length := by omega
        rw [hd, hm] at row
        have rowe : H0.get l = some (.row ((P.flatten ++ J) ++ ([.int .i32 v0, .int .i32 v1, .int .i32 v2, .flt .f32 v3, .flt .f32 v4, .flt .f32 v5, .flt .f32 v6, .int .i64 v7, .int .i64 v8] ++ (ms.drop (j + 1)).flatten)) true) := by rw [row]; simp only [List.append_assoc]
        have hPJ : (P.flatten ++ J).length = j * 9 := by rw [List.length_append]; omega
        rw [hm] at hsuc
        refine run_mn (φ := φ0) (pm := pmR 2 [(.len (.nd 0 .one), .nd 3 (.int .i64)), (.ia 9 (.nd 0 .one) (.nd 2 (.int .i64)), .ptr 1 0), (.ia 9 (.nd 0 .one) (.nd 1 (.int .i64)), .nd 4 .one), (.call 82 [.agg [.nd 5 (.int .i32), .nd 6 (.int .i32), .nd 7 (.int .i32), .nd 8 (.flt .f32), .nd 9 (.flt .f32), .nd 10 (.flt .f32), .nd 11 (.flt .f32), .nd 12 (.int .i64), .nd 13 (.int .i64)], .ptr 0 0], .nd 15 .bool)] 0) 20 (nk := [(.atom 0, .one), (.atom 1, .int .i64), (.atom 2, .int .i64), (.atom 3, .int .i64), (.atom 4, .one), (.atom 5, .int .i32), (.atom 6, .int .i32), (.atom 7, .int .i32), (.atom 8, .flt .f32), (.atom 9, .flt .f32), (.atom 10, .flt .f32), (.atom 11, .flt .f32), (.atom 12, .int .i64), (.atom 13, .int .i64), (.atom 14, .flt .f32), (.atom 15, .bool)]) (fs := []) (xs := [.slice l 0 ms.length cap 9, .int .i64 (P.length : Int), .int .i64 (j : Int), .int .i64 (ms.length : Int), .ptr l (P.length * 9), .int .i32 v0, .int .i32 v1, .int .i32 v2, .flt .f32 v3, .flt .f32 v4, .flt .f32 v5, .flt .f32 v6, .int .i64 v7, .int .i64 v8, .flt .f32 wt, .bool (lightB wt [.int .i32 v0, .int .i32 v1, .int .i32 v2, .flt .f32 v3, .flt .f32 v4, .flt .f32 v5, .flt .f32 v6, .int .i64 v7, .int .i64 v8])]) (ws := [⟨c, 0, [.nd 14 (.flt .f32)], false⟩, ⟨l, (j * 9), [.nd 5 (.int .i32), .nd 6 (.int .i32), .nd 7 (.int .i32), .nd 8 (.flt .f32), .nd 9 (.flt .f32), .nd 10 (.flt .f32), .nd 11 (.flt .f32), .nd 12 (.int .i64), .nd 13 (.int .i64)], false⟩]) (env := [(0, .nd 0 .one), (1, .fn 82 [] [.ptr 0 0]), (5, .nd 1 (.int .i64)), (6, .nd 2 (.int .i64))]) ?_ ?_ tb_ok ap_ok ?_
        · refine midN_in ?_ .nil _ ?_ ?_ ?_
          · exact (.cons rfl rfl (.cons rfl ⟨_, rfl⟩ (.cons rfl ⟨_, rfl⟩ (.cons rfl ⟨_, rfl⟩ (.cons rfl rfl (.cons rfl ⟨_, rfl⟩ (.cons rfl ⟨_, rfl⟩ (.cons rfl ⟨_, rfl⟩ (.cons rfl ⟨_, rfl, o3⟩ (.cons rfl ⟨_, rfl, o4⟩ (.cons rfl ⟨_, rfl, o5⟩ (.cons rfl ⟨_, rfl, o6⟩ (.cons rfl ⟨_, rfl⟩ (.cons rfl ⟨_, rfl⟩ (.cons rfl ⟨_, rfl, hw⟩ (.cons rfl ⟨_, rfl⟩ .nil))))))))))))))))
          · exact (.cons (win_row hcr (dlCons (dNd rfl ⟨_, rfl, hw⟩) dlNil)) (.cons (win_mid rowe hPJ (dlCons (dNd rfl ⟨_, rfl⟩) (dlCons (dNd rfl ⟨_, rfl⟩) (dlCons (dNd rfl ⟨_, rfl⟩) (dlCons (dNd rfl ⟨_, rfl, o3⟩) (dlCons (dNd rfl ⟨_, rfl, o4⟩) (dlCons (dNd rfl ⟨_, rfl, o5⟩) (dlCons (dNd rfl ⟨_, rfl, o6⟩) (dlCons (dNd rfl ⟨_, rfl⟩) (dlCons (dNd rfl ⟨_, rfl⟩) dlNil)))))))))) .nil))
          · exact sepOk_ro rfl
          · exact (.cons (rule_len (dNd rfl rfl) (dNd rfl ⟨_, rfl⟩)) (.cons (rule_ia (k := j) (dNd rfl rfl) (dNd rfl ⟨_, rfl⟩) hlt rfl) (.cons (rule_ia' (k := P.length) (dNd rfl rfl) (dNd rfl ⟨_, rfl⟩) hin (dNd rfl rfl)) (.cons (rule_call (args := [.agg [.int .i32 v0, .int .i32 v1, .int .i32 v2, .flt .f32 v3, .flt .f32 v4, .flt .f32 v5, .flt .f32 v6, .int .i64 v7, .int .i64 v8], .ptr c 0]) (dlCons (dAgg (dlCons (dNd rfl ⟨_, rfl⟩) (dlCons (dNd rfl ⟨_, rfl⟩) (dlCons (dNd rfl ⟨_, rfl⟩) (dlCons (dNd rfl ⟨_, rfl, o3⟩) (dlCons (dNd rfl ⟨_, rfl, o4⟩) (dlCons (dNd rfl ⟨_, rfl, o5⟩) (dlCons (dNd rfl ⟨_, rfl, o6⟩) (dlCons (dNd rfl ⟨_, rfl⟩) (dlCons (dNd rfl ⟨_, rfl⟩) dlNil)))))))))) (dlCons (dPtr (l := c) (o := 0) rfl) dlNil)) (dNd rfl ⟨_, rfl⟩) (fun H9 hk => k_lightFn v0 v1 v2 v3 v4 v5 v6 v7 v8 o3 o4 o5 o6 wt hw H9 c ((hk.grew (Nat.le_refl _)).at hcr))) .nil))))
        · exact (envEq c0 (dNd rfl rfl) (envEq c1 (dFn' dlNil (dlCons (dPtr (l := c) (o := 0) rfl) dlNil)) (envEq c5 (dNd rfl ⟨_, rfl⟩) (envEq c6 (dNd rfl ⟨_, rfl⟩) envNil))))
        refine all3 (by kernel_rfl) ?_ ?_ ?_
        ·
          intro vs ls H13 E13 st hE
          have f14 : (lightB wt [.int .i32 v0, .int .i32 v1, .int .i32 v2, .flt .f32 v3, .flt .f32 v4, .flt .f32 v5, .flt .f32 v6, .int .i64 v7, .int .i64 v8]) = false := bfact st.inn 0 (by kernel_rfl)
          have f15 : (j : Int) < (ms.length : Int) := of_decide_eq_true (bfact (x := decide ((j : Int) < (ms.length : Int))) st.inn 1 (by kernel_rfl))
          have b16 : E13 0 = .slice l 0 ms.length cap 9 := env_of st.inn hE 0 (by kernel_rfl)
          have b17 : E13 1 = .func 82 [] [.ptr c 0] := env_of st.inn hE 1 (by kernel_rfl)
          have b18 : E13 5 = .int .i64 (P.length : Int) := env_of st.inn hE 5 (by kernel_rfl)
          have b19 : E13 6 = .int .i64 (j : Int) := env_of st.inn hE 6 (by kernel_rfl)
          have b20 : E13 33 = .ptr l (P.length * 9) := env_of st.inn hE 33 (by kernel_rfl)
          have b21 : E13 32 = .agg [.int .i32 v0, .int .i32 v1, .int .i32 v2, .flt .f32 v3, .flt .f32 v4, .flt .f32 v5, .flt .f32 v6, .int .i64 v7, .int .i64 v8] := env_of st.inn hE 32 (by kernel_rfl)
          have g22 : Grew H0 H13 := (st.kept.grew (Nat.le_of_ble_eq_true (by kernel_rfl)))
          have g23 : Only l H H13 := gO.grew g22
          have r24 := g22.at hcr
          clear st hE vs ls
          rw [f14, if_neg (by decide)] at hsuc
          have row2 := g22.at row
          obtain ⟨J1, J2, hJ12, hJ1⟩ : ∃ J1 J2, J = J1 ++ J2 ∧ J1.length = 9 := ⟨J.take 9, J.drop 9, (List.take_append_drop _ _).symm, by rw [List.length_take]; omega⟩
          rw [hJ12, List.append_assoc J1 J2] at row2
          refine res_store_in (d := none) (n := 9) (x := .tmp 33) (y := .tmp 32) (by kernel_rfl) (b := P.length * 9) (off := 0) (C := J1) (C' := [.int .i32 v0, .int .i32 v1, .int .i32 v2, .flt .f32 v3, .flt .f32 v4, .flt .f32 v5, .flt .f32 v6, .int .i64 v7, .int .i64 v8]) (vs := [.int .i32 v0, .int .i32 v1, .int .i32 v2, .flt .f32 v3, .flt .f32 v4, .flt .f32 v5, .flt .f32 v6, .int .i64 v7, .int .i64 v8]) b20 row2 hPl (by show AV.cells (E13 32) = _; rw [b21]; rfl) rfl (by omega) rfl (by unfold laid; simp [List.drop_eq_nil_of_le (Nat.le_of_eq hJ1)]) ?_
          intro H7 row7 o7
          have gO7 := g23.trans o7
          have hcr7 := gO7.at hg hlc
          refine run_mn (φ := φ0) (pm := pmR 1 [(.len (.nd 0 .one), .nd 3 (.int .i64))] 0) 20 (nk := [(.atom 0, .one), (.atom 1, .int .i64), (.atom 2, .int .i64), (.atom 3, .int .i64), (.atom 4, .one), (.atom 5, .int .i32), (.atom 6, .int .i32), (.atom 7, .int .i32), (.atom 8, .flt .f32), (.atom 9, .flt .f32), (.atom 10, .flt .f32), (.atom 11, .flt .f32), (.atom 12, .int .i64), (.atom 13, .int .i64), (.atom 14, .flt .f32), (.atom 15, .bool)]) (fs := []) (xs := [.slice l 0 ms.length cap 9, .int .i64 (P.length : Int), .int .i64 (j : Int), .int .i64 (ms.length : Int), .ptr l (P.length * 9), .int .i32 v0, .int .i32 v1, .int .i32 v2, .flt .f32 v3, .flt .f32 v4, .flt .f32 v5, .flt .f32 v6, .int .i64 v7, .int .i64 v8, .flt .f32 wt, .bool (lightB wt [.int .i32 v0, .int .i32 v1, .int .i32 v2, .flt .f32 v3, .flt .f32 v4, .flt .f32 v5, .flt .f32 v6, .int .i64 v7, .int .i64 v8])]) (ws := [⟨c, 0, [.nd 14 (.flt .f32)], false⟩]) (env := [(0, .nd 0 .one), (1, .fn 82 [] [.ptr 0 0]), (5, .nd 1 (.int .i64)), (6, .nd 2 (.int .i64))]) ?_ ?_ tb_ok ap_ok ?_
          · refine midN_in ?_ .nil _ ?_ ?_ ?_
            · exact (.cons rfl rfl (.cons rfl ⟨_, rfl⟩ (.cons rfl ⟨_, rfl⟩ (.cons rfl ⟨_, rfl⟩ (.cons rfl rfl (.cons rfl ⟨_, rfl⟩ (.cons rfl ⟨_, rfl⟩ (.cons rfl ⟨_, rfl⟩ (.cons rfl ⟨_, rfl, o3⟩ (.cons rfl ⟨_, rfl, o4⟩ (.cons rfl ⟨_, rfl, o5⟩ (.cons rfl ⟨_, rfl, o6⟩ (.cons rfl ⟨_, rfl⟩ (.cons rfl ⟨_, rfl⟩ (.cons rfl ⟨_, rfl, hw⟩ (.cons rfl ⟨_, rfl⟩ .nil))))))))))))))))
            · exact (.cons (win_row hcr7 (dlCons (dNd rfl ⟨_, rfl, hw⟩) dlNil)) .nil)
            · exact sepOk_ro rfl
            · exact (.cons (rule_len (dNd rfl rfl) (dNd rfl ⟨_, rfl⟩)) .nil)
          · exact (envEq (put_no b16) (dNd rfl rfl) (envEq (put_no b17) (dFn' dlNil (dlCons (dPtr (l := c) (o := 0) rfl) dlNil)) (envEq (put_no b18) (dNd rfl ⟨_, rfl⟩) (envEq (put_no b19) (dNd rfl ⟨_, rfl⟩) envNil))))
          refine all1 (by kernel_rfl) ?_
          intro vs ls H9 E9 st hE
          have g9 : Grew H7 H9 := (st.kept.grew (Nat.le_of_ble_eq_true (by kernel_rfl)))
          have z0 : E9 0 = .slice l 0 ms.length cap 9 := env_of st.inn hE 0 (by kernel_rfl)
          have z1 : E9 1 = .func 82 [] [.ptr c 0] := env_of st.inn hE 1 (by kernel_rfl)
          have z5 : E9 5 = .int .i64 (IntKind.wrap .i64 ((P.length : Int) + 1)) := env_of st.inn hE 5 (by kernel_rfl)
          have z6 : E9 6 = .int .i64 (IntKind.wrap .i64 ((j : Int) + 1)) := env_of st.inn hE 6 (by kernel_rfl)
          have hJl : J.length = 9 + J2.length := by rw [hJ12, List.length_append, hJ1]
          have hsl : (P ++ [([.int .i32 v0, .int .i32 v1, .int .i32 v2, .flt .f32 v3, .flt .f32 v4, .flt .f32 v5, .flt .f32 v6, .int .i64 v7, .int .i64 v8] : List AV)]).length = P.length + 1 := by rw [List.length_append]; rfl
          exact res_norm (by kernel_rfl) ⟨z - 1, hza, j + 1, J2 ++ [.int .i32 v0, .int .i32 v1, .int .i32 v2, .flt .f32 v3, .flt .f32 v4, .flt .f32 v5, .flt .f32 v6, .int .i64 v7, .int .i64 v8], hzb, by omega, z0, z1, by rw [hsuc, hsl, z5, hiw], by rw [z6, hjw], gO7.grew g9, by rw [hsuc, hsl]; omega, by rw [hsuc, hsl, List.length_append]; show J2.length + 9 + _ = _; omega, by rw [hsuc, g9.at row7, List.flatten_append]; simp only [List.append_assoc, List.flatten_cons, List.flatten_nil, List.append_nil]⟩
        ·
          intro vs ls H9 E9 st hE
          have fq : (lightB wt [.int .i32 v0, .int .i32 v1, .int .i32 v2, .flt .f32 v3, .flt .f32 v4, .flt .f32 v5, .flt .f32 v6, .int .i64 v7, .int .i64 v8]) = true := bfact st.inn 0 (by kernel_rfl)
          rw [fq, if_pos rfl, List.append_nil] at hsuc
          have g9 : Grew H0 H9 := (st.kept.grew (Nat.le_of_ble_eq_true (by kernel_rfl)))
          have z0 : E9 0 = .slice l 0 ms.length cap 9 := env_of st.inn hE 0 (by kernel_rfl)
          have z1 : E9 1 = .func 82 [] [.ptr c 0] := env_of st.inn hE 1 (by kernel_rfl)
          have z5 : E9 5 = .int .i64 (P.length : Int) := env_of st.inn hE 5 (by kernel_rfl)
          have z6 : E9 6 = .int .i64 (IntKind.wrap .i64 ((j : Int) + 1)) := env_of st.inn hE 6 (by kernel_rfl)
          exact res_norm (by kernel_rfl) ⟨z - 1, hza, j + 1, J ++ [.int .i32 v0, .int .i32 v1, .int .i32 v2, .flt .f32 v3, .flt .f32 v4, .flt .f32 v5, .flt .f32 v6, .int .i64 v7, .int .i64 v8], hzb, by omega, z0, z1, by rw [hsuc]; exact z5, by rw [z6, hjw], gO.grew g9, by rw [hsuc]; omega, by rw [hsuc, List.length_append]; show J.length + 9 + _ = _; omega, by rw [hsuc, g9.at row]; simp only [List.append_assoc]⟩
        ·
          intro vs ls H9 E9 st hE
          exact absurd hnj (of_decide_eq_false (bfact (x := decide ((j : Int) < (ms.length : Int))) st.inn 0 (by kernel_rfl)))
      ·
        obtain rfl : j = ms.length := by omega
        refine run_mn (φ := φ0) (pm := pmR 1 [(.len (.nd 0 .one), .nd 2 (.int .i64))] 0) 20 (nk := [(.atom 0, .one), (.atom 1, .int .i64), (.atom 2, .int .i64), (.atom 3, .flt .f32)]) (fs := []) (xs := [.slice l 0 ms.length cap 9, .int .i64 (P.length : Int), .int .i64 (ms.length : Int), .flt .f32 wt]) (ws := [⟨c, 0, [.nd 3 (.flt .f32)], false⟩]) (env := [(0, .nd 0 .one), (1, .fn 82 [] [.ptr 0 0]), (5, .nd 1 (.int .i64)), (6, .nd 2 (.int .i64))]) ?_ ?_ tb_ok ap_ok ?_
        · refine midN_in ?_ .nil _ ?_ ?_ ?_
          · exact (.cons rfl rfl (.cons rfl ⟨_, rfl⟩ (.cons rfl ⟨_, rfl⟩ (.cons rfl ⟨_, rfl, hw⟩ .nil))))
          · exact (.cons (win_row hcr (dlCons (dNd rfl ⟨_, rfl, hw⟩) dlNil)) .nil)
          · exact sepOk_ro rfl
          · exact (.cons (rule_len (dNd rfl rfl) (dNd rfl ⟨_, rfl⟩)) .nil)
        · exact (envEq c0 (dNd rfl rfl) (envEq c1 (dFn' dlNil (dlCons (dPtr (l := c) (o := 0) rfl) dlNil)) (envEq c5 (dNd rfl ⟨_, rfl⟩) (envEq c6 (dNd rfl ⟨_, rfl⟩) envNil))))
        refine all1 (by kernel_rfl) ?_
        intro vs ls H26 E26 st hE
        have b27 : E26 0 = .slice l 0 ms.length cap 9 := env_of st.inn hE 0 (by kernel_rfl)
        have b28 : E26 5 = .int .i64 (P.length : Int) := env_of st.inn hE 5 (by kernel_rfl)
        have g29 : Grew H0 H26 := (st.kept.grew (Nat.le_of_ble_eq_true (by kernel_rfl)))
        have g30 : Only l H H26 := gO.grew g29
        have r31 := g29.at hcr
        clear st hE vs ls
        have row2 := g29.at row
        rw [List.drop_length, List.flatten_nil] at row2
        refine res_exit (id := 0) (by kernel_rfl) ?_
        refine run_mn (φ := φ0) (pm := pmR 0 [(.slSl 9 (.nd 0 .one) (some (.nd 1 (.int .i64))) none, .nd 2 .one), (.slSl 9 (.nd 0 .one) none (some (.nd 1 (.int .i64))), .nd 3 .one)] 0) 20 (nk := [(.atom 0, .one), (.atom 1, .int .i64), (.atom 2, .one), (.atom 3, .one)]) (fs := []) (xs := [.slice l 0 ms.length cap 9, .int .i64 (P.length : Int), .slice l (P.length * 9) (ms.length - P.length) (cap - P.length) 9, .slice l 0 P.length cap 9]) (ws := []) (env := [(0, .nd 0 .one), (5, .nd 1 (.int .i64))]) ?_ ?_ tb_ok ap_ok ?_
        · refine midN_in ?_ .nil _ ?_ ?_ ?_
          · exact (.cons rfl rfl (.cons rfl ⟨_, rfl⟩ (.cons rfl rfl (.cons rfl rfl .nil))))
          · exact .nil
          · exact sepOk_ro rfl
          · exact (.cons (rule_from (dNd rfl rfl) (dNd rfl ⟨_, rfl⟩) (dNd rfl rfl) (by omega) (by omega)) (.cons (rule_to (dNd rfl rfl) (dNd rfl ⟨_, rfl⟩) (dNd rfl rfl) (by omega)) .nil))
        · exact (envEq b27 (dNd rfl rfl) (envEq b28 (dNd rfl ⟨_, rfl⟩) envNil))
        refine all1 (by kernel_rfl) ?_
        intro vs ls H32 E32 st hE
        have b33 : E32 38 = .slice l (P.length * 9) (ms.length - P.length) (cap - P.length) 9 := env_of st.inn hE 38 (by kernel_rfl)
        have b34 : E32 0 = .slice l 0 ms.length cap 9 := env_of st.inn hE 0 (by kernel_rfl)
        have b35 : E32 5 = .int .i64 (P.length : Int) := env_of st.inn hE 5 (by kernel_rfl)
        have g36 : Grew H26 H32 := (st.kept.grew (Nat.le_of_ble_eq_true (by kernel_rfl)))
        have g37 : Only l H H32 := g30.grew g36
        clear st hE vs ls
        have row3 := g36.at row2
        refine res_clear (d := none) (sz := 9) (zs := [.int .i32 0, .int .i32 0, .int .i32 0, .flt .f32 (some 0), .flt .f32 (some 0), .flt .f32 (some 0), .flt .f32 (some 0), .int .i64 0, .int .i64 0]) (x := .tmp 38) (by kernel_rfl) (p := P.flatten) (C := J) (q := []) b33 row3 hPl (by rw [Nat.sub_mul]; omega) rfl rfl ?_
        intro H7 C7 row7 o7
        have gO7 := g37.trans o7
        refine run_mn (φ := φ0) (pm := pmR 0 [(.slSl 9 (.nd 0 .one) (some (.nd 1 (.int .i64))) none, .nd 2 .one), (.slSl 9 (.nd 0 .one) none (some (.nd 1 (.int .i64))), .nd 3 .one)] 0) 20 (nk := [(.atom 0, .one), (.atom 1, .int .i64), (.atom 2, .one), (.atom 3, .one)]) (fs := []) (xs := [.slice l 0 ms.length cap 9, .int .i64 (P.length : Int), .slice l (P.length * 9) (ms.length - P.length) (cap - P.length) 9, .slice l 0 P.length cap 9]) (ws := []) (env := [(38, .nd 2 .one), (0, .nd 0 .one), (5, .nd 1 (.int .i64))]) ?_ ?_ tb_ok ap_ok ?_
        · refine midN_in ?_ .nil _ ?_ ?_ ?_
          · exact (.cons rfl rfl (.cons rfl ⟨_, rfl⟩ (.cons rfl rfl (.cons rfl rfl .nil))))
          · exact .nil
          · exact sepOk_ro rfl
          · exact (.cons (rule_from (dNd rfl rfl) (dNd rfl ⟨_, rfl⟩) (dNd rfl rfl) (by omega) (by omega)) (.cons (rule_to (dNd rfl rfl) (dNd rfl ⟨_, rfl⟩) (dNd rfl rfl) (by omega)) .nil))
        · exact (envEq (put_no b33) (dNd rfl rfl) (envEq (put_no b34) (dNd rfl rfl) (envEq (put_no b35) (dNd rfl ⟨_, rfl⟩) envNil)))
        refine all1 (by kernel_rfl) ?_
        intro vs ls H9 E9 st hE
        have g9 : Grew H7 H9 := (st.kept.grew (Nat.le_of_ble_eq_true (by kernel_rfl)))
        have gz := gO7.grew g9
        have hfull : P = ms.filter (fun m => !lightB wt m) := by rw [hP, keepTo_full]
        exact res_ex (by kernel_rfl) (end_same st.inn hE (.inr rfl) (a := .slice l 0 P.length cap 9) (by kernel_rfl) gz.next ⟨.of_only gz, by rw [← hfull]; exact .sl (rest := C7 ++ []) (g9.at row7) rfl (by omega), fun l' hl => by rw [atS hl]; exact ⟨_, _, _, _, rfl⟩⟩)
end Go.Proofs.Ytgjhjemmddojfaa
