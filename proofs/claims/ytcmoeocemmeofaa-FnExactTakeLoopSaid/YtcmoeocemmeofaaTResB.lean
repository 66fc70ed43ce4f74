/- Contracts: what links are off, and costs. -/
import Derived.Test.YtcmoeocemmeofaaTPoseB
import Derived.Test.YtcmoeocemmeofaaTGraphF
import Derived.Test.YtcmoeocemmeofaaSxD
set_option linter.unusedVariables false
set_option linter.unusedSimpArgs false
namespace Go.Proofs.Ytcmoeocemmeofaa
open Go.Ab
set_option maxRecDepth 100000
set_option maxHeartbeats 1000000
attribute [local irreducible] Res
theorem k_residual (H : AHeap) (ms : List (List AV)) (hr : Recs KP ms) (S : AV) (hS : SlL H 3 ms S) (hmx : ms.length < 2 ^ 40) (Sk : AV) (hSk : Sk.one = true) (a b : Nat) (ha : a < ms.length) (hb : b < ms.length) (x y z u : Option Nat) (ox : fOk .f32 x) (oy : fOk .f32 y) (oz : fOk .f32 z) (ou : fOk .f32 u) : APure Try.prog 66 [.agg [S, Sk], .agg [.int .i64 (a : Int), .int .i64 (b : Int), .flt .f32 x, .flt .f32 y, .flt .f32 z, .flt .f32 u]] H (.agg (offF ms a b [.flt .f32 x, .flt .f32 y, .flt .f32 z])) := by
  refine res_start h_impl_PoseGraph_residual (by simp) ?_
  refine run_mn (φ := φ0) (pm := pmR 0 [] 0) 20 (nk := [(.atom 0, .one), (.atom 1, .one), (.atom 2, .int .i64), (.atom 3, .int .i64), (.atom 4, .flt .f32), (.atom 5, .flt .f32), (.atom 6, .flt .f32), (.atom 7, .flt .f32)]) (fs := []) (xs := [S, Sk, .int .i64 (a : Int), .int .i64 (b : Int), .flt .f32 x, .flt .f32 y, .flt .f32 z, .flt .f32 u]) (ws := []) (env := [(0, .agg [.nd 0 .one, .nd 1 .one]), (1, .agg [.nd 2 (.int .i64), .nd 3 (.int .i64), .nd 4 (.flt .f32), .nd 5 (.flt .f32), .nd 6 (.flt .f32), .nd 7 (.flt .f32)])]) ?_ ?_ tb_ok ap_ok ?_
  · refine midN_in ?_ .nil _ ?_ ?_ ?_
    · exact (.cons rfl (slOne hS) (.cons rfl hSk (.cons rfl ⟨_, rfl⟩ (.cons rfl ⟨_, rfl⟩ (.cons rfl ⟨_, rfl, ox⟩ (.cons rfl ⟨_, rfl, oy⟩ (.cons rfl ⟨_, rfl, oz⟩ (.cons rfl ⟨_, rfl, ou⟩ .nil))))))))
    · exact .nil
    · exact sepOk_ro rfl
    · exact .nil
  · exact (envEq rfl (dAgg (dlCons (dNd rfl (slOne hS)) (dlCons (dNd rfl hSk) dlNil))) (envEq rfl (dAgg (dlCons (dNd rfl ⟨_, rfl⟩) (dlCons (dNd rfl ⟨_, rfl⟩) (dlCons (dNd rfl ⟨_, rfl, ox⟩) (dlCons (dNd rfl ⟨_, rfl, oy⟩) (dlCons (dNd rfl ⟨_, rfl, oz⟩) (dlCons (dNd rfl ⟨_, rfl, ou⟩) dlNil))))))) envNil))
  refine all1 (by kernel_rfl) ?_
  intro vs ls H1 E1 st hE
  obtain ⟨p2, e3, r4, n5⟩ := ptr_of st.inn hE 2 0 (by kernel_rfl) (ds := [S, Sk]) (by kernel_rfl)
  have op2 : H.next ≤ p2 := Nat.le_trans (Nat.le_refl _) (n5 (Nat.le_of_ble_eq_true rfl))
  obtain ⟨p6, e7, r8, n9⟩ := ptr_of st.inn hE 3 1 (by kernel_rfl) (ds := [.int .i64 (a : Int), .int .i64 (b : Int), .flt .f32 x, .flt .f32 y, .flt .f32 z, .flt .f32 u]) (by kernel_rfl)
  have op6 : H.next ≤ p6 := Nat.le_trans (Nat.le_refl _) (n9 (Nat.le_of_ble_eq_true rfl))
  obtain ⟨p10, e11, r12, n13⟩ := ptr_of st.inn hE 4 2 (by kernel_rfl) (ds := [.flt .f32 (some 0), .flt .f32 (some 0), .flt .f32 (some 0)]) (by kernel_rfl)
  have op10 : H.next ≤ p10 := Nat.le_trans (Nat.le_refl _) (n13 (Nat.le_of_ble_eq_true rfl))
  have ne14 : Apart p2 p6 := ⟨ptr_ne st.inn hE 2 0 3 1 (by kernel_rfl) (by kernel_rfl) (cs := [.nd 0 .one, .nd 1 .one]) (by kernel_rfl) (by decide) e3 e7⟩
  have ne15 : Apart p2 p10 := ⟨ptr_ne st.inn hE 2 0 4 2 (by kernel_rfl) (by kernel_rfl) (cs := [.nd 0 .one, .nd 1 .one]) (by kernel_rfl) (by decide) e3 e11⟩
  have ne16 : Apart p6 p10 := ⟨ptr_ne st.inn hE 3 1 4 2 (by kernel_rfl) (by kernel_rfl) (cs := [.nd 2 (.int .i64), .nd 3 (.int .i64), .nd 4 (.flt .f32), .nd 5 (.flt .f32), .nd 6 (.flt .f32), .nd 7 (.flt .f32)]) (by kernel_rfl) (by decide) e7 e11⟩
  have b17 : E1 8 = S := env_of st.inn hE 8 (by kernel_rfl)
  have b18 : E1 10 = .int .i64 (a : Int) := env_of st.inn hE 10 (by kernel_rfl)
  have b19 : E1 6 = .agg [.flt .f32 x, .flt .f32 y, .flt .f32 z] := env_of st.inn hE 6 (by kernel_rfl)
  have g20 : Grew H H1 := (st.kept.grew (Nat.le_of_ble_eq_true (by kernel_rfl)))
  have g21 : Grew H H1 := Grew.trans (Grew.refl _) g20
  clear st hE vs ls
  have hlt22 : a < ms.length := by omega
  obtain ⟨lS22, cap22, rest22, wr22, eS22, gB22⟩ := hS.isSl hlt22
  have gS22 := g21.at gB22
  have ne23 : Apart p2 lS22 := ⟨Nat.ne_of_gt (Nat.lt_of_lt_of_le (H.lt_of_get gB22) op2)⟩
  have ne24 : Apart p6 lS22 := ⟨Nat.ne_of_gt (Nat.lt_of_lt_of_le (H.lt_of_get gB22) op6)⟩
  have ne25 : Apart p10 lS22 := ⟨Nat.ne_of_gt (Nat.lt_of_lt_of_le (H.lt_of_get gB22) op10)⟩
  obtain ⟨v22_0, v22_1, v22_2, hm22, ho22_0, ho22_1, ho22_2⟩ := partsPose (hr.get hlt22)
  have he22 : ms.getD a [] = [.flt .f32 v22_0, .flt .f32 v22_1, .flt .f32 v22_2] := by rw [← hm22]; simp [List.getD_eq_getElem?_getD, hlt22]
  refine run_mn (φ := φ0) (pm := pmR 4 [(.ia 3 (.nd 0 .one) (.nd 2 (.int .i64)), .ptr 3 0)] 0) 20 (nk := [(.atom 0, .one), (.atom 1, .one), (.atom 2, .int .i64), (.atom 3, .int .i64), (.atom 4, .flt .f32), (.atom 5, .flt .f32), (.atom 6, .flt .f32), (.atom 7, .flt .f32), (.atom 8, .flt .f32), (.atom 9, .flt .f32), (.atom 10, .flt .f32)]) (fs := []) (xs := [S, Sk, .int .i64 (a : Int), .int .i64 (b : Int), .flt .f32 x, .flt .f32 y, .flt .f32 z, .flt .f32 u, .flt .f32 v22_0, .flt .f32 v22_1, .flt .f32 v22_2]) (ws := [⟨p2, 0, [.nd 0 .one, .nd 1 .one], false⟩, ⟨p6, 0, [.nd 2 (.int .i64), .nd 3 (.int .i64), .nd 4 (.flt .f32), .nd 5 (.flt .f32), .nd 6 (.flt .f32), .nd 7 (.flt .f32)], false⟩, ⟨p10, 0, [.lit (.flt .f32 (some 0)), .lit (.flt .f32 (some 0)), .lit (.flt .f32 (some 0))], false⟩, ⟨lS22, (a * 3), [.nd 8 (.flt .f32), .nd 9 (.flt .f32), .nd 10 (.flt .f32)], false⟩]) (env := [(8, .nd 0 .one), (10, .nd 2 (.int .i64)), (2, .ptr 0 0), (3, .ptr 1 0), (6, .agg [.nd 4 (.flt .f32), .nd 5 (.flt .f32), .nd 6 (.flt .f32)]), (4, .ptr 2 0)]) ?_ ?_ tb_ok ap_ok ?_
  · refine midN_in ?_ .nil _ ?_ ?_ ?_
    · exact (.cons rfl (slOne hS) (.cons rfl hSk (.cons rfl ⟨_, rfl⟩ (.cons rfl ⟨_, rfl⟩ (.cons rfl ⟨_, rfl, ox⟩ (.cons rfl ⟨_, rfl, oy⟩ (.cons rfl ⟨_, rfl, oz⟩ (.cons rfl ⟨_, rfl, ou⟩ (.cons rfl ⟨_, rfl, ho22_0⟩ (.cons rfl ⟨_, rfl, ho22_1⟩ (.cons rfl ⟨_, rfl, ho22_2⟩ .nil)))))))))))
    · exact (.cons (win_row r4 (dlCons (dNd rfl (slOne hS)) (dlCons (dNd rfl hSk) dlNil))) (.cons (win_row r8 (dlCons (dNd rfl ⟨_, rfl⟩) (dlCons (dNd rfl ⟨_, rfl⟩) (dlCons (dNd rfl ⟨_, rfl, ox⟩) (dlCons (dNd rfl ⟨_, rfl, oy⟩) (dlCons (dNd rfl ⟨_, rfl, oz⟩) (dlCons (dNd rfl ⟨_, rfl, ou⟩) dlNil))))))) (.cons (win_row r12 (dlCons (dLit (by decide +kernel)) (dlCons (dLit (by decide +kernel)) (dlCons (dLit (by decide +kernel)) dlNil)))) (.cons (win_elem hr gS22 hlt22 rfl (by rw [hm22]; exact (dlCons (dNd rfl ⟨_, rfl, ho22_0⟩) (dlCons (dNd rfl ⟨_, rfl, ho22_1⟩) (dlCons (dNd rfl ⟨_, rfl, ho22_2⟩) dlNil))))) .nil))))
    · exact sepOk_ro rfl
    · exact (.cons (rule_iaS (k := a) (dNd rfl (slOne hS)) eS22 (dNd rfl ⟨_, rfl⟩) hlt22 rfl) .nil)
  · exact (envEq b17 (dNd rfl (slOne hS)) (envEq b18 (dNd rfl ⟨_, rfl⟩) (envEq e3 (dPtr (l := p2) (o := 0) rfl) (envEq e7 (dPtr (l := p6) (o := 0) rfl) (envEq b19 (dAgg (dlCons (dNd rfl ⟨_, rfl, ox⟩) (dlCons (dNd rfl ⟨_, rfl, oy⟩) (dlCons (dNd rfl ⟨_, rfl, oz⟩) dlNil)))) (envEq e11 (dPtr (l := p10) (o := 0) rfl) envNil))))))
  refine all1 (by kernel_rfl) ?_
  intro vs ls H26 E26 st hE
  have b27 : E26 14 = S := env_of st.inn hE 14 (by kernel_rfl)
  have b28 : E26 16 = .int .i64 (b : Int) := env_of st.inn hE 16 (by kernel_rfl)
  have b29 : E26 12 = .agg [.flt .f32 v22_0, .flt .f32 v22_1, .flt .f32 v22_2] := env_of st.inn hE 12 (by kernel_rfl)
  have b30 : E26 6 = .agg [.flt .f32 x, .flt .f32 y, .flt .f32 z] := env_of st.inn hE 6 (by kernel_rfl)
  have b31 : E26 4 = .ptr p10 0 := env_of st.inn hE 4 (by kernel_rfl)
  have g32 : Grew H1 H26 := (st.kept.grew (Nat.le_of_ble_eq_true (by kernel_rfl)))
  have g33 : Grew H H26 := Grew.trans g21 g32
  have r34 := g32.at r4
  have r35 := g32.at r8
  have r36 := g32.at r12
  clear st hE vs ls
  have hlt38 : b < ms.length := by omega
  obtain ⟨lS38, cap38, rest38, wr38, eS38, gB38⟩ := hS.isSl hlt38
  have gS38 := g33.at gB38
  have ne39 : Apart p10 lS38 := ⟨Nat.ne_of_gt (Nat.lt_of_lt_of_le (H.lt_of_get gB38) op10)⟩
  obtain ⟨v38_0, v38_1, v38_2, hm38, ho38_0, ho38_1, ho38_2⟩ := partsPose (hr.get hlt38)
  have he38 : ms.getD b [] = [.flt .f32 v38_0, .flt .f32 v38_1, .flt .f32 v38_2] := by rw [← hm38]; simp [List.getD_eq_getElem?_getD, hlt38]
  obtain ⟨r40_0, r40_1, r40_2, hmr40, or40_0, or40_1, or40_2⟩ := partsPose (betwF_ok [.flt .f32 v22_0, .flt .f32 v22_1, .flt .f32 v22_2] [.flt .f32 v38_0, .flt .f32 v38_1, .flt .f32 v38_2])
  obtain ⟨r41_0, r41_1, r41_2, hmr41, or41_0, or41_1, or41_2⟩ := partsPose (betwF_ok [.flt .f32 x, .flt .f32 y, .flt .f32 z] [.flt .f32 r40_0, .flt .f32 r40_1, .flt .f32 r40_2])
  refine run_mn (φ := φ0) (pm := pmR 1 [] 0) 20 (nk := [(.atom 0, .one), (.atom 1, .one), (.atom 2, .int .i64), (.atom 3, .int .i64), (.atom 4, .flt .f32), (.atom 5, .flt .f32), (.atom 6, .flt .f32), (.atom 7, .flt .f32), (.atom 8, .flt .f32), (.atom 9, .flt .f32), (.atom 10, .flt .f32), (.atom 11, .flt .f32), (.atom 12, .flt .f32), (.atom 13, .flt .f32), (.atom 14, .flt .f32), (.atom 15, .flt .f32), (.atom 16, .flt .f32), (.atom 17, .flt .f32), (.atom 18, .flt .f32), (.atom 19, .flt .f32)]) (fs := []) (xs := [S, Sk, .int .i64 (a : Int), .int .i64 (b : Int), .flt .f32 x, .flt .f32 y, .flt .f32 z, .flt .f32 u, .flt .f32 v22_0, .flt .f32 v22_1, .flt .f32 v22_2, .flt .f32 v38_0, .flt .f32 v38_1, .flt .f32 v38_2, .flt .f32 r40_0, .flt .f32 r40_1, .flt .f32 r40_2, .flt .f32 r41_0, .flt .f32 r41_1, .flt .f32 r41_2]) (ws := [⟨lS38, (b * 3), [.nd 11 (.flt .f32), .nd 12 (.flt .f32), .nd 13 (.flt .f32)], false⟩, ⟨p10, 0, [.lit (.flt .f32 (some 0)), .lit (.flt .f32 (some 0)), .lit (.flt .f32 (some 0))], true⟩]) (env := [(14, .nd 0 .one), (16, .nd 3 (.int .i64)), (12, .agg [.nd 8 (.flt .f32), .nd 9 (.flt .f32), .nd 10 (.flt .f32)]), (6, .agg [.nd 4 (.flt .f32), .nd 5 (.flt .f32), .nd 6 (.flt .f32)]), (4, .ptr 1 0)]) ?_ ?_ tb_ok ap_ok ?_
  · refine midN_in ?_ .nil _ ?_ ?_ ?_
    · exact (.cons rfl (slOne hS) (.cons rfl hSk (.cons rfl ⟨_, rfl⟩ (.cons rfl ⟨_, rfl⟩ (.cons rfl ⟨_, rfl, ox⟩ (.cons rfl ⟨_, rfl, oy⟩ (.cons rfl ⟨_, rfl, oz⟩ (.cons rfl ⟨_, rfl, ou⟩ (.cons rfl ⟨_, rfl, ho22_0⟩ (.cons rfl ⟨_, rfl, ho22_1⟩ (.cons rfl ⟨_, rfl, ho22_2⟩ (.cons rfl ⟨_, rfl, ho38_0⟩ (.cons rfl ⟨_, rfl, ho38_1⟩ (.cons rfl ⟨_, rfl, ho38_2⟩ (.cons rfl ⟨_, rfl, or40_0⟩ (.cons rfl ⟨_, rfl, or40_1⟩ (.cons rfl ⟨_, rfl, or40_2⟩ (.cons rfl ⟨_, rfl, or41_0⟩ (.cons rfl ⟨_, rfl, or41_1⟩ (.cons rfl ⟨_, rfl, or41_2⟩ .nil))))))))))))))))))))
    · exact (.cons (win_elem hr gS38 hlt38 rfl (by rw [hm38]; exact (dlCons (dNd rfl ⟨_, rfl, ho38_0⟩) (dlCons (dNd rfl ⟨_, rfl, ho38_1⟩) (dlCons (dNd rfl ⟨_, rfl, ho38_2⟩) dlNil))))) (.cons (win_own r36 (dlCons (dLit (by decide +kernel)) (dlCons (dLit (by decide +kernel)) (dlCons (dLit (by decide +kernel)) dlNil)))) .nil))
    · exact ⟨(fun v hv h => (by simp at hv; rcases hv with rfl <;> first | (simp at h; done) | exact Apart.ne (by assumption) | exact (Apart.ne (by assumption)).symm)), ⟨(fun v hv => (by cases hv)), trivial⟩⟩
    · exact .nil
  · exact (envEq b27 (dNd rfl (slOne hS)) (envEq b28 (dNd rfl ⟨_, rfl⟩) (envEq b29 (dAgg (dlCons (dNd rfl ⟨_, rfl, ho22_0⟩) (dlCons (dNd rfl ⟨_, rfl, ho22_1⟩) (dlCons (dNd rfl ⟨_, rfl, ho22_2⟩) dlNil)))) (envEq b30 (dAgg (dlCons (dNd rfl ⟨_, rfl, ox⟩) (dlCons (dNd rfl ⟨_, rfl, oy⟩) (dlCons (dNd rfl ⟨_, rfl, oz⟩) dlNil)))) (envEq b31 (dPtr (l := p10) (o := 0) rfl) envNil)))))
  refine all1 (by kernel_rfl) ?_
  intro vs ls H42 E42 st hE
  have b43 : E42 14 = S := env_of st.inn hE 14 (by kernel_rfl)
  have b44 : E42 16 = .int .i64 (b : Int) := env_of st.inn hE 16 (by kernel_rfl)
  have b45 : E42 12 = .agg [.flt .f32 v22_0, .flt .f32 v22_1, .flt .f32 v22_2] := env_of st.inn hE 12 (by kernel_rfl)
  have b46 : E42 6 = .agg [.flt .f32 x, .flt .f32 y, .flt .f32 z] := env_of st.inn hE 6 (by kernel_rfl)
  have b47 : E42 4 = .ptr p10 0 := env_of st.inn hE 4 (by kernel_rfl)
  have g48 : Grew H26 H42 := (st.kept.grew (Nat.le_of_ble_eq_true (by kernel_rfl)))
  have g49 : Grew H H42 := Grew.trans g33 g48
  have r51 := g48.at r36
  clear st hE vs ls
  have hlt52 : b < ms.length := by omega
  obtain ⟨lS52, cap52, rest52, wr52, eS52, gB52⟩ := hS.isSl hlt52
  have gS52 := g49.at gB52
  have ne53 : Apart p10 lS52 := ⟨Nat.ne_of_gt (Nat.lt_of_lt_of_le (H.lt_of_get gB52) op10)⟩
  obtain ⟨v52_0, v52_1, v52_2, hm52, ho52_0, ho52_1, ho52_2⟩ := partsPose (hr.get hlt52)
  have he52 : ms.getD b [] = [.flt .f32 v52_0, .flt .f32 v52_1, .flt .f32 v52_2] := by rw [← hm52]; simp [List.getD_eq_getElem?_getD, hlt52]
  have hq52 := he38.symm.trans he52
  simp only [List.cons.injEq, AV.flt.injEq, AV.int.injEq, Int.natCast_inj, true_and, and_true] at hq52
  obtain ⟨rfl, rfl, rfl⟩ := hq52
  refine run_mn (φ := φ0) (pm := pmR 1 [(.ia 3 (.nd 0 .one) (.nd 3 (.int .i64)), .ptr 0 0), (.call 100 [.agg [.nd 8 (.flt .f32), .nd 9 (.flt .f32), .nd 10 (.flt .f32)], .agg [.nd 20 (.flt .f32), .nd 21 (.flt .f32), .nd 22 (.flt .f32)]], .agg [.nd 14 (.flt .f32), .nd 15 (.flt .f32), .nd 16 (.flt .f32)]), (.call 100 [.agg [.nd 4 (.flt .f32), .nd 5 (.flt .f32), .nd 6 (.flt .f32)], .agg [.nd 14 (.flt .f32), .nd 15 (.flt .f32), .nd 16 (.flt .f32)]], .agg [.nd 17 (.flt .f32), .nd 18 (.flt .f32), .nd 19 (.flt .f32)])] 0) 20 (nk := [(.atom 0, .one), (.atom 1, .one), (.atom 2, .int .i64), (.atom 3, .int .i64), (.atom 4, .flt .f32), (.atom 5, .flt .f32), (.atom 6, .flt .f32), (.atom 7, .flt .f32), (.atom 8, .flt .f32), (.atom 9, .flt .f32), (.atom 10, .flt .f32), (.atom 11, .flt .f32), (.atom 12, .flt .f32), (.atom 13, .flt .f32), (.atom 14, .flt .f32), (.atom 15, .flt .f32), (.atom 16, .flt .f32), (.atom 17, .flt .f32), (.atom 18, .flt .f32), (.atom 19, .flt .f32), (.atom 20, .flt .f32), (.atom 21, .flt .f32), (.atom 22, .flt .f32)]) (fs := []) (xs := [S, Sk, .int .i64 (a : Int), .int .i64 (b : Int), .flt .f32 x, .flt .f32 y, .flt .f32 z, .flt .f32 u, .flt .f32 v22_0, .flt .f32 v22_1, .flt .f32 v22_2, .flt .f32 v38_0, .flt .f32 v38_1, .flt .f32 v38_2, .flt .f32 r40_0, .flt .f32 r40_1, .flt .f32 r40_2, .flt .f32 r41_0, .flt .f32 r41_1, .flt .f32 r41_2, .flt .f32 v38_0, .flt .f32 v38_1, .flt .f32 v38_2]) (ws := [⟨lS52, (b * 3), [.nd 20 (.flt .f32), .nd 21 (.flt .f32), .nd 22 (.flt .f32)], false⟩, ⟨p10, 0, [.lit (.flt .f32 (some 0)), .lit (.flt .f32 (some 0)), .lit (.flt .f32 (some 0))], true⟩]) (env := [(14, .nd 0 .one), (16, .nd 3 (.int .i64)), (12, .agg [.nd 8 (.flt .f32), .nd 9 (.flt .f32), .nd 10 (.flt .f32)]), (6, .agg [.nd 4 (.flt .f32), .nd 5 (.flt .f32), .nd 6 (.flt .f32)]), (4, .ptr 1 0)]) ?_ ?_ tb_ok ap_ok ?_
  · refine midN_in ?_ .nil _ ?_ ?_ ?_
    · exact (.cons rfl (slOne hS) (.cons rfl hSk (.cons rfl ⟨_, rfl⟩ (.cons rfl ⟨_, rfl⟩ (.cons rfl ⟨_, rfl, ox⟩ (.cons rfl ⟨_, rfl, oy⟩ (.cons rfl ⟨_, rfl, oz⟩ (.cons rfl ⟨_, rfl, ou⟩ (.cons rfl ⟨_, rfl, ho22_0⟩ (.cons rfl ⟨_, rfl, ho22_1⟩ (.cons rfl ⟨_, rfl, ho22_2⟩ (.cons rfl ⟨_, rfl, ho38_0⟩ (.cons rfl ⟨_, rfl, ho38_1⟩ (.cons rfl ⟨_, rfl, ho38_2⟩ (.cons rfl ⟨_, rfl, or40_0⟩ (.cons rfl ⟨_, rfl, or40_1⟩ (.cons rfl ⟨_, rfl, or40_2⟩ (.cons rfl ⟨_, rfl, or41_0⟩ (.cons rfl ⟨_, rfl, or41_1⟩ (.cons rfl ⟨_, rfl, or41_2⟩ (.cons rfl ⟨_, rfl, ho52_0⟩ (.cons rfl ⟨_, rfl, ho52_1⟩ (.cons rfl ⟨_, rfl, ho52_2⟩ .nil)))))))))))))))))))))))
    · exact (.cons (win_elem hr gS52 hlt52 rfl (by rw [hm52]; exact (dlCons (dNd rfl ⟨_, rfl, ho52_0⟩) (dlCons (dNd rfl ⟨_, rfl, ho52_1⟩) (dlCons (dNd rfl ⟨_, rfl, ho52_2⟩) dlNil))))) (.cons (win_own r51 (dlCons (dLit (by decide +kernel)) (dlCons (dLit (by decide +kernel)) (dlCons (dLit (by decide +kernel)) dlNil)))) .nil))
    · exact ⟨(fun v hv h => (by simp at hv; rcases hv with rfl <;> first | (simp at h; done) | exact Apart.ne (by assumption) | exact (Apart.ne (by assumption)).symm)), ⟨(fun v hv => (by cases hv)), trivial⟩⟩
    · exact (.cons (rule_iaS (k := b) (dNd rfl (slOne hS)) eS52 (dNd rfl ⟨_, rfl⟩) hlt52 rfl) (.cons (rule_call (args := [.agg [.flt .f32 v22_0, .flt .f32 v22_1, .flt .f32 v22_2], .agg [.flt .f32 v38_0, .flt .f32 v38_1, .flt .f32 v38_2]]) (dlCons (dAgg (dlCons (dNd rfl ⟨_, rfl, ho22_0⟩) (dlCons (dNd rfl ⟨_, rfl, ho22_1⟩) (dlCons (dNd rfl ⟨_, rfl, ho22_2⟩) dlNil)))) (dlCons (dAgg (dlCons (dNd rfl ⟨_, rfl, ho52_0⟩) (dlCons (dNd rfl ⟨_, rfl, ho52_1⟩) (dlCons (dNd rfl ⟨_, rfl, ho52_2⟩) dlNil)))) dlNil)) (dAgg (dlCons (dNd rfl ⟨_, rfl, or40_0⟩) (dlCons (dNd rfl ⟨_, rfl, or40_1⟩) (dlCons (dNd rfl ⟨_, rfl, or40_2⟩) dlNil)))) (fun H9 hk => (by rw [← hmr40]; exact k_StepBetween [.flt .f32 v22_0, .flt .f32 v22_1, .flt .f32 v22_2] [.flt .f32 v38_0, .flt .f32 v38_1, .flt .f32 v38_2] (.cons ⟨_, rfl, ho22_0⟩ (.cons ⟨_, rfl, ho22_1⟩ (.cons ⟨_, rfl, ho22_2⟩ .nil))) (.cons ⟨_, rfl, ho52_0⟩ (.cons ⟨_, rfl, ho52_1⟩ (.cons ⟨_, rfl, ho52_2⟩ .nil))) H9))) (.cons (rule_call (args := [.agg [.flt .f32 x, .flt .f32 y, .flt .f32 z], .agg [.flt .f32 r40_0, .flt .f32 r40_1, .flt .f32 r40_2]]) (dlCons (dAgg (dlCons (dNd rfl ⟨_, rfl, ox⟩) (dlCons (dNd rfl ⟨_, rfl, oy⟩) (dlCons (dNd rfl ⟨_, rfl, oz⟩) dlNil)))) (dlCons (dAgg (dlCons (dNd rfl ⟨_, rfl, or40_0⟩) (dlCons (dNd rfl ⟨_, rfl, or40_1⟩) (dlCons (dNd rfl ⟨_, rfl, or40_2⟩) dlNil)))) dlNil)) (dAgg (dlCons (dNd rfl ⟨_, rfl, or41_0⟩) (dlCons (dNd rfl ⟨_, rfl, or41_1⟩) (dlCons (dNd rfl ⟨_, rfl, or41_2⟩) dlNil)))) (fun H9 hk => (by rw [← hmr41]; exact k_StepBetween [.flt .f32 x, .flt .f32 y, .flt .f32 z] [.flt .f32 r40_0, .flt .f32 r40_1, .flt .f32 r40_2] (.cons ⟨_, rfl, ox⟩ (.cons ⟨_, rfl, oy⟩ (.cons ⟨_, rfl, oz⟩ .nil))) (.cons ⟨_, rfl, or40_0⟩ (.cons ⟨_, rfl, or40_1⟩ (.cons ⟨_, rfl, or40_2⟩ .nil))) H9))) .nil)))
  · exact (envEq b43 (dNd rfl (slOne hS)) (envEq b44 (dNd rfl ⟨_, rfl⟩) (envEq b45 (dAgg (dlCons (dNd rfl ⟨_, rfl, ho22_0⟩) (dlCons (dNd rfl ⟨_, rfl, ho22_1⟩) (dlCons (dNd rfl ⟨_, rfl, ho22_2⟩) dlNil)))) (envEq b46 (dAgg (dlCons (dNd rfl ⟨_, rfl, ox⟩) (dlCons (dNd rfl ⟨_, rfl, oy⟩) (dlCons (dNd rfl ⟨_, rfl, oz⟩) dlNil)))) (envEq b47 (dPtr (l := p10) (o := 0) rfl) envNil)))))
  refine all1 (by kernel_rfl) ?_
  intro vs ls H54 E54 st hE
  refine res_ex (by kernel_rfl) (end_flat st.inn hE (.inr rfl) (a := .agg [.flt .f32 r41_0, .flt .f32 r41_1, .flt .f32 r41_2]) (by kernel_rfl) (grew_own g49 (st.inn.kept) ⟨op10, trivial⟩) rfl ⟨?_, rfl⟩)
  unfold offF; rw [he22, he52, hmr40, hmr41]
theorem k_l06Off (H : AHeap) (ms : List (List AV)) (hr : Recs KP ms) (S : AV) (hS : SlL H 3 ms S) (hmx : ms.length < 2 ^ 40) (Sk : AV) (hSk : Sk.one = true) (a b : Nat) (ha : a < ms.length) (hb : b < ms.length) (x y z u : Option Nat) (ox : fOk .f32 x) (oy : fOk .f32 y) (oz : fOk .f32 z) (ou : fOk .f32 u) (lg : Nat) (hg : H.get lg = some (.row [S, Sk] true)) (l off : Nat) (pre post : List AV) (wr : Bool) (hx : H.get l = some (.row (pre ++ ([.int .i64 (a : Int), .int .i64 (b : Int), .flt .f32 x, .flt .f32 y, .flt .f32 z, .flt .f32 u] ++ post)) wr)) (hp : pre.length = off) : APure Try.prog 63 [.ptr lg 0, .ptr l off] H (.agg (offF ms a b [.flt .f32 x, .flt .f32 y, .flt .f32 z])) := by
  refine res_start h_spec_l06Off (by simp) ?_
  refine run_mn (φ := φ0) (pm := pmR 2 [] 0) 20 (nk := [(.atom 0, .one), (.atom 1, .one), (.atom 2, .int .i64), (.atom 3, .int .i64), (.atom 4, .flt .f32), (.atom 5, .flt .f32), (.atom 6, .flt .f32), (.atom 7, .flt .f32)]) (fs := []) (xs := [S, Sk, .int .i64 (a : Int), .int .i64 (b : Int), .flt .f32 x, .flt .f32 y, .flt .f32 z, .flt .f32 u]) (ws := [⟨lg, 0, [.nd 0 .one, .nd 1 .one], false⟩, ⟨l, off, [.nd 2 (.int .i64), .nd 3 (.int .i64), .nd 4 (.flt .f32), .nd 5 (.flt .f32), .nd 6 (.flt .f32), .nd 7 (.flt .f32)], false⟩]) (env := [(0, .ptr 0 0), (1, .ptr 1 0)]) ?_ ?_ tb_ok ap_ok ?_
  · refine midN_in ?_ .nil _ ?_ ?_ ?_
    · exact (.cons rfl (slOne hS) (.cons rfl hSk (.cons rfl ⟨_, rfl⟩ (.cons rfl ⟨_, rfl⟩ (.cons rfl ⟨_, rfl, ox⟩ (.cons rfl ⟨_, rfl, oy⟩ (.cons rfl ⟨_, rfl, oz⟩ (.cons rfl ⟨_, rfl, ou⟩ .nil))))))))
    · exact (.cons (win_row hg (dlCons (dNd rfl (slOne hS)) (dlCons (dNd rfl hSk) dlNil))) (.cons (win_mid hx hp (dlCons (dNd rfl ⟨_, rfl⟩) (dlCons (dNd rfl ⟨_, rfl⟩) (dlCons (dNd rfl ⟨_, rfl, ox⟩) (dlCons (dNd rfl ⟨_, rfl, oy⟩) (dlCons (dNd rfl ⟨_, rfl, oz⟩) (dlCons (dNd rfl ⟨_, rfl, ou⟩) dlNil))))))) .nil))
    · exact sepOk_ro rfl
    · exact .nil
  · exact (envEq rfl (dPtr (l := lg) (o := 0) rfl) (envEq rfl (dPtr (l := l) (o := off) rfl) envNil))
  refine all1 (by kernel_rfl) ?_
  intro vs ls H1 E1 st hE
  obtain ⟨p2, e3, r4, n5⟩ := ptr_of st.inn hE 4 2 (by kernel_rfl) (ds := [.flt .f32 (some 0), .flt .f32 (some 0), .flt .f32 (some 0)]) (by kernel_rfl)
  have op2 : H.next ≤ p2 := Nat.le_trans (Nat.le_refl _) (n5 (Nat.le_of_ble_eq_true rfl))
  have ne6 : Apart p2 lg := ⟨Nat.ne_of_gt (Nat.lt_of_lt_of_le (H.lt_of_get hg) (n5 (Nat.le_of_ble_eq_true rfl)))⟩
  have b7 : E1 12 = S := env_of st.inn hE 12 (by kernel_rfl)
  have b8 : E1 16 = .int .i64 (a : Int) := env_of st.inn hE 16 (by kernel_rfl)
  have b9 : E1 0 = .ptr lg 0 := env_of st.inn hE 0 (by kernel_rfl)
  have b10 : E1 1 = .ptr l (off + 0) := env_of st.inn hE 1 (by kernel_rfl)
  have b11 : E1 8 = .agg [.flt .f32 x, .flt .f32 y, .flt .f32 z] := env_of st.inn hE 8 (by kernel_rfl)
  have g12 : Grew H H1 := (st.kept.grew (Nat.le_of_ble_eq_true (by kernel_rfl)))
  have g13 : Grew H H1 := Grew.trans (Grew.refl _) g12
  have r14 := g12.at hg
  have r15 := g12.at hx
  clear st hE vs ls
  have hlt16 : a < ms.length := by omega
  obtain ⟨lS16, cap16, rest16, wr16, eS16, gB16⟩ := hS.isSl hlt16
  have gS16 := g13.at gB16
  have ne17 : Apart p2 lS16 := ⟨Nat.ne_of_gt (Nat.lt_of_lt_of_le (H.lt_of_get gB16) op2)⟩
  obtain ⟨v16_0, v16_1, v16_2, hm16, ho16_0, ho16_1, ho16_2⟩ := partsPose (hr.get hlt16)
  have he16 : ms.getD a [] = [.flt .f32 v16_0, .flt .f32 v16_1, .flt .f32 v16_2] := by rw [← hm16]; simp [List.getD_eq_getElem?_getD, hlt16]
  refine run_mn (φ := φ0) (pm := pmR 4 [(.ia 3 (.nd 0 .one) (.nd 2 (.int .i64)), .ptr 3 0)] 0) 20 (nk := [(.atom 0, .one), (.atom 1, .one), (.atom 2, .int .i64), (.atom 3, .int .i64), (.atom 4, .flt .f32), (.atom 5, .flt .f32), (.atom 6, .flt .f32), (.atom 7, .flt .f32), (.atom 8, .flt .f32), (.atom 9, .flt .f32), (.atom 10, .flt .f32)]) (fs := []) (xs := [S, Sk, .int .i64 (a : Int), .int .i64 (b : Int), .flt .f32 x, .flt .f32 y, .flt .f32 z, .flt .f32 u, .flt .f32 v16_0, .flt .f32 v16_1, .flt .f32 v16_2]) (ws := [⟨lg, 0, [.nd 0 .one, .nd 1 .one], false⟩, ⟨l, off, [.nd 2 (.int .i64), .nd 3 (.int .i64), .nd 4 (.flt .f32), .nd 5 (.flt .f32), .nd 6 (.flt .f32), .nd 7 (.flt .f32)], false⟩, ⟨p2, 0, [.lit (.flt .f32 (some 0)), .lit (.flt .f32 (some 0)), .lit (.flt .f32 (some 0))], false⟩, ⟨lS16, (a * 3), [.nd 8 (.flt .f32), .nd 9 (.flt .f32), .nd 10 (.flt .f32)], false⟩]) (env := [(12, .nd 0 .one), (16, .nd 2 (.int .i64)), (0, .ptr 0 0), (1, .ptr 1 0), (8, .agg [.nd 4 (.flt .f32), .nd 5 (.flt .f32), .nd 6 (.flt .f32)]), (4, .ptr 2 0)]) ?_ ?_ tb_ok ap_ok ?_
  · refine midN_in ?_ .nil _ ?_ ?_ ?_
    · exact (.cons rfl (slOne hS) (.cons rfl hSk (.cons rfl ⟨_, rfl⟩ (.cons rfl ⟨_, rfl⟩ (.cons rfl ⟨_, rfl, ox⟩ (.cons rfl ⟨_, rfl, oy⟩ (.cons rfl ⟨_, rfl, oz⟩ (.cons rfl ⟨_, rfl, ou⟩ (.cons rfl ⟨_, rfl, ho16_0⟩ (.cons rfl ⟨_, rfl, ho16_1⟩ (.cons rfl ⟨_, rfl, ho16_2⟩ .nil)))))))))))
    · exact (.cons (win_row r14 (dlCons (dNd rfl (slOne hS)) (dlCons (dNd rfl hSk) dlNil))) (.cons (win_mid r15 hp (dlCons (dNd rfl ⟨_, rfl⟩) (dlCons (dNd rfl ⟨_, rfl⟩) (dlCons (dNd rfl ⟨_, rfl, ox⟩) (dlCons (dNd rfl ⟨_, rfl, oy⟩) (dlCons (dNd rfl ⟨_, rfl, oz⟩) (dlCons (dNd rfl ⟨_, rfl, ou⟩) dlNil))))))) (.cons (win_row r4 (dlCons (dLit (by decide +kernel)) (dlCons (dLit (by decide +kernel)) (dlCons (dLit (by decide +kernel)) dlNil)))) (.cons (win_elem hr gS16 hlt16 rfl (by rw [hm16]; exact (dlCons (dNd rfl ⟨_, rfl, ho16_0⟩) (dlCons (dNd rfl ⟨_, rfl, ho16_1⟩) (dlCons (dNd rfl ⟨_, rfl, ho16_2⟩) dlNil))))) .nil))))
    · exact sepOk_ro rfl
    · exact (.cons (rule_iaS (k := a) (dNd rfl (slOne hS)) eS16 (dNd rfl ⟨_, rfl⟩) hlt16 rfl) .nil)
  · exact (envEq b7 (dNd rfl (slOne hS)) (envEq b8 (dNd rfl ⟨_, rfl⟩) (envEq b9 (dPtr (l := lg) (o := 0) rfl) (envEq b10 (dPtr (l := l) (o := off) rfl) (envEq b11 (dAgg (dlCons (dNd rfl ⟨_, rfl, ox⟩) (dlCons (dNd rfl ⟨_, rfl, oy⟩) (dlCons (dNd rfl ⟨_, rfl, oz⟩) dlNil)))) (envEq e3 (dPtr (l := p2) (o := 0) rfl) envNil))))))
  refine all1 (by kernel_rfl) ?_
  intro vs ls H18 E18 st hE
  have b19 : E18 22 = S := env_of st.inn hE 22 (by kernel_rfl)
  have b20 : E18 26 = .int .i64 (b : Int) := env_of st.inn hE 26 (by kernel_rfl)
  have b21 : E18 18 = .agg [.flt .f32 v16_0, .flt .f32 v16_1, .flt .f32 v16_2] := env_of st.inn hE 18 (by kernel_rfl)
  have b22 : E18 8 = .agg [.flt .f32 x, .flt .f32 y, .flt .f32 z] := env_of st.inn hE 8 (by kernel_rfl)
  have b23 : E18 4 = .ptr p2 0 := env_of st.inn hE 4 (by kernel_rfl)
  have g24 : Grew H1 H18 := (st.kept.grew (Nat.le_of_ble_eq_true (by kernel_rfl)))
  have g25 : Grew H H18 := Grew.trans g13 g24
  have r26 := g24.at r14
  have r28 := g24.at r4
  clear st hE vs ls
  have hlt30 : b < ms.length := by omega
  obtain ⟨lS30, cap30, rest30, wr30, eS30, gB30⟩ := hS.isSl hlt30
  have gS30 := g25.at gB30
  have ne31 : Apart p2 lS30 := ⟨Nat.ne_of_gt (Nat.lt_of_lt_of_le (H.lt_of_get gB30) op2)⟩
  obtain ⟨v30_0, v30_1, v30_2, hm30, ho30_0, ho30_1, ho30_2⟩ := partsPose (hr.get hlt30)
  have he30 : ms.getD b [] = [.flt .f32 v30_0, .flt .f32 v30_1, .flt .f32 v30_2] := by rw [← hm30]; simp [List.getD_eq_getElem?_getD, hlt30]
  obtain ⟨r32_0, r32_1, r32_2, hmr32, or32_0, or32_1, or32_2⟩ := partsPose (betwF_ok [.flt .f32 v16_0, .flt .f32 v16_1, .flt .f32 v16_2] [.flt .f32 v30_0, .flt .f32 v30_1, .flt .f32 v30_2])
  obtain ⟨r33_0, r33_1, r33_2, hmr33, or33_0, or33_1, or33_2⟩ := partsPose (betwF_ok [.flt .f32 x, .flt .f32 y, .flt .f32 z] [.flt .f32 r32_0, .flt .f32 r32_1, .flt .f32 r32_2])
  refine run_mn (φ := φ0) (pm := pmR 1 [] 0) 20 (nk := [(.atom 0, .one), (.atom 1, .one), (.atom 2, .int .i64), (.atom 3, .int .i64), (.atom 4, .flt .f32), (.atom 5, .flt .f32), (.atom 6, .flt .f32), (.atom 7, .flt .f32), (.atom 8, .flt .f32), (.atom 9, .flt .f32), (.atom 10, .flt .f32), (.atom 11, .flt .f32), (.atom 12, .flt .f32), (.atom 13, .flt .f32), (.atom 14, .flt .f32), (.atom 15, .flt .f32), (.atom 16, .flt .f32), (.atom 17, .flt .f32), (.atom 18, .flt .f32), (.atom 19, .flt .f32)]) (fs := []) (xs := [S, Sk, .int .i64 (a : Int), .int .i64 (b : Int), .flt .f32 x, .flt .f32 y, .flt .f32 z, .flt .f32 u, .flt .f32 v16_0, .flt .f32 v16_1, .flt .f32 v16_2, .flt .f32 v30_0, .flt .f32 v30_1, .flt .f32 v30_2, .flt .f32 r32_0, .flt .f32 r32_1, .flt .f32 r32_2, .flt .f32 r33_0, .flt .f32 r33_1, .flt .f32 r33_2]) (ws := [⟨lS30, (b * 3), [.nd 11 (.flt .f32), .nd 12 (.flt .f32), .nd 13 (.flt .f32)], false⟩, ⟨p2, 0, [.lit (.flt .f32 (some 0)), .lit (.flt .f32 (some 0)), .lit (.flt .f32 (some 0))], true⟩]) (env := [(22, .nd 0 .one), (26, .nd 3 (.int .i64)), (18, .agg [.nd 8 (.flt .f32), .nd 9 (.flt .f32), .nd 10 (.flt .f32)]), (8, .agg [.nd 4 (.flt .f32), .nd 5 (.flt .f32), .nd 6 (.flt .f32)]), (4, .ptr 1 0)]) ?_ ?_ tb_ok ap_ok ?_
  · refine midN_in ?_ .nil _ ?_ ?_ ?_
    · exact (.cons rfl (slOne hS) (.cons rfl hSk (.cons rfl ⟨_, rfl⟩ (.cons rfl ⟨_, rfl⟩ (.cons rfl ⟨_, rfl, ox⟩ (.cons rfl ⟨_, rfl, oy⟩ (.cons rfl ⟨_, rfl, oz⟩ (.cons rfl ⟨_, rfl, ou⟩ (.cons rfl ⟨_, rfl, ho16_0⟩ (.cons rfl ⟨_, rfl, ho16_1⟩ (.cons rfl ⟨_, rfl, ho16_2⟩ (.cons rfl ⟨_, rfl, ho30_0⟩ (.cons rfl ⟨_, rfl, ho30_1⟩ (.cons rfl ⟨_, rfl, ho30_2⟩ (.cons rfl ⟨_, rfl, or32_0⟩ (.cons rfl ⟨_, rfl, or32_1⟩ (.cons rfl ⟨_, rfl, or32_2⟩ (.cons rfl ⟨_, rfl, or33_0⟩ (.cons rfl ⟨_, rfl, or33_1⟩ (.cons rfl ⟨_, rfl, or33_2⟩ .nil))))))))))))))))))))
    · exact (.cons (win_elem hr gS30 hlt30 rfl (by rw [hm30]; exact (dlCons (dNd rfl ⟨_, rfl, ho30_0⟩) (dlCons (dNd rfl ⟨_, rfl, ho30_1⟩) (dlCons (dNd rfl ⟨_, rfl, ho30_2⟩) dlNil))))) (.cons (win_own r28 (dlCons (dLit (by decide +kernel)) (dlCons (dLit (by decide +kernel)) (dlCons (dLit (by decide +kernel)) dlNil)))) .nil))
    · exact ⟨(fun v hv h => (by simp at hv; rcases hv with rfl <;> first | (simp at h; done) | exact Apart.ne (by assumption) | exact (Apart.ne (by assumption)).symm)), ⟨(fun v hv => (by cases hv)), trivial⟩⟩
    · exact .nil
  · exact (envEq b19 (dNd rfl (slOne hS)) (envEq b20 (dNd rfl ⟨_, rfl⟩) (envEq b21 (dAgg (dlCons (dNd rfl ⟨_, rfl, ho16_0⟩) (dlCons (dNd rfl ⟨_, rfl, ho16_1⟩) (dlCons (dNd rfl ⟨_, rfl, ho16_2⟩) dlNil)))) (envEq b22 (dAgg (dlCons (dNd rfl ⟨_, rfl, ox⟩) (dlCons (dNd rfl ⟨_, rfl, oy⟩) (dlCons (dNd rfl ⟨_, rfl, oz⟩) dlNil)))) (envEq b23 (dPtr (l := p2) (o := 0) rfl) envNil)))))
  refine all1 (by kernel_rfl) ?_
  intro vs ls H34 E34 st hE
  have b35 : E34 22 = S := env_of st.inn hE 22 (by kernel_rfl)
  have b36 : E34 26 = .int .i64 (b : Int) := env_of st.inn hE 26 (by kernel_rfl)
  have b37 : E34 18 = .agg [.flt .f32 v16_0, .flt .f32 v16_1, .flt .f32 v16_2] := env_of st.inn hE 18 (by kernel_rfl)
  have b38 : E34 8 = .agg [.flt .f32 x, .flt .f32 y, .flt .f32 z] := env_of st.inn hE 8 (by kernel_rfl)
  have b39 : E34 4 = .ptr p2 0 := env_of st.inn hE 4 (by kernel_rfl)
  have g40 : Grew H18 H34 := (st.kept.grew (Nat.le_of_ble_eq_true (by kernel_rfl)))
  have g41 : Grew H H34 := Grew.trans g25 g40
  have r43 := g40.at r28
  clear st hE vs ls
  have hlt44 : b < ms.length := by omega
  obtain ⟨lS44, cap44, rest44, wr44, eS44, gB44⟩ := hS.isSl hlt44
  have gS44 := g41.at gB44
  have ne45 : Apart p2 lS44 := ⟨Nat.ne_of_gt (Nat.lt_of_lt_of_le (H.lt_of_get gB44) op2)⟩
  obtain ⟨v44_0, v44_1, v44_2, hm44, ho44_0, ho44_1, ho44_2⟩ := partsPose (hr.get hlt44)
  have he44 : ms.getD b [] = [.flt .f32 v44_0, .flt .f32 v44_1, .flt .f32 v44_2] := by rw [← hm44]; simp [List.getD_eq_getElem?_getD, hlt44]
  have hq44 := he30.symm.trans he44
  simp only [List.cons.injEq, AV.flt.injEq, AV.int.injEq, Int.natCast_inj, true_and, and_true] at hq44
  obtain ⟨rfl, rfl, rfl⟩ := hq44
  refine run_mn (φ := φ0) (pm := pmR 1 [(.ia 3 (.nd 0 .one) (.nd 3 (.int .i64)), .ptr 0 0), (.call 95 [.agg [.nd 8 (.flt .f32), .nd 9 (.flt .f32), .nd 10 (.flt .f32)], .agg [.nd 20 (.flt .f32), .nd 21 (.flt .f32), .nd 22 (.flt .f32)]], .agg [.nd 14 (.flt .f32), .nd 15 (.flt .f32), .nd 16 (.flt .f32)]), (.call 95 [.agg [.nd 4 (.flt .f32), .nd 5 (.flt .f32), .nd 6 (.flt .f32)], .agg [.nd 14 (.flt .f32), .nd 15 (.flt .f32), .nd 16 (.flt .f32)]], .agg [.nd 17 (.flt .f32), .nd 18 (.flt .f32), .nd 19 (.flt .f32)])] 0) 20 (nk := [(.atom 0, .one), (.atom 1, .one), (.atom 2, .int .i64), (.atom 3, .int .i64), (.atom 4, .flt .f32), (.atom 5, .flt .f32), (.atom 6, .flt .f32), (.atom 7, .flt .f32), (.atom 8, .flt .f32), (.atom 9, .flt .f32), (.atom 10, .flt .f32), (.atom 11, .flt .f32), (.atom 12, .flt .f32), (.atom 13, .flt .f32), (.atom 14, .flt .f32), (.atom 15, .flt .f32), (.atom 16, .flt .f32), (.atom 17, .flt .f32), (.atom 18, .flt .f32), (.atom 19, .flt .f32), (.atom 20, .flt .f32), (.atom 21, .flt .f32), (.atom 22, .flt .f32)]) (fs := []) (xs := [S, Sk, .int .i64 (a : Int), .int .i64 (b : Int), .flt .f32 x, .flt .f32 y, .flt .f32 z, .flt .f32 u, .flt .f32 v16_0, .flt .f32 v16_1, .flt .f32 v16_2, .flt .f32 v30_0, .flt .f32 v30_1, .flt .f32 v30_2, .flt .f32 r32_0, .flt .f32 r32_1, .flt .f32 r32_2, .flt .f32 r33_0, .flt .f32 r33_1, .flt .f32 r33_2, .flt .f32 v30_0, .flt .f32 v30_1, .flt .f32 v30_2]) (ws := [⟨lS44, (b * 3), [.nd 20 (.flt .f32), .nd 21 (.flt .f32), .nd 22 (.flt .f32)], false⟩, ⟨p2, 0, [.lit (.flt .f32 (some 0)), .lit (.flt .f32 (some 0)), .lit (.flt .f32 (some 0))], true⟩]) (env := [(22, .nd 0 .one), (26, .nd 3 (.int .i64)), (18, .agg [.nd 8 (.flt .f32), .nd 9 (.flt .f32), .nd 10 (.flt .f32)]), (8, .agg [.nd 4 (.flt .f32), .nd 5 (.flt .f32), .nd 6 (.flt .f32)]), (4, .ptr 1 0)]) ?_ ?_ tb_ok ap_ok ?_
  · refine midN_in ?_ .nil _ ?_ ?_ ?_
    · exact (.cons rfl (slOne hS) (.cons rfl hSk (.cons rfl ⟨_, rfl⟩ (.cons rfl ⟨_, rfl⟩ (.cons rfl ⟨_, rfl, ox⟩ (.cons rfl ⟨_, rfl, oy⟩ (.cons rfl ⟨_, rfl, oz⟩ (.cons rfl ⟨_, rfl, ou⟩ (.cons rfl ⟨_, rfl, ho16_0⟩ (.cons rfl ⟨_, rfl, ho16_1⟩ (.cons rfl ⟨_, rfl, ho16_2⟩ (.cons rfl ⟨_, rfl, ho30_0⟩ (.cons rfl ⟨_, rfl, ho30_1⟩ (.cons rfl ⟨_, rfl, ho30_2⟩ (.cons rfl ⟨_, rfl, or32_0⟩ (.cons rfl ⟨_, rfl, or32_1⟩ (.cons rfl ⟨_, rfl, or32_2⟩ (.cons rfl ⟨_, rfl, or33_0⟩ (.cons rfl ⟨_, rfl, or33_1⟩ (.cons rfl ⟨_, rfl, or33_2⟩ (.cons rfl ⟨_, rfl, ho44_0⟩ (.cons rfl ⟨_, rfl, ho44_1⟩ (.cons rfl ⟨_, rfl, ho44_2⟩ .nil)))))))))))))))))))))))
    · exact (.cons (win_elem hr gS44 hlt44 rfl (by rw [hm44]; exact (dlCons (dNd rfl ⟨_, rfl, ho44_0⟩) (dlCons (dNd rfl ⟨_, rfl, ho44_1⟩) (dlCons (dNd rfl ⟨_, rfl, ho44_2⟩) dlNil))))) (.cons (win_own r43 (dlCons (dLit (by decide +kernel)) (dlCons (dLit (by decide +kernel)) (dlCons (dLit (by decide +kernel)) dlNil)))) .nil))
    · exact ⟨(fun v hv h => (by simp at hv; rcases hv with rfl <;> first | (simp at h; done) | exact Apart.ne (by assumption) | exact (Apart.ne (by assumption)).symm)), ⟨(fun v hv => (by cases hv)), trivial⟩⟩
    · exact (.cons (rule_iaS (k := b) (dNd rfl (slOne hS)) eS44 (dNd rfl ⟨_, rfl⟩) hlt44 rfl) (.cons (rule_call (args := [.agg [.flt .f32 v16_0, .flt .f32 v16_1, .flt .f32 v16_2], .agg [.flt .f32 v30_0, .flt .f32 v30_1, .flt .f32 v30_2]]) (dlCons (dAgg (dlCons (dNd rfl ⟨_, rfl, ho16_0⟩) (dlCons (dNd rfl ⟨_, rfl, ho16_1⟩) (dlCons (dNd rfl ⟨_, rfl, ho16_2⟩) dlNil)))) (dlCons (dAgg (dlCons (dNd rfl ⟨_, rfl, ho44_0⟩) (dlCons (dNd rfl ⟨_, rfl, ho44_1⟩) (dlCons (dNd rfl ⟨_, rfl, ho44_2⟩) dlNil)))) dlNil)) (dAgg (dlCons (dNd rfl ⟨_, rfl, or32_0⟩) (dlCons (dNd rfl ⟨_, rfl, or32_1⟩) (dlCons (dNd rfl ⟨_, rfl, or32_2⟩) dlNil)))) (fun H9 hk => (by rw [← hmr32]; exact k_l06Between [.flt .f32 v16_0, .flt .f32 v16_1, .flt .f32 v16_2] [.flt .f32 v30_0, .flt .f32 v30_1, .flt .f32 v30_2] (.cons ⟨_, rfl, ho16_0⟩ (.cons ⟨_, rfl, ho16_1⟩ (.cons ⟨_, rfl, ho16_2⟩ .nil))) (.cons ⟨_, rfl, ho44_0⟩ (.cons ⟨_, rfl, ho44_1⟩ (.cons ⟨_, rfl, ho44_2⟩ .nil))) H9))) (.cons (rule_call (args := [.agg [.flt .f32 x, .flt .f32 y, .flt .f32 z], .agg [.flt .f32 r32_0, .flt .f32 r32_1, .flt .f32 r32_2]]) (dlCons (dAgg (dlCons (dNd rfl ⟨_, rfl, ox⟩) (dlCons (dNd rfl ⟨_, rfl, oy⟩) (dlCons (dNd rfl ⟨_, rfl, oz⟩) dlNil)))) (dlCons (dAgg (dlCons (dNd rfl ⟨_, rfl, or32_0⟩) (dlCons (dNd rfl ⟨_, rfl, or32_1⟩) (dlCons (dNd rfl ⟨_, rfl, or32_2⟩) dlNil)))) dlNil)) (dAgg (dlCons (dNd rfl ⟨_, rfl, or33_0⟩) (dlCons (dNd rfl ⟨_, rfl, or33_1⟩) (dlCons (dNd rfl ⟨_, rfl, or33_2⟩) dlNil)))) (fun H9 hk => (by rw [← hmr33]; exact k_l06Between [.flt .f32 x, .flt .f32 y, .flt .f32 z] [.flt .f32 r32_0, .flt .f32 r32_1, .flt .f32 r32_2] (.cons ⟨_, rfl, ox⟩ (.cons ⟨_, rfl, oy⟩ (.cons ⟨_, rfl, oz⟩ .nil))) (.cons ⟨_, rfl, or32_0⟩ (.cons ⟨_, rfl, or32_1⟩ (.cons ⟨_, rfl, or32_2⟩ .nil))) H9))) .nil)))
  · exact (envEq b35 (dNd rfl (slOne hS)) (envEq b36 (dNd rfl ⟨_, rfl⟩) (envEq b37 (dAgg (dlCons (dNd rfl ⟨_, rfl, ho16_0⟩) (dlCons (dNd rfl ⟨_, rfl, ho16_1⟩) (dlCons (dNd rfl ⟨_, rfl, ho16_2⟩) dlNil)))) (envEq b38 (dAgg (dlCons (dNd rfl ⟨_, rfl, ox⟩) (dlCons (dNd rfl ⟨_, rfl, oy⟩) (dlCons (dNd rfl ⟨_, rfl, oz⟩) dlNil)))) (envEq b39 (dPtr (l := p2) (o := 0) rfl) envNil)))))
  refine all1 (by kernel_rfl) ?_
  intro vs ls H46 E46 st hE
  refine res_ex (by kernel_rfl) (end_flat st.inn hE (.inr rfl) (a := .agg [.flt .f32 r33_0, .flt .f32 r33_1, .flt .f32 r33_2]) (by kernel_rfl) (grew_own g41 (st.inn.kept) ⟨op2, trivial⟩) rfl ⟨?_, rfl⟩)
  unfold offF; rw [he16, he44, hmr32, hmr33]
theorem k_costOfLink (H : AHeap) (ms : List (List AV)) (hr : Recs KP ms) (S : AV) (hS : SlL H 3 ms S) (hmx : ms.length < 2 ^ 40) (Sk : AV) (hSk : Sk.one = true) (a b : Nat) (ha : a < ms.length) (hb : b < ms.length) (x y z u : Option Nat) (ox : fOk .f32 x) (oy : fOk .f32 y) (oz : fOk .f32 z) (ou : fOk .f32 u) : APure Try.prog 70 [.agg [S, Sk], .agg [.int .i64 (a : Int), .int .i64 (b : Int), .flt .f32 x, .flt .f32 y, .flt .f32 z, .flt .f32 u]] H (.flt .f32 (sqF ms [.int .i64 (a : Int), .int .i64 (b : Int), .flt .f32 x, .flt .f32 y, .flt .f32 z, .flt .f32 u])) := by
  refine res_start h_impl_PoseGraph_costOfLink (by simp) ?_
  obtain ⟨r1_0, r1_1, r1_2, hmr1, or1_0, or1_1, or1_2⟩ := partsPose (offF_ok ms a b [.flt .f32 x, .flt .f32 y, .flt .f32 z])
  refine run_mn (φ := φ0) (pm := pmR 0 [(.call 66 [.agg [.nd 0 .one, .nd 1 .one], .agg [.nd 2 (.int .i64), .nd 3 (.int .i64), .nd 4 (.flt .f32), .nd 5 (.flt .f32), .nd 6 (.flt .f32), .nd 7 (.flt .f32)]], .agg [.nd 8 (.flt .f32), .nd 9 (.flt .f32), .nd 10 (.flt .f32)])] 100) 20 (nk := [(.atom 0, .one), (.atom 1, .one), (.atom 2, .int .i64), (.atom 3, .int .i64), (.atom 4, .flt .f32), (.atom 5, .flt .f32), (.atom 6, .flt .f32), (.atom 7, .flt .f32), (.atom 8, .flt .f32), (.atom 9, .flt .f32), (.atom 10, .flt .f32)]) (fs := []) (xs := [S, Sk, .int .i64 (a : Int), .int .i64 (b : Int), .flt .f32 x, .flt .f32 y, .flt .f32 z, .flt .f32 u, .flt .f32 r1_0, .flt .f32 r1_1, .flt .f32 r1_2]) (ws := []) (env := [(0, .agg [.nd 0 .one, .nd 1 .one]), (1, .agg [.nd 2 (.int .i64), .nd 3 (.int .i64), .nd 4 (.flt .f32), .nd 5 (.flt .f32), .nd 6 (.flt .f32), .nd 7 (.flt .f32)])]) ?_ ?_ tb_ok ap_ok ?_
  · refine midN_in ?_ .nil _ ?_ ?_ ?_
    · exact (.cons rfl (slOne hS) (.cons rfl hSk (.cons rfl ⟨_, rfl⟩ (.cons rfl ⟨_, rfl⟩ (.cons rfl ⟨_, rfl, ox⟩ (.cons rfl ⟨_, rfl, oy⟩ (.cons rfl ⟨_, rfl, oz⟩ (.cons rfl ⟨_, rfl, ou⟩ (.cons rfl ⟨_, rfl, or1_0⟩ (.cons rfl ⟨_, rfl, or1_1⟩ (.cons rfl ⟨_, rfl, or1_2⟩ .nil)))))))))))
    · exact .nil
    · exact sepOk_ro rfl
    · exact (.cons (rule_call (args := [.agg [S, Sk], .agg [.int .i64 (a : Int), .int .i64 (b : Int), .flt .f32 x, .flt .f32 y, .flt .f32 z, .flt .f32 u]]) (dlCons (dAgg (dlCons (dNd rfl (slOne hS)) (dlCons (dNd rfl hSk) dlNil))) (dlCons (dAgg (dlCons (dNd rfl ⟨_, rfl⟩) (dlCons (dNd rfl ⟨_, rfl⟩) (dlCons (dNd rfl ⟨_, rfl, ox⟩) (dlCons (dNd rfl ⟨_, rfl, oy⟩) (dlCons (dNd rfl ⟨_, rfl, oz⟩) (dlCons (dNd rfl ⟨_, rfl, ou⟩) dlNil))))))) dlNil)) (dAgg (dlCons (dNd rfl ⟨_, rfl, or1_0⟩) (dlCons (dNd rfl ⟨_, rfl, or1_1⟩) (dlCons (dNd rfl ⟨_, rfl, or1_2⟩) dlNil)))) (fun H9 hk => (by rw [← hmr1]; exact k_residual H9 ms hr S (hS.grew (Grew.trans (Grew.refl _) (hk.grew (Nat.le_refl _)))) hmx Sk hSk a b ha hb x y z u ox oy oz ou))) .nil)
  · exact (envEq rfl (dAgg (dlCons (dNd rfl (slOne hS)) (dlCons (dNd rfl hSk) dlNil))) (envEq rfl (dAgg (dlCons (dNd rfl ⟨_, rfl⟩) (dlCons (dNd rfl ⟨_, rfl⟩) (dlCons (dNd rfl ⟨_, rfl, ox⟩) (dlCons (dNd rfl ⟨_, rfl, oy⟩) (dlCons (dNd rfl ⟨_, rfl, oz⟩) (dlCons (dNd rfl ⟨_, rfl, ou⟩) dlNil))))))) envNil))
  refine all1 (by kernel_rfl) ?_
  intro vs ls H2 E2 st hE
  refine res_ex (by kernel_rfl) (end_flat st.inn hE (.inr rfl) (a := .flt .f32 (fop .mul .f32 u (fop .add .f32 (fop .add .f32 (fop .mul .f32 r1_0 r1_0) (fop .mul .f32 r1_1 r1_1)) (fop .mul .f32 r1_2 r1_2)))) (by kernel_rfl) (Grew.trans (Grew.refl _) (st.kept.grew (Nat.le_of_ble_eq_true (by kernel_rfl)))) rfl ⟨?_, rfl⟩)
  show _ = AV.flt .f32 (sqW u (offF ms a b [.flt .f32 x, .flt .f32 y, .flt .f32 z])); rw [hmr1]; rfl
theorem k_l06Square (H : AHeap) (ms : List (List AV)) (hr : Recs KP ms) (S : AV) (hS : SlL H 3 ms S) (hmx : ms.length < 2 ^ 40) (Sk : AV) (hSk : Sk.one = true) (a b : Nat) (ha : a < ms.length) (hb : b < ms.length) (x y z u : Option Nat) (ox : fOk .f32 x) (oy : fOk .f32 y) (oz : fOk .f32 z) (ou : fOk .f32 u) (lg : Nat) (hg : H.get lg = some (.row [S, Sk] true)) (l off : Nat) (pre post : List AV) (wr : Bool) (hx : H.get l = some (.row (pre ++ ([.int .i64 (a : Int), .int .i64 (b : Int), .flt .f32 x, .flt .f32 y, .flt .f32 z, .flt .f32 u] ++ post)) wr)) (hp : pre.length = off) : APure Try.prog 69 [.ptr lg 0, .ptr l off] H (.flt .f32 (sqF ms [.int .i64 (a : Int), .int .i64 (b : Int), .flt .f32 x, .flt .f32 y, .flt .f32 z, .flt .f32 u])) := by
  refine res_start h_spec_l06Square (by simp) ?_
  obtain ⟨r1_0, r1_1, r1_2, hmr1, or1_0, or1_1, or1_2⟩ := partsPose (offF_ok ms a b [.flt .f32 x, .flt .f32 y, .flt .f32 z])
  refine run_mn (φ := φ0) (pm := pmR 2 [(.call 63 [.ptr 0 0, .ptr 1 0], .agg [.nd 8 (.flt .f32), .nd 9 (.flt .f32), .nd 10 (.flt .f32)])] 100) 20 (nk := [(.atom 0, .one), (.atom 1, .one), (.atom 2, .int .i64), (.atom 3, .int .i64), (.atom 4, .flt .f32), (.atom 5, .flt .f32), (.atom 6, .flt .f32), (.atom 7, .flt .f32), (.atom 8, .flt .f32), (.atom 9, .flt .f32), (.atom 10, .flt .f32)]) (fs := []) (xs := [S, Sk, .int .i64 (a : Int), .int .i64 (b : Int), .flt .f32 x, .flt .f32 y, .flt .f32 z, .flt .f32 u, .flt .f32 r1_0, .flt .f32 r1_1, .flt .f32 r1_2]) (ws := [⟨lg, 0, [.nd 0 .one, .nd 1 .one], false⟩, ⟨l, off, [.nd 2 (.int .i64), .nd 3 (.int .i64), .nd 4 (.flt .f32), .nd 5 (.flt .f32), .nd 6 (.flt .f32), .nd 7 (.flt .f32)], false⟩]) (env := [(0, .ptr 0 0), (1, .ptr 1 0)]) ?_ ?_ tb_ok ap_ok ?_
  · refine midN_in ?_ .nil _ ?_ ?_ ?_
    · exact (.cons rfl (slOne hS) (.cons rfl hSk (.cons rfl ⟨_, rfl⟩ (.cons rfl ⟨_, rfl⟩ (.cons rfl ⟨_, rfl, ox⟩ (.cons rfl ⟨_, rfl, oy⟩ (.cons rfl ⟨_, rfl, oz⟩ (.cons rfl ⟨_, rfl, ou⟩ (.cons rfl ⟨_, rfl, or1_0⟩ (.cons rfl ⟨_, rfl, or1_1⟩ (.cons rfl ⟨_, rfl, or1_2⟩ .nil)))))))))))
    · exact (.cons (win_row hg (dlCons (dNd rfl (slOne hS)) (dlCons (dNd rfl hSk) dlNil))) (.cons (win_mid hx hp (dlCons (dNd rfl ⟨_, rfl⟩) (dlCons (dNd rfl ⟨_, rfl⟩) (dlCons (dNd rfl ⟨_, rfl, ox⟩) (dlCons (dNd rfl ⟨_, rfl, oy⟩) (dlCons (dNd rfl ⟨_, rfl, oz⟩) (dlCons (dNd rfl ⟨_, rfl, ou⟩) dlNil))))))) .nil))
    · exact sepOk_ro rfl
    · exact (.cons (rule_call (args := [.ptr lg 0, .ptr l (off + 0)]) (dlCons (dPtr (l := lg) (o := 0) rfl) (dlCons (dPtr (l := l) (o := off) rfl) dlNil)) (dAgg (dlCons (dNd rfl ⟨_, rfl, or1_0⟩) (dlCons (dNd rfl ⟨_, rfl, or1_1⟩) (dlCons (dNd rfl ⟨_, rfl, or1_2⟩) dlNil)))) (fun H9 hk => (by rw [← hmr1]; exact k_l06Off H9 ms hr S (hS.grew (Grew.trans (Grew.refl _) (hk.grew (Nat.le_refl _)))) hmx Sk hSk a b ha hb x y z u ox oy oz ou lg ((hk.grew (Nat.le_refl _)).at hg) l off pre post wr ((hk.grew (Nat.le_refl _)).at hx) hp))) .nil)
  · exact (envEq rfl (dPtr (l := lg) (o := 0) rfl) (envEq rfl (dPtr (l := l) (o := off) rfl) envNil))
  refine all1 (by kernel_rfl) ?_
  intro vs ls H2 E2 st hE
  refine res_ex (by kernel_rfl) (end_flat st.inn hE (.inr rfl) (a := .flt .f32 (fop .mul .f32 u (fop .add .f32 (fop .add .f32 (fop .mul .f32 r1_0 r1_0) (fop .mul .f32 r1_1 r1_1)) (fop .mul .f32 r1_2 r1_2)))) (by kernel_rfl) (Grew.trans (Grew.refl _) (st.kept.grew (Nat.le_of_ble_eq_true (by kernel_rfl)))) rfl ⟨?_, rfl⟩)
  show _ = AV.flt .f32 (sqW u (offF ms a b [.flt .f32 x, .flt .f32 y, .flt .f32 z])); rw [hmr1]; rfl
end Go.Proofs.Ytcmoeocemmeofaa
