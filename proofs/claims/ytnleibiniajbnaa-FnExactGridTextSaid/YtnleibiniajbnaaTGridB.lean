/- Contracts: grids that are empty; comparisons and marks of grids. -/
import Derived.Test.YtnleibiniajbnaaTHeldB
set_option linter.unusedVariables false
set_option linter.unusedSimpArgs false
namespace Go.Proofs.Ytnleibiniajbnaa
open Go.Ab
set_option maxRecDepth 100000
set_option maxHeartbeats 1000000
attribute [local irreducible] Res
theorem k_eqByteS (H : AHeap) (ms : List (List AV)) (hr : Recs KB ms) (S S' : AV) (hS : SlL H 1 ms S) (hS' : SlL H 1 ms S') (hmx : ms.length < 2 ^ 40) : APure Try.prog 36 [S, S'] H (.bool true) := by
 refine res_start h_laws_eqByteS (by simp) ?_
 refine run_mn (φ := φ0) (pm := pmR 0 [(.len (.nd 0 .one), .nd 2 (.int .i64)), (.len (.nd 1 .one), .nd 3 (.int .i64))] 0) 20 (nk := [(.atom 0, .one), (.atom 1, .one), (.atom 2, .int .i64), (.atom 3, .int .i64)]) (fs := []) (xs := [S, S', .int .i64 (ms.length : Int), .int .i64 (ms.length : Int)]) (ws := []) (env := [(0, .nd 0 .one), (1, .nd 1 .one)]) ?_ ?_ tb_ok ap_ok ?_
 ·
  refine midN_in ?_ .nil _ ?_ ?_ ?_
  ·
   exact (.cons rfl (slOne hS) (.cons rfl (slOne hS') (.cons rfl ⟨_, rfl⟩ (.cons rfl ⟨_, rfl⟩ .nil))))
  ·
   exact .nil
  ·
   exact sepOk_ro rfl
  ·
   exact (.cons (⟨_, _, (dNd rfl (slOne hS)), (dNd rfl ⟨_, rfl⟩), slLen hS⟩) (.cons (⟨_, _, (dNd rfl (slOne hS')), (dNd rfl ⟨_, rfl⟩), slLen hS'⟩) .nil))
 ·
  exact (envEq rfl (dNd rfl (slOne hS)) (envEq rfl (dNd rfl (slOne hS')) envNil))
 refine all2 (by kernel_rfl) ?_ ?_
 ·
  intro vs ls H1 E1 st hE
  have f2 : ¬ ((ms.length : Int) = (ms.length : Int)) := df st 0
  exact absurd rfl f2
 ·
  intro vs ls H3 E3 st hE
  have f4 : (ms.length : Int) = (ms.length : Int) := dt st 0
  have b5 := eo st hE 5 (.int .i64 0)
  have b6 := eo st hE 0 S
  have b7 := eo st hE 1 (S')
  have g8 : Grew H H3 := (gk st)
  have g9 : Grew H H3 := Grew.trans (Grew.refl _) g8
  clear st hE vs ls
  refine res_scan (by kernel_rfl) [(0, S), (1, S')] 5 ms.length (fun i => True) (.cons b6 (.cons b7 .nil)) b5 (Grew.refl _) trivial ?_
  intro i10 hli10 hIi10 Ei10 Hi10 hsi10 hci10 hgi10
  have g11 : Grew H Hi10 := Grew.trans g9 hgi10
  refine run_mn (φ := φ0) (pm := pmR 0 [(.len (.nd 0 .one), .nd 5 (.int .i64))] 0) 20 (nk := [(.atom 0, .one), (.atom 1, .one), (.atom 2, .int .i64), (.atom 3, .int .i64), (.atom 4, .int .i64), (.atom 5, .int .i64)]) (fs := []) (xs := [S, S', .int .i64 (ms.length : Int), .int .i64 (ms.length : Int), .int .i64 (i10 : Int), .int .i64 (ms.length : Int)]) (ws := []) (env := [(0, .nd 0 .one), (1, .nd 1 .one), (5, .nd 4 (.int .i64))]) ?_ ?_ tb_ok ap_ok ?_
  ·
   refine midN_in ?_ .nil _ ?_ ?_ ?_
   ·
    exact (.cons rfl (slOne hS) (.cons rfl (slOne hS') (.cons rfl ⟨_, rfl⟩ (.cons rfl ⟨_, rfl⟩ (.cons rfl ⟨_, rfl⟩ (.cons rfl ⟨_, rfl⟩ .nil))))))
   ·
    exact .nil
   ·
    exact sepOk_ro rfl
   ·
    exact (.cons (⟨_, _, (dNd rfl (slOne hS)), (dNd rfl ⟨_, rfl⟩), slLen hS⟩) .nil)
  ·
   exact (envEq (hsi10.at 0 rfl) (dNd rfl (slOne hS)) (envEq (hsi10.at 1 rfl) (dNd rfl (slOne hS')) (envEq hci10 (dNd rfl ⟨_, rfl⟩) envNil)))
  refine all2 (by kernel_rfl) ?_ ?_
  ·
   intro vs ls H12 E12 st hE
   have f13 : (i10 : Int) < (ms.length : Int) := dt st 0
   have b14 := eo st hE 17 S
   have b15 := eo st hE 18 (.int .i64 (i10 : Int))
   have b16 := eo st hE 1 (S')
   have b17 := eo st hE 5 (.int .i64 (i10 : Int))
   have b18 := eo st hE 0 S
   have g19 : Grew Hi10 H12 := (gk st)
   have g20 : Grew H H12 := Grew.trans g11 g19
   have g21 : Grew H3 H12 := Grew.trans hgi10 g19
   clear st hE vs ls
   have hlt22 : i10 < ms.length := by omega
   obtain ⟨lS22, cap22, rest22, wr22, eS22, gB22⟩ := hS.isSl hlt22
   have gS22 := g20.at gB22
   obtain ⟨v22_0, hm22⟩ := partsByte (hr.get hlt22)
   have he22 : ms.getD i10 [] = [.int .u8 v22_0] := by rw [← hm22]; simp [List.getD_eq_getElem?_getD, hlt22]
   refine run_mn (φ := φ0) (pm := pmR 1 [(.ia 1 (.nd 0 .one) (.nd 4 (.int .i64)), .ptr 0 0)] 0) 20 (nk := [(.atom 0, .one), (.atom 1, .one), (.atom 2, .int .i64), (.atom 3, .int .i64), (.atom 4, .int .i64), (.atom 5, .int .i64), (.atom 6, .int .u8)]) (fs := []) (xs := [S, S', .int .i64 (ms.length : Int), .int .i64 (ms.length : Int), .int .i64 (i10 : Int), .int .i64 (ms.length : Int), .int .u8 v22_0]) (ws := [⟨lS22, (i10 * 1), [.nd 6 (.int .u8)], false⟩]) (env := [(17, .nd 0 .one), (18, .nd 4 (.int .i64)), (1, .nd 1 .one), (5, .nd 4 (.int .i64)), (0, .nd 0 .one)]) ?_ ?_ tb_ok ap_ok ?_
   ·
    refine midN_in ?_ .nil _ ?_ ?_ ?_
    ·
     exact (.cons rfl (slOne hS) (.cons rfl (slOne hS') (.cons rfl ⟨_, rfl⟩ (.cons rfl ⟨_, rfl⟩ (.cons rfl ⟨_, rfl⟩ (.cons rfl ⟨_, rfl⟩ (.cons rfl ⟨_, rfl⟩ .nil)))))))
    ·
     exact (.cons (win_elem hr gS22 hlt22 rfl (by rw [hm22]; exact (dlCons (dNd rfl ⟨_, rfl⟩) dlNil))) .nil)
    ·
     exact sepOk_ro rfl
    ·
     exact (.cons (rule_iaS (k := i10) (dNd rfl (slOne hS)) eS22 (dNd rfl ⟨_, rfl⟩) hlt22 rfl) .nil)
   ·
    exact (envEq b14 (dNd rfl (slOne hS)) (envEq b15 (dNd rfl ⟨_, rfl⟩) (envEq b16 (dNd rfl (slOne hS')) (envEq b17 (dNd rfl ⟨_, rfl⟩) (envEq b18 (dNd rfl (slOne hS)) envNil)))))
   refine all1 (by kernel_rfl) ?_
   intro vs ls H23 E23 st hE
   have b24 := eo st hE 21 (S')
   have b25 := eo st hE 22 (.int .i64 (i10 : Int))
   have b26 := eo st hE 20 (.int .u8 v22_0)
   have b27 := eo st hE 5 (.int .i64 (i10 : Int))
   have b28 := eo st hE 0 S
   have b29 := eo st hE 1 (S')
   have g30 : Grew H12 H23 := (gk st)
   have g31 : Grew H H23 := Grew.trans g20 g30
   have g32 : Grew H3 H23 := Grew.trans g21 g30
   clear st hE vs ls
   have hlt34 : i10 < ms.length := by omega
   obtain ⟨lS34, cap34, rest34, wr34, eS34, gB34⟩ := hS'.isSl hlt34
   have gS34 := g31.at gB34
   obtain ⟨v34_0, hm34⟩ := partsByte (hr.get hlt34)
   have he34 : ms.getD i10 [] = [.int .u8 v34_0] := by rw [← hm34]; simp [List.getD_eq_getElem?_getD, hlt34]
   refine run_mn (φ := φ0) (pm := pmR 1 [(.ia 1 (.nd 1 .one) (.nd 4 (.int .i64)), .ptr 0 0)] 0) 20 (nk := [(.atom 0, .one), (.atom 1, .one), (.atom 2, .int .i64), (.atom 3, .int .i64), (.atom 4, .int .i64), (.atom 5, .int .i64), (.atom 6, .int .u8), (.atom 7, .int .u8)]) (fs := []) (xs := [S, S', .int .i64 (ms.length : Int), .int .i64 (ms.length : Int), .int .i64 (i10 : Int), .int .i64 (ms.length : Int), .int .u8 v22_0, .int .u8 v34_0]) (ws := [⟨lS34, (i10 * 1), [.nd 7 (.int .u8)], false⟩]) (env := [(21, .nd 1 .one), (22, .nd 4 (.int .i64)), (20, .nd 6 (.int .u8)), (5, .nd 4 (.int .i64)), (0, .nd 0 .one), (1, .nd 1 .one)]) ?_ ?_ tb_ok ap_ok ?_
   ·
    refine midN_in ?_ .nil _ ?_ ?_ ?_
    ·
     exact (.cons rfl (slOne hS) (.cons rfl (slOne hS') (.cons rfl ⟨_, rfl⟩ (.cons rfl ⟨_, rfl⟩ (.cons rfl ⟨_, rfl⟩ (.cons rfl ⟨_, rfl⟩ (.cons rfl ⟨_, rfl⟩ (.cons rfl ⟨_, rfl⟩ .nil))))))))
    ·
     exact (.cons (win_elem hr gS34 hlt34 rfl (by rw [hm34]; exact (dlCons (dNd rfl ⟨_, rfl⟩) dlNil))) .nil)
    ·
     exact sepOk_ro rfl
    ·
     exact (.cons (rule_iaS (k := i10) (dNd rfl (slOne hS')) eS34 (dNd rfl ⟨_, rfl⟩) hlt34 rfl) .nil)
   ·
    exact (envEq b24 (dNd rfl (slOne hS')) (envEq b25 (dNd rfl ⟨_, rfl⟩) (envEq b26 (dNd rfl ⟨_, rfl⟩) (envEq b27 (dNd rfl ⟨_, rfl⟩) (envEq b28 (dNd rfl (slOne hS)) (envEq b29 (dNd rfl (slOne hS')) envNil))))))
   refine all2 (by kernel_rfl) ?_ ?_
   ·
    intro vs ls H35 E35 st hE
    have f36 : ¬ (v22_0 = v34_0) := df st 0
    exact absurd (show v22_0 = v34_0 by have := he22.symm.trans he34; simpa using this) f36
   ·
    intro vs ls H37 E37 st hE
    have f38 : v22_0 = v34_0 := dt st 0
    have hlti10 : i10 < ms.length := by omega
    refine res_next (sl := [(0, S), (1, S')]) (ti := 5) (i := i10) (Inv := fun i => True) (by kernel_rfl) st.inn hE hlti10 (by kernel_rfl) (w := (IntKind.wrap .i64 ((i10 : Int) + 1))) (by kernel_rfl) (wrap64 (by omega)) (Grew.trans g32 (gk st)) ?_
    trivial
  ·
   intro vs ls H39 E39 st hE
   have f40 : ¬ ((i10 : Int) < (ms.length : Int)) := df st 0
   have b41 := eo st hE 5 (.int .i64 (i10 : Int))
   have b42 := eo st hE 0 S
   have b43 := eo st hE 12 S
   have b44 := eo st hE 11 (.int .i64 (i10 : Int))
   have b45 := eo st hE 13 (.int .i64 (ms.length : Int))
   obtain ⟨w46, hw46⟩ : ∃ z, z = (decide ((i10 : Int) < (ms.length : Int))) := ⟨_, rfl⟩
   have b47 : E39 14 = .bool w46 := by rw [hw46]; exact eo st hE 14 _
   have b48 := eo st hE 1 (S')
   have g49 : Grew Hi10 H39 := (gk st)
   have g50 : Grew H H39 := Grew.trans g11 g49
   clear st hE vs ls
   refine res_exit (id := 0) (by kernel_rfl) ?_
   refine run_mn (φ := φ0) (pm := pmR 0 [] 0) 20 (nk := [(.atom 0, .one), (.atom 1, .one), (.atom 2, .int .i64), (.atom 3, .int .i64), (.atom 4, .int .i64), (.atom 5, .int .i64), (.atom 6, .bool)]) (fs := []) (xs := [S, S', .int .i64 (ms.length : Int), .int .i64 (ms.length : Int), .int .i64 (i10 : Int), .int .i64 (ms.length : Int), .bool w46]) (ws := []) (env := [(5, .nd 4 (.int .i64)), (0, .nd 0 .one), (12, .nd 0 .one), (11, .nd 4 (.int .i64)), (13, .nd 5 (.int .i64)), (14, .nd 6 .bool), (1, .nd 1 .one)]) ?_ ?_ tb_ok ap_ok ?_
   ·
    refine midN_in ?_ .nil _ ?_ ?_ ?_
    ·
     exact (.cons rfl (slOne hS) (.cons rfl (slOne hS') (.cons rfl ⟨_, rfl⟩ (.cons rfl ⟨_, rfl⟩ (.cons rfl ⟨_, rfl⟩ (.cons rfl ⟨_, rfl⟩ (.cons rfl ⟨_, rfl⟩ .nil)))))))
    ·
     exact .nil
    ·
     exact sepOk_ro rfl
    ·
     exact .nil
   ·
    exact (envEq b41 (dNd rfl ⟨_, rfl⟩) (envEq b42 (dNd rfl (slOne hS)) (envEq b43 (dNd rfl (slOne hS)) (envEq b44 (dNd rfl ⟨_, rfl⟩) (envEq b45 (dNd rfl ⟨_, rfl⟩) (envEq b47 (dNd rfl ⟨_, rfl⟩) (envEq b48 (dNd rfl (slOne hS')) envNil)))))))
   refine all1 (by kernel_rfl) ?_
   intro vs ls H52 E52 st hE
   refine res_ex (by kernel_rfl) (end_flat st.inn hE (.inr rfl) (a := .bool true) (by kernel_rfl) (Grew.trans g50 (gk st)) rfl ⟨?_, rfl⟩)
   rfl
theorem k_eqGrid (H : AHeap) (x y : Int) (ms : List (List AV)) (hr : Recs KB ms) (S S' : AV) (hS : SlL H 1 ms S) (hS' : SlL H 1 ms S') (hmx : ms.length < 2 ^ 40) : APure Try.prog 17 [.agg [.int .i64 x, .int .i64 y, S], .agg [.int .i64 x, .int .i64 y, S']] H (.bool true) := by
 refine res_start h_laws_eqGrid (by simp) ?_
 refine run_mn (φ := φ0) (pm := pmR 0 [(.call 36 [.nd 0 .one, .nd 1 .one], .lit (.bool true))] 0) 20 (nk := [(.atom 0, .one), (.atom 1, .one), (.atom 2, .int .i64), (.atom 3, .int .i64)]) (fs := []) (xs := [S, S', .int .i64 x, .int .i64 y]) (ws := []) (env := [(0, .agg [.nd 2 (.int .i64), .nd 3 (.int .i64), .nd 0 .one]), (1, .agg [.nd 2 (.int .i64), .nd 3 (.int .i64), .nd 1 .one])]) ?_ ?_ tb_ok ap_ok ?_
 ·
  refine midN_in ?_ .nil _ ?_ ?_ ?_
  ·
   exact (.cons rfl (slOne hS) (.cons rfl (slOne hS') (.cons rfl ⟨_, rfl⟩ (.cons rfl ⟨_, rfl⟩ .nil))))
  ·
   exact .nil
  ·
   exact sepOk_ro rfl
  ·
   exact (.cons (rule_call (args := [S, S']) (dlCons (dNd rfl (slOne hS)) (dlCons (dNd rfl (slOne hS')) dlNil)) (dLit rfl) (fun H9 hk => k_eqByteS H9 ms hr S S' (hS.grew (Grew.trans (Grew.refl _) (hk.grew (Nat.le_refl _)))) (hS'.grew (Grew.trans (Grew.refl _) (hk.grew (Nat.le_refl _)))) hmx)) .nil)
 ·
  exact (envEq rfl (dAgg (dlCons (dNd rfl ⟨_, rfl⟩) (dlCons (dNd rfl ⟨_, rfl⟩) (dlCons (dNd rfl (slOne hS)) dlNil)))) (envEq rfl (dAgg (dlCons (dNd rfl ⟨_, rfl⟩) (dlCons (dNd rfl ⟨_, rfl⟩) (dlCons (dNd rfl (slOne hS')) dlNil)))) envNil))
 refine all1 (by kernel_rfl) ?_
 intro vs ls H1 E1 st hE
 refine res_ex (by kernel_rfl) (end_flat st.inn hE (.inr rfl) (a := .bool true) (by kernel_rfl) (Grew.trans (Grew.refl _) (gk st)) rfl ⟨?_, rfl⟩)
 rfl
end Go.Proofs.Ytnleibiniajbnaa
