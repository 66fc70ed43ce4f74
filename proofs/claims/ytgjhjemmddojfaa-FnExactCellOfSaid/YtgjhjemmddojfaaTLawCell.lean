/- The law of CellOf, walked. -/
import Derived.Test.YtgjhjemmddojfaaTCell
set_option linter.unusedVariables false
set_option linter.unusedSimpArgs false
namespace Go.Proofs.Ytgjhjemmddojfaa
open Go.Ab
set_option maxRecDepth 100000
set_option maxHeartbeats 1000000
attribute [local irreducible] Res
theorem cellX_form (s a b c : Option Nat) : ∃ p0 p1 p2 d : Int, cellX s a b c = ([.int .i32 p0, .int .i32 p1, .int .i32 p2], d) := by
  unfold cellX
  repeat' split
  all_goals exact ⟨_, _, _, _, rfl⟩
theorem k_spec_CellOf (s a b c : Option Nat) (hs : fOk .f32 s) (ha : fOk .f32 a) (hb : fOk .f32 b) (hc : fOk .f32 c) (H : AHeap) : APure Try.prog 21 [.flt .f32 s, .agg [.flt .f32 a, .flt .f32 b, .flt .f32 c]] H (.tuple [.agg (cellX s a b c).1, .int .i64 (cellX s a b c).2]) := by
  obtain ⟨p0, p1, p2, d, he⟩ := cellX_form s a b c
  have k0 := fun H => k_l05Cell s a b c hs ha hb hc H
  rw [he] at k0 ⊢
  refine res_start h_spec_CellOf (by simp) ?_
  refine run_mn (φ := φ0) (pm := pmR 0 [(.call 60 [.nd 0 (.flt .f32), .agg [.nd 1 (.flt .f32), .nd 2 (.flt .f32), .nd 3 (.flt .f32)]], .tup [.agg [.nd 4 (.int .i32), .nd 5 (.int .i32), .nd 6 (.int .i32)], .nd 7 (.int .i64)])] 10) 20 (nk := [(.atom 0, .flt .f32), (.atom 1, .flt .f32), (.atom 2, .flt .f32), (.atom 3, .flt .f32), (.atom 4, .int .i32), (.atom 5, .int .i32), (.atom 6, .int .i32), (.atom 7, .int .i64)]) (fs := []) (xs := [.flt .f32 s, .flt .f32 a, .flt .f32 b, .flt .f32 c, .int .i32 p0, .int .i32 p1, .int .i32 p2, .int .i64 d]) (ws := []) (env := [(0, .nd 0 (.flt .f32)), (1, .agg [.nd 1 (.flt .f32), .nd 2 (.flt .f32), .nd 3 (.flt .f32)])]) ?_ ?_ tb_ok ap_ok ?_
  · refine midN_in ?_ .nil _ ?_ ?_ ?_
    · exact (.cons rfl ⟨_, rfl, hs⟩ (.cons rfl ⟨_, rfl, ha⟩ (.cons rfl ⟨_, rfl, hb⟩ (.cons rfl ⟨_, rfl, hc⟩ (.cons rfl ⟨_, rfl⟩ (.cons rfl ⟨_, rfl⟩ (.cons rfl ⟨_, rfl⟩ (.cons rfl ⟨_, rfl⟩ .nil))))))))
    · exact .nil
    · exact sepOk_ro rfl
    · exact (.cons (rule_call (args := [.flt .f32 s, .agg [.flt .f32 a, .flt .f32 b, .flt .f32 c]]) (dlCons (dNd rfl ⟨_, rfl, hs⟩) (dlCons (dAgg (dlCons (dNd rfl ⟨_, rfl, ha⟩) (dlCons (dNd rfl ⟨_, rfl, hb⟩) (dlCons (dNd rfl ⟨_, rfl, hc⟩) dlNil)))) dlNil)) (dTup' (dlCons (dAgg (dlCons (dNd rfl ⟨_, rfl⟩) (dlCons (dNd rfl ⟨_, rfl⟩) (dlCons (dNd rfl ⟨_, rfl⟩) dlNil)))) (dlCons (dNd rfl ⟨_, rfl⟩) dlNil))) (fun H9 hk => k0 H9)) .nil)
  · exact (envEq rfl (dNd rfl ⟨_, rfl, hs⟩) (envEq rfl (dAgg (dlCons (dNd rfl ⟨_, rfl, ha⟩) (dlCons (dNd rfl ⟨_, rfl, hb⟩) (dlCons (dNd rfl ⟨_, rfl, hc⟩) dlNil)))) envNil))
  refine all1 (by kernel_rfl) ?_
  intro vs ls H1 E1 st hE
  refine res_ex (by kernel_rfl) (end_flat st.inn hE (.inr rfl) (a := .tuple [.agg [.int .i32 p0, .int .i32 p1, .int .i32 p2], .int .i64 d]) (by kernel_rfl) (Grew.trans (Grew.refl _) (st.kept.grew (Nat.le_of_ble_eq_true (by kernel_rfl)))) rfl ⟨?_, rfl⟩)
  rfl
theorem vecArg {H : AHeap} {a : AV} (h : FitArg H (true, [.flt .f32, .flt .f32, .flt .f32]) a) : ∃ s0 s1 s2 : Option Nat, a = .agg [.flt .f32 s0, .flt .f32 s1, .flt .f32 s2] ∧ fOk .f32 s0 ∧ fOk .f32 s1 ∧ fOk .f32 s2 := by
  obtain ⟨cs, rfl, hl, hc⟩ := h
  match cs, hl with
  | [c0, c1, c2], _ =>
    have h0 := hc 0 _ _ rfl rfl
    have h1 := hc 1 _ _ rfl rfl
    have h2 := hc 2 _ _ rfl rfl
    cases h0 with | flt h0 => cases h1 with | flt h1 => cases h2 with | flt h2 =>
    exact ⟨_, _, _, rfl, h0, h1, h2⟩
theorem lawExactCellOf (H : AHeap) (vs : List AV) (h : FitArgs H [(false, [.flt .f32]), (true, [.flt .f32, .flt .f32, .flt .f32])] vs) : ACalls Try.prog 5 vs H fun r _ => r = .bool true := by
  match vs, h with
  | [x, v], h =>
  obtain ⟨sb, eb, fb⟩ := h.1
  cases eb
  cases fb
  rename_i s hs
  obtain ⟨a, b, c, rfl, ha, hb, hc⟩ := vecArg h.2.1
  clear h
  have k1 := fun H => k_spec_CellOf s a b c hs ha hb hc H
  have k2 := fun H => k_CellOf s a b c hs ha hb hc H
  obtain ⟨p0, p1, p2, d, he⟩ := cellX_form s a b c
  rw [he] at k1 k2
  refine res_start h_laws_FnExactCellOf (by simp) ?_
  refine run_mn (φ := φ0) (pm := pmR 0 [(.call 21 [.nd 0 (.flt .f32), .agg [.nd 1 (.flt .f32), .nd 2 (.flt .f32), .nd 3 (.flt .f32)]], .tup [.agg [.nd 4 (.int .i32), .nd 5 (.int .i32), .nd 6 (.int .i32)], .nd 7 (.int .i64)]), (.call 23 [.nd 0 (.flt .f32), .agg [.nd 1 (.flt .f32), .nd 2 (.flt .f32), .nd 3 (.flt .f32)]], .tup [.agg [.nd 4 (.int .i32), .nd 5 (.int .i32), .nd 6 (.int .i32)], .nd 7 (.int .i64)])] 10) 20 (nk := [(.atom 0, .flt .f32), (.atom 1, .flt .f32), (.atom 2, .flt .f32), (.atom 3, .flt .f32), (.atom 4, .int .i32), (.atom 5, .int .i32), (.atom 6, .int .i32), (.atom 7, .int .i64)]) (fs := []) (xs := [.flt .f32 s, .flt .f32 a, .flt .f32 b, .flt .f32 c, .int .i32 p0, .int .i32 p1, .int .i32 p2, .int .i64 d]) (ws := []) (env := [(0, .nd 0 (.flt .f32)), (1, .agg [.nd 1 (.flt .f32), .nd 2 (.flt .f32), .nd 3 (.flt .f32)])]) ?_ ?_ tb_ok ap_ok ?_
  · refine midN_in ?_ .nil _ ?_ ?_ ?_
    · exact (.cons rfl ⟨_, rfl, hs⟩ (.cons rfl ⟨_, rfl, ha⟩ (.cons rfl ⟨_, rfl, hb⟩ (.cons rfl ⟨_, rfl, hc⟩ (.cons rfl ⟨_, rfl⟩ (.cons rfl ⟨_, rfl⟩ (.cons rfl ⟨_, rfl⟩ (.cons rfl ⟨_, rfl⟩ .nil))))))))
    · exact .nil
    · exact sepOk_ro rfl
    · exact (.cons (rule_call (args := [.flt .f32 s, .agg [.flt .f32 a, .flt .f32 b, .flt .f32 c]]) (dlCons (dNd rfl ⟨_, rfl, hs⟩) (dlCons (dAgg (dlCons (dNd rfl ⟨_, rfl, ha⟩) (dlCons (dNd rfl ⟨_, rfl, hb⟩) (dlCons (dNd rfl ⟨_, rfl, hc⟩) dlNil)))) dlNil)) (dTup' (dlCons (dAgg (dlCons (dNd rfl ⟨_, rfl⟩) (dlCons (dNd rfl ⟨_, rfl⟩) (dlCons (dNd rfl ⟨_, rfl⟩) dlNil)))) (dlCons (dNd rfl ⟨_, rfl⟩) dlNil))) (fun H9 hk => k1 H9)) (.cons (rule_call (args := [.flt .f32 s, .agg [.flt .f32 a, .flt .f32 b, .flt .f32 c]]) (dlCons (dNd rfl ⟨_, rfl, hs⟩) (dlCons (dAgg (dlCons (dNd rfl ⟨_, rfl, ha⟩) (dlCons (dNd rfl ⟨_, rfl, hb⟩) (dlCons (dNd rfl ⟨_, rfl, hc⟩) dlNil)))) dlNil)) (dTup' (dlCons (dAgg (dlCons (dNd rfl ⟨_, rfl⟩) (dlCons (dNd rfl ⟨_, rfl⟩) (dlCons (dNd rfl ⟨_, rfl⟩) dlNil)))) (dlCons (dNd rfl ⟨_, rfl⟩) dlNil))) (fun H9 hk => k2 H9)) .nil))
  · exact (envEq rfl (dNd rfl ⟨_, rfl, hs⟩) (envEq rfl (dAgg (dlCons (dNd rfl ⟨_, rfl, ha⟩) (dlCons (dNd rfl ⟨_, rfl, hb⟩) (dlCons (dNd rfl ⟨_, rfl, hc⟩) dlNil)))) envNil))
  refine all1 (by kernel_rfl) ?_
  intro vs ls H1 E1 st hE
  exact res_ex (by kernel_rfl) (end_same st.inn hE (.inr rfl) (a := .bool true) (by kernel_rfl) (Nat.le_trans (Nat.le_refl _) st.kept.1) rfl)
end Go.Proofs.Ytgjhjemmddojfaa
