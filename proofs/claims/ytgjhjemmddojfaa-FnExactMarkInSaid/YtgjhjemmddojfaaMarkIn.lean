/- Contracts: the mark of a cell, by both. -/
import Derived.Test.YtgjhjemmddojfaaFindB
set_option linter.unusedVariables false
set_option linter.unusedSimpArgs false
namespace Go.Proofs.Ytgjhjemmddojfaa
open Go.Ab
set_option maxRecDepth 100000
attribute [local irreducible] Res
def mark0 : List AV := [.int .i32 0, .int .i32 0, .int .i32 0, .flt .f32 (some 0), .flt .f32 (some 0), .flt .f32 (some 0), .flt .f32 (some 0), .int .i64 0, .int .i64 0]
noncomputable def markIn (x : Option Nat) (ms : List (List AV)) (a b c : Int) : AV :=
  if okMap x ms = false then .tuple [.agg mark0, .int .i64 1]
  else if fnd ms a b c = false then .tuple [.agg mark0, .int .i64 6] else .tuple [.agg (ms.getD (lin ms a b c) []), .int .i64 0]
theorem k_impl_MarkIn (H : AHeap) (x : Option Nat) (hx : fOk .f32 x) (ms : List (List AV)) (hr : Recs KM ms) (S : AV) (hS : SlL H 9 ms S) (a b c : Int) (hmax : ms.length < 2 ^ 40) : APure Try.prog 37 [.agg [.flt .f32 x, S], .agg (plc a b c)] H (markIn x ms a b c) := by
  rcases hok : okMap x ms with _ | _
  · refine res_start h_impl_MarkIn (by simp) ?_
    have hv : ∀ H3, Kept 0 [] H H3 → APure Try.prog 35 [.agg [.flt .f32 x, S]] H3 (.bool false) := fun H3 hk => hok ▸ k_impl_ValidMap H3 x hx S ms hr (hS.grew (hk.grew (Nat.le_refl _))) hmax
    refine run_mn (φ := φ0) (pm := pmR 0 [(.call 35 [.agg [.nd 0 (.flt .f32), .nd 1 .one]], .lit (.bool false))] 0) 20 (nk := [(.atom 0, .flt .f32), (.atom 1, .one), (.atom 2, .int .i32), (.atom 3, .int .i32), (.atom 4, .int .i32)]) (fs := []) (xs := [.flt .f32 x, S, .int .i32 a, .int .i32 b, .int .i32 c]) (ws := []) (env := [(0, .agg [.nd 0 (.flt .f32), .nd 1 .one]), (1, .agg (nds 2 K3))]) ?_ ?_ tb_ok ap_ok ?_
    · refine midN_in ?_ .nil _ .nil trivial ?_
      · exact .cons rfl ⟨_, rfl, hx⟩ (.cons rfl (slOne hS) (.cons rfl ⟨_, rfl⟩ (.cons rfl ⟨_, rfl⟩ (.cons rfl ⟨_, rfl⟩ .nil))))
      · exact .cons (rule_call (args := [.agg [.flt .f32 x, S]]) (dlCons (dAgg (dlCons (dNd rfl ⟨_, rfl, hx⟩) (dlCons (dNd rfl (slOne hS)) dlNil))) dlNil) (dLit rfl) hv) .nil
    · exact envCons (dAgg (dlCons (dNd rfl ⟨_, rfl, hx⟩) (dlCons (dNd rfl (slOne hS)) dlNil))) (envCons (show D _ _ _ (.agg (plc a b c)) from dAgg (by repeat (first | exact dlNil | refine dlCons (dNd rfl ⟨_, rfl⟩) ?_ | refine dlCons (dNd rfl ⟨_, rfl, by assumption⟩) ?_ | refine dlCons (dNd rfl (by assumption)) ?_))) envNil)
    refine all1 (by kernel_rfl) ?_
    intro vs ls H1 E1 st hE
    refine res_ex (by kernel_rfl) (end_flat st.inn hE (.inr rfl) (a := .tuple [.agg mark0, .int .i64 1]) (by kernel_rfl) (st.kept.grew (Nat.le_of_ble_eq_true (by kernel_rfl))) rfl ⟨?_, rfl⟩)
    rw [markIn, if_pos hok]
  · have hsort := okMap_sort hok
    have hv' : ∀ H3, Grew H H3 → APure Try.prog 35 [.agg [.flt .f32 x, S]] H3 (.bool true) := fun H3 hk => hok ▸ k_impl_ValidMap H3 x hx S ms hr (hS.grew hk) hmax
    have hf : ∀ H3, Grew H H3 → APure Try.prog 74 [.agg [.flt .f32 x, S], .agg (plc a b c)] H3 (.tuple [.int .i64 (lin ms a b c : Int), .bool (fnd ms a b c)]) := fun H3 hk => k_find H3 x hx ms hr hsort S (hS.grew hk) a b c hmax
    rcases hfd : fnd ms a b c with _ | _
    · rw [hfd] at hf
      generalize hl : (lin ms a b c : Int) = u at hf
      refine res_start h_impl_MarkIn (by simp) ?_
      refine run_mn (φ := φ0) (pm := pmR 0 [(.call 35 [.agg [.nd 0 (.flt .f32), .nd 1 .one]], .lit (.bool true)), (.call 74 [.agg [.nd 0 (.flt .f32), .nd 1 .one], .agg (nds 2 K3)], .tup [.nd 5 (.int .i64), .lit (.bool false)])] 0) 20 (nk := [(.atom 0, .flt .f32), (.atom 1, .one), (.atom 2, .int .i32), (.atom 3, .int .i32), (.atom 4, .int .i32), (.atom 5, .int .i64)]) (fs := []) (xs := [.flt .f32 x, S, .int .i32 a, .int .i32 b, .int .i32 c, .int .i64 u]) (ws := []) (env := [(0, .agg [.nd 0 (.flt .f32), .nd 1 .one]), (1, .agg (nds 2 K3))]) ?_ ?_ tb_ok ap_ok ?_
      · refine midN_in ?_ .nil _ .nil trivial ?_
        · exact .cons rfl ⟨_, rfl, hx⟩ (.cons rfl (slOne hS) (.cons rfl ⟨_, rfl⟩ (.cons rfl ⟨_, rfl⟩ (.cons rfl ⟨_, rfl⟩ (.cons rfl ⟨_, rfl⟩ .nil)))))
        · exact .cons (rule_call (args := [.agg [.flt .f32 x, S]]) (dlCons (dAgg (dlCons (dNd rfl ⟨_, rfl, hx⟩) (dlCons (dNd rfl (slOne hS)) dlNil))) dlNil) (dLit rfl) (fun H3 hk => hv' H3 (hk.grew (Nat.le_refl _)))) (.cons (rule_call (args := [.agg [.flt .f32 x, S], .agg (plc a b c)]) (dlCons (dAgg (dlCons (dNd rfl ⟨_, rfl, hx⟩) (dlCons (dNd rfl (slOne hS)) dlNil))) (dlCons (dAgg (by repeat (first | exact dlNil | refine dlCons (dNd rfl ⟨_, rfl⟩) ?_ | refine dlCons (dNd rfl ⟨_, rfl, by assumption⟩) ?_ | refine dlCons (dNd rfl (by assumption)) ?_))) dlNil)) (dTup (dlCons (dNd rfl ⟨_, rfl⟩) (dlCons (dLit rfl) dlNil))) (fun H3 hk => hf H3 (hk.grew (Nat.le_refl _)))) .nil)
      · exact envCons (dAgg (dlCons (dNd rfl ⟨_, rfl, hx⟩) (dlCons (dNd rfl (slOne hS)) dlNil))) (envCons (show D _ _ _ (.agg (plc a b c)) from dAgg (by repeat (first | exact dlNil | refine dlCons (dNd rfl ⟨_, rfl⟩) ?_ | refine dlCons (dNd rfl ⟨_, rfl, by assumption⟩) ?_ | refine dlCons (dNd rfl (by assumption)) ?_))) envNil)
      refine all1 (by kernel_rfl) ?_
      intro vs ls H1 E1 st hE
      refine res_ex (by kernel_rfl) (end_flat st.inn hE (.inr rfl) (a := .tuple [.agg mark0, .int .i64 6]) (by kernel_rfl) (st.kept.grew (Nat.le_of_ble_eq_true (by kernel_rfl))) rfl ⟨?_, rfl⟩)
      rw [markIn, hok, hfd]; rfl
    · rw [hfd] at hf
      have hlt : lin ms a b c < ms.length := by
        simp only [fnd, Bool.and_eq_true, decide_eq_true_eq] at hfd
        exact hfd.1
      have hmk : markIn x ms a b c = .tuple [.agg (ms.getD (lin ms a b c) []), .int .i64 0] := by rw [markIn, hok, hfd]; rfl
      rw [hmk]
      generalize lin ms a b c = i at hf hlt
      have hD : ms.getD i [] = ms[i] := by simp [List.getD_eq_getElem?_getD, hlt]
      rw [hD]
      cases hS with
      | nil h => rw [h] at hlt; simp at hlt
      | @sl ls0 n cap rest wr2 hgS hn hc =>
        subst hn
        have hkm := hr.get hlt
        obtain ⟨v0, v1, v2, v3, v4, v5, v6, v7, v8, hm', o3, o4, o5, o6⟩ := partsMark hkm
        refine res_start h_impl_MarkIn (by simp) ?_
        refine run_mn (φ := φ0) (pm := pmR 1 [(.ia 9 (.nd 1 .one) (.nd 5 (.int .i64)), .ptr 0 0), (.call 35 [.agg [.nd 0 (.flt .f32), .nd 1 .one]], .lit (.bool true)), (.call 74 [.agg [.nd 0 (.flt .f32), .nd 1 .one], .agg (nds 2 K3)], .tup [.nd 5 (.int .i64), .lit (.bool true)])] 0) 20
          (nk := [(.atom 0, .flt .f32), (.atom 1, .one), (.atom 2, .int .i32), (.atom 3, .int .i32), (.atom 4, .int .i32), (.atom 5, .int .i64), (.atom 6, .int .i32), (.atom 7, .int .i32), (.atom 8, .int .i32), (.atom 9, .flt .f32), (.atom 10, .flt .f32), (.atom 11, .flt .f32), (.atom 12, .flt .f32), (.atom 13, .int .i64), (.atom 14, .int .i64)]) (fs := [])
          (xs := [.flt .f32 x, .slice ls0 0 ms.length cap 9, .int .i32 a, .int .i32 b, .int .i32 c, .int .i64 (i : Int), .int .i32 v0, .int .i32 v1, .int .i32 v2, .flt .f32 v3, .flt .f32 v4, .flt .f32 v5, .flt .f32 v6, .int .i64 v7, .int .i64 v8])
          (ws := [⟨ls0, i * 9, nds 6 KM, false⟩]) (env := [(0, .agg [.nd 0 (.flt .f32), .nd 1 .one]), (1, .agg (nds 2 K3))]) ?_ ?_ tb_ok ap_ok ?_
        · refine midN_in ?_ .nil _ ?_ ⟨fun v hv => (by cases hv), trivial⟩ ?_
          · refine .cons rfl ⟨_, rfl, hx⟩ (.cons rfl rfl ?_)
            (repeat (first | exact .nil | refine .cons rfl ⟨_, rfl⟩ ?_ | refine .cons rfl ⟨_, rfl, by assumption⟩ ?_ | refine .cons rfl (by assumption) ?_))
          · exact .cons (win_elem hr hgS hlt rfl (by rw [hm']; exact (by repeat (first | exact dlNil | refine dlCons (dNd rfl ⟨_, rfl⟩) ?_ | refine dlCons (dNd rfl ⟨_, rfl, by assumption⟩) ?_ | refine dlCons (dNd rfl (by assumption)) ?_)))) .nil
          · exact .cons (rule_ia (k := i) (dNd rfl rfl) (dNd rfl ⟨_, rfl⟩) (by omega) rfl) (.cons (rule_call (args := [.agg [.flt .f32 x, .slice ls0 0 ms.length cap 9]]) (dlCons (dAgg (dlCons (dNd rfl ⟨_, rfl, hx⟩) (dlCons (dNd rfl rfl) dlNil))) dlNil) (dLit rfl) (fun H3 hk => hv' H3 (hk.grew (Nat.le_refl 1)))) (.cons (rule_call (args := [.agg [.flt .f32 x, .slice ls0 0 ms.length cap 9], .agg (plc a b c)]) (dlCons (dAgg (dlCons (dNd rfl ⟨_, rfl, hx⟩) (dlCons (dNd rfl rfl) dlNil))) (dlCons (dAgg (by repeat (first | exact dlNil | refine dlCons (dNd rfl ⟨_, rfl⟩) ?_ | refine dlCons (dNd rfl ⟨_, rfl, by assumption⟩) ?_ | refine dlCons (dNd rfl (by assumption)) ?_))) dlNil)) (dTup (dlCons (dNd rfl ⟨_, rfl⟩) (dlCons (dLit rfl) dlNil))) (fun H3 hk => hf H3 (hk.grew (Nat.le_refl 1)))) .nil))
        · exact envCons (dAgg (dlCons (dNd rfl ⟨_, rfl, hx⟩) (dlCons (dNd rfl rfl) dlNil))) (envCons (show D _ _ _ (.agg (plc a b c)) from dAgg (by repeat (first | exact dlNil | refine dlCons (dNd rfl ⟨_, rfl⟩) ?_ | refine dlCons (dNd rfl ⟨_, rfl, by assumption⟩) ?_ | refine dlCons (dNd rfl (by assumption)) ?_))) envNil)
        refine all1 (by kernel_rfl) ?_
        intro vs ls H1 E1 st hE
        rw [hm']
        exact res_ex (by kernel_rfl) (end_flat st.inn hE (.inr rfl) (a := .tuple [.agg [.int .i32 v0, .int .i32 v1, .int .i32 v2, .flt .f32 v3, .flt .f32 v4, .flt .f32 v5, .flt .f32 v6, .int .i64 v7, .int .i64 v8], .int .i64 0]) (by kernel_rfl) (st.kept.grew (Nat.le_of_ble_eq_true (by kernel_rfl))) rfl ⟨rfl, rfl⟩)
end Go.Proofs.Ytgjhjemmddojfaa
