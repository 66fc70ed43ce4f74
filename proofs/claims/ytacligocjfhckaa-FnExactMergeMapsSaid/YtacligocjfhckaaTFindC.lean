/- Contracts: the find of a map. -/
import Derived.Test.YtacligocjfhckaaTBinC
set_option linter.unusedVariables false
set_option linter.unusedSimpArgs false
namespace Go.Proofs.Ytacligocjfhckaa
open Go.Ab
set_option maxRecDepth 100000
attribute [local irreducible] Res
theorem dTup {xs : List AV} {ls : List (Nat × Nat)} {ws : List SV} {vs : List AV} (t : DL xs ls ws vs) : D xs ls (.tup ws) (.tuple vs) := by simp only [D]; exact ⟨vs, rfl, t⟩
theorem k_find (H : AHeap) (x : Option Nat) (hx : fOk .f32 x) (ms : List (List AV)) (hr : Recs KM ms) (hsort : SortM ms) (S : AV) (hS : SlL H 9 ms S) (a b c : Int) (hmax : ms.length < 2 ^ 40) : APure Try.prog 61 [.agg [.flt .f32 x, S], .agg (plc a b c)] H (.tuple [.int .i64 (lin ms a b c : Int), .bool (fnd ms a b c)]) := by
 have hk : ∀ H3, Kept 0 [] H H3 → APure Try.prog 76 [S, .agg (plc a b c), .func 77 [] []] H3 (.tuple [.int .i64 (lin ms a b c : Int), .bool (fnd ms a b c)]) := fun H3 hk => k_Binary H3 ms hr hsort S (hS.grew (hk.grew (Nat.le_refl _))) a b c hmax
 generalize (lin ms a b c : Int) = u at hk ⊢
 generalize fnd ms a b c = v at hk ⊢
 refine res_start h_impl_LandMap_find (by simp) ?_
 refine run_mn (φ := φ0) (pm := pmR 0 [(.call 76 [.nd 1 .one, .agg (nds 2 K3), .fn 77 [] []], .tup [.nd 5 (.int .i64), .nd 6 .bool])] 0) 20 (nk := [(.atom 0, .flt .f32), (.atom 1, .one), (.atom 2, .int .i32), (.atom 3, .int .i32), (.atom 4, .int .i32), (.atom 5, .int .i64), (.atom 6, .bool)]) (fs := []) (xs := [.flt .f32 x, S, .int .i32 a, .int .i32 b, .int .i32 c, .int .i64 u, .bool v]) (ws := []) (env := [(0, .agg [.nd 0 (.flt .f32), .nd 1 .one]), (1, .agg (nds 2 K3))]) ?_ ?_ tb_ok ap_ok ?_
 ·
  refine midN_in ?_ .nil _ .nil trivial ?_
  ·
   exact .cons rfl ⟨_, rfl, hx⟩ (.cons rfl (slOne hS) (.cons rfl ⟨_, rfl⟩ (.cons rfl ⟨_, rfl⟩ (.cons rfl ⟨_, rfl⟩ (.cons rfl ⟨_, rfl⟩ (.cons rfl ⟨_, rfl⟩ .nil))))))
  ·
   exact .cons (rule_call (args := [S, .agg (plc a b c), .func 77 [] []]) (dlCons (dNd rfl (slOne hS)) (dlCons (dAgg (by repeat (first | exact dlNil | refine dlCons (dNd rfl ⟨_, rfl⟩) ?_ | refine dlCons (dNd rfl ⟨_, rfl, by assumption⟩) ?_ | refine dlCons (dNd rfl (by assumption)) ?_))) (dlCons dFn dlNil))) (dTup (dlCons (dNd rfl ⟨_, rfl⟩) (dlCons (dNd rfl ⟨_, rfl⟩) dlNil))) hk) .nil
 ·
  exact envCons (dAgg (dlCons (dNd rfl ⟨_, rfl, hx⟩) (dlCons (dNd rfl (slOne hS)) dlNil))) (envCons (show D _ _ _ (.agg (plc a b c)) from dAgg (by repeat (first | exact dlNil | refine dlCons (dNd rfl ⟨_, rfl⟩) ?_ | refine dlCons (dNd rfl ⟨_, rfl, by assumption⟩) ?_ | refine dlCons (dNd rfl (by assumption)) ?_))) envNil)
 refine all1 (by kernel_rfl) ?_
 intro vs ls H1 E1 st hE
 exact res_ex (by kernel_rfl) (end_flat st.inn hE (.inr rfl) (a := .tuple [.int .i64 u, .bool v]) (by kernel_rfl) (gk st) rfl ⟨rfl, rfl⟩)
end Go.Proofs.Ytacligocjfhckaa
