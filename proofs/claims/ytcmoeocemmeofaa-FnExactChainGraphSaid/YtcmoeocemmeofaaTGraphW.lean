/- Contracts of the law's words for graphs: sizes, copies, comparisons. -/
import Derived.Test.YtcmoeocemmeofaaTGraphB
set_option linter.unusedVariables false
set_option linter.unusedSimpArgs false
namespace Go.Proofs.Ytcmoeocemmeofaa
open Go.Ab
set_option maxRecDepth 100000
set_option maxHeartbeats 1000000
attribute [local irreducible] Res
theorem w_toPoseS (H : AHeap) (ms : List (List AV)) (hr : Recs KP ms) (S : AV) (hS : SlL H 3 ms S) (hmax : ms.length ≤ 1048576) : ACalls Try.prog 21 [S] H fun r H' => Grew H H' ∧ SlW H' 3 ms r ∧ FreshS H.next r := by
  refine (k_toPoseS H ms hr S hS hmax).mono ?_
  rintro r H' ⟨g, l, hl, rfl, row⟩
  exact ⟨g, .sl (rest := []) (by simpa using row) rfl (Nat.le_refl _), .of_le hl⟩
theorem k_eqPoseGraph (H : AHeap) (ms : List (List AV)) (hr : Recs KP ms) (S S' : AV) (hS : SlL H 3 ms S) (hS' : SlL H 3 ms S') (hmx : ms.length < 2 ^ 40) (ks : List (List AV)) (hrk : Recs KL ks) (Sk Sk' : AV) (hSk : SlL H 6 ks Sk) (hSk' : SlL H 6 ks Sk') (hmxk : ks.length < 2 ^ 40) : APure Try.prog 17 [.agg [S, Sk], .agg [S', Sk']] H (.bool true) := by
  refine res_start h_laws_eqPoseGraph (by simp) ?_
  refine run_mn (φ := φ0) (pm := pmR 0 [(.call 23 [.nd 0 .one, .nd 2 .one], .lit (.bool true)), (.call 55 [.nd 1 .one, .nd 3 .one], .lit (.bool true))] 0) 20 (nk := [(.atom 0, .one), (.atom 1, .one), (.atom 2, .one), (.atom 3, .one)]) (fs := []) (xs := [S, Sk, S', Sk']) (ws := []) (env := [(0, .agg [.nd 0 .one, .nd 1 .one]), (1, .agg [.nd 2 .one, .nd 3 .one])]) ?_ ?_ tb_ok ap_ok ?_
  · refine midN_in ?_ .nil _ ?_ ?_ ?_
    · exact (.cons rfl (slOne hS) (.cons rfl (slOne hSk) (.cons rfl (slOne hS') (.cons rfl (slOne hSk') .nil))))
    · exact .nil
    · exact sepOk_ro rfl
    · exact (.cons (rule_call (args := [S, S']) (dlCons (dNd rfl (slOne hS)) (dlCons (dNd rfl (slOne hS')) dlNil)) (dLit rfl) (fun H9 hk => k_eqPoseS H9 ms hr _ _ (hS.grew (Grew.trans (Grew.refl _) (hk.grew (Nat.le_refl _)))) (hS'.grew (Grew.trans (Grew.refl _) (hk.grew (Nat.le_refl _)))) hmx)) (.cons (rule_call (args := [Sk, Sk']) (dlCons (dNd rfl (slOne hSk)) (dlCons (dNd rfl (slOne hSk')) dlNil)) (dLit rfl) (fun H9 hk => k_eqLinkS H9 ks hrk _ _ (hSk.grew (Grew.trans (Grew.refl _) (hk.grew (Nat.le_refl _)))) (hSk'.grew (Grew.trans (Grew.refl _) (hk.grew (Nat.le_refl _)))) hmxk)) .nil))
  · exact (envEq rfl (dAgg (dlCons (dNd rfl (slOne hS)) (dlCons (dNd rfl (slOne hSk)) dlNil))) (envEq rfl (dAgg (dlCons (dNd rfl (slOne hS')) (dlCons (dNd rfl (slOne hSk')) dlNil))) envNil))
  refine all1 (by kernel_rfl) ?_
  intro vs ls H1 E1 st hE
  refine res_ex (by kernel_rfl) (end_flat st.inn hE (.inr rfl) (a := .bool true) (by kernel_rfl) (Grew.trans (Grew.refl _) (st.kept.grew (Nat.le_of_ble_eq_true (by kernel_rfl)))) rfl ⟨?_, rfl⟩)
  rfl
end Go.Proofs.Ytcmoeocemmeofaa
