/- Contracts: marks in graphs. -/
import Derived.Test.YtllgmcgdkhnilaaTHeldL
import Derived.Test.YtllgmcgdkhnilaaSxD
set_option linter.unusedVariables false
set_option linter.unusedSimpArgs false
namespace Go.Proofs.Ytllgmcgdkhnilaa
open Go.Ab
set_option maxRecDepth 100000
set_option maxHeartbeats 1000000
attribute [local irreducible] Res
theorem w_markPoseS (H : AHeap) (ms : List (List AV)) (hr : Recs KP ms) (S : AV) (hS : SlW H 3 ms S) (k : Int) (h0 : 0 ≤ k) (h1 : k ≤ 1152921504606846976) (hmax : ms.length ≤ 1048576) : ACalls Try.prog 48 [S, .int .i64 k] H fun r H' => r = .int .i64 (k + 3 * (ms.length : Int)) ∧ OnlyS S H H' ∧ SlW H' 3 (mksPose k ms.length) S := by
  cases hS with
  | @sl l n cap rest hg hn hc =>
    subst hn
    refine (k_markPoseS H ms hr l cap rest hg k h0 h1 hmax).mono ?_
    rintro r H' ⟨rfl, ho, row⟩
    exact ⟨rfl, .of_only ho, .sl row (mksPose_len _ _) hc⟩
  | nil h =>
    subst h
    refine res_start h_laws_markPoseS (by simp) ?_
    refine run_mn (φ := φ0) (pm := pmR 0 [] 2) 20 (nk := [(.atom 0, .int .i64)]) (fs := []) (xs := [.int .i64 k]) (ws := []) (env := [(0, .lit .nilslice), (1, .nd 0 (.int .i64))]) ?_ ?_ tb_ok ap_ok ?_
    · refine midN_in ?_ .nil _ ?_ ?_ ?_
      · exact (.cons rfl ⟨_, rfl⟩ .nil)
      · exact .nil
      · exact sepOk_ro rfl
      · exact .nil
    · exact (envEq rfl (dLit rfl) (envEq rfl (dNd rfl ⟨_, rfl⟩) envNil))
    refine all1 (by kernel_rfl) ?_
    intro vs ls H9 E9 st hE
    have g9 : Grew H H9 := (st.kept.grew (Nat.le_of_ble_eq_true (by kernel_rfl)))
    exact res_ex (by kernel_rfl) (end_same st.inn hE (.inr rfl) (a := .int .i64 k) (by kernel_rfl) g9.next ⟨by simp, .of_grew g9, .nil rfl⟩)
end Go.Proofs.Ytllgmcgdkhnilaa
