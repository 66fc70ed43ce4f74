/- Contracts: a list of marks in new memory. -/
import Derived.Test.YtgjhjemmddojfaaMapW
import Derived.Test.YtgjhjemmddojfaaSxD
set_option linter.unusedVariables false
set_option linter.unusedSimpArgs false
namespace Go.Proofs.Ytgjhjemmddojfaa
open Go.Ab
set_option maxRecDepth 100000
set_option maxHeartbeats 1000000
attribute [local irreducible] Res
theorem k_CloneM (H : AHeap) (ms : List (List AV)) (hr : Recs KM ms) (S : AV) (hS : SlL H 9 ms S) (mxms : ms.length ≤ 1048576) : ACalls Try.prog 86 [S] H fun r H' => Grew H H' ∧ SlF H' 9 ms r ∧ FreshS H.next r := by
  cases hS with
  | nil h0 =>
    refine res_start h_slices_Clone_impl_Mark_impl_Mark (by simp) ?_
    refine run_mn (φ := φ0) (pm := pmR 0 [] 0) 20 (nk := []) (fs := []) (xs := []) (ws := []) (env := [(0, .lit .nilslice)]) ?_ ?_ tb_ok ap_ok ?_
    · refine midN_in ?_ .nil _ ?_ ?_ ?_
      · exact .nil
      · exact .nil
      · exact sepOk_ro rfl
      · exact .nil
    · exact (envEq rfl (dLit rfl) envNil)
    refine all1 (by kernel_rfl) ?_
    intro vs ls H1 E1 st hE
    have gz : Grew H H1 := (Grew.trans (Grew.refl _) (st.kept.grew (Nat.le_of_ble_eq_true (by kernel_rfl))))
    exact res_ex (by kernel_rfl) (end_same st.inn hE (.inr rfl) (a := .nilslice) (by kernel_rfl) gz.next ⟨gz, .nil h0, .nil⟩)
  | @sl l n cap rest wr hg hn hc =>
    subst hn
    have hS : SlL H 9 ms (.slice l 0 ms.length cap 9) := .sl hg rfl hc
    refine res_start h_slices_Clone_impl_Mark_impl_Mark (by simp) ?_
    refine run_mn (φ := φ0) (pm := pmR 0 [(.nilS (.nd 0 .one), .lit (.bool false))] 0) 20 (nk := [(.atom 0, .one)]) (fs := []) (xs := [.slice l 0 ms.length cap 9]) (ws := []) (env := [(0, .nd 0 .one)]) ?_ ?_ tb_ok ap_ok ?_
    · refine midN_in ?_ .nil _ ?_ ?_ ?_
      · exact (.cons rfl rfl .nil)
      · exact .nil
      · exact sepOk_ro rfl
      · exact (.cons (⟨_, _, (dNd rfl rfl), dLit rfl, fun E get => by simp [aval, Opd.ev]⟩) .nil)
    · exact (envEq rfl (dNd rfl rfl) envNil)
    refine all1 (by kernel_rfl) ?_
    intro vs ls H1 E1 st hE
    obtain ⟨p2, e3, r4, n5⟩ := sl_of st.inn hE 5 0 0 0 9 (by kernel_rfl) (ds := []) (by kernel_rfl)
    have op2 : H.next ≤ p2 := Nat.le_trans (Nat.le_refl _) (n5 (Nat.le_of_ble_eq_true rfl))
    have b6 : E1 6 = .slice l 0 ms.length cap 9 := env_of st.inn hE 6 (by kernel_rfl)
    have g7 : Grew H H1 := (st.kept.grew (Nat.le_of_ble_eq_true (by kernel_rfl)))
    have g8 : Grew H H1 := Grew.trans (Grew.refl _) g7
    clear st hE vs ls
    have sx11 : SlF H1 9 [] (.slice p2 0 0 0 9) := .sl (by simpa using r4) rfl (Nat.le_refl _)
    refine res_append0 (d := (some 7)) (sz := 9) (bytes := 48) (x := .tmp 5) (y := .tmp 6) (by kernel_rfl) (S := .slice p2 0 0 0 9) (ys := ms) (by show E1 5 = _; exact e3) sx11 (.inr ⟨_, rfl⟩) (by show srcCells _ _ (E1 6) = _; rw [b6]; exact src_list hr.len (hS.grew g8)) (recs_one hr rfl) (by omega) ?_
    intro S9 H10 sS9 fS9 oS9
    have fr12 : FreshS H.next (S9) := fS9.fresh (FreshS.of_le op2) g8.next
    have g13 : Grew H H10 := Grew.trans g8 oS9
    have r14 := oS9.at r4
    refine run_mn (φ := φ0) (pm := pmR 0 [] 0) 20 (nk := [(.atom 0, .one), (.atom 1, .one)]) (fs := []) (xs := [.slice l 0 ms.length cap 9, S9]) (ws := []) (env := [(6, .nd 0 .one), (7, .nd 1 .one)]) ?_ ?_ tb_ok ap_ok ?_
    · refine midN_in ?_ .nil _ ?_ ?_ ?_
      · exact (.cons rfl rfl (.cons rfl sS9.one .nil))
      · exact .nil
      · exact sepOk_ro rfl
      · exact .nil
    · exact (envEq (put_ne rfl b6) (dNd rfl rfl) (envEq put_same (dNd rfl sS9.one) envNil))
    refine all1 (by kernel_rfl) ?_
    intro vs ls H15 E15 st hE
    have gz : Grew H H15 := (Grew.trans g13 (st.kept.grew (Nat.le_of_ble_eq_true (by kernel_rfl))))
    exact res_ex (by kernel_rfl) (end_same st.inn hE (.inr rfl) (a := S9) (by kernel_rfl) gz.next ⟨gz, (sS9.grew (st.inn.kept.grew (Nat.le_refl _))), fr12⟩)
end Go.Proofs.Ytgjhjemmddojfaa
