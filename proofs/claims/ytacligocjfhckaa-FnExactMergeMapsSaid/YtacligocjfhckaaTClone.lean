/- Contracts: a list of marks in new memory. -/
import Derived.Test.YtacligocjfhckaaTMapW
import Derived.Test.YtacligocjfhckaaSxD
set_option linter.unusedVariables false
set_option linter.unusedSimpArgs false
namespace Go.Proofs.Ytacligocjfhckaa
open Go.Ab
set_option maxRecDepth 100000
set_option maxHeartbeats 1000000
attribute [local irreducible] Res
theorem k_CloneM (H : AHeap) (ms : List (List AV)) (hr : Recs KM ms) (S : AV) (hS : SlL H 9 ms S) (mxms : ms.length ≤ 1048576) : ACalls Try.prog 60 [S] H fun r H' => Grew H H' ∧ SlF H' 9 ms r ∧ FreshS H.next r := by
 cases hS with
 | nil h0 =>
  refine res_start h_slices_Clone_impl_Mark_impl_Mark (by simp) ?_
  have q1 : KdsL [] [] := .nil
  refine run_mc (φ := φ0) (pm := pmR 0 [] 0) 20 (ws := []) (env := [(0, .lit .nilslice)]) q1 .nil (sepOk_ro rfl) .nil (eC q1 (.cons (t := 0) rfl .nil)) tb_ok ap_ok ?_
  refine all1 (by kernel_rfl) ?_
  intro vs ls H2 E2 st hE
  have gz : Grew H H2 := (Grew.trans (Grew.refl _) (gk st))
  exact res_ex (by kernel_rfl) (end_same st.inn hE (.inr rfl) (a := .nilslice) (by kernel_rfl) gz.next ⟨gz, .nil h0, .nil⟩)
 | @sl l n cap rest wr hg hn hc =>
  subst hn
  have hS : SlL H 9 ms (.slice l 0 ms.length cap 9) := .sl hg rfl hc
  refine res_start h_slices_Clone_impl_Mark_impl_Mark (by simp) ?_
  have q1 : KdsL [.one] [.slice l 0 ms.length cap 9] := .cons rfl .nil
  refine run_mc (φ := φ0) (pm := pmR 0 [(.nilS (n1 0), .lit (.bool false))] 0) 20 (ws := []) (env := [(0, n1 0)]) q1 .nil (sepOk_ro rfl) (.cons (⟨.slice l 0 ms.length cap 9, _, (dE q1), dLit rfl, fun E get => by simp [aval, Opd.ev]⟩) .nil) (eC q1 (.cons (t := 0) rfl .nil)) tb_ok ap_ok ?_
  refine all1 (by kernel_rfl) ?_
  intro vs ls H2 E2 st hE
  obtain ⟨p3, e4, r5, n6⟩ := sl_of st.inn hE 5 0 0 0 9 (by kernel_rfl) (ds := []) (by kernel_rfl)
  have op3 : H.next ≤ p3 := Nat.le_trans (Nat.le_refl _) (n6 (Nat.le_of_ble_eq_true rfl))
  have b7 := eo st hE 6 (.slice l 0 ms.length cap 9)
  have g8 : Grew H H2 := (gk st)
  have g9 : Grew H H2 := Grew.trans (Grew.refl _) g8
  clear st hE vs ls
  have sx12 : SlF H2 9 [] (.slice p3 0 0 0 9) := .sl (by simpa using r5) rfl (Nat.le_refl _)
  refine res_append0 (d := (some 7)) (sz := 9) (bytes := 48) (x := .tmp 5) (y := .tmp 6) (by kernel_rfl) (S := .slice p3 0 0 0 9) (ys := ms) (by show E2 5 = _; exact e4) sx12 (.inr ⟨_, rfl⟩) (by show srcCells _ _ (E2 6) = _; rw [b7]; exact src_list hr.len (hS.grew g9)) (recs_one hr rfl) (by omega) ?_
  intro S10 H11 sS10 fS10 oS10
  have fr13 : FreshS H.next (S10) := fS10.fresh (FreshS.of_le op3) g9.next
  have g14 : Grew H H11 := Grew.trans g9 oS10
  have q16 := q1.app (.cons sS10.one .nil : KdsL [.one] [S10])
  refine run_mc (φ := φ0) (pm := pmR 0 [] 0) 20 (ws := []) (env := [(6, n1 0), (7, n1 1)]) q16 .nil (sepOk_ro rfl) .nil (eC q16 (.cons (put_ne rfl b7) (.cons put_same .nil))) tb_ok ap_ok ?_
  refine all1 (by kernel_rfl) ?_
  intro vs ls H17 E17 st hE
  have gz : Grew H H17 := (Grew.trans g14 (gk st))
  exact res_ex (by kernel_rfl) (end_same st.inn hE (.inr rfl) (a := S10) (by kernel_rfl) gz.next ⟨gz, (sS10.grew (st.inn.kept.grew (Nat.le_refl _))), fr13⟩)
end Go.Proofs.Ytacligocjfhckaa
