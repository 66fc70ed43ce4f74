/- Sines, cosines, angles without whole turns as plain functions. -/
import Derived.Test.YtcmoeocemmeofaaTTrig
set_option linter.unusedVariables false
set_option linter.unusedSimpArgs false
namespace Go.Proofs.Ytcmoeocemmeofaa
open Go.Ab
set_option maxRecDepth 100000
set_option maxHeartbeats 1000000
attribute [local irreducible] Res
theorem k_spec_SineOf (H : AHeap) (x : Option Nat) (hx : fOk .f32 x) : APure Try.prog 112 [.flt .f32 x] H (.flt .f32 (sinF x)) := by
  refine res_start h_spec_SineOf (by simp) ?_
  refine run_mn (φ := φ0) (pm := pmR 0 [(.call 122 [.nd 0 (.flt .f32)], .nd 1 (.flt .f32))] 0) 20 (nk := [(.atom 0, .flt .f32), (.atom 1, .flt .f32)]) (fs := []) (xs := [.flt .f32 x, .flt .f32 (sinF x)]) (ws := []) (env := [(0, .nd 0 (.flt .f32))]) ?_ ?_ tb_ok ap_ok ?_
  · refine midN_in ?_ .nil _ ?_ ?_ ?_
    · exact (.cons rfl ⟨_, rfl, hx⟩ (.cons rfl ⟨_, rfl, sinF_ok hx⟩ .nil))
    · exact .nil
    · exact sepOk_ro rfl
    · exact (.cons (rule_call (args := [.flt .f32 x]) (dlCons (dNd rfl ⟨_, rfl, hx⟩) dlNil) (dNd rfl ⟨_, rfl, sinF_ok hx⟩) (fun H9 hk => k_spec_l02Sin H9 x hx)) .nil)
  · exact (envEq rfl (dNd rfl ⟨_, rfl, hx⟩) envNil)
  refine all1 (by kernel_rfl) ?_
  intro vs ls H1 E1 st hE
  refine res_ex (by kernel_rfl) (end_flat st.inn hE (.inr rfl) (a := .flt .f32 (sinF x)) (by kernel_rfl) (Grew.trans (Grew.refl _) (st.kept.grew (Nat.le_of_ble_eq_true (by kernel_rfl)))) rfl ⟨?_, rfl⟩)
  rfl
theorem k_spec_CosineOf (H : AHeap) (x : Option Nat) (hx : fOk .f32 x) : APure Try.prog 111 [.flt .f32 x] H (.flt .f32 (cosF x)) := by
  refine res_start h_spec_CosineOf (by simp) ?_
  refine run_mn (φ := φ0) (pm := pmR 0 [(.call 121 [.nd 0 (.flt .f32)], .nd 1 (.flt .f32))] 0) 20 (nk := [(.atom 0, .flt .f32), (.atom 1, .flt .f32)]) (fs := []) (xs := [.flt .f32 x, .flt .f32 (cosF x)]) (ws := []) (env := [(0, .nd 0 (.flt .f32))]) ?_ ?_ tb_ok ap_ok ?_
  · refine midN_in ?_ .nil _ ?_ ?_ ?_
    · exact (.cons rfl ⟨_, rfl, hx⟩ (.cons rfl ⟨_, rfl, cosF_ok hx⟩ .nil))
    · exact .nil
    · exact sepOk_ro rfl
    · exact (.cons (rule_call (args := [.flt .f32 x]) (dlCons (dNd rfl ⟨_, rfl, hx⟩) dlNil) (dNd rfl ⟨_, rfl, cosF_ok hx⟩) (fun H9 hk => k_spec_l02Cos H9 x hx)) .nil)
  · exact (envEq rfl (dNd rfl ⟨_, rfl, hx⟩) envNil)
  refine all1 (by kernel_rfl) ?_
  intro vs ls H1 E1 st hE
  refine res_ex (by kernel_rfl) (end_flat st.inn hE (.inr rfl) (a := .flt .f32 (cosF x)) (by kernel_rfl) (Grew.trans (Grew.refl _) (st.kept.grew (Nat.le_of_ble_eq_true (by kernel_rfl)))) rfl ⟨?_, rfl⟩)
  rfl
theorem k_spec_WrapAngle (H : AHeap) (x : Option Nat) (hx : fOk .f32 x) : APure Try.prog 113 [.flt .f32 x] H (.flt .f32 (wrapF x)) := by
  refine res_start h_spec_WrapAngle (by simp) ?_
  refine run_mn (φ := φ0) (pm := pmR 0 [(.call 123 [.nd 0 (.flt .f32)], .nd 1 (.flt .f32))] 0) 20 (nk := [(.atom 0, .flt .f32), (.atom 1, .flt .f32)]) (fs := []) (xs := [.flt .f32 x, .flt .f32 (wrapF x)]) (ws := []) (env := [(0, .nd 0 (.flt .f32))]) ?_ ?_ tb_ok ap_ok ?_
  · refine midN_in ?_ .nil _ ?_ ?_ ?_
    · exact (.cons rfl ⟨_, rfl, hx⟩ (.cons rfl ⟨_, rfl, wrapF_ok hx⟩ .nil))
    · exact .nil
    · exact sepOk_ro rfl
    · exact (.cons (rule_call (args := [.flt .f32 x]) (dlCons (dNd rfl ⟨_, rfl, hx⟩) dlNil) (dNd rfl ⟨_, rfl, wrapF_ok hx⟩) (fun H9 hk => k_spec_l02Wrap H9 x hx)) .nil)
  · exact (envEq rfl (dNd rfl ⟨_, rfl, hx⟩) envNil)
  refine all1 (by kernel_rfl) ?_
  intro vs ls H1 E1 st hE
  refine res_ex (by kernel_rfl) (end_flat st.inn hE (.inr rfl) (a := .flt .f32 (wrapF x)) (by kernel_rfl) (Grew.trans (Grew.refl _) (st.kept.grew (Nat.le_of_ble_eq_true (by kernel_rfl)))) rfl ⟨?_, rfl⟩)
  rfl
theorem ap1 {P : Program} {φ : Nat → List AV → AV} {f : Nat} {ap : List (Nat × Nat × List Kd × Kd)} (g : Nat) (F : Option Nat → Option Nat) (hF : ∀ x, fOk .f32 x → fOk .f32 (F x)) (hk : ∀ x H, fOk .f32 x → APure P f [.flt .f32 x] H (.flt .f32 (F x))) (hφ : ∀ x, φ (g + 1) [.flt .f32 x] = .flt .f32 (F x)) (t : ApOk P φ ap) : ApOk P φ ((f, g + 1, [.flt .f32], .flt .f32) :: ap) := .app (fun vs H h => by
  cases h with | cons h1 h2 =>
  cases h2
  obtain ⟨x, rfl, hx⟩ := h1
  rw [hφ]
  exact ⟨hk x H hx, ⟨_, rfl, hF x hx⟩⟩) t
def φP : Nat → List AV → AV := fun g vs => match g, vs with
  | 3, [.flt .f32 x] => .flt .f32 (sinF x)
  | 4, [.flt .f32 x] => .flt .f32 (cosF x)
  | 5, [.flt .f32 x] => .flt .f32 (wrapF x)
  | _, _ => .undef
def apP : List (Nat × Nat × List Kd × Kd) := [(85, 0, [.flt .f32], .bits), (112, 3, [.flt .f32], .flt .f32), (92, 3, [.flt .f32], .flt .f32), (111, 4, [.flt .f32], .flt .f32), (91, 4, [.flt .f32], .flt .f32), (113, 5, [.flt .f32], .flt .f32), (93, 5, [.flt .f32], .flt .f32)]
theorem apP_ok : ApOk Try.prog φP apP := .bits (fun x H _ => k_bits32 H x) (ap1 (φ := φP) 2 sinF (fun x h => sinF_ok h) (fun x H h => k_spec_SineOf H x h) (fun _ => rfl) (ap1 (φ := φP) 2 sinF (fun x h => sinF_ok h) (fun x H h => k_impl_SineOf H x h) (fun _ => rfl) (ap1 (φ := φP) 3 cosF (fun x h => cosF_ok h) (fun x H h => k_spec_CosineOf H x h) (fun _ => rfl) (ap1 (φ := φP) 3 cosF (fun x h => cosF_ok h) (fun x H h => k_impl_CosineOf H x h) (fun _ => rfl) (ap1 (φ := φP) 4 wrapF (fun x h => wrapF_ok h) (fun x H h => k_spec_WrapAngle H x h) (fun _ => rfl) (ap1 (φ := φP) 4 wrapF (fun x h => wrapF_ok h) (fun x H h => k_impl_WrapAngle H x h) (fun _ => rfl) .nil))))))
def pmP : Pm := ⟨0, [], tb, apP, 1000⟩
end Go.Proofs.Ytcmoeocemmeofaa
