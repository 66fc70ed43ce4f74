/- Sines, cosines, angles without whole turns as plain functions. -/
import Derived.Test.YtcmoeocemmeofaaTTrig
set_option linter.unusedVariables false
set_option linter.unusedSimpArgs false
namespace Go.Proofs.Ytcmoeocemmeofaa
open Go.Ab
set_option maxRecDepth 100000
set_option maxHeartbeats 1000000
attribute [local irreducible] Res
theorem k_spec_SineOf (H : AHeap) (x : Option Nat) (hx : fOk .f32 x) : APure Try.prog 112 [.flt .f32 x] H (.flt .f32 (sinF x)) := by
 refine res_start h_spec_SineOf (by simp) ?_
 have q1 : KdsL [KF, KF] [.flt .f32 x, .flt .f32 (sinF x)] := .cons ⟨_, rfl, hx⟩ (.cons ⟨_, rfl, sinF_ok hx⟩ .nil)
 refine run_mc (φ := φ0) (pm := pmR 0 [(.call 122 [nF 0], nF 1)] 0) 20 (ws := []) (env := [(0, nF 0)]) q1 .nil (sepOk_ro rfl) (.cons (rule_call (args := [.flt .f32 x]) (dL q1) (dE q1) (fun H9 hk => k_spec_l02Sin H9 x hx)) .nil) (eC q1 (.cons (t := 0) rfl .nil)) tb_ok ap_ok ?_
 refine all1 (by kernel_rfl) ?_
 intro vs ls H2 E2 st hE
 refine res_ex (by kernel_rfl) (end_flat st.inn hE (.inr rfl) (a := .flt .f32 (sinF x)) (by kernel_rfl) (Grew.trans (Grew.refl _) (gk st)) rfl ⟨?_, rfl⟩)
 rfl
theorem k_spec_CosineOf (H : AHeap) (x : Option Nat) (hx : fOk .f32 x) : APure Try.prog 111 [.flt .f32 x] H (.flt .f32 (cosF x)) := by
 refine res_start h_spec_CosineOf (by simp) ?_
 have q1 : KdsL [KF, KF] [.flt .f32 x, .flt .f32 (cosF x)] := .cons ⟨_, rfl, hx⟩ (.cons ⟨_, rfl, cosF_ok hx⟩ .nil)
 refine run_mc (φ := φ0) (pm := pmR 0 [(.call 121 [nF 0], nF 1)] 0) 20 (ws := []) (env := [(0, nF 0)]) q1 .nil (sepOk_ro rfl) (.cons (rule_call (args := [.flt .f32 x]) (dL q1) (dE q1) (fun H9 hk => k_spec_l02Cos H9 x hx)) .nil) (eC q1 (.cons (t := 0) rfl .nil)) tb_ok ap_ok ?_
 refine all1 (by kernel_rfl) ?_
 intro vs ls H2 E2 st hE
 refine res_ex (by kernel_rfl) (end_flat st.inn hE (.inr rfl) (a := .flt .f32 (cosF x)) (by kernel_rfl) (Grew.trans (Grew.refl _) (gk st)) rfl ⟨?_, rfl⟩)
 rfl
theorem k_spec_WrapAngle (H : AHeap) (x : Option Nat) (hx : fOk .f32 x) : APure Try.prog 113 [.flt .f32 x] H (.flt .f32 (wrapF x)) := by
 refine res_start h_spec_WrapAngle (by simp) ?_
 have q1 : KdsL [KF, KF] [.flt .f32 x, .flt .f32 (wrapF x)] := .cons ⟨_, rfl, hx⟩ (.cons ⟨_, rfl, wrapF_ok hx⟩ .nil)
 refine run_mc (φ := φ0) (pm := pmR 0 [(.call 123 [nF 0], nF 1)] 0) 20 (ws := []) (env := [(0, nF 0)]) q1 .nil (sepOk_ro rfl) (.cons (rule_call (args := [.flt .f32 x]) (dL q1) (dE q1) (fun H9 hk => k_spec_l02Wrap H9 x hx)) .nil) (eC q1 (.cons (t := 0) rfl .nil)) tb_ok ap_ok ?_
 refine all1 (by kernel_rfl) ?_
 intro vs ls H2 E2 st hE
 refine res_ex (by kernel_rfl) (end_flat st.inn hE (.inr rfl) (a := .flt .f32 (wrapF x)) (by kernel_rfl) (Grew.trans (Grew.refl _) (gk st)) rfl ⟨?_, rfl⟩)
 rfl
theorem ap1 {P : Program} {φ : Nat → List AV → AV} {f : Nat} {ap : List (Nat × Nat × List Kd × Kd)} (g : Nat) (F : Option Nat → Option Nat) (hF : ∀ x, fOk .f32 x → fOk .f32 (F x)) (hk : ∀ x H, fOk .f32 x → APure P f [.flt .f32 x] H (.flt .f32 (F x))) (hφ : ∀ x, φ (g + 1) [.flt .f32 x] = .flt .f32 (F x)) (t : ApOk P φ ap) : ApOk P φ ((f, g + 1, [.flt .f32], .flt .f32) :: ap) := .app (fun vs H h => by
 cases h with | cons h1 h2 =>
 cases h2
 obtain ⟨x, rfl, hx⟩ := h1
 rw [hφ]
 exact ⟨hk x H hx, ⟨_, rfl, hF x hx⟩⟩) t
def φP : Nat → List AV → AV := fun g vs => match g, vs with
 | 3, [.flt .f32 x] => .flt .f32 (sinF x)
 | 4, [.flt .f32 x] => .flt .f32 (cosF x)
 | 5, [.flt .f32 x] => .flt .f32 (wrapF x)
 | _, _ => .undef
def apP : List (Nat × Nat × List Kd × Kd) := [(85, 0, [.flt .f32], .bits), (112, 3, [.flt .f32], .flt .f32), (92, 3, [.flt .f32], .flt .f32), (111, 4, [.flt .f32], .flt .f32), (91, 4, [.flt .f32], .flt .f32), (113, 5, [.flt .f32], .flt .f32), (93, 5, [.flt .f32], .flt .f32)]
theorem apP_ok : ApOk Try.prog φP apP := .bits (fun x H _ => k_bits32 H x) (ap1 (φ := φP) 2 sinF (fun x h => sinF_ok h) (fun x H h => k_spec_SineOf H x h) (fun _ => rfl) (ap1 (φ := φP) 2 sinF (fun x h => sinF_ok h) (fun x H h => k_impl_SineOf H x h) (fun _ => rfl) (ap1 (φ := φP) 3 cosF (fun x h => cosF_ok h) (fun x H h => k_spec_CosineOf H x h) (fun _ => rfl) (ap1 (φ := φP) 3 cosF (fun x h => cosF_ok h) (fun x H h => k_impl_CosineOf H x h) (fun _ => rfl) (ap1 (φ := φP) 4 wrapF (fun x h => wrapF_ok h) (fun x H h => k_spec_WrapAngle H x h) (fun _ => rfl) (ap1 (φ := φP) 4 wrapF (fun x h => wrapF_ok h) (fun x H h => k_impl_WrapAngle H x h) (fun _ => rfl) .nil))))))
def pmP : Pm := ⟨0, [], tb, apP, 1000⟩
/-- The same behind a point. -/
def pmPR (fl : Nat) (ru : List (RK × SV)) (un : Nat) : Pm := ⟨fl, ru, tb, apP, un⟩
end Go.Proofs.Ytcmoeocemmeofaa
