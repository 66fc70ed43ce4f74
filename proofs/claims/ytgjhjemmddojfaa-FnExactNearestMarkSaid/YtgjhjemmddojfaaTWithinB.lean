/- Contracts: how far marks are; marks that are too far, left out. -/
import Derived.Test.YtgjhjemmddojfaaTClone
import Derived.Test.YtgjhjemmddojfaaSxE
set_option linter.unusedVariables false
set_option linter.unusedSimpArgs false
namespace Go.Proofs.Ytgjhjemmddojfaa
open Go.Ab
set_option maxRecDepth 100000
set_option maxHeartbeats 1000000
attribute [local irreducible] Res
def φ2 : Nat → List AV → AV := fun g vs => if g = 2 then (match vs with
 | [.flt .f64 x] => .flt .f64 (fSqrt x)
 | _ => .undef) else .undef
theorem k_sqrt (H : AHeap) (x : Option Nat) : APure Try.prog 124 [.flt .f64 x] H (.flt .f64 (fSqrt x)) := x_sqrt Try.func124 (by kernel_rfl) (by kernel_rfl) (by kernel_rfl) (by kernel_rfl) x
def ap2 : List (Nat × Nat × List Kd × Kd) := [(96, 0, [.flt .f32], .bits), (124, 2, [.f64n], .f64n)]
theorem ap2_ok : ApOk Try.prog φ2 ap2 := .bits (fun x H _ => k_bits32 H x) (.app (fun vs H h => by
 cases h with | cons h1 h2 =>
 cases h2
 obtain ⟨x, rfl, hx⟩ := h1
 exact ⟨k_sqrt H x, sqrt_n ⟨x, rfl, hx⟩⟩) .nil)
def KV : List Kd := [.flt .f32, .flt .f32, .flt .f32]
theorem e_away (m v : List AV) (h : KdsL KM m ∧ KdsL KV v) : ∃ r : Option Nat, fOk .f32 r ∧ (∀ H, APure Try.prog 88 [.agg m, .agg v] H (.flt .f32 r)) ∧ ∀ (H : AHeap) (l off : Nat) (pre post : List AV) (wr : Bool), H.get l = some (.row (pre ++ (m ++ post)) wr) → pre.length = off → APure Try.prog 84 [.ptr l off, .agg v] H (.flt .f32 r) := by
 obtain ⟨r, h1, _, h2, h3⟩ := pair_ptr1v (φ := φ2) 20 (sh := .k (.flt .f32)) (f := 88) (g := 84) tb_ok ap2_ok h.1 h.2 (by decide) (by decide) (by kernel_rfl)
 cases h1 with
 | k h1 =>
  obtain ⟨x, rfl, hx⟩ := h1
  exact ⟨x, hx, h2, h3⟩
open Classical in
noncomputable def awayF (v m : List AV) : Option Nat := if h : KdsL KM m ∧ KdsL KV v then Classical.choose (e_away m v h) else none
theorem awayF_ok (v m : List AV) : fOk .f32 (awayF v m) := by
 unfold awayF
 split
 ·
  rename_i h; exact (Classical.choose_spec (e_away m v h)).1
 ·
  intro b hb; cases hb
theorem k_far (m v : List AV) (h : KdsL KM m) (hv : KdsL KV v) (H : AHeap) : APure Try.prog 88 [.agg m, .agg v] H (.flt .f32 (awayF v m)) := by
 unfold awayF; rw [dif_pos ⟨h, hv⟩]; exact (Classical.choose_spec (e_away m v ⟨h, hv⟩)).2.1 H
theorem k_l05Away (m v : List AV) (h : KdsL KM m) (hv : KdsL KV v) {H : AHeap} {l off : Nat} {pre post : List AV} {wr : Bool} (hg : H.get l = some (.row (pre ++ (m ++ post)) wr)) (hp : pre.length = off) : APure Try.prog 84 [.ptr l off, .agg v] H (.flt .f32 (awayF v m)) := by
 unfold awayF; rw [dif_pos ⟨h, hv⟩]; exact (Classical.choose_spec (e_away m v ⟨h, hv⟩)).2.2 H l off pre post wr hg hp
end Go.Proofs.Ytgjhjemmddojfaa
