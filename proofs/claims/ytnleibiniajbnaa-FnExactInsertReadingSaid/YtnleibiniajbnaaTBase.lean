/- Contracts: the ground of a seat. -/
import Derived.Test.YtnleibiniajbnaaSxD
import Derived.Test.YtnleibiniajbnaaC
import Derived.Test.YtnleibiniajbnaaAbD
import Derived.Test.YtnleibiniajbnaaSxC
import Derived.Test.YtnleibiniajbnaaSxE
set_option linter.unusedVariables false
set_option linter.unusedSimpArgs false
namespace Go.Proofs.Ytnleibiniajbnaa
open Go.Ab
set_option maxRecDepth 100000
attribute [local irreducible] Res
theorem k_bits32 (H : AHeap) (x : Option Nat) : APure Try.prog 127 [.flt .f32 x] H (bits32 x) := x_bits32 Try.func127 kr kr kr kr x
def ap : List (Nat × Nat × List Kd × Kd) := [(127, 0, [.flt .f32], .bits)]
def φ0 : Nat → List AV → AV := fun _ _ => .undef
theorem ap_ok : ApOk Try.prog φ0 ap := .bits (fun x H _ => k_bits32 H x) .nil
def pm : Pm := ⟨0, [], tb, ap, 1000⟩
def pmR (fl : Nat) (ru : List (RK × SV)) (un : Nat) : Pm := ⟨fl, ru, tb, ap, un⟩
theorem rC (fl un : Nat) (ws : List Win) (env : List (Nat × SV)) {ks : List Kd} {xs : List AV} {H : AHeap} {E : Env} {o : Pt} {Q : AExit → Env → AHeap → Prop} (hk : KdsL ks xs) {sl : List (Nat × AV)} (hs : SlotsOk E sl) (h : ∀ p ∈ sxGo (sxCall (pmR fl [] un) 20) (pmR fl [] un) o (midN (nkA 0 ks) [] env ws), ∀ vs ls H' E', Step (midCx Try.prog φ0 xs ws H (pmR fl [] un).fl (pmR fl [] un).ru) (midN (nkA 0 ks) [] env ws) xs (winLs ws) H p.2 vs ls H' → EnvOk p.2.env vs ls E' → Res Try.prog p.1 Q E' H') (hw : WinL H xs (winLs ws) ws := by exact wA) (hp : sepOk ws := by first | exact sepOk_ro rfl | exact sd) (he : envV ks xs (winLs ws) env = some sl := by kernel_rfl) : Res Try.prog o Q E H := run_mc 20 hk hw hp .nil (envC hk he hs) tb_ok ap_ok h
theorem rD (fl un : Nat) (ru : List (RK × SV)) (ws : List Win) (env : List (Nat × SV)) {ks : List Kd} {xs : List AV} {H : AHeap} {E : Env} {o : Pt} {Q : AExit → Env → AHeap → Prop} (hk : KdsL ks xs) (hr : RuL (midCx Try.prog φ0 xs ws H (pmR fl ru un).fl (pmR fl ru un).ru) (pmR fl ru un).ru) {sl : List (Nat × AV)} (hs : SlotsOk E sl) (h : ∀ p ∈ sxGo (sxCall (pmR fl ru un) 20) (pmR fl ru un) o (midN (nkA 0 ks) [] env ws), ∀ vs ls H' E', Step (midCx Try.prog φ0 xs ws H (pmR fl ru un).fl (pmR fl ru un).ru) (midN (nkA 0 ks) [] env ws) xs (winLs ws) H p.2 vs ls H' → EnvOk p.2.env vs ls E' → Res Try.prog p.1 Q E' H') (hw : WinL H xs (winLs ws) ws := by exact wA) (hp : sepOk ws := by first | exact sepOk_ro rfl | exact sd) (he : envV ks xs (winLs ws) env = some sl := by kernel_rfl) : Res Try.prog o Q E H := run_mc 20 hk hw hp hr (envC hk he hs) tb_ok ap_ok h
end Go.Proofs.Ytnleibiniajbnaa
