/- Contracts: sines, cosines, angles without whole turns. -/
import Derived.Test.YtcmoeocemmeofaaTBase
import Derived.Test.YtcmoeocemmeofaaSxE
set_option linter.unusedVariables false
set_option linter.unusedSimpArgs false
namespace Go.Proofs.Ytcmoeocemmeofaa
open Go.Ab
set_option maxRecDepth 100000
set_option maxHeartbeats 1000000
attribute [local irreducible] Res
def φT : Nat → List AV → AV := fun g vs => match g, vs with
  | 1, [.flt .f64 x] => .flt .f64 (fInt .down x)
  | 6, [.flt .f64 x] => .flt .f64 (fInt .even x)
  | _, _ => .undef
theorem k_archFloor (H : AHeap) (x : Option Nat) : APure Try.prog 128 [.flt .f64 x] H (.flt .f64 (fInt .down x)) := x_integral Try.func128 (by kernel_rfl) (by kernel_rfl) (by kernel_rfl) .down "math.archFloor" (by kernel_rfl) x
theorem k_RoundToEven (H : AHeap) (x : Option Nat) : APure Try.prog 117 [.flt .f64 x] H (.flt .f64 (fInt .even x)) := x_integral Try.func117 (by kernel_rfl) (by kernel_rfl) (by kernel_rfl) .even "math.RoundToEven" (by kernel_rfl) x
theorem k_frombits (H : AHeap) : APure Try.prog 127 [.int .u64 9221120237041090561] H (.flt .f64 none) := x_frombits64 Try.func127 (by kernel_rfl) (by kernel_rfl) (by kernel_rfl) (by kernel_rfl) 9221120237041090561 (by decide) (by decide)
theorem fInt_ok (way : Ieee.Toward) {x : Option Nat} (h : fOk .f64 x) : fOk .f64 (fInt way x) := by
  cases x with
  | none => exact none_ok
  | some w =>
    intro b hb
    cases hb
    obtain ⟨_, h2⟩ := h w rfl
    refine ⟨FloatKind.f64.format.write_lt _, (nrm_some (nrm_write .f64 ?_)).2⟩
    generalize FloatKind.f64.decode w = d at h2 ⊢
    cases d <;> first | (cases h2; done) | rfl
def apT : List (Nat × Nat × List Kd × Kd) := [(85, 0, [.flt .f32], .bits), (128, 1, [.flt .f64], .flt .f64), (117, 6, [.flt .f64], .flt .f64)]
theorem apT_ok : ApOk Try.prog φT apT := .bits (fun x H _ => k_bits32 H x) (.app (fun vs H h => by
  cases h with | cons h1 h2 =>
  cases h2
  obtain ⟨x, rfl, hx⟩ := h1
  exact ⟨k_archFloor H x, ⟨_, rfl, fInt_ok _ hx⟩⟩) (.app (fun vs H h => by
  cases h with | cons h1 h2 =>
  cases h2
  obtain ⟨x, rfl, hx⟩ := h1
  exact ⟨k_RoundToEven H x, ⟨_, rfl, fInt_ok _ hx⟩⟩) .nil))
def pmT (fl : Nat) (ru : List (RK × SV)) (un : Nat) : Pm := ⟨fl, ru, tb, apT, un⟩

theorem k_spec_l02Sine (H : AHeap) (t : Option Nat) (b : Nat) (hb : Bnd t b) (hb2 : b ≤ 1022) : APure Try.prog 126 [.flt .f64 t] H (.flt .f32 (sinV t)) := by
  refine res_start h_spec_l02Sine (by simp) ?_
  refine run_mn (φ := φT) (pm := pmT 0 [] 1000) 20 (nk := [(.atom 0, .flt .f64)]) (fs := []) (xs := [.flt .f64 t]) (ws := []) (env := [(0, .nd 0 (.flt .f64))]) ?_ ?_ tb_ok apT_ok ?_
  · refine midN_in ?_ .nil _ ?_ ?_ ?_
    · exact (.cons rfl ⟨_, rfl, hb.ok⟩ .nil)
    · exact .nil
    · exact sepOk_ro rfl
    · exact .nil
  · exact (envEq rfl (dNd rfl ⟨_, rfl, hb.ok⟩) envNil)
  refine all4 (by kernel_rfl) ?_ ?_ ?_ ?_
  ·
    intro vs ls H1 E1 st hE
    have f2 : (ford .f64 (some 4598175219545276416) (fop .sub .f64 (fop .sub .f64 t (fInt .down t)) (some 4602678819172646912)) == some .lt) = true := bfact st.inn 0 (by kernel_rfl)
    have f3 : (ford .f64 (some 4602678819172646912) (fop .sub .f64 t (fInt .down t)) == some .lt || ford .f64 (some 4602678819172646912) (fop .sub .f64 t (fInt .down t)) == some .eq) = true := bfact st.inn 1 (by kernel_rfl)
    obtain ⟨w4, hw4⟩ : ∃ z, z = (negA .f64 (fop .mul .f64 (fop .sub .f64 (some 4607182418800017408) (fop .mul .f64 (fop .quo .f64 (fop .mul .f64 (fop .mul .f64 (some 4618760256179416344) (fop .sub .f64 (some 4602678819172646912) (fop .sub .f64 (fop .sub .f64 t (fInt .down t)) (some 4602678819172646912)))) (fop .mul .f64 (some 4618760256179416344) (fop .sub .f64 (some 4602678819172646912) (fop .sub .f64 (fop .sub .f64 t (fInt .down t)) (some 4602678819172646912))))) (some 4618441417868443648)) (fop .sub .f64 (some 4607182418800017408) (fop .mul .f64 (fop .quo .f64 (fop .mul .f64 (fop .mul .f64 (some 4618760256179416344) (fop .sub .f64 (some 4602678819172646912) (fop .sub .f64 (fop .sub .f64 t (fInt .down t)) (some 4602678819172646912)))) (fop .mul .f64 (some 4618760256179416344) (fop .sub .f64 (some 4602678819172646912) (fop .sub .f64 (fop .sub .f64 t (fInt .down t)) (some 4602678819172646912))))) (some 4626322717216342016)) (fop .sub .f64 (some 4607182418800017408) (fop .mul .f64 (fop .quo .f64 (fop .mul .f64 (fop .mul .f64 (some 4618760256179416344) (fop .sub .f64 (some 4602678819172646912) (fop .sub .f64 (fop .sub .f64 t (fInt .down t)) (some 4602678819172646912)))) (fop .mul .f64 (some 4618760256179416344) (fop .sub .f64 (some 4602678819172646912) (fop .sub .f64 (fop .sub .f64 t (fInt .down t)) (some 4602678819172646912))))) (some 4631107791820423168)) (fop .sub .f64 (some 4607182418800017408) (fop .mul .f64 (fop .quo .f64 (fop .mul .f64 (fop .mul .f64 (some 4618760256179416344) (fop .sub .f64 (some 4602678819172646912) (fop .sub .f64 (fop .sub .f64 t (fInt .down t)) (some 4602678819172646912)))) (fop .mul .f64 (some 4618760256179416344) (fop .sub .f64 (some 4602678819172646912) (fop .sub .f64 (fop .sub .f64 t (fInt .down t)) (some 4602678819172646912))))) (some 4634766966517661696)) (fop .sub .f64 (some 4607182418800017408) (fop .mul .f64 (fop .quo .f64 (fop .mul .f64 (fop .mul .f64 (some 4618760256179416344) (fop .sub .f64 (some 4602678819172646912) (fop .sub .f64 (fop .sub .f64 t (fInt .down t)) (some 4602678819172646912)))) (fop .mul .f64 (some 4618760256179416344) (fop .sub .f64 (some 4602678819172646912) (fop .sub .f64 (fop .sub .f64 t (fInt .down t)) (some 4602678819172646912))))) (some 4637440978796412928)) (fop .sub .f64 (some 4607182418800017408) (fop .mul .f64 (fop .quo .f64 (fop .mul .f64 (fop .mul .f64 (some 4618760256179416344) (fop .sub .f64 (some 4602678819172646912) (fop .sub .f64 (fop .sub .f64 t (fInt .down t)) (some 4602678819172646912)))) (fop .mul .f64 (some 4618760256179416344) (fop .sub .f64 (some 4602678819172646912) (fop .sub .f64 (fop .sub .f64 t (fInt .down t)) (some 4602678819172646912))))) (some 4639692778610098176)) (fop .sub .f64 (some 4607182418800017408) (fop .mul .f64 (fop .quo .f64 (fop .mul .f64 (fop .mul .f64 (some 4618760256179416344) (fop .sub .f64 (some 4602678819172646912) (fop .sub .f64 (fop .sub .f64 t (fInt .down t)) (some 4602678819172646912)))) (fop .mul .f64 (some 4618760256179416344) (fop .sub .f64 (some 4602678819172646912) (fop .sub .f64 (fop .sub .f64 t (fInt .down t)) (some 4602678819172646912))))) (some 4641592734702895104)) (fop .sub .f64 (some 4607182418800017408) (fop .mul .f64 (fop .quo .f64 (fop .mul .f64 (fop .mul .f64 (some 4618760256179416344) (fop .sub .f64 (some 4602678819172646912) (fop .sub .f64 (fop .sub .f64 t (fInt .down t)) (some 4602678819172646912)))) (fop .mul .f64 (some 4618760256179416344) (fop .sub .f64 (some 4602678819172646912) (fop .sub .f64 (fop .sub .f64 t (fInt .down t)) (some 4602678819172646912))))) (some 4643492690795692032)) (some 4607182418800017408))))))))))))))))) (fop .mul .f64 (some 4618760256179416344) (fop .sub .f64 (some 4602678819172646912) (fop .sub .f64 (fop .sub .f64 t (fInt .down t)) (some 4602678819172646912)))))) := ⟨_, rfl⟩
    have b5 : E1 52 = .flt .f64 w4 := by rw [hw4]; exact env_of st.inn hE 52 (by kernel_rfl)
    have k6 : HasKd (.flt .f64) (.flt .f64 w4) := b5 ▸ kd_env st.inn hE 52 (kd := .flt .f64) (by kernel_rfl)
    have g7 : Grew H H1 := (st.kept.grew (Nat.le_of_ble_eq_true (by kernel_rfl)))
    have g8 : Grew H H1 := Grew.trans (Grew.refl _) g7
    clear st hE vs ls
    have h9 : w4 = sinX t := by rw [hw4]; unfold sinX fold; simp only [show ∀ a, fop .sub .f64 a (fInt .down a) = frac a from fun _ => rfl, show some 4602678819172646912 = half from rfl, show some 4598175219545276416 = quarter from rfl] at *; simp only [f2, f3, if_true, Bool.false_eq_true, if_false]; rfl
    refine res_conv (d := some 53) (c := .ff .f32) (x := .tmp 52) (r := .flt .f32 (sinV t)) (by kernel_rfl) (cv_ff b5 (by rw [h9]; exact (sinV_ok hb (by omega)).1)) ?_
    refine run_mn (φ := φT) (pm := pmT 0 [] 1000) 20 (nk := [(.atom 0, .flt .f64), (.atom 1, .flt .f64), (.atom 2, .flt .f32)]) (fs := []) (xs := [.flt .f64 t, .flt .f64 w4, .flt .f32 (sinV t)]) (ws := []) (env := [(52, .nd 1 (.flt .f64)), (53, .nd 2 (.flt .f32))]) ?_ ?_ tb_ok apT_ok ?_
    · refine midN_in ?_ .nil _ ?_ ?_ ?_
      · exact (.cons rfl ⟨_, rfl, hb.ok⟩ (.cons rfl k6 (.cons rfl ⟨_, rfl, (sinV_ok hb (by omega)).2⟩ .nil)))
      · exact .nil
      · exact sepOk_ro rfl
      · exact .nil
    · exact (envEq (put_ne rfl b5) (dNd rfl k6) (envEq put_same (dNd rfl ⟨_, rfl, (sinV_ok hb (by omega)).2⟩) envNil))
    refine all1 (by kernel_rfl) ?_
    intro vs ls H10 E10 st hE
    refine res_ex (by kernel_rfl) (end_flat st.inn hE (.inr rfl) (a := .flt .f32 (sinV t)) (by kernel_rfl) (Grew.trans g8 (st.kept.grew (Nat.le_of_ble_eq_true (by kernel_rfl)))) rfl ⟨?_, rfl⟩)
    rfl
  ·
    intro vs ls H11 E11 st hE
    have f12 : (ford .f64 (some 4598175219545276416) (fop .sub .f64 (fop .sub .f64 t (fInt .down t)) (some 4602678819172646912)) == some .lt) = false := bfact st.inn 0 (by kernel_rfl)
    have f13 : (ford .f64 (some 4602678819172646912) (fop .sub .f64 t (fInt .down t)) == some .lt || ford .f64 (some 4602678819172646912) (fop .sub .f64 t (fInt .down t)) == some .eq) = true := bfact st.inn 1 (by kernel_rfl)
    obtain ⟨w14, hw14⟩ : ∃ z, z = (negA .f64 (fop .mul .f64 (fop .sub .f64 (some 4607182418800017408) (fop .mul .f64 (fop .quo .f64 (fop .mul .f64 (fop .mul .f64 (some 4618760256179416344) (fop .sub .f64 (fop .sub .f64 t (fInt .down t)) (some 4602678819172646912))) (fop .mul .f64 (some 4618760256179416344) (fop .sub .f64 (fop .sub .f64 t (fInt .down t)) (some 4602678819172646912)))) (some 4618441417868443648)) (fop .sub .f64 (some 4607182418800017408) (fop .mul .f64 (fop .quo .f64 (fop .mul .f64 (fop .mul .f64 (some 4618760256179416344) (fop .sub .f64 (fop .sub .f64 t (fInt .down t)) (some 4602678819172646912))) (fop .mul .f64 (some 4618760256179416344) (fop .sub .f64 (fop .sub .f64 t (fInt .down t)) (some 4602678819172646912)))) (some 4626322717216342016)) (fop .sub .f64 (some 4607182418800017408) (fop .mul .f64 (fop .quo .f64 (fop .mul .f64 (fop .mul .f64 (some 4618760256179416344) (fop .sub .f64 (fop .sub .f64 t (fInt .down t)) (some 4602678819172646912))) (fop .mul .f64 (some 4618760256179416344) (fop .sub .f64 (fop .sub .f64 t (fInt .down t)) (some 4602678819172646912)))) (some 4631107791820423168)) (fop .sub .f64 (some 4607182418800017408) (fop .mul .f64 (fop .quo .f64 (fop .mul .f64 (fop .mul .f64 (some 4618760256179416344) (fop .sub .f64 (fop .sub .f64 t (fInt .down t)) (some 4602678819172646912))) (fop .mul .f64 (some 4618760256179416344) (fop .sub .f64 (fop .sub .f64 t (fInt .down t)) (some 4602678819172646912)))) (some 4634766966517661696)) (fop .sub .f64 (some 4607182418800017408) (fop .mul .f64 (fop .quo .f64 (fop .mul .f64 (fop .mul .f64 (some 4618760256179416344) (fop .sub .f64 (fop .sub .f64 t (fInt .down t)) (some 4602678819172646912))) (fop .mul .f64 (some 4618760256179416344) (fop .sub .f64 (fop .sub .f64 t (fInt .down t)) (some 4602678819172646912)))) (some 4637440978796412928)) (fop .sub .f64 (some 4607182418800017408) (fop .mul .f64 (fop .quo .f64 (fop .mul .f64 (fop .mul .f64 (some 4618760256179416344) (fop .sub .f64 (fop .sub .f64 t (fInt .down t)) (some 4602678819172646912))) (fop .mul .f64 (some 4618760256179416344) (fop .sub .f64 (fop .sub .f64 t (fInt .down t)) (some 4602678819172646912)))) (some 4639692778610098176)) (fop .sub .f64 (some 4607182418800017408) (fop .mul .f64 (fop .quo .f64 (fop .mul .f64 (fop .mul .f64 (some 4618760256179416344) (fop .sub .f64 (fop .sub .f64 t (fInt .down t)) (some 4602678819172646912))) (fop .mul .f64 (some 4618760256179416344) (fop .sub .f64 (fop .sub .f64 t (fInt .down t)) (some 4602678819172646912)))) (some 4641592734702895104)) (fop .sub .f64 (some 4607182418800017408) (fop .mul .f64 (fop .quo .f64 (fop .mul .f64 (fop .mul .f64 (some 4618760256179416344) (fop .sub .f64 (fop .sub .f64 t (fInt .down t)) (some 4602678819172646912))) (fop .mul .f64 (some 4618760256179416344) (fop .sub .f64 (fop .sub .f64 t (fInt .down t)) (some 4602678819172646912)))) (some 4643492690795692032)) (some 4607182418800017408))))))))))))))))) (fop .mul .f64 (some 4618760256179416344) (fop .sub .f64 (fop .sub .f64 t (fInt .down t)) (some 4602678819172646912))))) := ⟨_, rfl⟩
    have b15 : E11 52 = .flt .f64 w14 := by rw [hw14]; exact env_of st.inn hE 52 (by kernel_rfl)
    have k16 : HasKd (.flt .f64) (.flt .f64 w14) := b15 ▸ kd_env st.inn hE 52 (kd := .flt .f64) (by kernel_rfl)
    have g17 : Grew H H11 := (st.kept.grew (Nat.le_of_ble_eq_true (by kernel_rfl)))
    have g18 : Grew H H11 := Grew.trans (Grew.refl _) g17
    clear st hE vs ls
    have h19 : w14 = sinX t := by rw [hw14]; unfold sinX fold; simp only [show ∀ a, fop .sub .f64 a (fInt .down a) = frac a from fun _ => rfl, show some 4602678819172646912 = half from rfl, show some 4598175219545276416 = quarter from rfl] at *; simp only [f12, f13, if_true, Bool.false_eq_true, if_false]; rfl
    refine res_conv (d := some 53) (c := .ff .f32) (x := .tmp 52) (r := .flt .f32 (sinV t)) (by kernel_rfl) (cv_ff b15 (by rw [h19]; exact (sinV_ok hb (by omega)).1)) ?_
    refine run_mn (φ := φT) (pm := pmT 0 [] 1000) 20 (nk := [(.atom 0, .flt .f64), (.atom 1, .flt .f64), (.atom 2, .flt .f32)]) (fs := []) (xs := [.flt .f64 t, .flt .f64 w14, .flt .f32 (sinV t)]) (ws := []) (env := [(52, .nd 1 (.flt .f64)), (53, .nd 2 (.flt .f32))]) ?_ ?_ tb_ok apT_ok ?_
    · refine midN_in ?_ .nil _ ?_ ?_ ?_
      · exact (.cons rfl ⟨_, rfl, hb.ok⟩ (.cons rfl k16 (.cons rfl ⟨_, rfl, (sinV_ok hb (by omega)).2⟩ .nil)))
      · exact .nil
      · exact sepOk_ro rfl
      · exact .nil
    · exact (envEq (put_ne rfl b15) (dNd rfl k16) (envEq put_same (dNd rfl ⟨_, rfl, (sinV_ok hb (by omega)).2⟩) envNil))
    refine all1 (by kernel_rfl) ?_
    intro vs ls H20 E20 st hE
    refine res_ex (by kernel_rfl) (end_flat st.inn hE (.inr rfl) (a := .flt .f32 (sinV t)) (by kernel_rfl) (Grew.trans g18 (st.kept.grew (Nat.le_of_ble_eq_true (by kernel_rfl)))) rfl ⟨?_, rfl⟩)
    rfl
  ·
    intro vs ls H21 E21 st hE
    have f22 : (ford .f64 (some 4598175219545276416) (fop .sub .f64 t (fInt .down t)) == some .lt) = true := bfact st.inn 0 (by kernel_rfl)
    have f23 : (ford .f64 (some 4602678819172646912) (fop .sub .f64 t (fInt .down t)) == some .lt || ford .f64 (some 4602678819172646912) (fop .sub .f64 t (fInt .down t)) == some .eq) = false := bfact st.inn 1 (by kernel_rfl)
    obtain ⟨w24, hw24⟩ : ∃ z, z = (fop .mul .f64 (fop .sub .f64 (some 4607182418800017408) (fop .mul .f64 (fop .quo .f64 (fop .mul .f64 (fop .mul .f64 (some 4618760256179416344) (fop .sub .f64 (some 4602678819172646912) (fop .sub .f64 t (fInt .down t)))) (fop .mul .f64 (some 4618760256179416344) (fop .sub .f64 (some 4602678819172646912) (fop .sub .f64 t (fInt .down t))))) (some 4618441417868443648)) (fop .sub .f64 (some 4607182418800017408) (fop .mul .f64 (fop .quo .f64 (fop .mul .f64 (fop .mul .f64 (some 4618760256179416344) (fop .sub .f64 (some 4602678819172646912) (fop .sub .f64 t (fInt .down t)))) (fop .mul .f64 (some 4618760256179416344) (fop .sub .f64 (some 4602678819172646912) (fop .sub .f64 t (fInt .down t))))) (some 4626322717216342016)) (fop .sub .f64 (some 4607182418800017408) (fop .mul .f64 (fop .quo .f64 (fop .mul .f64 (fop .mul .f64 (some 4618760256179416344) (fop .sub .f64 (some 4602678819172646912) (fop .sub .f64 t (fInt .down t)))) (fop .mul .f64 (some 4618760256179416344) (fop .sub .f64 (some 4602678819172646912) (fop .sub .f64 t (fInt .down t))))) (some 4631107791820423168)) (fop .sub .f64 (some 4607182418800017408) (fop .mul .f64 (fop .quo .f64 (fop .mul .f64 (fop .mul .f64 (some 4618760256179416344) (fop .sub .f64 (some 4602678819172646912) (fop .sub .f64 t (fInt .down t)))) (fop .mul .f64 (some 4618760256179416344) (fop .sub .f64 (some 4602678819172646912) (fop .sub .f64 t (fInt .down t))))) (some 4634766966517661696)) (fop .sub .f64 (some 4607182418800017408) (fop .mul .f64 (fop .quo .f64 (fop .mul .f64 (fop .mul .f64 (some 4618760256179416344) (fop .sub .f64 (some 4602678819172646912) (fop .sub .f64 t (fInt .down t)))) (fop .mul .f64 (some 4618760256179416344) (fop .sub .f64 (some 4602678819172646912) (fop .sub .f64 t (fInt .down t))))) (some 4637440978796412928)) (fop .sub .f64 (some 4607182418800017408) (fop .mul .f64 (fop .quo .f64 (fop .mul .f64 (fop .mul .f64 (some 4618760256179416344) (fop .sub .f64 (some 4602678819172646912) (fop .sub .f64 t (fInt .down t)))) (fop .mul .f64 (some 4618760256179416344) (fop .sub .f64 (some 4602678819172646912) (fop .sub .f64 t (fInt .down t))))) (some 4639692778610098176)) (fop .sub .f64 (some 4607182418800017408) (fop .mul .f64 (fop .quo .f64 (fop .mul .f64 (fop .mul .f64 (some 4618760256179416344) (fop .sub .f64 (some 4602678819172646912) (fop .sub .f64 t (fInt .down t)))) (fop .mul .f64 (some 4618760256179416344) (fop .sub .f64 (some 4602678819172646912) (fop .sub .f64 t (fInt .down t))))) (some 4641592734702895104)) (fop .sub .f64 (some 4607182418800017408) (fop .mul .f64 (fop .quo .f64 (fop .mul .f64 (fop .mul .f64 (some 4618760256179416344) (fop .sub .f64 (some 4602678819172646912) (fop .sub .f64 t (fInt .down t)))) (fop .mul .f64 (some 4618760256179416344) (fop .sub .f64 (some 4602678819172646912) (fop .sub .f64 t (fInt .down t))))) (some 4643492690795692032)) (some 4607182418800017408))))))))))))))))) (fop .mul .f64 (some 4618760256179416344) (fop .sub .f64 (some 4602678819172646912) (fop .sub .f64 t (fInt .down t))))) := ⟨_, rfl⟩
    have b25 : E21 52 = .flt .f64 w24 := by rw [hw24]; exact env_of st.inn hE 52 (by kernel_rfl)
    have g26 : Grew H H21 := (st.kept.grew (Nat.le_of_ble_eq_true (by kernel_rfl)))
    have g27 : Grew H H21 := Grew.trans (Grew.refl _) g26
    clear st hE vs ls
    have h28 : w24 = sinX t := by rw [hw24]; unfold sinX fold; simp only [show ∀ a, fop .sub .f64 a (fInt .down a) = frac a from fun _ => rfl, show some 4602678819172646912 = half from rfl, show some 4598175219545276416 = quarter from rfl] at *; simp only [f22, f23, if_true, Bool.false_eq_true, if_false]; rfl
    refine res_conv (d := some 53) (c := .ff .f32) (x := .tmp 52) (r := .flt .f32 (sinV t)) (by kernel_rfl) (cv_ff b25 (by rw [h28]; exact (sinV_ok hb (by omega)).1)) ?_
    refine run_mn (φ := φT) (pm := pmT 0 [] 1000) 20 (nk := [(.atom 0, .flt .f64), (.atom 1, .flt .f64), (.atom 2, .flt .f32)]) (fs := []) (xs := [.flt .f64 t, .flt .f64 w24, .flt .f32 (sinV t)]) (ws := []) (env := [(52, .nd 1 (.flt .f64)), (53, .nd 2 (.flt .f32))]) ?_ ?_ tb_ok apT_ok ?_
    · refine midN_in ?_ .nil _ ?_ ?_ ?_
      · exact (.cons rfl ⟨_, rfl, hb.ok⟩ (.cons rfl ⟨_, rfl, hw24 ▸ fop_ok⟩ (.cons rfl ⟨_, rfl, (sinV_ok hb (by omega)).2⟩ .nil)))
      · exact .nil
      · exact sepOk_ro rfl
      · exact .nil
    · exact (envEq (put_ne rfl b25) (dNd rfl ⟨_, rfl, hw24 ▸ fop_ok⟩) (envEq put_same (dNd rfl ⟨_, rfl, (sinV_ok hb (by omega)).2⟩) envNil))
    refine all1 (by kernel_rfl) ?_
    intro vs ls H29 E29 st hE
    refine res_ex (by kernel_rfl) (end_flat st.inn hE (.inr rfl) (a := .flt .f32 (sinV t)) (by kernel_rfl) (Grew.trans g27 (st.kept.grew (Nat.le_of_ble_eq_true (by kernel_rfl)))) rfl ⟨?_, rfl⟩)
    rfl
  ·
    intro vs ls H30 E30 st hE
    have f31 : (ford .f64 (some 4598175219545276416) (fop .sub .f64 t (fInt .down t)) == some .lt) = false := bfact st.inn 0 (by kernel_rfl)
    have f32 : (ford .f64 (some 4602678819172646912) (fop .sub .f64 t (fInt .down t)) == some .lt || ford .f64 (some 4602678819172646912) (fop .sub .f64 t (fInt .down t)) == some .eq) = false := bfact st.inn 1 (by kernel_rfl)
    obtain ⟨w33, hw33⟩ : ∃ z, z = (fop .mul .f64 (fop .sub .f64 (some 4607182418800017408) (fop .mul .f64 (fop .quo .f64 (fop .mul .f64 (fop .mul .f64 (some 4618760256179416344) (fop .sub .f64 t (fInt .down t))) (fop .mul .f64 (some 4618760256179416344) (fop .sub .f64 t (fInt .down t)))) (some 4618441417868443648)) (fop .sub .f64 (some 4607182418800017408) (fop .mul .f64 (fop .quo .f64 (fop .mul .f64 (fop .mul .f64 (some 4618760256179416344) (fop .sub .f64 t (fInt .down t))) (fop .mul .f64 (some 4618760256179416344) (fop .sub .f64 t (fInt .down t)))) (some 4626322717216342016)) (fop .sub .f64 (some 4607182418800017408) (fop .mul .f64 (fop .quo .f64 (fop .mul .f64 (fop .mul .f64 (some 4618760256179416344) (fop .sub .f64 t (fInt .down t))) (fop .mul .f64 (some 4618760256179416344) (fop .sub .f64 t (fInt .down t)))) (some 4631107791820423168)) (fop .sub .f64 (some 4607182418800017408) (fop .mul .f64 (fop .quo .f64 (fop .mul .f64 (fop .mul .f64 (some 4618760256179416344) (fop .sub .f64 t (fInt .down t))) (fop .mul .f64 (some 4618760256179416344) (fop .sub .f64 t (fInt .down t)))) (some 4634766966517661696)) (fop .sub .f64 (some 4607182418800017408) (fop .mul .f64 (fop .quo .f64 (fop .mul .f64 (fop .mul .f64 (some 4618760256179416344) (fop .sub .f64 t (fInt .down t))) (fop .mul .f64 (some 4618760256179416344) (fop .sub .f64 t (fInt .down t)))) (some 4637440978796412928)) (fop .sub .f64 (some 4607182418800017408) (fop .mul .f64 (fop .quo .f64 (fop .mul .f64 (fop .mul .f64 (some 4618760256179416344) (fop .sub .f64 t (fInt .down t))) (fop .mul .f64 (some 4618760256179416344) (fop .sub .f64 t (fInt .down t)))) (some 4639692778610098176)) (fop .sub .f64 (some 4607182418800017408) (fop .mul .f64 (fop .quo .f64 (fop .mul .f64 (fop .mul .f64 (some 4618760256179416344) (fop .sub .f64 t (fInt .down t))) (fop .mul .f64 (some 4618760256179416344) (fop .sub .f64 t (fInt .down t)))) (some 4641592734702895104)) (fop .sub .f64 (some 4607182418800017408) (fop .mul .f64 (fop .quo .f64 (fop .mul .f64 (fop .mul .f64 (some 4618760256179416344) (fop .sub .f64 t (fInt .down t))) (fop .mul .f64 (some 4618760256179416344) (fop .sub .f64 t (fInt .down t)))) (some 4643492690795692032)) (some 4607182418800017408))))))))))))))))) (fop .mul .f64 (some 4618760256179416344) (fop .sub .f64 t (fInt .down t)))) := ⟨_, rfl⟩
    have b34 : E30 52 = .flt .f64 w33 := by rw [hw33]; exact env_of st.inn hE 52 (by kernel_rfl)
    have g35 : Grew H H30 := (st.kept.grew (Nat.le_of_ble_eq_true (by kernel_rfl)))
    have g36 : Grew H H30 := Grew.trans (Grew.refl _) g35
    clear st hE vs ls
    have h37 : w33 = sinX t := by rw [hw33]; unfold sinX fold; simp only [show ∀ a, fop .sub .f64 a (fInt .down a) = frac a from fun _ => rfl, show some 4602678819172646912 = half from rfl, show some 4598175219545276416 = quarter from rfl] at *; simp only [f31, f32, if_true, Bool.false_eq_true, if_false]; rfl
    refine res_conv (d := some 53) (c := .ff .f32) (x := .tmp 52) (r := .flt .f32 (sinV t)) (by kernel_rfl) (cv_ff b34 (by rw [h37]; exact (sinV_ok hb (by omega)).1)) ?_
    refine run_mn (φ := φT) (pm := pmT 0 [] 1000) 20 (nk := [(.atom 0, .flt .f64), (.atom 1, .flt .f64), (.atom 2, .flt .f32)]) (fs := []) (xs := [.flt .f64 t, .flt .f64 w33, .flt .f32 (sinV t)]) (ws := []) (env := [(52, .nd 1 (.flt .f64)), (53, .nd 2 (.flt .f32))]) ?_ ?_ tb_ok apT_ok ?_
    · refine midN_in ?_ .nil _ ?_ ?_ ?_
      · exact (.cons rfl ⟨_, rfl, hb.ok⟩ (.cons rfl ⟨_, rfl, hw33 ▸ fop_ok⟩ (.cons rfl ⟨_, rfl, (sinV_ok hb (by omega)).2⟩ .nil)))
      · exact .nil
      · exact sepOk_ro rfl
      · exact .nil
    · exact (envEq (put_ne rfl b34) (dNd rfl ⟨_, rfl, hw33 ▸ fop_ok⟩) (envEq put_same (dNd rfl ⟨_, rfl, (sinV_ok hb (by omega)).2⟩) envNil))
    refine all1 (by kernel_rfl) ?_
    intro vs ls H38 E38 st hE
    refine res_ex (by kernel_rfl) (end_flat st.inn hE (.inr rfl) (a := .flt .f32 (sinV t)) (by kernel_rfl) (Grew.trans g36 (st.kept.grew (Nat.le_of_ble_eq_true (by kernel_rfl)))) rfl ⟨?_, rfl⟩)
    rfl
theorem k_impl_sineOfTurns (H : AHeap) (t : Option Nat) (b : Nat) (hb : Bnd t b) (hb2 : b ≤ 1022) : APure Try.prog 115 [.flt .f64 t] H (.flt .f32 (sinV t)) := by
  refine res_start h_impl_sineOfTurns (by simp) ?_
  refine run_mn (φ := φT) (pm := pmT 0 [] 1000) 20 (nk := [(.atom 0, .flt .f64)]) (fs := []) (xs := [.flt .f64 t]) (ws := []) (env := [(0, .nd 0 (.flt .f64))]) ?_ ?_ tb_ok apT_ok ?_
  · refine midN_in ?_ .nil _ ?_ ?_ ?_
    · exact (.cons rfl ⟨_, rfl, hb.ok⟩ .nil)
    · exact .nil
    · exact sepOk_ro rfl
    · exact .nil
  · exact (envEq rfl (dNd rfl ⟨_, rfl, hb.ok⟩) envNil)
  refine all4 (by kernel_rfl) ?_ ?_ ?_ ?_
  ·
    intro vs ls H1 E1 st hE
    have f2 : (ford .f64 (some 4598175219545276416) (fop .sub .f64 (fop .sub .f64 t (fInt .down t)) (some 4602678819172646912)) == some .lt) = true := bfact st.inn 0 (by kernel_rfl)
    have f3 : (ford .f64 (some 4602678819172646912) (fop .sub .f64 t (fInt .down t)) == some .lt || ford .f64 (some 4602678819172646912) (fop .sub .f64 t (fInt .down t)) == some .eq) = true := bfact st.inn 1 (by kernel_rfl)
    obtain ⟨w4, hw4⟩ : ∃ z, z = (negA .f64 (fop .mul .f64 (fop .sub .f64 (some 4607182418800017408) (fop .mul .f64 (fop .quo .f64 (fop .mul .f64 (fop .mul .f64 (some 4618760256179416344) (fop .sub .f64 (some 4602678819172646912) (fop .sub .f64 (fop .sub .f64 t (fInt .down t)) (some 4602678819172646912)))) (fop .mul .f64 (some 4618760256179416344) (fop .sub .f64 (some 4602678819172646912) (fop .sub .f64 (fop .sub .f64 t (fInt .down t)) (some 4602678819172646912))))) (some 4618441417868443648)) (fop .sub .f64 (some 4607182418800017408) (fop .mul .f64 (fop .quo .f64 (fop .mul .f64 (fop .mul .f64 (some 4618760256179416344) (fop .sub .f64 (some 4602678819172646912) (fop .sub .f64 (fop .sub .f64 t (fInt .down t)) (some 4602678819172646912)))) (fop .mul .f64 (some 4618760256179416344) (fop .sub .f64 (some 4602678819172646912) (fop .sub .f64 (fop .sub .f64 t (fInt .down t)) (some 4602678819172646912))))) (some 4626322717216342016)) (fop .sub .f64 (some 4607182418800017408) (fop .mul .f64 (fop .quo .f64 (fop .mul .f64 (fop .mul .f64 (some 4618760256179416344) (fop .sub .f64 (some 4602678819172646912) (fop .sub .f64 (fop .sub .f64 t (fInt .down t)) (some 4602678819172646912)))) (fop .mul .f64 (some 4618760256179416344) (fop .sub .f64 (some 4602678819172646912) (fop .sub .f64 (fop .sub .f64 t (fInt .down t)) (some 4602678819172646912))))) (some 4631107791820423168)) (fop .sub .f64 (some 4607182418800017408) (fop .mul .f64 (fop .quo .f64 (fop .mul .f64 (fop .mul .f64 (some 4618760256179416344) (fop .sub .f64 (some 4602678819172646912) (fop .sub .f64 (fop .sub .f64 t (fInt .down t)) (some 4602678819172646912)))) (fop .mul .f64 (some 4618760256179416344) (fop .sub .f64 (some 4602678819172646912) (fop .sub .f64 (fop .sub .f64 t (fInt .down t)) (some 4602678819172646912))))) (some 4634766966517661696)) (fop .sub .f64 (some 4607182418800017408) (fop .mul .f64 (fop .quo .f64 (fop .mul .f64 (fop .mul .f64 (some 4618760256179416344) (fop .sub .f64 (some 4602678819172646912) (fop .sub .f64 (fop .sub .f64 t (fInt .down t)) (some 4602678819172646912)))) (fop .mul .f64 (some 4618760256179416344) (fop .sub .f64 (some 4602678819172646912) (fop .sub .f64 (fop .sub .f64 t (fInt .down t)) (some 4602678819172646912))))) (some 4637440978796412928)) (fop .sub .f64 (some 4607182418800017408) (fop .mul .f64 (fop .quo .f64 (fop .mul .f64 (fop .mul .f64 (some 4618760256179416344) (fop .sub .f64 (some 4602678819172646912) (fop .sub .f64 (fop .sub .f64 t (fInt .down t)) (some 4602678819172646912)))) (fop .mul .f64 (some 4618760256179416344) (fop .sub .f64 (some 4602678819172646912) (fop .sub .f64 (fop .sub .f64 t (fInt .down t)) (some 4602678819172646912))))) (some 4639692778610098176)) (fop .sub .f64 (some 4607182418800017408) (fop .mul .f64 (fop .quo .f64 (fop .mul .f64 (fop .mul .f64 (some 4618760256179416344) (fop .sub .f64 (some 4602678819172646912) (fop .sub .f64 (fop .sub .f64 t (fInt .down t)) (some 4602678819172646912)))) (fop .mul .f64 (some 4618760256179416344) (fop .sub .f64 (some 4602678819172646912) (fop .sub .f64 (fop .sub .f64 t (fInt .down t)) (some 4602678819172646912))))) (some 4641592734702895104)) (fop .sub .f64 (some 4607182418800017408) (fop .mul .f64 (fop .quo .f64 (fop .mul .f64 (fop .mul .f64 (some 4618760256179416344) (fop .sub .f64 (some 4602678819172646912) (fop .sub .f64 (fop .sub .f64 t (fInt .down t)) (some 4602678819172646912)))) (fop .mul .f64 (some 4618760256179416344) (fop .sub .f64 (some 4602678819172646912) (fop .sub .f64 (fop .sub .f64 t (fInt .down t)) (some 4602678819172646912))))) (some 4643492690795692032)) (some 4607182418800017408))))))))))))))))) (fop .mul .f64 (some 4618760256179416344) (fop .sub .f64 (some 4602678819172646912) (fop .sub .f64 (fop .sub .f64 t (fInt .down t)) (some 4602678819172646912)))))) := ⟨_, rfl⟩
    have b5 : E1 49 = .flt .f64 w4 := by rw [hw4]; exact env_of st.inn hE 49 (by kernel_rfl)
    have k6 : HasKd (.flt .f64) (.flt .f64 w4) := b5 ▸ kd_env st.inn hE 49 (kd := .flt .f64) (by kernel_rfl)
    have g7 : Grew H H1 := (st.kept.grew (Nat.le_of_ble_eq_true (by kernel_rfl)))
    have g8 : Grew H H1 := Grew.trans (Grew.refl _) g7
    clear st hE vs ls
    have h9 : w4 = sinX t := by rw [hw4]; unfold sinX fold; simp only [show ∀ a, fop .sub .f64 a (fInt .down a) = frac a from fun _ => rfl, show some 4602678819172646912 = half from rfl, show some 4598175219545276416 = quarter from rfl] at *; simp only [f2, f3, if_true, Bool.false_eq_true, if_false]; rfl
    refine res_conv (d := some 50) (c := .ff .f32) (x := .tmp 49) (r := .flt .f32 (sinV t)) (by kernel_rfl) (cv_ff b5 (by rw [h9]; exact (sinV_ok hb (by omega)).1)) ?_
    refine run_mn (φ := φT) (pm := pmT 0 [] 1000) 20 (nk := [(.atom 0, .flt .f64), (.atom 1, .flt .f64), (.atom 2, .flt .f32)]) (fs := []) (xs := [.flt .f64 t, .flt .f64 w4, .flt .f32 (sinV t)]) (ws := []) (env := [(49, .nd 1 (.flt .f64)), (50, .nd 2 (.flt .f32))]) ?_ ?_ tb_ok apT_ok ?_
    · refine midN_in ?_ .nil _ ?_ ?_ ?_
      · exact (.cons rfl ⟨_, rfl, hb.ok⟩ (.cons rfl k6 (.cons rfl ⟨_, rfl, (sinV_ok hb (by omega)).2⟩ .nil)))
      · exact .nil
      · exact sepOk_ro rfl
      · exact .nil
    · exact (envEq (put_ne rfl b5) (dNd rfl k6) (envEq put_same (dNd rfl ⟨_, rfl, (sinV_ok hb (by omega)).2⟩) envNil))
    refine all1 (by kernel_rfl) ?_
    intro vs ls H10 E10 st hE
    refine res_ex (by kernel_rfl) (end_flat st.inn hE (.inr rfl) (a := .flt .f32 (sinV t)) (by kernel_rfl) (Grew.trans g8 (st.kept.grew (Nat.le_of_ble_eq_true (by kernel_rfl)))) rfl ⟨?_, rfl⟩)
    rfl
  ·
    intro vs ls H11 E11 st hE
    have f12 : (ford .f64 (some 4598175219545276416) (fop .sub .f64 (fop .sub .f64 t (fInt .down t)) (some 4602678819172646912)) == some .lt) = false := bfact st.inn 0 (by kernel_rfl)
    have f13 : (ford .f64 (some 4602678819172646912) (fop .sub .f64 t (fInt .down t)) == some .lt || ford .f64 (some 4602678819172646912) (fop .sub .f64 t (fInt .down t)) == some .eq) = true := bfact st.inn 1 (by kernel_rfl)
    obtain ⟨w14, hw14⟩ : ∃ z, z = (negA .f64 (fop .mul .f64 (fop .sub .f64 (some 4607182418800017408) (fop .mul .f64 (fop .quo .f64 (fop .mul .f64 (fop .mul .f64 (some 4618760256179416344) (fop .sub .f64 (fop .sub .f64 t (fInt .down t)) (some 4602678819172646912))) (fop .mul .f64 (some 4618760256179416344) (fop .sub .f64 (fop .sub .f64 t (fInt .down t)) (some 4602678819172646912)))) (some 4618441417868443648)) (fop .sub .f64 (some 4607182418800017408) (fop .mul .f64 (fop .quo .f64 (fop .mul .f64 (fop .mul .f64 (some 4618760256179416344) (fop .sub .f64 (fop .sub .f64 t (fInt .down t)) (some 4602678819172646912))) (fop .mul .f64 (some 4618760256179416344) (fop .sub .f64 (fop .sub .f64 t (fInt .down t)) (some 4602678819172646912)))) (some 4626322717216342016)) (fop .sub .f64 (some 4607182418800017408) (fop .mul .f64 (fop .quo .f64 (fop .mul .f64 (fop .mul .f64 (some 4618760256179416344) (fop .sub .f64 (fop .sub .f64 t (fInt .down t)) (some 4602678819172646912))) (fop .mul .f64 (some 4618760256179416344) (fop .sub .f64 (fop .sub .f64 t (fInt .down t)) (some 4602678819172646912)))) (some 4631107791820423168)) (fop .sub .f64 (some 4607182418800017408) (fop .mul .f64 (fop .quo .f64 (fop .mul .f64 (fop .mul .f64 (some 4618760256179416344) (fop .sub .f64 (fop .sub .f64 t (fInt .down t)) (some 4602678819172646912))) (fop .mul .f64 (some 4618760256179416344) (fop .sub .f64 (fop .sub .f64 t (fInt .down t)) (some 4602678819172646912)))) (some 4634766966517661696)) (fop .sub .f64 (some 4607182418800017408) (fop .mul .f64 (fop .quo .f64 (fop .mul .f64 (fop .mul .f64 (some 4618760256179416344) (fop .sub .f64 (fop .sub .f64 t (fInt .down t)) (some 4602678819172646912))) (fop .mul .f64 (some 4618760256179416344) (fop .sub .f64 (fop .sub .f64 t (fInt .down t)) (some 4602678819172646912)))) (some 4637440978796412928)) (fop .sub .f64 (some 4607182418800017408) (fop .mul .f64 (fop .quo .f64 (fop .mul .f64 (fop .mul .f64 (some 4618760256179416344) (fop .sub .f64 (fop .sub .f64 t (fInt .down t)) (some 4602678819172646912))) (fop .mul .f64 (some 4618760256179416344) (fop .sub .f64 (fop .sub .f64 t (fInt .down t)) (some 4602678819172646912)))) (some 4639692778610098176)) (fop .sub .f64 (some 4607182418800017408) (fop .mul .f64 (fop .quo .f64 (fop .mul .f64 (fop .mul .f64 (some 4618760256179416344) (fop .sub .f64 (fop .sub .f64 t (fInt .down t)) (some 4602678819172646912))) (fop .mul .f64 (some 4618760256179416344) (fop .sub .f64 (fop .sub .f64 t (fInt .down t)) (some 4602678819172646912)))) (some 4641592734702895104)) (fop .sub .f64 (some 4607182418800017408) (fop .mul .f64 (fop .quo .f64 (fop .mul .f64 (fop .mul .f64 (some 4618760256179416344) (fop .sub .f64 (fop .sub .f64 t (fInt .down t)) (some 4602678819172646912))) (fop .mul .f64 (some 4618760256179416344) (fop .sub .f64 (fop .sub .f64 t (fInt .down t)) (some 4602678819172646912)))) (some 4643492690795692032)) (some 4607182418800017408))))))))))))))))) (fop .mul .f64 (some 4618760256179416344) (fop .sub .f64 (fop .sub .f64 t (fInt .down t)) (some 4602678819172646912))))) := ⟨_, rfl⟩
    have b15 : E11 49 = .flt .f64 w14 := by rw [hw14]; exact env_of st.inn hE 49 (by kernel_rfl)
    have k16 : HasKd (.flt .f64) (.flt .f64 w14) := b15 ▸ kd_env st.inn hE 49 (kd := .flt .f64) (by kernel_rfl)
    have g17 : Grew H H11 := (st.kept.grew (Nat.le_of_ble_eq_true (by kernel_rfl)))
    have g18 : Grew H H11 := Grew.trans (Grew.refl _) g17
    clear st hE vs ls
    have h19 : w14 = sinX t := by rw [hw14]; unfold sinX fold; simp only [show ∀ a, fop .sub .f64 a (fInt .down a) = frac a from fun _ => rfl, show some 4602678819172646912 = half from rfl, show some 4598175219545276416 = quarter from rfl] at *; simp only [f12, f13, if_true, Bool.false_eq_true, if_false]; rfl
    refine res_conv (d := some 50) (c := .ff .f32) (x := .tmp 49) (r := .flt .f32 (sinV t)) (by kernel_rfl) (cv_ff b15 (by rw [h19]; exact (sinV_ok hb (by omega)).1)) ?_
    refine run_mn (φ := φT) (pm := pmT 0 [] 1000) 20 (nk := [(.atom 0, .flt .f64), (.atom 1, .flt .f64), (.atom 2, .flt .f32)]) (fs := []) (xs := [.flt .f64 t, .flt .f64 w14, .flt .f32 (sinV t)]) (ws := []) (env := [(49, .nd 1 (.flt .f64)), (50, .nd 2 (.flt .f32))]) ?_ ?_ tb_ok apT_ok ?_
    · refine midN_in ?_ .nil _ ?_ ?_ ?_
      · exact (.cons rfl ⟨_, rfl, hb.ok⟩ (.cons rfl k16 (.cons rfl ⟨_, rfl, (sinV_ok hb (by omega)).2⟩ .nil)))
      · exact .nil
      · exact sepOk_ro rfl
      · exact .nil
    · exact (envEq (put_ne rfl b15) (dNd rfl k16) (envEq put_same (dNd rfl ⟨_, rfl, (sinV_ok hb (by omega)).2⟩) envNil))
    refine all1 (by kernel_rfl) ?_
    intro vs ls H20 E20 st hE
    refine res_ex (by kernel_rfl) (end_flat st.inn hE (.inr rfl) (a := .flt .f32 (sinV t)) (by kernel_rfl) (Grew.trans g18 (st.kept.grew (Nat.le_of_ble_eq_true (by kernel_rfl)))) rfl ⟨?_, rfl⟩)
    rfl
  ·
    intro vs ls H21 E21 st hE
    have f22 : (ford .f64 (some 4598175219545276416) (fop .sub .f64 t (fInt .down t)) == some .lt) = true := bfact st.inn 0 (by kernel_rfl)
    have f23 : (ford .f64 (some 4602678819172646912) (fop .sub .f64 t (fInt .down t)) == some .lt || ford .f64 (some 4602678819172646912) (fop .sub .f64 t (fInt .down t)) == some .eq) = false := bfact st.inn 1 (by kernel_rfl)
    obtain ⟨w24, hw24⟩ : ∃ z, z = (fop .mul .f64 (fop .sub .f64 (some 4607182418800017408) (fop .mul .f64 (fop .quo .f64 (fop .mul .f64 (fop .mul .f64 (some 4618760256179416344) (fop .sub .f64 (some 4602678819172646912) (fop .sub .f64 t (fInt .down t)))) (fop .mul .f64 (some 4618760256179416344) (fop .sub .f64 (some 4602678819172646912) (fop .sub .f64 t (fInt .down t))))) (some 4618441417868443648)) (fop .sub .f64 (some 4607182418800017408) (fop .mul .f64 (fop .quo .f64 (fop .mul .f64 (fop .mul .f64 (some 4618760256179416344) (fop .sub .f64 (some 4602678819172646912) (fop .sub .f64 t (fInt .down t)))) (fop .mul .f64 (some 4618760256179416344) (fop .sub .f64 (some 4602678819172646912) (fop .sub .f64 t (fInt .down t))))) (some 4626322717216342016)) (fop .sub .f64 (some 4607182418800017408) (fop .mul .f64 (fop .quo .f64 (fop .mul .f64 (fop .mul .f64 (some 4618760256179416344) (fop .sub .f64 (some 4602678819172646912) (fop .sub .f64 t (fInt .down t)))) (fop .mul .f64 (some 4618760256179416344) (fop .sub .f64 (some 4602678819172646912) (fop .sub .f64 t (fInt .down t))))) (some 4631107791820423168)) (fop .sub .f64 (some 4607182418800017408) (fop .mul .f64 (fop .quo .f64 (fop .mul .f64 (fop .mul .f64 (some 4618760256179416344) (fop .sub .f64 (some 4602678819172646912) (fop .sub .f64 t (fInt .down t)))) (fop .mul .f64 (some 4618760256179416344) (fop .sub .f64 (some 4602678819172646912) (fop .sub .f64 t (fInt .down t))))) (some 4634766966517661696)) (fop .sub .f64 (some 4607182418800017408) (fop .mul .f64 (fop .quo .f64 (fop .mul .f64 (fop .mul .f64 (some 4618760256179416344) (fop .sub .f64 (some 4602678819172646912) (fop .sub .f64 t (fInt .down t)))) (fop .mul .f64 (some 4618760256179416344) (fop .sub .f64 (some 4602678819172646912) (fop .sub .f64 t (fInt .down t))))) (some 4637440978796412928)) (fop .sub .f64 (some 4607182418800017408) (fop .mul .f64 (fop .quo .f64 (fop .mul .f64 (fop .mul .f64 (some 4618760256179416344) (fop .sub .f64 (some 4602678819172646912) (fop .sub .f64 t (fInt .down t)))) (fop .mul .f64 (some 4618760256179416344) (fop .sub .f64 (some 4602678819172646912) (fop .sub .f64 t (fInt .down t))))) (some 4639692778610098176)) (fop .sub .f64 (some 4607182418800017408) (fop .mul .f64 (fop .quo .f64 (fop .mul .f64 (fop .mul .f64 (some 4618760256179416344) (fop .sub .f64 (some 4602678819172646912) (fop .sub .f64 t (fInt .down t)))) (fop .mul .f64 (some 4618760256179416344) (fop .sub .f64 (some 4602678819172646912) (fop .sub .f64 t (fInt .down t))))) (some 4641592734702895104)) (fop .sub .f64 (some 4607182418800017408) (fop .mul .f64 (fop .quo .f64 (fop .mul .f64 (fop .mul .f64 (some 4618760256179416344) (fop .sub .f64 (some 4602678819172646912) (fop .sub .f64 t (fInt .down t)))) (fop .mul .f64 (some 4618760256179416344) (fop .sub .f64 (some 4602678819172646912) (fop .sub .f64 t (fInt .down t))))) (some 4643492690795692032)) (some 4607182418800017408))))))))))))))))) (fop .mul .f64 (some 4618760256179416344) (fop .sub .f64 (some 4602678819172646912) (fop .sub .f64 t (fInt .down t))))) := ⟨_, rfl⟩
    have b25 : E21 49 = .flt .f64 w24 := by rw [hw24]; exact env_of st.inn hE 49 (by kernel_rfl)
    have g26 : Grew H H21 := (st.kept.grew (Nat.le_of_ble_eq_true (by kernel_rfl)))
    have g27 : Grew H H21 := Grew.trans (Grew.refl _) g26
    clear st hE vs ls
    have h28 : w24 = sinX t := by rw [hw24]; unfold sinX fold; simp only [show ∀ a, fop .sub .f64 a (fInt .down a) = frac a from fun _ => rfl, show some 4602678819172646912 = half from rfl, show some 4598175219545276416 = quarter from rfl] at *; simp only [f22, f23, if_true, Bool.false_eq_true, if_false]; rfl
    refine res_conv (d := some 50) (c := .ff .f32) (x := .tmp 49) (r := .flt .f32 (sinV t)) (by kernel_rfl) (cv_ff b25 (by rw [h28]; exact (sinV_ok hb (by omega)).1)) ?_
    refine run_mn (φ := φT) (pm := pmT 0 [] 1000) 20 (nk := [(.atom 0, .flt .f64), (.atom 1, .flt .f64), (.atom 2, .flt .f32)]) (fs := []) (xs := [.flt .f64 t, .flt .f64 w24, .flt .f32 (sinV t)]) (ws := []) (env := [(49, .nd 1 (.flt .f64)), (50, .nd 2 (.flt .f32))]) ?_ ?_ tb_ok apT_ok ?_
    · refine midN_in ?_ .nil _ ?_ ?_ ?_
      · exact (.cons rfl ⟨_, rfl, hb.ok⟩ (.cons rfl ⟨_, rfl, hw24 ▸ fop_ok⟩ (.cons rfl ⟨_, rfl, (sinV_ok hb (by omega)).2⟩ .nil)))
      · exact .nil
      · exact sepOk_ro rfl
      · exact .nil
    · exact (envEq (put_ne rfl b25) (dNd rfl ⟨_, rfl, hw24 ▸ fop_ok⟩) (envEq put_same (dNd rfl ⟨_, rfl, (sinV_ok hb (by omega)).2⟩) envNil))
    refine all1 (by kernel_rfl) ?_
    intro vs ls H29 E29 st hE
    refine res_ex (by kernel_rfl) (end_flat st.inn hE (.inr rfl) (a := .flt .f32 (sinV t)) (by kernel_rfl) (Grew.trans g27 (st.kept.grew (Nat.le_of_ble_eq_true (by kernel_rfl)))) rfl ⟨?_, rfl⟩)
    rfl
  ·
    intro vs ls H30 E30 st hE
    have f31 : (ford .f64 (some 4598175219545276416) (fop .sub .f64 t (fInt .down t)) == some .lt) = false := bfact st.inn 0 (by kernel_rfl)
    have f32 : (ford .f64 (some 4602678819172646912) (fop .sub .f64 t (fInt .down t)) == some .lt || ford .f64 (some 4602678819172646912) (fop .sub .f64 t (fInt .down t)) == some .eq) = false := bfact st.inn 1 (by kernel_rfl)
    obtain ⟨w33, hw33⟩ : ∃ z, z = (fop .mul .f64 (fop .sub .f64 (some 4607182418800017408) (fop .mul .f64 (fop .quo .f64 (fop .mul .f64 (fop .mul .f64 (some 4618760256179416344) (fop .sub .f64 t (fInt .down t))) (fop .mul .f64 (some 4618760256179416344) (fop .sub .f64 t (fInt .down t)))) (some 4618441417868443648)) (fop .sub .f64 (some 4607182418800017408) (fop .mul .f64 (fop .quo .f64 (fop .mul .f64 (fop .mul .f64 (some 4618760256179416344) (fop .sub .f64 t (fInt .down t))) (fop .mul .f64 (some 4618760256179416344) (fop .sub .f64 t (fInt .down t)))) (some 4626322717216342016)) (fop .sub .f64 (some 4607182418800017408) (fop .mul .f64 (fop .quo .f64 (fop .mul .f64 (fop .mul .f64 (some 4618760256179416344) (fop .sub .f64 t (fInt .down t))) (fop .mul .f64 (some 4618760256179416344) (fop .sub .f64 t (fInt .down t)))) (some 4631107791820423168)) (fop .sub .f64 (some 4607182418800017408) (fop .mul .f64 (fop .quo .f64 (fop .mul .f64 (fop .mul .f64 (some 4618760256179416344) (fop .sub .f64 t (fInt .down t))) (fop .mul .f64 (some 4618760256179416344) (fop .sub .f64 t (fInt .down t)))) (some 4634766966517661696)) (fop .sub .f64 (some 4607182418800017408) (fop .mul .f64 (fop .quo .f64 (fop .mul .f64 (fop .mul .f64 (some 4618760256179416344) (fop .sub .f64 t (fInt .down t))) (fop .mul .f64 (some 4618760256179416344) (fop .sub .f64 t (fInt .down t)))) (some 4637440978796412928)) (fop .sub .f64 (some 4607182418800017408) (fop .mul .f64 (fop .quo .f64 (fop .mul .f64 (fop .mul .f64 (some 4618760256179416344) (fop .sub .f64 t (fInt .down t))) (fop .mul .f64 (some 4618760256179416344) (fop .sub .f64 t (fInt .down t)))) (some 4639692778610098176)) (fop .sub .f64 (some 4607182418800017408) (fop .mul .f64 (fop .quo .f64 (fop .mul .f64 (fop .mul .f64 (some 4618760256179416344) (fop .sub .f64 t (fInt .down t))) (fop .mul .f64 (some 4618760256179416344) (fop .sub .f64 t (fInt .down t)))) (some 4641592734702895104)) (fop .sub .f64 (some 4607182418800017408) (fop .mul .f64 (fop .quo .f64 (fop .mul .f64 (fop .mul .f64 (some 4618760256179416344) (fop .sub .f64 t (fInt .down t))) (fop .mul .f64 (some 4618760256179416344) (fop .sub .f64 t (fInt .down t)))) (some 4643492690795692032)) (some 4607182418800017408))))))))))))))))) (fop .mul .f64 (some 4618760256179416344) (fop .sub .f64 t (fInt .down t)))) := ⟨_, rfl⟩
    have b34 : E30 49 = .flt .f64 w33 := by rw [hw33]; exact env_of st.inn hE 49 (by kernel_rfl)
    have g35 : Grew H H30 := (st.kept.grew (Nat.le_of_ble_eq_true (by kernel_rfl)))
    have g36 : Grew H H30 := Grew.trans (Grew.refl _) g35
    clear st hE vs ls
    have h37 : w33 = sinX t := by rw [hw33]; unfold sinX fold; simp only [show ∀ a, fop .sub .f64 a (fInt .down a) = frac a from fun _ => rfl, show some 4602678819172646912 = half from rfl, show some 4598175219545276416 = quarter from rfl] at *; simp only [f31, f32, if_true, Bool.false_eq_true, if_false]; rfl
    refine res_conv (d := some 50) (c := .ff .f32) (x := .tmp 49) (r := .flt .f32 (sinV t)) (by kernel_rfl) (cv_ff b34 (by rw [h37]; exact (sinV_ok hb (by omega)).1)) ?_
    refine run_mn (φ := φT) (pm := pmT 0 [] 1000) 20 (nk := [(.atom 0, .flt .f64), (.atom 1, .flt .f64), (.atom 2, .flt .f32)]) (fs := []) (xs := [.flt .f64 t, .flt .f64 w33, .flt .f32 (sinV t)]) (ws := []) (env := [(49, .nd 1 (.flt .f64)), (50, .nd 2 (.flt .f32))]) ?_ ?_ tb_ok apT_ok ?_
    · refine midN_in ?_ .nil _ ?_ ?_ ?_
      · exact (.cons rfl ⟨_, rfl, hb.ok⟩ (.cons rfl ⟨_, rfl, hw33 ▸ fop_ok⟩ (.cons rfl ⟨_, rfl, (sinV_ok hb (by omega)).2⟩ .nil)))
      · exact .nil
      · exact sepOk_ro rfl
      · exact .nil
    · exact (envEq (put_ne rfl b34) (dNd rfl ⟨_, rfl, hw33 ▸ fop_ok⟩) (envEq put_same (dNd rfl ⟨_, rfl, (sinV_ok hb (by omega)).2⟩) envNil))
    refine all1 (by kernel_rfl) ?_
    intro vs ls H38 E38 st hE
    refine res_ex (by kernel_rfl) (end_flat st.inn hE (.inr rfl) (a := .flt .f32 (sinV t)) (by kernel_rfl) (Grew.trans g36 (st.kept.grew (Nat.le_of_ble_eq_true (by kernel_rfl)))) rfl ⟨?_, rfl⟩)
    rfl
theorem k_math_NaN (H : AHeap) : APure Try.prog 124 [] H (.flt .f64 none) := by
  refine res_start h_math_NaN (by simp) ?_
  refine run_mn (φ := φT) (pm := pmT 0 [(.call 127 [.lit (.int .u64 9221120237041090561)], .lit (.flt .f64 none))] 0) 20 (nk := []) (fs := []) (xs := []) (ws := []) (env := []) ?_ ?_ tb_ok apT_ok ?_
  · refine midN_in ?_ .nil _ ?_ ?_ ?_
    · exact .nil
    · exact .nil
    · exact sepOk_ro rfl
    · exact (.cons (rule_call (args := [.int .u64 9221120237041090561]) (dlCons (dLit rfl) dlNil) (dLit (by decide +kernel)) (fun H9 hk => k_frombits H9)) .nil)
  · exact envNil
  refine all1 (by kernel_rfl) ?_
  intro vs ls H1 E1 st hE
  refine res_ex (by kernel_rfl) (end_flat st.inn hE (.inr rfl) (a := .flt .f64 none) (by kernel_rfl) (Grew.trans (Grew.refl _) (st.kept.grew (Nat.le_of_ble_eq_true (by kernel_rfl)))) rfl ⟨?_, rfl⟩)
  rfl
theorem k_impl_notANumber (H : AHeap) : APure Try.prog 114 [] H (.flt .f32 none) := by
  refine res_start h_impl_notANumber (by simp) ?_
  refine run_mn (φ := φT) (pm := pmT 0 [(.call 124 [], .lit (.flt .f64 none))] 0) 20 (nk := []) (fs := []) (xs := []) (ws := []) (env := []) ?_ ?_ tb_ok apT_ok ?_
  · refine midN_in ?_ .nil _ ?_ ?_ ?_
    · exact .nil
    · exact .nil
    · exact sepOk_ro rfl
    · exact (.cons (rule_call (args := []) dlNil (dLit (by decide +kernel)) (fun H9 hk => k_math_NaN H9)) .nil)
  · exact envNil
  refine all1 (by kernel_rfl) ?_
  intro vs ls H1 E1 st hE
  have b2 : E1 1 = .flt .f64 none := env_of st.inn hE 1 (by kernel_rfl)
  have g3 : Grew H H1 := (st.kept.grew (Nat.le_of_ble_eq_true (by kernel_rfl)))
  have g4 : Grew H H1 := Grew.trans (Grew.refl _) g3
  clear st hE vs ls
  refine res_conv (d := some 2) (c := .ff .f32) (x := .tmp 1) (r := .flt .f32 none) (by kernel_rfl) (cv_ff b2 rfl) ?_
  refine run_mn (φ := φT) (pm := pmT 0 [] 0) 20 (nk := [(.atom 0, .flt .f32)]) (fs := []) (xs := [.flt .f32 none]) (ws := []) (env := [(1, .lit (.flt .f64 none)), (2, .nd 0 (.flt .f32))]) ?_ ?_ tb_ok apT_ok ?_
  · refine midN_in ?_ .nil _ ?_ ?_ ?_
    · exact (.cons rfl ⟨_, rfl, none_ok⟩ .nil)
    · exact .nil
    · exact sepOk_ro rfl
    · exact .nil
  · exact (envEq (put_ne rfl b2) (dLit (by decide +kernel)) (envEq put_same (dNd rfl ⟨_, rfl, none_ok⟩) envNil))
  refine all1 (by kernel_rfl) ?_
  intro vs ls H5 E5 st hE
  refine res_ex (by kernel_rfl) (end_flat st.inn hE (.inr rfl) (a := .flt .f32 none) (by kernel_rfl) (Grew.trans g4 (st.kept.grew (Nat.le_of_ble_eq_true (by kernel_rfl)))) rfl ⟨?_, rfl⟩)
  rfl
theorem k_spec_l02Sin (H : AHeap) (x : Option Nat) (hx : fOk .f32 x) : APure Try.prog 122 [.flt .f32 x] H (.flt .f32 (sinF x)) := by
  refine res_start h_spec_l02Sin (by simp) ?_
  refine run_mn (φ := φT) (pm := pmT 0 [(.call 124 [], .lit (.flt .f64 none))] 0) 20 (nk := [(.atom 0, .flt .f32)]) (fs := []) (xs := [.flt .f32 x]) (ws := []) (env := [(0, .nd 0 (.flt .f32))]) ?_ ?_ tb_ok apT_ok ?_
  · refine midN_in ?_ .nil _ ?_ ?_ ?_
    · exact (.cons rfl ⟨_, rfl, hx⟩ .nil)
    · exact .nil
    · exact sepOk_ro rfl
    · exact (.cons (rule_call (args := []) dlNil (dLit (by decide +kernel)) (fun H9 hk => k_math_NaN H9)) .nil)
  · exact (envEq rfl (dNd rfl ⟨_, rfl, hx⟩) envNil)
  refine all2 (by kernel_rfl) ?_ ?_
  ·
    intro vs ls H1 E1 st hE
    have f2 : (ford .f32 (fop .sub .f32 x x) (some 0) == some .eq) = false := bfact st.inn 0 (by kernel_rfl)
    have b3 : E1 6 = .flt .f64 none := env_of st.inn hE 6 (by kernel_rfl)
    have b4 : E1 0 = .flt .f32 x := env_of st.inn hE 0 (by kernel_rfl)
    have g5 : Grew H H1 := (st.kept.grew (Nat.le_of_ble_eq_true (by kernel_rfl)))
    have g6 : Grew H H1 := Grew.trans (Grew.refl _) g5
    clear st hE vs ls
    refine res_conv (d := some 7) (c := .ff .f32) (x := .tmp 6) (r := .flt .f32 none) (by kernel_rfl) (cv_ff b3 rfl) ?_
    refine run_mn (φ := φT) (pm := pmT 0 [] 0) 20 (nk := [(.atom 0, .flt .f32), (.atom 1, .flt .f32)]) (fs := []) (xs := [.flt .f32 x, .flt .f32 none]) (ws := []) (env := [(6, .lit (.flt .f64 none)), (0, .nd 0 (.flt .f32)), (7, .nd 1 (.flt .f32))]) ?_ ?_ tb_ok apT_ok ?_
    · refine midN_in ?_ .nil _ ?_ ?_ ?_
      · exact (.cons rfl ⟨_, rfl, hx⟩ (.cons rfl ⟨_, rfl, none_ok⟩ .nil))
      · exact .nil
      · exact sepOk_ro rfl
      · exact .nil
    · exact (envEq (put_ne rfl b3) (dLit (by decide +kernel)) (envEq (put_ne rfl b4) (dNd rfl ⟨_, rfl, hx⟩) (envEq put_same (dNd rfl ⟨_, rfl, none_ok⟩) envNil)))
    refine all1 (by kernel_rfl) ?_
    intro vs ls H7 E7 st hE
    refine res_ex (by kernel_rfl) (end_flat st.inn hE (.inr rfl) (a := .flt .f32 none) (by kernel_rfl) (Grew.trans g6 (st.kept.grew (Nat.le_of_ble_eq_true (by kernel_rfl)))) rfl ⟨?_, rfl⟩)
    unfold sinF; rw [if_neg (by rw [show fin32 x = false from f2]; decide)]
  ·
    intro vs ls H8 E8 st hE
    have f9 : (ford .f32 (fop .sub .f32 x x) (some 0) == some .eq) = true := bfact st.inn 0 (by kernel_rfl)
    obtain ⟨w10, hw10⟩ : ∃ z, z = (fop .quo .f64 (wid x) (some 4618760256179416344)) := ⟨_, rfl⟩
    have b11 : E8 10 = .flt .f64 w10 := by rw [hw10]; exact env_of st.inn hE 10 (by kernel_rfl)
    have g12 : Grew H H8 := (st.kept.grew (Nat.le_of_ble_eq_true (by kernel_rfl)))
    have g13 : Grew H H8 := Grew.trans (Grew.refl _) g12
    clear st hE vs ls
    refine res_call (d := (some 11)) (f := 126) (args := [.tmp 10]) (by kernel_rfl) (R := fun z H' => z = .flt .f32 (sinV w10) ∧ H' = H8) ?_ ?_
    · show ACalls _ _ [E8 10] _ _
      rw [b11]
      exact k_spec_l02Sine H8 w10 _ (show Bnd w10 129 from by rw [hw10]; exact turns_bnd (wid_bnd hx f9)) (by decide)
    rintro z H8 ⟨rfl, rfl⟩
    refine run_mn (φ := φT) (pm := pmT 0 [] 0) 20 (nk := [(.atom 0, .flt .f32), (.atom 1, .flt .f64), (.atom 2, .flt .f32)]) (fs := []) (xs := [.flt .f32 x, .flt .f64 w10, .flt .f32 (sinV w10)]) (ws := []) (env := [(10, .nd 1 (.flt .f64)), (11, .nd 2 (.flt .f32))]) ?_ ?_ tb_ok apT_ok ?_
    · refine midN_in ?_ .nil _ ?_ ?_ ?_
      · exact (.cons rfl ⟨_, rfl, hx⟩ (.cons rfl ⟨_, rfl, hw10 ▸ fop_ok⟩ (.cons rfl ⟨_, rfl, (sinV_ok (show Bnd w10 129 from by rw [hw10]; exact turns_bnd (wid_bnd hx f9)) (by decide)).2⟩ .nil)))
      · exact .nil
      · exact sepOk_ro rfl
      · exact .nil
    · exact (envEq (put_ne rfl b11) (dNd rfl ⟨_, rfl, hw10 ▸ fop_ok⟩) (envEq put_same (dNd rfl ⟨_, rfl, (sinV_ok (show Bnd w10 129 from by rw [hw10]; exact turns_bnd (wid_bnd hx f9)) (by decide)).2⟩) envNil))
    refine all1 (by kernel_rfl) ?_
    intro vs ls H14 E14 st hE
    refine res_ex (by kernel_rfl) (end_flat st.inn hE (.inr rfl) (a := .flt .f32 (sinV w10)) (by kernel_rfl) (Grew.trans g13 (st.kept.grew (Nat.le_of_ble_eq_true (by kernel_rfl)))) rfl ⟨?_, rfl⟩)
    unfold sinF; rw [if_pos (show fin32 x = true from f9)]
    rw [hw10]; rfl
theorem k_spec_l02Cos (H : AHeap) (x : Option Nat) (hx : fOk .f32 x) : APure Try.prog 121 [.flt .f32 x] H (.flt .f32 (cosF x)) := by
  refine res_start h_spec_l02Cos (by simp) ?_
  refine run_mn (φ := φT) (pm := pmT 0 [(.call 124 [], .lit (.flt .f64 none))] 0) 20 (nk := [(.atom 0, .flt .f32)]) (fs := []) (xs := [.flt .f32 x]) (ws := []) (env := [(0, .nd 0 (.flt .f32))]) ?_ ?_ tb_ok apT_ok ?_
  · refine midN_in ?_ .nil _ ?_ ?_ ?_
    · exact (.cons rfl ⟨_, rfl, hx⟩ .nil)
    · exact .nil
    · exact sepOk_ro rfl
    · exact (.cons (rule_call (args := []) dlNil (dLit (by decide +kernel)) (fun H9 hk => k_math_NaN H9)) .nil)
  · exact (envEq rfl (dNd rfl ⟨_, rfl, hx⟩) envNil)
  refine all2 (by kernel_rfl) ?_ ?_
  ·
    intro vs ls H1 E1 st hE
    have f2 : (ford .f32 (fop .sub .f32 x x) (some 0) == some .eq) = false := bfact st.inn 0 (by kernel_rfl)
    have b3 : E1 6 = .flt .f64 none := env_of st.inn hE 6 (by kernel_rfl)
    have b4 : E1 0 = .flt .f32 x := env_of st.inn hE 0 (by kernel_rfl)
    have g5 : Grew H H1 := (st.kept.grew (Nat.le_of_ble_eq_true (by kernel_rfl)))
    have g6 : Grew H H1 := Grew.trans (Grew.refl _) g5
    clear st hE vs ls
    refine res_conv (d := some 7) (c := .ff .f32) (x := .tmp 6) (r := .flt .f32 none) (by kernel_rfl) (cv_ff b3 rfl) ?_
    refine run_mn (φ := φT) (pm := pmT 0 [] 0) 20 (nk := [(.atom 0, .flt .f32), (.atom 1, .flt .f32)]) (fs := []) (xs := [.flt .f32 x, .flt .f32 none]) (ws := []) (env := [(6, .lit (.flt .f64 none)), (0, .nd 0 (.flt .f32)), (7, .nd 1 (.flt .f32))]) ?_ ?_ tb_ok apT_ok ?_
    · refine midN_in ?_ .nil _ ?_ ?_ ?_
      · exact (.cons rfl ⟨_, rfl, hx⟩ (.cons rfl ⟨_, rfl, none_ok⟩ .nil))
      · exact .nil
      · exact sepOk_ro rfl
      · exact .nil
    · exact (envEq (put_ne rfl b3) (dLit (by decide +kernel)) (envEq (put_ne rfl b4) (dNd rfl ⟨_, rfl, hx⟩) (envEq put_same (dNd rfl ⟨_, rfl, none_ok⟩) envNil)))
    refine all1 (by kernel_rfl) ?_
    intro vs ls H7 E7 st hE
    refine res_ex (by kernel_rfl) (end_flat st.inn hE (.inr rfl) (a := .flt .f32 none) (by kernel_rfl) (Grew.trans g6 (st.kept.grew (Nat.le_of_ble_eq_true (by kernel_rfl)))) rfl ⟨?_, rfl⟩)
    unfold cosF; rw [if_neg (by rw [show fin32 x = false from f2]; decide)]
  ·
    intro vs ls H8 E8 st hE
    have f9 : (ford .f32 (fop .sub .f32 x x) (some 0) == some .eq) = true := bfact st.inn 0 (by kernel_rfl)
    obtain ⟨w10, hw10⟩ : ∃ z, z = (fop .add .f64 (fop .quo .f64 (wid x) (some 4618760256179416344)) (some 4598175219545276416)) := ⟨_, rfl⟩
    have b11 : E8 11 = .flt .f64 w10 := by rw [hw10]; exact env_of st.inn hE 11 (by kernel_rfl)
    have g12 : Grew H H8 := (st.kept.grew (Nat.le_of_ble_eq_true (by kernel_rfl)))
    have g13 : Grew H H8 := Grew.trans (Grew.refl _) g12
    clear st hE vs ls
    refine res_call (d := (some 12)) (f := 126) (args := [.tmp 11]) (by kernel_rfl) (R := fun z H' => z = .flt .f32 (sinV w10) ∧ H' = H8) ?_ ?_
    · show ACalls _ _ [E8 11] _ _
      rw [b11]
      exact k_spec_l02Sine H8 w10 _ (show Bnd w10 130 from by rw [hw10]; exact turns4_bnd (wid_bnd hx f9)) (by decide)
    rintro z H8 ⟨rfl, rfl⟩
    refine run_mn (φ := φT) (pm := pmT 0 [] 0) 20 (nk := [(.atom 0, .flt .f32), (.atom 1, .flt .f64), (.atom 2, .flt .f32)]) (fs := []) (xs := [.flt .f32 x, .flt .f64 w10, .flt .f32 (sinV w10)]) (ws := []) (env := [(11, .nd 1 (.flt .f64)), (12, .nd 2 (.flt .f32))]) ?_ ?_ tb_ok apT_ok ?_
    · refine midN_in ?_ .nil _ ?_ ?_ ?_
      · exact (.cons rfl ⟨_, rfl, hx⟩ (.cons rfl ⟨_, rfl, hw10 ▸ fop_ok⟩ (.cons rfl ⟨_, rfl, (sinV_ok (show Bnd w10 130 from by rw [hw10]; exact turns4_bnd (wid_bnd hx f9)) (by decide)).2⟩ .nil)))
      · exact .nil
      · exact sepOk_ro rfl
      · exact .nil
    · exact (envEq (put_ne rfl b11) (dNd rfl ⟨_, rfl, hw10 ▸ fop_ok⟩) (envEq put_same (dNd rfl ⟨_, rfl, (sinV_ok (show Bnd w10 130 from by rw [hw10]; exact turns4_bnd (wid_bnd hx f9)) (by decide)).2⟩) envNil))
    refine all1 (by kernel_rfl) ?_
    intro vs ls H14 E14 st hE
    refine res_ex (by kernel_rfl) (end_flat st.inn hE (.inr rfl) (a := .flt .f32 (sinV w10)) (by kernel_rfl) (Grew.trans g13 (st.kept.grew (Nat.le_of_ble_eq_true (by kernel_rfl)))) rfl ⟨?_, rfl⟩)
    unfold cosF; rw [if_pos (show fin32 x = true from f9)]
    rw [hw10]; rfl
theorem k_impl_SineOf (H : AHeap) (x : Option Nat) (hx : fOk .f32 x) : APure Try.prog 92 [.flt .f32 x] H (.flt .f32 (sinF x)) := by
  refine res_start h_impl_SineOf (by simp) ?_
  refine run_mn (φ := φT) (pm := pmT 0 [(.call 114 [], .lit (.flt .f32 none))] 0) 20 (nk := [(.atom 0, .flt .f32)]) (fs := []) (xs := [.flt .f32 x]) (ws := []) (env := [(0, .nd 0 (.flt .f32))]) ?_ ?_ tb_ok apT_ok ?_
  · refine midN_in ?_ .nil _ ?_ ?_ ?_
    · exact (.cons rfl ⟨_, rfl, hx⟩ .nil)
    · exact .nil
    · exact sepOk_ro rfl
    · exact (.cons (rule_call (args := []) dlNil (dLit (by decide +kernel)) (fun H9 hk => k_impl_notANumber H9)) .nil)
  · exact (envEq rfl (dNd rfl ⟨_, rfl, hx⟩) envNil)
  refine all2 (by kernel_rfl) ?_ ?_
  ·
    intro vs ls H1 E1 st hE
    have f2 : (ford .f32 (fop .sub .f32 x x) (some 0) == some .eq) = false := bfact st.inn 0 (by kernel_rfl)
    refine res_ex (by kernel_rfl) (end_flat st.inn hE (.inr rfl) (a := .flt .f32 none) (by kernel_rfl) (Grew.trans (Grew.refl _) (st.kept.grew (Nat.le_of_ble_eq_true (by kernel_rfl)))) rfl ⟨?_, rfl⟩)
    unfold sinF; rw [if_neg (by rw [show fin32 x = false from f2]; decide)]
  ·
    intro vs ls H3 E3 st hE
    have f4 : (ford .f32 (fop .sub .f32 x x) (some 0) == some .eq) = true := bfact st.inn 0 (by kernel_rfl)
    obtain ⟨w5, hw5⟩ : ∃ z, z = (fop .quo .f64 (wid x) (some 4618760256179416344)) := ⟨_, rfl⟩
    have b6 : E3 9 = .flt .f64 w5 := by rw [hw5]; exact env_of st.inn hE 9 (by kernel_rfl)
    have g7 : Grew H H3 := (st.kept.grew (Nat.le_of_ble_eq_true (by kernel_rfl)))
    have g8 : Grew H H3 := Grew.trans (Grew.refl _) g7
    clear st hE vs ls
    refine res_call (d := (some 10)) (f := 115) (args := [.tmp 9]) (by kernel_rfl) (R := fun z H' => z = .flt .f32 (sinV w5) ∧ H' = H3) ?_ ?_
    · show ACalls _ _ [E3 9] _ _
      rw [b6]
      exact k_impl_sineOfTurns H3 w5 _ (show Bnd w5 129 from by rw [hw5]; exact turns_bnd (wid_bnd hx f4)) (by decide)
    rintro z H3 ⟨rfl, rfl⟩
    refine run_mn (φ := φT) (pm := pmT 0 [] 0) 20 (nk := [(.atom 0, .flt .f32), (.atom 1, .flt .f64), (.atom 2, .flt .f32)]) (fs := []) (xs := [.flt .f32 x, .flt .f64 w5, .flt .f32 (sinV w5)]) (ws := []) (env := [(9, .nd 1 (.flt .f64)), (10, .nd 2 (.flt .f32))]) ?_ ?_ tb_ok apT_ok ?_
    · refine midN_in ?_ .nil _ ?_ ?_ ?_
      · exact (.cons rfl ⟨_, rfl, hx⟩ (.cons rfl ⟨_, rfl, hw5 ▸ fop_ok⟩ (.cons rfl ⟨_, rfl, (sinV_ok (show Bnd w5 129 from by rw [hw5]; exact turns_bnd (wid_bnd hx f4)) (by decide)).2⟩ .nil)))
      · exact .nil
      · exact sepOk_ro rfl
      · exact .nil
    · exact (envEq (put_ne rfl b6) (dNd rfl ⟨_, rfl, hw5 ▸ fop_ok⟩) (envEq put_same (dNd rfl ⟨_, rfl, (sinV_ok (show Bnd w5 129 from by rw [hw5]; exact turns_bnd (wid_bnd hx f4)) (by decide)).2⟩) envNil))
    refine all1 (by kernel_rfl) ?_
    intro vs ls H9 E9 st hE
    refine res_ex (by kernel_rfl) (end_flat st.inn hE (.inr rfl) (a := .flt .f32 (sinV w5)) (by kernel_rfl) (Grew.trans g8 (st.kept.grew (Nat.le_of_ble_eq_true (by kernel_rfl)))) rfl ⟨?_, rfl⟩)
    unfold sinF; rw [if_pos (show fin32 x = true from f4)]
    rw [hw5]; rfl
theorem k_impl_CosineOf (H : AHeap) (x : Option Nat) (hx : fOk .f32 x) : APure Try.prog 91 [.flt .f32 x] H (.flt .f32 (cosF x)) := by
  refine res_start h_impl_CosineOf (by simp) ?_
  refine run_mn (φ := φT) (pm := pmT 0 [(.call 114 [], .lit (.flt .f32 none))] 0) 20 (nk := [(.atom 0, .flt .f32)]) (fs := []) (xs := [.flt .f32 x]) (ws := []) (env := [(0, .nd 0 (.flt .f32))]) ?_ ?_ tb_ok apT_ok ?_
  · refine midN_in ?_ .nil _ ?_ ?_ ?_
    · exact (.cons rfl ⟨_, rfl, hx⟩ .nil)
    · exact .nil
    · exact sepOk_ro rfl
    · exact (.cons (rule_call (args := []) dlNil (dLit (by decide +kernel)) (fun H9 hk => k_impl_notANumber H9)) .nil)
  · exact (envEq rfl (dNd rfl ⟨_, rfl, hx⟩) envNil)
  refine all2 (by kernel_rfl) ?_ ?_
  ·
    intro vs ls H1 E1 st hE
    have f2 : (ford .f32 (fop .sub .f32 x x) (some 0) == some .eq) = false := bfact st.inn 0 (by kernel_rfl)
    refine res_ex (by kernel_rfl) (end_flat st.inn hE (.inr rfl) (a := .flt .f32 none) (by kernel_rfl) (Grew.trans (Grew.refl _) (st.kept.grew (Nat.le_of_ble_eq_true (by kernel_rfl)))) rfl ⟨?_, rfl⟩)
    unfold cosF; rw [if_neg (by rw [show fin32 x = false from f2]; decide)]
  ·
    intro vs ls H3 E3 st hE
    have f4 : (ford .f32 (fop .sub .f32 x x) (some 0) == some .eq) = true := bfact st.inn 0 (by kernel_rfl)
    obtain ⟨w5, hw5⟩ : ∃ z, z = (fop .add .f64 (fop .quo .f64 (wid x) (some 4618760256179416344)) (some 4598175219545276416)) := ⟨_, rfl⟩
    have b6 : E3 10 = .flt .f64 w5 := by rw [hw5]; exact env_of st.inn hE 10 (by kernel_rfl)
    have g7 : Grew H H3 := (st.kept.grew (Nat.le_of_ble_eq_true (by kernel_rfl)))
    have g8 : Grew H H3 := Grew.trans (Grew.refl _) g7
    clear st hE vs ls
    refine res_call (d := (some 11)) (f := 115) (args := [.tmp 10]) (by kernel_rfl) (R := fun z H' => z = .flt .f32 (sinV w5) ∧ H' = H3) ?_ ?_
    · show ACalls _ _ [E3 10] _ _
      rw [b6]
      exact k_impl_sineOfTurns H3 w5 _ (show Bnd w5 130 from by rw [hw5]; exact turns4_bnd (wid_bnd hx f4)) (by decide)
    rintro z H3 ⟨rfl, rfl⟩
    refine run_mn (φ := φT) (pm := pmT 0 [] 0) 20 (nk := [(.atom 0, .flt .f32), (.atom 1, .flt .f64), (.atom 2, .flt .f32)]) (fs := []) (xs := [.flt .f32 x, .flt .f64 w5, .flt .f32 (sinV w5)]) (ws := []) (env := [(10, .nd 1 (.flt .f64)), (11, .nd 2 (.flt .f32))]) ?_ ?_ tb_ok apT_ok ?_
    · refine midN_in ?_ .nil _ ?_ ?_ ?_
      · exact (.cons rfl ⟨_, rfl, hx⟩ (.cons rfl ⟨_, rfl, hw5 ▸ fop_ok⟩ (.cons rfl ⟨_, rfl, (sinV_ok (show Bnd w5 130 from by rw [hw5]; exact turns4_bnd (wid_bnd hx f4)) (by decide)).2⟩ .nil)))
      · exact .nil
      · exact sepOk_ro rfl
      · exact .nil
    · exact (envEq (put_ne rfl b6) (dNd rfl ⟨_, rfl, hw5 ▸ fop_ok⟩) (envEq put_same (dNd rfl ⟨_, rfl, (sinV_ok (show Bnd w5 130 from by rw [hw5]; exact turns4_bnd (wid_bnd hx f4)) (by decide)).2⟩) envNil))
    refine all1 (by kernel_rfl) ?_
    intro vs ls H9 E9 st hE
    refine res_ex (by kernel_rfl) (end_flat st.inn hE (.inr rfl) (a := .flt .f32 (sinV w5)) (by kernel_rfl) (Grew.trans g8 (st.kept.grew (Nat.le_of_ble_eq_true (by kernel_rfl)))) rfl ⟨?_, rfl⟩)
    unfold cosF; rw [if_pos (show fin32 x = true from f4)]
    rw [hw5]; rfl
theorem k_spec_l02Wrap (H : AHeap) (x : Option Nat) (hx : fOk .f32 x) : APure Try.prog 123 [.flt .f32 x] H (.flt .f32 (wrapF x)) := by
  refine res_start h_spec_l02Wrap (by simp) ?_
  refine run_mn (φ := φT) (pm := pmT 0 [(.call 124 [], .lit (.flt .f64 none))] 0) 20 (nk := [(.atom 0, .flt .f32)]) (fs := []) (xs := [.flt .f32 x]) (ws := []) (env := [(0, .nd 0 (.flt .f32))]) ?_ ?_ tb_ok apT_ok ?_
  · refine midN_in ?_ .nil _ ?_ ?_ ?_
    · exact (.cons rfl ⟨_, rfl, hx⟩ .nil)
    · exact .nil
    · exact sepOk_ro rfl
    · exact (.cons (rule_call (args := []) dlNil (dLit (by decide +kernel)) (fun H9 hk => k_math_NaN H9)) .nil)
  · exact (envEq rfl (dNd rfl ⟨_, rfl, hx⟩) envNil)
  refine all2 (by kernel_rfl) ?_ ?_
  ·
    intro vs ls H1 E1 st hE
    have f2 : (ford .f32 (fop .sub .f32 x x) (some 0) == some .eq) = false := bfact st.inn 0 (by kernel_rfl)
    have b3 : E1 8 = .flt .f64 none := env_of st.inn hE 8 (by kernel_rfl)
    have b4 : E1 0 = .flt .f32 x := env_of st.inn hE 0 (by kernel_rfl)
    have g5 : Grew H H1 := (st.kept.grew (Nat.le_of_ble_eq_true (by kernel_rfl)))
    have g6 : Grew H H1 := Grew.trans (Grew.refl _) g5
    clear st hE vs ls
    refine res_conv (d := some 9) (c := .ff .f32) (x := .tmp 8) (r := .flt .f32 none) (by kernel_rfl) (cv_ff b3 rfl) ?_
    refine run_mn (φ := φT) (pm := pmT 0 [] 0) 20 (nk := [(.atom 0, .flt .f32), (.atom 1, .flt .f32)]) (fs := []) (xs := [.flt .f32 x, .flt .f32 none]) (ws := []) (env := [(8, .lit (.flt .f64 none)), (0, .nd 0 (.flt .f32)), (9, .nd 1 (.flt .f32))]) ?_ ?_ tb_ok apT_ok ?_
    · refine midN_in ?_ .nil _ ?_ ?_ ?_
      · exact (.cons rfl ⟨_, rfl, hx⟩ (.cons rfl ⟨_, rfl, none_ok⟩ .nil))
      · exact .nil
      · exact sepOk_ro rfl
      · exact .nil
    · exact (envEq (put_ne rfl b3) (dLit (by decide +kernel)) (envEq (put_ne rfl b4) (dNd rfl ⟨_, rfl, hx⟩) (envEq put_same (dNd rfl ⟨_, rfl, none_ok⟩) envNil)))
    refine all1 (by kernel_rfl) ?_
    intro vs ls H7 E7 st hE
    refine res_ex (by kernel_rfl) (end_flat st.inn hE (.inr rfl) (a := .flt .f32 none) (by kernel_rfl) (Grew.trans g6 (st.kept.grew (Nat.le_of_ble_eq_true (by kernel_rfl)))) rfl ⟨?_, rfl⟩)
    unfold wrapF; rw [if_neg (by rw [show fin32 x = false from f2]; decide)]
  ·
    intro vs ls H8 E8 st hE
    have f9 : (ford .f32 (fop .sub .f32 x x) (some 0) == some .eq) = true := bfact st.inn 0 (by kernel_rfl)
    obtain ⟨w10, hw10⟩ : ∃ z, z = (fop .sub .f64 (wid x) (fop .mul .f64 (some 4618760256179416344) (fInt .even (fop .quo .f64 (wid x) (some 4618760256179416344))))) := ⟨_, rfl⟩
    have b11 : E8 18 = .flt .f64 w10 := by rw [hw10]; exact env_of st.inn hE 18 (by kernel_rfl)
    have g12 : Grew H H8 := (st.kept.grew (Nat.le_of_ble_eq_true (by kernel_rfl)))
    have g13 : Grew H H8 := Grew.trans (Grew.refl _) g12
    clear st hE vs ls
    refine res_conv (d := some 19) (c := .ff .f32) (x := .tmp 18) (r := .flt .f32 (nar (wrapD (wid x)))) (by kernel_rfl) (cv_ff b11 (by rw [hw10]; exact ((wrapD_bnd (wid_bnd hx f9)).nar (by decide)).1)) ?_
    refine run_mn (φ := φT) (pm := pmT 0 [] 0) 20 (nk := [(.atom 0, .flt .f32), (.atom 1, .flt .f64), (.atom 2, .flt .f32)]) (fs := []) (xs := [.flt .f32 x, .flt .f64 w10, .flt .f32 (nar (wrapD (wid x)))]) (ws := []) (env := [(18, .nd 1 (.flt .f64)), (19, .nd 2 (.flt .f32))]) ?_ ?_ tb_ok apT_ok ?_
    · refine midN_in ?_ .nil _ ?_ ?_ ?_
      · exact (.cons rfl ⟨_, rfl, hx⟩ (.cons rfl ⟨_, rfl, hw10 ▸ fop_ok⟩ (.cons rfl ⟨_, rfl, ((wrapD_bnd (wid_bnd hx f9)).nar (by decide)).2⟩ .nil)))
      · exact .nil
      · exact sepOk_ro rfl
      · exact .nil
    · exact (envEq (put_ne rfl b11) (dNd rfl ⟨_, rfl, hw10 ▸ fop_ok⟩) (envEq put_same (dNd rfl ⟨_, rfl, ((wrapD_bnd (wid_bnd hx f9)).nar (by decide)).2⟩) envNil))
    refine all3 (by kernel_rfl) ?_ ?_ ?_
    ·
      intro vs ls H14 E14 st hE
      have f15 : (ford .f32 (some 1078530011) (nar (wrapD (wid x))) == some .lt) = true := bfact st.inn 0 (by kernel_rfl)
      refine res_ex (by kernel_rfl) (end_flat st.inn hE (.inr rfl) (a := .flt .f32 (some 1078530011)) (by kernel_rfl) (Grew.trans g13 (st.kept.grew (Nat.le_of_ble_eq_true (by kernel_rfl)))) rfl ⟨?_, rfl⟩)
      unfold wrapF; rw [if_pos (show fin32 x = true from f9)]
      unfold wrapV clampV; simp only [show some 1078530011 = pi32 from rfl, show some 3226013659 = npi32 from rfl] at *; simp only [f15, if_true, Bool.false_eq_true, if_false]
    ·
      intro vs ls H16 E16 st hE
      have f17 : (ford .f32 (nar (wrapD (wid x))) (some 3226013659) == some .lt) = true := bfact st.inn 0 (by kernel_rfl)
      have f18 : (ford .f32 (some 1078530011) (nar (wrapD (wid x))) == some .lt) = false := bfact st.inn 1 (by kernel_rfl)
      refine res_ex (by kernel_rfl) (end_flat st.inn hE (.inr rfl) (a := .flt .f32 (some 3226013659)) (by kernel_rfl) (Grew.trans g13 (st.kept.grew (Nat.le_of_ble_eq_true (by kernel_rfl)))) rfl ⟨?_, rfl⟩)
      unfold wrapF; rw [if_pos (show fin32 x = true from f9)]
      unfold wrapV clampV; simp only [show some 1078530011 = pi32 from rfl, show some 3226013659 = npi32 from rfl] at *; simp only [f17, f18, if_true, Bool.false_eq_true, if_false]
    ·
      intro vs ls H19 E19 st hE
      have f20 : (ford .f32 (nar (wrapD (wid x))) (some 3226013659) == some .lt) = false := bfact st.inn 0 (by kernel_rfl)
      have f21 : (ford .f32 (some 1078530011) (nar (wrapD (wid x))) == some .lt) = false := bfact st.inn 1 (by kernel_rfl)
      refine res_ex (by kernel_rfl) (end_flat st.inn hE (.inr rfl) (a := .flt .f32 (nar (wrapD (wid x)))) (by kernel_rfl) (Grew.trans g13 (st.kept.grew (Nat.le_of_ble_eq_true (by kernel_rfl)))) rfl ⟨?_, rfl⟩)
      unfold wrapF; rw [if_pos (show fin32 x = true from f9)]
      unfold wrapV clampV; simp only [show some 1078530011 = pi32 from rfl, show some 3226013659 = npi32 from rfl] at *; simp only [f20, f21, if_true, Bool.false_eq_true, if_false]
theorem k_impl_WrapAngle (H : AHeap) (x : Option Nat) (hx : fOk .f32 x) : APure Try.prog 93 [.flt .f32 x] H (.flt .f32 (wrapF x)) := by
  refine res_start h_impl_WrapAngle (by simp) ?_
  refine run_mn (φ := φT) (pm := pmT 0 [(.call 114 [], .lit (.flt .f32 none))] 0) 20 (nk := [(.atom 0, .flt .f32)]) (fs := []) (xs := [.flt .f32 x]) (ws := []) (env := [(0, .nd 0 (.flt .f32))]) ?_ ?_ tb_ok apT_ok ?_
  · refine midN_in ?_ .nil _ ?_ ?_ ?_
    · exact (.cons rfl ⟨_, rfl, hx⟩ .nil)
    · exact .nil
    · exact sepOk_ro rfl
    · exact (.cons (rule_call (args := []) dlNil (dLit (by decide +kernel)) (fun H9 hk => k_impl_notANumber H9)) .nil)
  · exact (envEq rfl (dNd rfl ⟨_, rfl, hx⟩) envNil)
  refine all3 (by kernel_rfl) ?_ ?_ ?_
  ·
    intro vs ls H1 E1 st hE
    have f2 : (ford .f32 (fop .sub .f32 x x) (some 0) == some .eq) = false := bfact st.inn 0 (by kernel_rfl)
    refine res_ex (by kernel_rfl) (end_flat st.inn hE (.inr rfl) (a := .flt .f32 none) (by kernel_rfl) (Grew.trans (Grew.refl _) (st.kept.grew (Nat.le_of_ble_eq_true (by kernel_rfl)))) rfl ⟨?_, rfl⟩)
    unfold wrapF; rw [if_neg (by rw [show fin32 x = false from f2]; decide)]
  ·
    intro vs ls H3 E3 st hE
    have f4 : (ford .f64 (fop .sub .f64 (wid x) (fop .mul .f64 (some 4618760256179416344) (fInt .even (fop .quo .f64 (wid x) (some 4618760256179416344))))) (some 0) == some .eq) = true := bfact st.inn 0 (by kernel_rfl)
    have f5 : (ford .f32 (fop .sub .f32 x x) (some 0) == some .eq) = true := bfact st.inn 1 (by kernel_rfl)
    have b6 : E3 20 = .flt .f64 (some 0) := env_of st.inn hE 20 (by kernel_rfl)
    have g7 : Grew H H3 := (st.kept.grew (Nat.le_of_ble_eq_true (by kernel_rfl)))
    have g8 : Grew H H3 := Grew.trans (Grew.refl _) g7
    clear st hE vs ls
    refine res_conv (d := some 21) (c := .ff .f32) (x := .tmp 20) (r := .flt .f32 (nar (wrapD (wid x)))) (by kernel_rfl) (cv_ff b6 (by rw [show some 0 = wrapD (wid x) from (wrapD_zero (wid_bnd hx f5) f4).symm]; exact ((wrapD_bnd (wid_bnd hx f5)).nar (by decide)).1)) ?_
    refine run_mn (φ := φT) (pm := pmT 0 [] 0) 20 (nk := [(.atom 0, .flt .f32), (.atom 1, .flt .f32)]) (fs := []) (xs := [.flt .f32 x, .flt .f32 (nar (wrapD (wid x)))]) (ws := []) (env := [(20, .lit (.flt .f64 (some 0))), (21, .nd 1 (.flt .f32))]) ?_ ?_ tb_ok apT_ok ?_
    · refine midN_in ?_ .nil _ ?_ ?_ ?_
      · exact (.cons rfl ⟨_, rfl, hx⟩ (.cons rfl ⟨_, rfl, ((wrapD_bnd (wid_bnd hx f5)).nar (by decide)).2⟩ .nil))
      · exact .nil
      · exact sepOk_ro rfl
      · exact .nil
    · exact (envEq (put_ne rfl b6) (dLit (by decide +kernel)) (envEq put_same (dNd rfl ⟨_, rfl, ((wrapD_bnd (wid_bnd hx f5)).nar (by decide)).2⟩) envNil))
    refine all1 (by kernel_rfl) ?_
    intro vs ls H9 E9 st hE
    refine res_ex (by kernel_rfl) (end_flat st.inn hE (.inr rfl) (a := .flt .f32 (minF .f32 (some 1078530011) (maxF .f32 (some 3226013659) (nar (wrapD (wid x)))))) (by kernel_rfl) (Grew.trans g8 (st.kept.grew (Nat.le_of_ble_eq_true (by kernel_rfl)))) rfl ⟨?_, rfl⟩)
    unfold wrapF; rw [if_pos (show fin32 x = true from f5)]
    exact congrArg (AV.flt .f32) (clamp_mm ((wrapD_bnd (wid_bnd hx f5)).nar (by decide)).2 (nar_some (wrapD_bnd (wid_bnd hx f5)) (by decide)))
  ·
    intro vs ls H10 E10 st hE
    have f11 : (ford .f64 (fop .sub .f64 (wid x) (fop .mul .f64 (some 4618760256179416344) (fInt .even (fop .quo .f64 (wid x) (some 4618760256179416344))))) (some 0) == some .eq) = false := bfact st.inn 0 (by kernel_rfl)
    have f12 : (ford .f32 (fop .sub .f32 x x) (some 0) == some .eq) = true := bfact st.inn 1 (by kernel_rfl)
    obtain ⟨w13, hw13⟩ : ∃ z, z = (fop .sub .f64 (wid x) (fop .mul .f64 (some 4618760256179416344) (fInt .even (fop .quo .f64 (wid x) (some 4618760256179416344))))) := ⟨_, rfl⟩
    have b14 : E10 20 = .flt .f64 w13 := by rw [hw13]; exact env_of st.inn hE 20 (by kernel_rfl)
    have g15 : Grew H H10 := (st.kept.grew (Nat.le_of_ble_eq_true (by kernel_rfl)))
    have g16 : Grew H H10 := Grew.trans (Grew.refl _) g15
    clear st hE vs ls
    refine res_conv (d := some 21) (c := .ff .f32) (x := .tmp 20) (r := .flt .f32 (nar (wrapD (wid x)))) (by kernel_rfl) (cv_ff b14 (by rw [hw13]; exact ((wrapD_bnd (wid_bnd hx f12)).nar (by decide)).1)) ?_
    refine run_mn (φ := φT) (pm := pmT 0 [] 0) 20 (nk := [(.atom 0, .flt .f32), (.atom 1, .flt .f64), (.atom 2, .flt .f32)]) (fs := []) (xs := [.flt .f32 x, .flt .f64 w13, .flt .f32 (nar (wrapD (wid x)))]) (ws := []) (env := [(20, .nd 1 (.flt .f64)), (21, .nd 2 (.flt .f32))]) ?_ ?_ tb_ok apT_ok ?_
    · refine midN_in ?_ .nil _ ?_ ?_ ?_
      · exact (.cons rfl ⟨_, rfl, hx⟩ (.cons rfl ⟨_, rfl, hw13 ▸ fop_ok⟩ (.cons rfl ⟨_, rfl, ((wrapD_bnd (wid_bnd hx f12)).nar (by decide)).2⟩ .nil)))
      · exact .nil
      · exact sepOk_ro rfl
      · exact .nil
    · exact (envEq (put_ne rfl b14) (dNd rfl ⟨_, rfl, hw13 ▸ fop_ok⟩) (envEq put_same (dNd rfl ⟨_, rfl, ((wrapD_bnd (wid_bnd hx f12)).nar (by decide)).2⟩) envNil))
    refine all1 (by kernel_rfl) ?_
    intro vs ls H17 E17 st hE
    refine res_ex (by kernel_rfl) (end_flat st.inn hE (.inr rfl) (a := .flt .f32 (minF .f32 (some 1078530011) (maxF .f32 (some 3226013659) (nar (wrapD (wid x)))))) (by kernel_rfl) (Grew.trans g16 (st.kept.grew (Nat.le_of_ble_eq_true (by kernel_rfl)))) rfl ⟨?_, rfl⟩)
    unfold wrapF; rw [if_pos (show fin32 x = true from f12)]
    exact congrArg (AV.flt .f32) (clamp_mm ((wrapD_bnd (wid_bnd hx f12)).nar (by decide)).2 (nar_some (wrapD_bnd (wid_bnd hx f12)) (by decide)))
end Go.Proofs.Ytcmoeocemmeofaa
