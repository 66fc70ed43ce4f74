/- Contracts: sines, cosines, angles without whole turns. -/
import Derived.Test.YtcmoeocemmeofaaTBase
import Derived.Test.YtcmoeocemmeofaaSxE
set_option linter.unusedVariables false
set_option linter.unusedSimpArgs false
namespace Go.Proofs.Ytcmoeocemmeofaa
open Go.Ab
set_option maxRecDepth 100000
set_option maxHeartbeats 1000000
attribute [local irreducible] Res
def φT : Nat → List AV → AV := fun g vs => match g, vs with
 | 1, [.flt .f64 x] => .flt .f64 (fInt .down x)
 | 6, [.flt .f64 x] => .flt .f64 (fInt .even x)
 | _, _ => .undef
theorem k_archFloor (H : AHeap) (x : Option Nat) : APure Try.prog 128 [.flt .f64 x] H (.flt .f64 (fInt .down x)) := x_integral Try.func128 (by kernel_rfl) (by kernel_rfl) (by kernel_rfl) .down "math.archFloor" (by kernel_rfl) x
theorem k_RoundToEven (H : AHeap) (x : Option Nat) : APure Try.prog 117 [.flt .f64 x] H (.flt .f64 (fInt .even x)) := x_integral Try.func117 (by kernel_rfl) (by kernel_rfl) (by kernel_rfl) .even "math.RoundToEven" (by kernel_rfl) x
theorem k_frombits (H : AHeap) : APure Try.prog 127 [.int .u64 9221120237041090561] H (.flt .f64 none) := x_frombits64 Try.func127 (by kernel_rfl) (by kernel_rfl) (by kernel_rfl) (by kernel_rfl) 9221120237041090561 (by decide) (by decide)
theorem fInt_ok (way : Ieee.Toward) {x : Option Nat} (h : fOk .f64 x) : fOk .f64 (fInt way x) := by
 cases x with
 | none => exact none_ok
 | some w =>
  intro b hb
  cases hb
  obtain ⟨_, h2⟩ := h w rfl
  refine ⟨FloatKind.f64.format.write_lt _, (nrm_some (nrm_write .f64 ?_)).2⟩
  generalize FloatKind.f64.decode w = d at h2 ⊢
  cases d <;> first | (cases h2; done) | rfl
def apT : List (Nat × Nat × List Kd × Kd) := [(85, 0, [.flt .f32], .bits), (128, 1, [.flt .f64], .flt .f64), (117, 6, [.flt .f64], .flt .f64)]
theorem apT_ok : ApOk Try.prog φT apT := .bits (fun x H _ => k_bits32 H x) (.app (fun vs H h => by
 cases h with | cons h1 h2 =>
 cases h2
 obtain ⟨x, rfl, hx⟩ := h1
 exact ⟨k_archFloor H x, ⟨_, rfl, fInt_ok _ hx⟩⟩) (.app (fun vs H h => by
 cases h with | cons h1 h2 =>
 cases h2
 obtain ⟨x, rfl, hx⟩ := h1
 exact ⟨k_RoundToEven H x, ⟨_, rfl, fInt_ok _ hx⟩⟩) .nil))
def pmT (fl : Nat) (ru : List (RK × SV)) (un : Nat) : Pm := ⟨fl, ru, tb, apT, un⟩

theorem k_spec_l02Sine (H : AHeap) (t : Option Nat) (b : Nat) (hb : Bnd t b) (hb2 : b ≤ 1022) : APure Try.prog 126 [.flt .f64 t] H (.flt .f32 (sinV t)) := by
 refine res_start h_spec_l02Sine (by simp) ?_
 have q1 : KdsL [.flt .f64] [.flt .f64 t] := .cons ⟨_, rfl, hb.ok⟩ .nil
 refine run_mc (φ := φT) (pm := pmT 0 [] 1000) 20 (ws := []) (env := [(0, .nd 0 (.flt .f64))]) q1 .nil (sepOk_ro rfl) .nil (eC q1 (.cons (t := 0) rfl .nil)) tb_ok apT_ok ?_
 refine all4 (by kernel_rfl) ?_ ?_ ?_ ?_
 ·
  intro vs ls H2 E2 st hE
  have f3 : (ford .f64 (some 4598175219545276416) (fop .sub .f64 (fop .sub .f64 t (fInt .down t)) (some 4602678819172646912)) == some .lt) = true := bf st 0
  have f4 : (ford .f64 (some 4602678819172646912) (fop .sub .f64 t (fInt .down t)) == some .lt || ford .f64 (some 4602678819172646912) (fop .sub .f64 t (fInt .down t)) == some .eq) = true := bf st 1
  obtain ⟨w5, hw5⟩ : ∃ z, z = (negA .f64 (fop .mul .f64 (fop .sub .f64 (some 4607182418800017408) (fop .mul .f64 (fop .quo .f64 (fop .mul .f64 (fop .mul .f64 (some 4618760256179416344) (fop .sub .f64 (some 4602678819172646912) (fop .sub .f64 (fop .sub .f64 t (fInt .down t)) (some 4602678819172646912)))) (fop .mul .f64 (some 4618760256179416344) (fop .sub .f64 (some 4602678819172646912) (fop .sub .f64 (fop .sub .f64 t (fInt .down t)) (some 4602678819172646912))))) (some 4618441417868443648)) (fop .sub .f64 (some 4607182418800017408) (fop .mul .f64 (fop .quo .f64 (fop .mul .f64 (fop .mul .f64 (some 4618760256179416344) (fop .sub .f64 (some 4602678819172646912) (fop .sub .f64 (fop .sub .f64 t (fInt .down t)) (some 4602678819172646912)))) (fop .mul .f64 (some 4618760256179416344) (fop .sub .f64 (some 4602678819172646912) (fop .sub .f64 (fop .sub .f64 t (fInt .down t)) (some 4602678819172646912))))) (some 4626322717216342016)) (fop .sub .f64 (some 4607182418800017408) (fop .mul .f64 (fop .quo .f64 (fop .mul .f64 (fop .mul .f64 (some 4618760256179416344) (fop .sub .f64 (some 4602678819172646912) (fop .sub .f64 (fop .sub .f64 t (fInt .down t)) (some 4602678819172646912)))) (fop .mul .f64 (some 4618760256179416344) (fop .sub .f64 (some 4602678819172646912) (fop .sub .f64 (fop .sub .f64 t (fInt .down t)) (some 4602678819172646912))))) (some 4631107791820423168)) (fop .sub .f64 (some 4607182418800017408) (fop .mul .f64 (fop .quo .f64 (fop .mul .f64 (fop .mul .f64 (some 4618760256179416344) (fop .sub .f64 (some 4602678819172646912) (fop .sub .f64 (fop .sub .f64 t (fInt .down t)) (some 4602678819172646912)))) (fop .mul .f64 (some 4618760256179416344) (fop .sub .f64 (some 4602678819172646912) (fop .sub .f64 (fop .sub .f64 t (fInt .down t)) (some 4602678819172646912))))) (some 4634766966517661696)) (fop .sub .f64 (some 4607182418800017408) (fop .mul .f64 (fop .quo .f64 (fop .mul .f64 (fop .mul .f64 (some 4618760256179416344) (fop .sub .f64 (some 4602678819172646912) (fop .sub .f64 (fop .sub .f64 t (fInt .down t)) (some 4602678819172646912)))) (fop .mul .f64 (some 4618760256179416344) (fop .sub .f64 (some 4602678819172646912) (fop .sub .f64 (fop .sub .f64 t (fInt .down t)) (some 4602678819172646912))))) (some 4637440978796412928)) (fop .sub .f64 (some 4607182418800017408) (fop .mul .f64 (fop .quo .f64 (fop .mul .f64 (fop .mul .f64 (some 4618760256179416344) (fop .sub .f64 (some 4602678819172646912) (fop .sub .f64 (fop .sub .f64 t (fInt .down t)) (some 4602678819172646912)))) (fop .mul .f64 (some 4618760256179416344) (fop .sub .f64 (some 4602678819172646912) (fop .sub .f64 (fop .sub .f64 t (fInt .down t)) (some 4602678819172646912))))) (some 4639692778610098176)) (fop .sub .f64 (some 4607182418800017408) (fop .mul .f64 (fop .quo .f64 (fop .mul .f64 (fop .mul .f64 (some 4618760256179416344) (fop .sub .f64 (some 4602678819172646912) (fop .sub .f64 (fop .sub .f64 t (fInt .down t)) (some 4602678819172646912)))) (fop .mul .f64 (some 4618760256179416344) (fop .sub .f64 (some 4602678819172646912) (fop .sub .f64 (fop .sub .f64 t (fInt .down t)) (some 4602678819172646912))))) (some 4641592734702895104)) (fop .sub .f64 (some 4607182418800017408) (fop .mul .f64 (fop .quo .f64 (fop .mul .f64 (fop .mul .f64 (some 4618760256179416344) (fop .sub .f64 (some 4602678819172646912) (fop .sub .f64 (fop .sub .f64 t (fInt .down t)) (some 4602678819172646912)))) (fop .mul .f64 (some 4618760256179416344) (fop .sub .f64 (some 4602678819172646912) (fop .sub .f64 (fop .sub .f64 t (fInt .down t)) (some 4602678819172646912))))) (some 4643492690795692032)) (some 4607182418800017408))))))))))))))))) (fop .mul .f64 (some 4618760256179416344) (fop .sub .f64 (some 4602678819172646912) (fop .sub .f64 (fop .sub .f64 t (fInt .down t)) (some 4602678819172646912)))))) := ⟨_, rfl⟩
  have b6 : E2 52 = .flt .f64 w5 := by rw [hw5]; exact eo st hE 52 _
  have k7 : HasKd (.flt .f64) (.flt .f64 w5) := b6 ▸ kd_env st.inn hE 52 (kd := .flt .f64) (by kernel_rfl)
  have g8 : Grew H H2 := (gk st)
  have g9 : Grew H H2 := Grew.trans (Grew.refl _) g8
  clear st hE vs ls
  have h10 : w5 = sinX t := by rw [hw5]; unfold sinX fold; simp only [show ∀ a, fop .sub .f64 a (fInt .down a) = frac a from fun _ => rfl, show some 4602678819172646912 = half from rfl, show some 4598175219545276416 = quarter from rfl] at *; simp only [f3, f4, if_true, Bool.false_eq_true, if_false]; rfl
  refine res_conv (d := some 53) (c := .ff .f32) (x := .tmp 52) (r := .flt .f32 (sinV t)) (by kernel_rfl) (cv_ff b6 (by rw [h10]; exact (sinV_ok hb (by omega)).1)) ?_
  have q11 := q1.app (.cons k7 (.cons ⟨_, rfl, (sinV_ok hb (by omega)).2⟩ .nil) : KdsL [.flt .f64, KF] [.flt .f64 w5, .flt .f32 (sinV t)])
  refine run_mc (φ := φT) (pm := pmT 0 [] 1000) 20 (ws := []) (env := [(52, .nd 1 (.flt .f64)), (53, nF 2)]) q11 .nil (sepOk_ro rfl) .nil (eC q11 (.cons (put_ne rfl b6) (.cons put_same .nil))) tb_ok apT_ok ?_
  refine all1 (by kernel_rfl) ?_
  intro vs ls H12 E12 st hE
  refine res_ex (by kernel_rfl) (end_flat st.inn hE (.inr rfl) (a := .flt .f32 (sinV t)) (by kernel_rfl) (Grew.trans g9 (gk st)) rfl ⟨?_, rfl⟩)
  rfl
 ·
  intro vs ls H13 E13 st hE
  have f14 : (ford .f64 (some 4598175219545276416) (fop .sub .f64 (fop .sub .f64 t (fInt .down t)) (some 4602678819172646912)) == some .lt) = false := bf st 0
  have f15 : (ford .f64 (some 4602678819172646912) (fop .sub .f64 t (fInt .down t)) == some .lt || ford .f64 (some 4602678819172646912) (fop .sub .f64 t (fInt .down t)) == some .eq) = true := bf st 1
  obtain ⟨w16, hw16⟩ : ∃ z, z = (negA .f64 (fop .mul .f64 (fop .sub .f64 (some 4607182418800017408) (fop .mul .f64 (fop .quo .f64 (fop .mul .f64 (fop .mul .f64 (some 4618760256179416344) (fop .sub .f64 (fop .sub .f64 t (fInt .down t)) (some 4602678819172646912))) (fop .mul .f64 (some 4618760256179416344) (fop .sub .f64 (fop .sub .f64 t (fInt .down t)) (some 4602678819172646912)))) (some 4618441417868443648)) (fop .sub .f64 (some 4607182418800017408) (fop .mul .f64 (fop .quo .f64 (fop .mul .f64 (fop .mul .f64 (some 4618760256179416344) (fop .sub .f64 (fop .sub .f64 t (fInt .down t)) (some 4602678819172646912))) (fop .mul .f64 (some 4618760256179416344) (fop .sub .f64 (fop .sub .f64 t (fInt .down t)) (some 4602678819172646912)))) (some 4626322717216342016)) (fop .sub .f64 (some 4607182418800017408) (fop .mul .f64 (fop .quo .f64 (fop .mul .f64 (fop .mul .f64 (some 4618760256179416344) (fop .sub .f64 (fop .sub .f64 t (fInt .down t)) (some 4602678819172646912))) (fop .mul .f64 (some 4618760256179416344) (fop .sub .f64 (fop .sub .f64 t (fInt .down t)) (some 4602678819172646912)))) (some 4631107791820423168)) (fop .sub .f64 (some 4607182418800017408) (fop .mul .f64 (fop .quo .f64 (fop .mul .f64 (fop .mul .f64 (some 4618760256179416344) (fop .sub .f64 (fop .sub .f64 t (fInt .down t)) (some 4602678819172646912))) (fop .mul .f64 (some 4618760256179416344) (fop .sub .f64 (fop .sub .f64 t (fInt .down t)) (some 4602678819172646912)))) (some 4634766966517661696)) (fop .sub .f64 (some 4607182418800017408) (fop .mul .f64 (fop .quo .f64 (fop .mul .f64 (fop .mul .f64 (some 4618760256179416344) (fop .sub .f64 (fop .sub .f64 t (fInt .down t)) (some 4602678819172646912))) (fop .mul .f64 (some 4618760256179416344) (fop .sub .f64 (fop .sub .f64 t (fInt .down t)) (some 4602678819172646912)))) (some 4637440978796412928)) (fop .sub .f64 (some 4607182418800017408) (fop .mul .f64 (fop .quo .f64 (fop .mul .f64 (fop .mul .f64 (some 4618760256179416344) (fop .sub .f64 (fop .sub .f64 t (fInt .down t)) (some 4602678819172646912))) (fop .mul .f64 (some 4618760256179416344) (fop .sub .f64 (fop .sub .f64 t (fInt .down t)) (some 4602678819172646912)))) (some 4639692778610098176)) (fop .sub .f64 (some 4607182418800017408) (fop .mul .f64 (fop .quo .f64 (fop .mul .f64 (fop .mul .f64 (some 4618760256179416344) (fop .sub .f64 (fop .sub .f64 t (fInt .down t)) (some 4602678819172646912))) (fop .mul .f64 (some 4618760256179416344) (fop .sub .f64 (fop .sub .f64 t (fInt .down t)) (some 4602678819172646912)))) (some 4641592734702895104)) (fop .sub .f64 (some 4607182418800017408) (fop .mul .f64 (fop .quo .f64 (fop .mul .f64 (fop .mul .f64 (some 4618760256179416344) (fop .sub .f64 (fop .sub .f64 t (fInt .down t)) (some 4602678819172646912))) (fop .mul .f64 (some 4618760256179416344) (fop .sub .f64 (fop .sub .f64 t (fInt .down t)) (some 4602678819172646912)))) (some 4643492690795692032)) (some 4607182418800017408))))))))))))))))) (fop .mul .f64 (some 4618760256179416344) (fop .sub .f64 (fop .sub .f64 t (fInt .down t)) (some 4602678819172646912))))) := ⟨_, rfl⟩
  have b17 : E13 52 = .flt .f64 w16 := by rw [hw16]; exact eo st hE 52 _
  have k18 : HasKd (.flt .f64) (.flt .f64 w16) := b17 ▸ kd_env st.inn hE 52 (kd := .flt .f64) (by kernel_rfl)
  have g19 : Grew H H13 := (gk st)
  have g20 : Grew H H13 := Grew.trans (Grew.refl _) g19
  clear st hE vs ls
  have h21 : w16 = sinX t := by rw [hw16]; unfold sinX fold; simp only [show ∀ a, fop .sub .f64 a (fInt .down a) = frac a from fun _ => rfl, show some 4602678819172646912 = half from rfl, show some 4598175219545276416 = quarter from rfl] at *; simp only [f14, f15, if_true, Bool.false_eq_true, if_false]; rfl
  refine res_conv (d := some 53) (c := .ff .f32) (x := .tmp 52) (r := .flt .f32 (sinV t)) (by kernel_rfl) (cv_ff b17 (by rw [h21]; exact (sinV_ok hb (by omega)).1)) ?_
  have q22 := q1.app (.cons k18 (.cons ⟨_, rfl, (sinV_ok hb (by omega)).2⟩ .nil) : KdsL [.flt .f64, KF] [.flt .f64 w16, .flt .f32 (sinV t)])
  refine run_mc (φ := φT) (pm := pmT 0 [] 1000) 20 (ws := []) (env := [(52, .nd 1 (.flt .f64)), (53, nF 2)]) q22 .nil (sepOk_ro rfl) .nil (eC q22 (.cons (put_ne rfl b17) (.cons put_same .nil))) tb_ok apT_ok ?_
  refine all1 (by kernel_rfl) ?_
  intro vs ls H23 E23 st hE
  refine res_ex (by kernel_rfl) (end_flat st.inn hE (.inr rfl) (a := .flt .f32 (sinV t)) (by kernel_rfl) (Grew.trans g20 (gk st)) rfl ⟨?_, rfl⟩)
  rfl
 ·
  intro vs ls H24 E24 st hE
  have f25 : (ford .f64 (some 4598175219545276416) (fop .sub .f64 t (fInt .down t)) == some .lt) = true := bf st 0
  have f26 : (ford .f64 (some 4602678819172646912) (fop .sub .f64 t (fInt .down t)) == some .lt || ford .f64 (some 4602678819172646912) (fop .sub .f64 t (fInt .down t)) == some .eq) = false := bf st 1
  obtain ⟨w27, hw27⟩ : ∃ z, z = (fop .mul .f64 (fop .sub .f64 (some 4607182418800017408) (fop .mul .f64 (fop .quo .f64 (fop .mul .f64 (fop .mul .f64 (some 4618760256179416344) (fop .sub .f64 (some 4602678819172646912) (fop .sub .f64 t (fInt .down t)))) (fop .mul .f64 (some 4618760256179416344) (fop .sub .f64 (some 4602678819172646912) (fop .sub .f64 t (fInt .down t))))) (some 4618441417868443648)) (fop .sub .f64 (some 4607182418800017408) (fop .mul .f64 (fop .quo .f64 (fop .mul .f64 (fop .mul .f64 (some 4618760256179416344) (fop .sub .f64 (some 4602678819172646912) (fop .sub .f64 t (fInt .down t)))) (fop .mul .f64 (some 4618760256179416344) (fop .sub .f64 (some 4602678819172646912) (fop .sub .f64 t (fInt .down t))))) (some 4626322717216342016)) (fop .sub .f64 (some 4607182418800017408) (fop .mul .f64 (fop .quo .f64 (fop .mul .f64 (fop .mul .f64 (some 4618760256179416344) (fop .sub .f64 (some 4602678819172646912) (fop .sub .f64 t (fInt .down t)))) (fop .mul .f64 (some 4618760256179416344) (fop .sub .f64 (some 4602678819172646912) (fop .sub .f64 t (fInt .down t))))) (some 4631107791820423168)) (fop .sub .f64 (some 4607182418800017408) (fop .mul .f64 (fop .quo .f64 (fop .mul .f64 (fop .mul .f64 (some 4618760256179416344) (fop .sub .f64 (some 4602678819172646912) (fop .sub .f64 t (fInt .down t)))) (fop .mul .f64 (some 4618760256179416344) (fop .sub .f64 (some 4602678819172646912) (fop .sub .f64 t (fInt .down t))))) (some 4634766966517661696)) (fop .sub .f64 (some 4607182418800017408) (fop .mul .f64 (fop .quo .f64 (fop .mul .f64 (fop .mul .f64 (some 4618760256179416344) (fop .sub .f64 (some 4602678819172646912) (fop .sub .f64 t (fInt .down t)))) (fop .mul .f64 (some 4618760256179416344) (fop .sub .f64 (some 4602678819172646912) (fop .sub .f64 t (fInt .down t))))) (some 4637440978796412928)) (fop .sub .f64 (some 4607182418800017408) (fop .mul .f64 (fop .quo .f64 (fop .mul .f64 (fop .mul .f64 (some 4618760256179416344) (fop .sub .f64 (some 4602678819172646912) (fop .sub .f64 t (fInt .down t)))) (fop .mul .f64 (some 4618760256179416344) (fop .sub .f64 (some 4602678819172646912) (fop .sub .f64 t (fInt .down t))))) (some 4639692778610098176)) (fop .sub .f64 (some 4607182418800017408) (fop .mul .f64 (fop .quo .f64 (fop .mul .f64 (fop .mul .f64 (some 4618760256179416344) (fop .sub .f64 (some 4602678819172646912) (fop .sub .f64 t (fInt .down t)))) (fop .mul .f64 (some 4618760256179416344) (fop .sub .f64 (some 4602678819172646912) (fop .sub .f64 t (fInt .down t))))) (some 4641592734702895104)) (fop .sub .f64 (some 4607182418800017408) (fop .mul .f64 (fop .quo .f64 (fop .mul .f64 (fop .mul .f64 (some 4618760256179416344) (fop .sub .f64 (some 4602678819172646912) (fop .sub .f64 t (fInt .down t)))) (fop .mul .f64 (some 4618760256179416344) (fop .sub .f64 (some 4602678819172646912) (fop .sub .f64 t (fInt .down t))))) (some 4643492690795692032)) (some 4607182418800017408))))))))))))))))) (fop .mul .f64 (some 4618760256179416344) (fop .sub .f64 (some 4602678819172646912) (fop .sub .f64 t (fInt .down t))))) := ⟨_, rfl⟩
  have b28 : E24 52 = .flt .f64 w27 := by rw [hw27]; exact eo st hE 52 _
  have g29 : Grew H H24 := (gk st)
  have g30 : Grew H H24 := Grew.trans (Grew.refl _) g29
  clear st hE vs ls
  have h31 : w27 = sinX t := by rw [hw27]; unfold sinX fold; simp only [show ∀ a, fop .sub .f64 a (fInt .down a) = frac a from fun _ => rfl, show some 4602678819172646912 = half from rfl, show some 4598175219545276416 = quarter from rfl] at *; simp only [f25, f26, if_true, Bool.false_eq_true, if_false]; rfl
  refine res_conv (d := some 53) (c := .ff .f32) (x := .tmp 52) (r := .flt .f32 (sinV t)) (by kernel_rfl) (cv_ff b28 (by rw [h31]; exact (sinV_ok hb (by omega)).1)) ?_
  have q32 := q1.app (.cons ⟨_, rfl, hw27 ▸ fop_ok⟩ (.cons ⟨_, rfl, (sinV_ok hb (by omega)).2⟩ .nil) : KdsL [.flt .f64, KF] [.flt .f64 w27, .flt .f32 (sinV t)])
  refine run_mc (φ := φT) (pm := pmT 0 [] 1000) 20 (ws := []) (env := [(52, .nd 1 (.flt .f64)), (53, nF 2)]) q32 .nil (sepOk_ro rfl) .nil (eC q32 (.cons (put_ne rfl b28) (.cons put_same .nil))) tb_ok apT_ok ?_
  refine all1 (by kernel_rfl) ?_
  intro vs ls H33 E33 st hE
  refine res_ex (by kernel_rfl) (end_flat st.inn hE (.inr rfl) (a := .flt .f32 (sinV t)) (by kernel_rfl) (Grew.trans g30 (gk st)) rfl ⟨?_, rfl⟩)
  rfl
 ·
  intro vs ls H34 E34 st hE
  have f35 : (ford .f64 (some 4598175219545276416) (fop .sub .f64 t (fInt .down t)) == some .lt) = false := bf st 0
  have f36 : (ford .f64 (some 4602678819172646912) (fop .sub .f64 t (fInt .down t)) == some .lt || ford .f64 (some 4602678819172646912) (fop .sub .f64 t (fInt .down t)) == some .eq) = false := bf st 1
  obtain ⟨w37, hw37⟩ : ∃ z, z = (fop .mul .f64 (fop .sub .f64 (some 4607182418800017408) (fop .mul .f64 (fop .quo .f64 (fop .mul .f64 (fop .mul .f64 (some 4618760256179416344) (fop .sub .f64 t (fInt .down t))) (fop .mul .f64 (some 4618760256179416344) (fop .sub .f64 t (fInt .down t)))) (some 4618441417868443648)) (fop .sub .f64 (some 4607182418800017408) (fop .mul .f64 (fop .quo .f64 (fop .mul .f64 (fop .mul .f64 (some 4618760256179416344) (fop .sub .f64 t (fInt .down t))) (fop .mul .f64 (some 4618760256179416344) (fop .sub .f64 t (fInt .down t)))) (some 4626322717216342016)) (fop .sub .f64 (some 4607182418800017408) (fop .mul .f64 (fop .quo .f64 (fop .mul .f64 (fop .mul .f64 (some 4618760256179416344) (fop .sub .f64 t (fInt .down t))) (fop .mul .f64 (some 4618760256179416344) (fop .sub .f64 t (fInt .down t)))) (some 4631107791820423168)) (fop .sub .f64 (some 4607182418800017408) (fop .mul .f64 (fop .quo .f64 (fop .mul .f64 (fop .mul .f64 (some 4618760256179416344) (fop .sub .f64 t (fInt .down t))) (fop .mul .f64 (some 4618760256179416344) (fop .sub .f64 t (fInt .down t)))) (some 4634766966517661696)) (fop .sub .f64 (some 4607182418800017408) (fop .mul .f64 (fop .quo .f64 (fop .mul .f64 (fop .mul .f64 (some 4618760256179416344) (fop .sub .f64 t (fInt .down t))) (fop .mul .f64 (some 4618760256179416344) (fop .sub .f64 t (fInt .down t)))) (some 4637440978796412928)) (fop .sub .f64 (some 4607182418800017408) (fop .mul .f64 (fop .quo .f64 (fop .mul .f64 (fop .mul .f64 (some 4618760256179416344) (fop .sub .f64 t (fInt .down t))) (fop .mul .f64 (some 4618760256179416344) (fop .sub .f64 t (fInt .down t)))) (some 4639692778610098176)) (fop .sub .f64 (some 4607182418800017408) (fop .mul .f64 (fop .quo .f64 (fop .mul .f64 (fop .mul .f64 (some 4618760256179416344) (fop .sub .f64 t (fInt .down t))) (fop .mul .f64 (some 4618760256179416344) (fop .sub .f64 t (fInt .down t)))) (some 4641592734702895104)) (fop .sub .f64 (some 4607182418800017408) (fop .mul .f64 (fop .quo .f64 (fop .mul .f64 (fop .mul .f64 (some 4618760256179416344) (fop .sub .f64 t (fInt .down t))) (fop .mul .f64 (some 4618760256179416344) (fop .sub .f64 t (fInt .down t)))) (some 4643492690795692032)) (some 4607182418800017408))))))))))))))))) (fop .mul .f64 (some 4618760256179416344) (fop .sub .f64 t (fInt .down t)))) := ⟨_, rfl⟩
  have b38 : E34 52 = .flt .f64 w37 := by rw [hw37]; exact eo st hE 52 _
  have g39 : Grew H H34 := (gk st)
  have g40 : Grew H H34 := Grew.trans (Grew.refl _) g39
  clear st hE vs ls
  have h41 : w37 = sinX t := by rw [hw37]; unfold sinX fold; simp only [show ∀ a, fop .sub .f64 a (fInt .down a) = frac a from fun _ => rfl, show some 4602678819172646912 = half from rfl, show some 4598175219545276416 = quarter from rfl] at *; simp only [f35, f36, if_true, Bool.false_eq_true, if_false]; rfl
  refine res_conv (d := some 53) (c := .ff .f32) (x := .tmp 52) (r := .flt .f32 (sinV t)) (by kernel_rfl) (cv_ff b38 (by rw [h41]; exact (sinV_ok hb (by omega)).1)) ?_
  have q42 := q1.app (.cons ⟨_, rfl, hw37 ▸ fop_ok⟩ (.cons ⟨_, rfl, (sinV_ok hb (by omega)).2⟩ .nil) : KdsL [.flt .f64, KF] [.flt .f64 w37, .flt .f32 (sinV t)])
  refine run_mc (φ := φT) (pm := pmT 0 [] 1000) 20 (ws := []) (env := [(52, .nd 1 (.flt .f64)), (53, nF 2)]) q42 .nil (sepOk_ro rfl) .nil (eC q42 (.cons (put_ne rfl b38) (.cons put_same .nil))) tb_ok apT_ok ?_
  refine all1 (by kernel_rfl) ?_
  intro vs ls H43 E43 st hE
  refine res_ex (by kernel_rfl) (end_flat st.inn hE (.inr rfl) (a := .flt .f32 (sinV t)) (by kernel_rfl) (Grew.trans g40 (gk st)) rfl ⟨?_, rfl⟩)
  rfl
theorem k_impl_sineOfTurns (H : AHeap) (t : Option Nat) (b : Nat) (hb : Bnd t b) (hb2 : b ≤ 1022) : APure Try.prog 115 [.flt .f64 t] H (.flt .f32 (sinV t)) := by
 refine res_start h_impl_sineOfTurns (by simp) ?_
 have q1 : KdsL [.flt .f64] [.flt .f64 t] := .cons ⟨_, rfl, hb.ok⟩ .nil
 refine run_mc (φ := φT) (pm := pmT 0 [] 1000) 20 (ws := []) (env := [(0, .nd 0 (.flt .f64))]) q1 .nil (sepOk_ro rfl) .nil (eC q1 (.cons (t := 0) rfl .nil)) tb_ok apT_ok ?_
 refine all4 (by kernel_rfl) ?_ ?_ ?_ ?_
 ·
  intro vs ls H2 E2 st hE
  have f3 : (ford .f64 (some 4598175219545276416) (fop .sub .f64 (fop .sub .f64 t (fInt .down t)) (some 4602678819172646912)) == some .lt) = true := bf st 0
  have f4 : (ford .f64 (some 4602678819172646912) (fop .sub .f64 t (fInt .down t)) == some .lt || ford .f64 (some 4602678819172646912) (fop .sub .f64 t (fInt .down t)) == some .eq) = true := bf st 1
  obtain ⟨w5, hw5⟩ : ∃ z, z = (negA .f64 (fop .mul .f64 (fop .sub .f64 (some 4607182418800017408) (fop .mul .f64 (fop .quo .f64 (fop .mul .f64 (fop .mul .f64 (some 4618760256179416344) (fop .sub .f64 (some 4602678819172646912) (fop .sub .f64 (fop .sub .f64 t (fInt .down t)) (some 4602678819172646912)))) (fop .mul .f64 (some 4618760256179416344) (fop .sub .f64 (some 4602678819172646912) (fop .sub .f64 (fop .sub .f64 t (fInt .down t)) (some 4602678819172646912))))) (some 4618441417868443648)) (fop .sub .f64 (some 4607182418800017408) (fop .mul .f64 (fop .quo .f64 (fop .mul .f64 (fop .mul .f64 (some 4618760256179416344) (fop .sub .f64 (some 4602678819172646912) (fop .sub .f64 (fop .sub .f64 t (fInt .down t)) (some 4602678819172646912)))) (fop .mul .f64 (some 4618760256179416344) (fop .sub .f64 (some 4602678819172646912) (fop .sub .f64 (fop .sub .f64 t (fInt .down t)) (some 4602678819172646912))))) (some 4626322717216342016)) (fop .sub .f64 (some 4607182418800017408) (fop .mul .f64 (fop .quo .f64 (fop .mul .f64 (fop .mul .f64 (some 4618760256179416344) (fop .sub .f64 (some 4602678819172646912) (fop .sub .f64 (fop .sub .f64 t (fInt .down t)) (some 4602678819172646912)))) (fop .mul .f64 (some 4618760256179416344) (fop .sub .f64 (some 4602678819172646912) (fop .sub .f64 (fop .sub .f64 t (fInt .down t)) (some 4602678819172646912))))) (some 4631107791820423168)) (fop .sub .f64 (some 4607182418800017408) (fop .mul .f64 (fop .quo .f64 (fop .mul .f64 (fop .mul .f64 (some 4618760256179416344) (fop .sub .f64 (some 4602678819172646912) (fop .sub .f64 (fop .sub .f64 t (fInt .down t)) (some 4602678819172646912)))) (fop .mul .f64 (some 4618760256179416344) (fop .sub .f64 (some 4602678819172646912) (fop .sub .f64 (fop .sub .f64 t (fInt .down t)) (some 4602678819172646912))))) (some 4634766966517661696)) (fop .sub .f64 (some 4607182418800017408) (fop .mul .f64 (fop .quo .f64 (fop .mul .f64 (fop .mul .f64 (some 4618760256179416344) (fop .sub .f64 (some 4602678819172646912) (fop .sub .f64 (fop .sub .f64 t (fInt .down t)) (some 4602678819172646912)))) (fop .mul .f64 (some 4618760256179416344) (fop .sub .f64 (some 4602678819172646912) (fop .sub .f64 (fop .sub .f64 t (fInt .down t)) (some 4602678819172646912))))) (some 4637440978796412928)) (fop .sub .f64 (some 4607182418800017408) (fop .mul .f64 (fop .quo .f64 (fop .mul .f64 (fop .mul .f64 (some 4618760256179416344) (fop .sub .f64 (some 4602678819172646912) (fop .sub .f64 (fop .sub .f64 t (fInt .down t)) (some 4602678819172646912)))) (fop .mul .f64 (some 4618760256179416344) (fop .sub .f64 (some 4602678819172646912) (fop .sub .f64 (fop .sub .f64 t (fInt .down t)) (some 4602678819172646912))))) (some 4639692778610098176)) (fop .sub .f64 (some 4607182418800017408) (fop .mul .f64 (fop .quo .f64 (fop .mul .f64 (fop .mul .f64 (some 4618760256179416344) (fop .sub .f64 (some 4602678819172646912) (fop .sub .f64 (fop .sub .f64 t (fInt .down t)) (some 4602678819172646912)))) (fop .mul .f64 (some 4618760256179416344) (fop .sub .f64 (some 4602678819172646912) (fop .sub .f64 (fop .sub .f64 t (fInt .down t)) (some 4602678819172646912))))) (some 4641592734702895104)) (fop .sub .f64 (some 4607182418800017408) (fop .mul .f64 (fop .quo .f64 (fop .mul .f64 (fop .mul .f64 (some 4618760256179416344) (fop .sub .f64 (some 4602678819172646912) (fop .sub .f64 (fop .sub .f64 t (fInt .down t)) (some 4602678819172646912)))) (fop .mul .f64 (some 4618760256179416344) (fop .sub .f64 (some 4602678819172646912) (fop .sub .f64 (fop .sub .f64 t (fInt .down t)) (some 4602678819172646912))))) (some 4643492690795692032)) (some 4607182418800017408))))))))))))))))) (fop .mul .f64 (some 4618760256179416344) (fop .sub .f64 (some 4602678819172646912) (fop .sub .f64 (fop .sub .f64 t (fInt .down t)) (some 4602678819172646912)))))) := ⟨_, rfl⟩
  have b6 : E2 49 = .flt .f64 w5 := by rw [hw5]; exact eo st hE 49 _
  have k7 : HasKd (.flt .f64) (.flt .f64 w5) := b6 ▸ kd_env st.inn hE 49 (kd := .flt .f64) (by kernel_rfl)
  have g8 : Grew H H2 := (gk st)
  have g9 : Grew H H2 := Grew.trans (Grew.refl _) g8
  clear st hE vs ls
  have h10 : w5 = sinX t := by rw [hw5]; unfold sinX fold; simp only [show ∀ a, fop .sub .f64 a (fInt .down a) = frac a from fun _ => rfl, show some 4602678819172646912 = half from rfl, show some 4598175219545276416 = quarter from rfl] at *; simp only [f3, f4, if_true, Bool.false_eq_true, if_false]; rfl
  refine res_conv (d := some 50) (c := .ff .f32) (x := .tmp 49) (r := .flt .f32 (sinV t)) (by kernel_rfl) (cv_ff b6 (by rw [h10]; exact (sinV_ok hb (by omega)).1)) ?_
  have q11 := q1.app (.cons k7 (.cons ⟨_, rfl, (sinV_ok hb (by omega)).2⟩ .nil) : KdsL [.flt .f64, KF] [.flt .f64 w5, .flt .f32 (sinV t)])
  refine run_mc (φ := φT) (pm := pmT 0 [] 1000) 20 (ws := []) (env := [(49, .nd 1 (.flt .f64)), (50, nF 2)]) q11 .nil (sepOk_ro rfl) .nil (eC q11 (.cons (put_ne rfl b6) (.cons put_same .nil))) tb_ok apT_ok ?_
  refine all1 (by kernel_rfl) ?_
  intro vs ls H12 E12 st hE
  refine res_ex (by kernel_rfl) (end_flat st.inn hE (.inr rfl) (a := .flt .f32 (sinV t)) (by kernel_rfl) (Grew.trans g9 (gk st)) rfl ⟨?_, rfl⟩)
  rfl
 ·
  intro vs ls H13 E13 st hE
  have f14 : (ford .f64 (some 4598175219545276416) (fop .sub .f64 (fop .sub .f64 t (fInt .down t)) (some 4602678819172646912)) == some .lt) = false := bf st 0
  have f15 : (ford .f64 (some 4602678819172646912) (fop .sub .f64 t (fInt .down t)) == some .lt || ford .f64 (some 4602678819172646912) (fop .sub .f64 t (fInt .down t)) == some .eq) = true := bf st 1
  obtain ⟨w16, hw16⟩ : ∃ z, z = (negA .f64 (fop .mul .f64 (fop .sub .f64 (some 4607182418800017408) (fop .mul .f64 (fop .quo .f64 (fop .mul .f64 (fop .mul .f64 (some 4618760256179416344) (fop .sub .f64 (fop .sub .f64 t (fInt .down t)) (some 4602678819172646912))) (fop .mul .f64 (some 4618760256179416344) (fop .sub .f64 (fop .sub .f64 t (fInt .down t)) (some 4602678819172646912)))) (some 4618441417868443648)) (fop .sub .f64 (some 4607182418800017408) (fop .mul .f64 (fop .quo .f64 (fop .mul .f64 (fop .mul .f64 (some 4618760256179416344) (fop .sub .f64 (fop .sub .f64 t (fInt .down t)) (some 4602678819172646912))) (fop .mul .f64 (some 4618760256179416344) (fop .sub .f64 (fop .sub .f64 t (fInt .down t)) (some 4602678819172646912)))) (some 4626322717216342016)) (fop .sub .f64 (some 4607182418800017408) (fop .mul .f64 (fop .quo .f64 (fop .mul .f64 (fop .mul .f64 (some 4618760256179416344) (fop .sub .f64 (fop .sub .f64 t (fInt .down t)) (some 4602678819172646912))) (fop .mul .f64 (some 4618760256179416344) (fop .sub .f64 (fop .sub .f64 t (fInt .down t)) (some 4602678819172646912)))) (some 4631107791820423168)) (fop .sub .f64 (some 4607182418800017408) (fop .mul .f64 (fop .quo .f64 (fop .mul .f64 (fop .mul .f64 (some 4618760256179416344) (fop .sub .f64 (fop .sub .f64 t (fInt .down t)) (some 4602678819172646912))) (fop .mul .f64 (some 4618760256179416344) (fop .sub .f64 (fop .sub .f64 t (fInt .down t)) (some 4602678819172646912)))) (some 4634766966517661696)) (fop .sub .f64 (some 4607182418800017408) (fop .mul .f64 (fop .quo .f64 (fop .mul .f64 (fop .mul .f64 (some 4618760256179416344) (fop .sub .f64 (fop .sub .f64 t (fInt .down t)) (some 4602678819172646912))) (fop .mul .f64 (some 4618760256179416344) (fop .sub .f64 (fop .sub .f64 t (fInt .down t)) (some 4602678819172646912)))) (some 4637440978796412928)) (fop .sub .f64 (some 4607182418800017408) (fop .mul .f64 (fop .quo .f64 (fop .mul .f64 (fop .mul .f64 (some 4618760256179416344) (fop .sub .f64 (fop .sub .f64 t (fInt .down t)) (some 4602678819172646912))) (fop .mul .f64 (some 4618760256179416344) (fop .sub .f64 (fop .sub .f64 t (fInt .down t)) (some 4602678819172646912)))) (some 4639692778610098176)) (fop .sub .f64 (some 4607182418800017408) (fop .mul .f64 (fop .quo .f64 (fop .mul .f64 (fop .mul .f64 (some 4618760256179416344) (fop .sub .f64 (fop .sub .f64 t (fInt .down t)) (some 4602678819172646912))) (fop .mul .f64 (some 4618760256179416344) (fop .sub .f64 (fop .sub .f64 t (fInt .down t)) (some 4602678819172646912)))) (some 4641592734702895104)) (fop .sub .f64 (some 4607182418800017408) (fop .mul .f64 (fop .quo .f64 (fop .mul .f64 (fop .mul .f64 (some 4618760256179416344) (fop .sub .f64 (fop .sub .f64 t (fInt .down t)) (some 4602678819172646912))) (fop .mul .f64 (some 4618760256179416344) (fop .sub .f64 (fop .sub .f64 t (fInt .down t)) (some 4602678819172646912)))) (some 4643492690795692032)) (some 4607182418800017408))))))))))))))))) (fop .mul .f64 (some 4618760256179416344) (fop .sub .f64 (fop .sub .f64 t (fInt .down t)) (some 4602678819172646912))))) := ⟨_, rfl⟩
  have b17 : E13 49 = .flt .f64 w16 := by rw [hw16]; exact eo st hE 49 _
  have k18 : HasKd (.flt .f64) (.flt .f64 w16) := b17 ▸ kd_env st.inn hE 49 (kd := .flt .f64) (by kernel_rfl)
  have g19 : Grew H H13 := (gk st)
  have g20 : Grew H H13 := Grew.trans (Grew.refl _) g19
  clear st hE vs ls
  have h21 : w16 = sinX t := by rw [hw16]; unfold sinX fold; simp only [show ∀ a, fop .sub .f64 a (fInt .down a) = frac a from fun _ => rfl, show some 4602678819172646912 = half from rfl, show some 4598175219545276416 = quarter from rfl] at *; simp only [f14, f15, if_true, Bool.false_eq_true, if_false]; rfl
  refine res_conv (d := some 50) (c := .ff .f32) (x := .tmp 49) (r := .flt .f32 (sinV t)) (by kernel_rfl) (cv_ff b17 (by rw [h21]; exact (sinV_ok hb (by omega)).1)) ?_
  have q22 := q1.app (.cons k18 (.cons ⟨_, rfl, (sinV_ok hb (by omega)).2⟩ .nil) : KdsL [.flt .f64, KF] [.flt .f64 w16, .flt .f32 (sinV t)])
  refine run_mc (φ := φT) (pm := pmT 0 [] 1000) 20 (ws := []) (env := [(49, .nd 1 (.flt .f64)), (50, nF 2)]) q22 .nil (sepOk_ro rfl) .nil (eC q22 (.cons (put_ne rfl b17) (.cons put_same .nil))) tb_ok apT_ok ?_
  refine all1 (by kernel_rfl) ?_
  intro vs ls H23 E23 st hE
  refine res_ex (by kernel_rfl) (end_flat st.inn hE (.inr rfl) (a := .flt .f32 (sinV t)) (by kernel_rfl) (Grew.trans g20 (gk st)) rfl ⟨?_, rfl⟩)
  rfl
 ·
  intro vs ls H24 E24 st hE
  have f25 : (ford .f64 (some 4598175219545276416) (fop .sub .f64 t (fInt .down t)) == some .lt) = true := bf st 0
  have f26 : (ford .f64 (some 4602678819172646912) (fop .sub .f64 t (fInt .down t)) == some .lt || ford .f64 (some 4602678819172646912) (fop .sub .f64 t (fInt .down t)) == some .eq) = false := bf st 1
  obtain ⟨w27, hw27⟩ : ∃ z, z = (fop .mul .f64 (fop .sub .f64 (some 4607182418800017408) (fop .mul .f64 (fop .quo .f64 (fop .mul .f64 (fop .mul .f64 (some 4618760256179416344) (fop .sub .f64 (some 4602678819172646912) (fop .sub .f64 t (fInt .down t)))) (fop .mul .f64 (some 4618760256179416344) (fop .sub .f64 (some 4602678819172646912) (fop .sub .f64 t (fInt .down t))))) (some 4618441417868443648)) (fop .sub .f64 (some 4607182418800017408) (fop .mul .f64 (fop .quo .f64 (fop .mul .f64 (fop .mul .f64 (some 4618760256179416344) (fop .sub .f64 (some 4602678819172646912) (fop .sub .f64 t (fInt .down t)))) (fop .mul .f64 (some 4618760256179416344) (fop .sub .f64 (some 4602678819172646912) (fop .sub .f64 t (fInt .down t))))) (some 4626322717216342016)) (fop .sub .f64 (some 4607182418800017408) (fop .mul .f64 (fop .quo .f64 (fop .mul .f64 (fop .mul .f64 (some 4618760256179416344) (fop .sub .f64 (some 4602678819172646912) (fop .sub .f64 t (fInt .down t)))) (fop .mul .f64 (some 4618760256179416344) (fop .sub .f64 (some 4602678819172646912) (fop .sub .f64 t (fInt .down t))))) (some 4631107791820423168)) (fop .sub .f64 (some 4607182418800017408) (fop .mul .f64 (fop .quo .f64 (fop .mul .f64 (fop .mul .f64 (some 4618760256179416344) (fop .sub .f64 (some 4602678819172646912) (fop .sub .f64 t (fInt .down t)))) (fop .mul .f64 (some 4618760256179416344) (fop .sub .f64 (some 4602678819172646912) (fop .sub .f64 t (fInt .down t))))) (some 4634766966517661696)) (fop .sub .f64 (some 4607182418800017408) (fop .mul .f64 (fop .quo .f64 (fop .mul .f64 (fop .mul .f64 (some 4618760256179416344) (fop .sub .f64 (some 4602678819172646912) (fop .sub .f64 t (fInt .down t)))) (fop .mul .f64 (some 4618760256179416344) (fop .sub .f64 (some 4602678819172646912) (fop .sub .f64 t (fInt .down t))))) (some 4637440978796412928)) (fop .sub .f64 (some 4607182418800017408) (fop .mul .f64 (fop .quo .f64 (fop .mul .f64 (fop .mul .f64 (some 4618760256179416344) (fop .sub .f64 (some 4602678819172646912) (fop .sub .f64 t (fInt .down t)))) (fop .mul .f64 (some 4618760256179416344) (fop .sub .f64 (some 4602678819172646912) (fop .sub .f64 t (fInt .down t))))) (some 4639692778610098176)) (fop .sub .f64 (some 4607182418800017408) (fop .mul .f64 (fop .quo .f64 (fop .mul .f64 (fop .mul .f64 (some 4618760256179416344) (fop .sub .f64 (some 4602678819172646912) (fop .sub .f64 t (fInt .down t)))) (fop .mul .f64 (some 4618760256179416344) (fop .sub .f64 (some 4602678819172646912) (fop .sub .f64 t (fInt .down t))))) (some 4641592734702895104)) (fop .sub .f64 (some 4607182418800017408) (fop .mul .f64 (fop .quo .f64 (fop .mul .f64 (fop .mul .f64 (some 4618760256179416344) (fop .sub .f64 (some 4602678819172646912) (fop .sub .f64 t (fInt .down t)))) (fop .mul .f64 (some 4618760256179416344) (fop .sub .f64 (some 4602678819172646912) (fop .sub .f64 t (fInt .down t))))) (some 4643492690795692032)) (some 4607182418800017408))))))))))))))))) (fop .mul .f64 (some 4618760256179416344) (fop .sub .f64 (some 4602678819172646912) (fop .sub .f64 t (fInt .down t))))) := ⟨_, rfl⟩
  have b28 : E24 49 = .flt .f64 w27 := by rw [hw27]; exact eo st hE 49 _
  have g29 : Grew H H24 := (gk st)
  have g30 : Grew H H24 := Grew.trans (Grew.refl _) g29
  clear st hE vs ls
  have h31 : w27 = sinX t := by rw [hw27]; unfold sinX fold; simp only [show ∀ a, fop .sub .f64 a (fInt .down a) = frac a from fun _ => rfl, show some 4602678819172646912 = half from rfl, show some 4598175219545276416 = quarter from rfl] at *; simp only [f25, f26, if_true, Bool.false_eq_true, if_false]; rfl
  refine res_conv (d := some 50) (c := .ff .f32) (x := .tmp 49) (r := .flt .f32 (sinV t)) (by kernel_rfl) (cv_ff b28 (by rw [h31]; exact (sinV_ok hb (by omega)).1)) ?_
  have q32 := q1.app (.cons ⟨_, rfl, hw27 ▸ fop_ok⟩ (.cons ⟨_, rfl, (sinV_ok hb (by omega)).2⟩ .nil) : KdsL [.flt .f64, KF] [.flt .f64 w27, .flt .f32 (sinV t)])
  refine run_mc (φ := φT) (pm := pmT 0 [] 1000) 20 (ws := []) (env := [(49, .nd 1 (.flt .f64)), (50, nF 2)]) q32 .nil (sepOk_ro rfl) .nil (eC q32 (.cons (put_ne rfl b28) (.cons put_same .nil))) tb_ok apT_ok ?_
  refine all1 (by kernel_rfl) ?_
  intro vs ls H33 E33 st hE
  refine res_ex (by kernel_rfl) (end_flat st.inn hE (.inr rfl) (a := .flt .f32 (sinV t)) (by kernel_rfl) (Grew.trans g30 (gk st)) rfl ⟨?_, rfl⟩)
  rfl
 ·
  intro vs ls H34 E34 st hE
  have f35 : (ford .f64 (some 4598175219545276416) (fop .sub .f64 t (fInt .down t)) == some .lt) = false := bf st 0
  have f36 : (ford .f64 (some 4602678819172646912) (fop .sub .f64 t (fInt .down t)) == some .lt || ford .f64 (some 4602678819172646912) (fop .sub .f64 t (fInt .down t)) == some .eq) = false := bf st 1
  obtain ⟨w37, hw37⟩ : ∃ z, z = (fop .mul .f64 (fop .sub .f64 (some 4607182418800017408) (fop .mul .f64 (fop .quo .f64 (fop .mul .f64 (fop .mul .f64 (some 4618760256179416344) (fop .sub .f64 t (fInt .down t))) (fop .mul .f64 (some 4618760256179416344) (fop .sub .f64 t (fInt .down t)))) (some 4618441417868443648)) (fop .sub .f64 (some 4607182418800017408) (fop .mul .f64 (fop .quo .f64 (fop .mul .f64 (fop .mul .f64 (some 4618760256179416344) (fop .sub .f64 t (fInt .down t))) (fop .mul .f64 (some 4618760256179416344) (fop .sub .f64 t (fInt .down t)))) (some 4626322717216342016)) (fop .sub .f64 (some 4607182418800017408) (fop .mul .f64 (fop .quo .f64 (fop .mul .f64 (fop .mul .f64 (some 4618760256179416344) (fop .sub .f64 t (fInt .down t))) (fop .mul .f64 (some 4618760256179416344) (fop .sub .f64 t (fInt .down t)))) (some 4631107791820423168)) (fop .sub .f64 (some 4607182418800017408) (fop .mul .f64 (fop .quo .f64 (fop .mul .f64 (fop .mul .f64 (some 4618760256179416344) (fop .sub .f64 t (fInt .down t))) (fop .mul .f64 (some 4618760256179416344) (fop .sub .f64 t (fInt .down t)))) (some 4634766966517661696)) (fop .sub .f64 (some 4607182418800017408) (fop .mul .f64 (fop .quo .f64 (fop .mul .f64 (fop .mul .f64 (some 4618760256179416344) (fop .sub .f64 t (fInt .down t))) (fop .mul .f64 (some 4618760256179416344) (fop .sub .f64 t (fInt .down t)))) (some 4637440978796412928)) (fop .sub .f64 (some 4607182418800017408) (fop .mul .f64 (fop .quo .f64 (fop .mul .f64 (fop .mul .f64 (some 4618760256179416344) (fop .sub .f64 t (fInt .down t))) (fop .mul .f64 (some 4618760256179416344) (fop .sub .f64 t (fInt .down t)))) (some 4639692778610098176)) (fop .sub .f64 (some 4607182418800017408) (fop .mul .f64 (fop .quo .f64 (fop .mul .f64 (fop .mul .f64 (some 4618760256179416344) (fop .sub .f64 t (fInt .down t))) (fop .mul .f64 (some 4618760256179416344) (fop .sub .f64 t (fInt .down t)))) (some 4641592734702895104)) (fop .sub .f64 (some 4607182418800017408) (fop .mul .f64 (fop .quo .f64 (fop .mul .f64 (fop .mul .f64 (some 4618760256179416344) (fop .sub .f64 t (fInt .down t))) (fop .mul .f64 (some 4618760256179416344) (fop .sub .f64 t (fInt .down t)))) (some 4643492690795692032)) (some 4607182418800017408))))))))))))))))) (fop .mul .f64 (some 4618760256179416344) (fop .sub .f64 t (fInt .down t)))) := ⟨_, rfl⟩
  have b38 : E34 49 = .flt .f64 w37 := by rw [hw37]; exact eo st hE 49 _
  have g39 : Grew H H34 := (gk st)
  have g40 : Grew H H34 := Grew.trans (Grew.refl _) g39
  clear st hE vs ls
  have h41 : w37 = sinX t := by rw [hw37]; unfold sinX fold; simp only [show ∀ a, fop .sub .f64 a (fInt .down a) = frac a from fun _ => rfl, show some 4602678819172646912 = half from rfl, show some 4598175219545276416 = quarter from rfl] at *; simp only [f35, f36, if_true, Bool.false_eq_true, if_false]; rfl
  refine res_conv (d := some 50) (c := .ff .f32) (x := .tmp 49) (r := .flt .f32 (sinV t)) (by kernel_rfl) (cv_ff b38 (by rw [h41]; exact (sinV_ok hb (by omega)).1)) ?_
  have q42 := q1.app (.cons ⟨_, rfl, hw37 ▸ fop_ok⟩ (.cons ⟨_, rfl, (sinV_ok hb (by omega)).2⟩ .nil) : KdsL [.flt .f64, KF] [.flt .f64 w37, .flt .f32 (sinV t)])
  refine run_mc (φ := φT) (pm := pmT 0 [] 1000) 20 (ws := []) (env := [(49, .nd 1 (.flt .f64)), (50, nF 2)]) q42 .nil (sepOk_ro rfl) .nil (eC q42 (.cons (put_ne rfl b38) (.cons put_same .nil))) tb_ok apT_ok ?_
  refine all1 (by kernel_rfl) ?_
  intro vs ls H43 E43 st hE
  refine res_ex (by kernel_rfl) (end_flat st.inn hE (.inr rfl) (a := .flt .f32 (sinV t)) (by kernel_rfl) (Grew.trans g40 (gk st)) rfl ⟨?_, rfl⟩)
  rfl
theorem k_math_NaN (H : AHeap) : APure Try.prog 124 [] H (.flt .f64 none) := by
 refine res_start h_math_NaN (by simp) ?_
 have q1 : KdsL [] [] := .nil
 refine run_mc (φ := φT) (pm := pmT 0 [(.call 127 [.lit (.int .u64 9221120237041090561)], .lit (.flt .f64 none))] 0) 20 (ws := []) (env := []) q1 .nil (sepOk_ro rfl) (.cons (rule_call (args := [.int .u64 9221120237041090561]) (dL q1) (dE q1) (fun H9 hk => k_frombits H9)) .nil) (eC q1 .nil) tb_ok apT_ok ?_
 refine all1 (by kernel_rfl) ?_
 intro vs ls H2 E2 st hE
 refine res_ex (by kernel_rfl) (end_flat st.inn hE (.inr rfl) (a := .flt .f64 none) (by kernel_rfl) (Grew.trans (Grew.refl _) (gk st)) rfl ⟨?_, rfl⟩)
 rfl
theorem k_impl_notANumber (H : AHeap) : APure Try.prog 114 [] H (.flt .f32 none) := by
 refine res_start h_impl_notANumber (by simp) ?_
 have q1 : KdsL [] [] := .nil
 refine run_mc (φ := φT) (pm := pmT 0 [(.call 124 [], .lit (.flt .f64 none))] 0) 20 (ws := []) (env := []) q1 .nil (sepOk_ro rfl) (.cons (rule_call (args := []) (dL q1) (dE q1) (fun H9 hk => k_math_NaN H9)) .nil) (eC q1 .nil) tb_ok apT_ok ?_
 refine all1 (by kernel_rfl) ?_
 intro vs ls H2 E2 st hE
 have b3 := eo st hE 1 (.flt .f64 none)
 have g4 : Grew H H2 := (gk st)
 have g5 : Grew H H2 := Grew.trans (Grew.refl _) g4
 clear st hE vs ls
 refine res_conv (d := some 2) (c := .ff .f32) (x := .tmp 1) (r := .flt .f32 none) (by kernel_rfl) (cv_ff b3 rfl) ?_
 have q6 := q1.app (.cons ⟨_, rfl, none_ok⟩ .nil : KdsL [KF] [.flt .f32 none])
 refine run_mc (φ := φT) (pm := pmT 0 [] 0) 20 (ws := []) (env := [(1, .lit (.flt .f64 none)), (2, nF 0)]) q6 .nil (sepOk_ro rfl) .nil (eC q6 (.cons (put_ne rfl b3) (.cons put_same .nil))) tb_ok apT_ok ?_
 refine all1 (by kernel_rfl) ?_
 intro vs ls H7 E7 st hE
 refine res_ex (by kernel_rfl) (end_flat st.inn hE (.inr rfl) (a := .flt .f32 none) (by kernel_rfl) (Grew.trans g5 (gk st)) rfl ⟨?_, rfl⟩)
 rfl
theorem k_spec_l02Sin (H : AHeap) (x : Option Nat) (hx : fOk .f32 x) : APure Try.prog 122 [.flt .f32 x] H (.flt .f32 (sinF x)) := by
 refine res_start h_spec_l02Sin (by simp) ?_
 have q1 : KdsL [KF] [.flt .f32 x] := .cons ⟨_, rfl, hx⟩ .nil
 refine run_mc (φ := φT) (pm := pmT 0 [(.call 124 [], .lit (.flt .f64 none))] 0) 20 (ws := []) (env := [(0, nF 0)]) q1 .nil (sepOk_ro rfl) (.cons (rule_call (args := []) (dL q1) (dE q1) (fun H9 hk => k_math_NaN H9)) .nil) (eC q1 (.cons (t := 0) rfl .nil)) tb_ok apT_ok ?_
 refine all2 (by kernel_rfl) ?_ ?_
 ·
  intro vs ls H2 E2 st hE
  have f3 : (ford .f32 (fop .sub .f32 x x) (some 0) == some .eq) = false := bf st 0
  have b4 := eo st hE 6 (.flt .f64 none)
  have b5 := eo st hE 0 (.flt .f32 x)
  have g6 : Grew H H2 := (gk st)
  have g7 : Grew H H2 := Grew.trans (Grew.refl _) g6
  clear st hE vs ls
  refine res_conv (d := some 7) (c := .ff .f32) (x := .tmp 6) (r := .flt .f32 none) (by kernel_rfl) (cv_ff b4 rfl) ?_
  have q8 := q1.app (.cons ⟨_, rfl, none_ok⟩ .nil : KdsL [KF] [.flt .f32 none])
  refine run_mc (φ := φT) (pm := pmT 0 [] 0) 20 (ws := []) (env := [(6, .lit (.flt .f64 none)), (0, nF 0), (7, nF 1)]) q8 .nil (sepOk_ro rfl) .nil (eC q8 (.cons (put_ne rfl b4) (.cons (put_ne rfl b5) (.cons put_same .nil)))) tb_ok apT_ok ?_
  refine all1 (by kernel_rfl) ?_
  intro vs ls H9 E9 st hE
  refine res_ex (by kernel_rfl) (end_flat st.inn hE (.inr rfl) (a := .flt .f32 none) (by kernel_rfl) (Grew.trans g7 (gk st)) rfl ⟨?_, rfl⟩)
  unfold sinF; rw [if_neg (by rw [show fin32 x = false from f3]; decide)]
 ·
  intro vs ls H10 E10 st hE
  have f11 : (ford .f32 (fop .sub .f32 x x) (some 0) == some .eq) = true := bf st 0
  obtain ⟨w12, hw12⟩ : ∃ z, z = (fop .quo .f64 (wid x) (some 4618760256179416344)) := ⟨_, rfl⟩
  have b13 : E10 10 = .flt .f64 w12 := by rw [hw12]; exact eo st hE 10 _
  have g14 : Grew H H10 := (gk st)
  have g15 : Grew H H10 := Grew.trans (Grew.refl _) g14
  clear st hE vs ls
  refine res_call (d := (some 11)) (f := 126) (args := [.tmp 10]) (by kernel_rfl) (R := fun z H' => z = .flt .f32 (sinV w12) ∧ H' = H10) ?_ ?_
  ·
   show ACalls _ _ [E10 10] _ _
   rw [b13]
   exact k_spec_l02Sine H10 w12 _ (show Bnd w12 129 from by rw [hw12]; exact turns_bnd (wid_bnd hx f11)) (by decide)
  rintro z H10 ⟨rfl, rfl⟩
  have q16 := q1.app (.cons ⟨_, rfl, hw12 ▸ fop_ok⟩ (.cons ⟨_, rfl, (sinV_ok (show Bnd w12 129 from by rw [hw12]; exact turns_bnd (wid_bnd hx f11)) (by decide)).2⟩ .nil) : KdsL [.flt .f64, KF] [.flt .f64 w12, .flt .f32 (sinV w12)])
  refine run_mc (φ := φT) (pm := pmT 0 [] 0) 20 (ws := []) (env := [(10, .nd 1 (.flt .f64)), (11, nF 2)]) q16 .nil (sepOk_ro rfl) .nil (eC q16 (.cons (put_ne rfl b13) (.cons put_same .nil))) tb_ok apT_ok ?_
  refine all1 (by kernel_rfl) ?_
  intro vs ls H17 E17 st hE
  refine res_ex (by kernel_rfl) (end_flat st.inn hE (.inr rfl) (a := .flt .f32 (sinV w12)) (by kernel_rfl) (Grew.trans g15 (gk st)) rfl ⟨?_, rfl⟩)
  unfold sinF; rw [if_pos (show fin32 x = true from f11)]
  rw [hw12]; rfl
theorem k_spec_l02Cos (H : AHeap) (x : Option Nat) (hx : fOk .f32 x) : APure Try.prog 121 [.flt .f32 x] H (.flt .f32 (cosF x)) := by
 refine res_start h_spec_l02Cos (by simp) ?_
 have q1 : KdsL [KF] [.flt .f32 x] := .cons ⟨_, rfl, hx⟩ .nil
 refine run_mc (φ := φT) (pm := pmT 0 [(.call 124 [], .lit (.flt .f64 none))] 0) 20 (ws := []) (env := [(0, nF 0)]) q1 .nil (sepOk_ro rfl) (.cons (rule_call (args := []) (dL q1) (dE q1) (fun H9 hk => k_math_NaN H9)) .nil) (eC q1 (.cons (t := 0) rfl .nil)) tb_ok apT_ok ?_
 refine all2 (by kernel_rfl) ?_ ?_
 ·
  intro vs ls H2 E2 st hE
  have f3 : (ford .f32 (fop .sub .f32 x x) (some 0) == some .eq) = false := bf st 0
  have b4 := eo st hE 6 (.flt .f64 none)
  have b5 := eo st hE 0 (.flt .f32 x)
  have g6 : Grew H H2 := (gk st)
  have g7 : Grew H H2 := Grew.trans (Grew.refl _) g6
  clear st hE vs ls
  refine res_conv (d := some 7) (c := .ff .f32) (x := .tmp 6) (r := .flt .f32 none) (by kernel_rfl) (cv_ff b4 rfl) ?_
  have q8 := q1.app (.cons ⟨_, rfl, none_ok⟩ .nil : KdsL [KF] [.flt .f32 none])
  refine run_mc (φ := φT) (pm := pmT 0 [] 0) 20 (ws := []) (env := [(6, .lit (.flt .f64 none)), (0, nF 0), (7, nF 1)]) q8 .nil (sepOk_ro rfl) .nil (eC q8 (.cons (put_ne rfl b4) (.cons (put_ne rfl b5) (.cons put_same .nil)))) tb_ok apT_ok ?_
  refine all1 (by kernel_rfl) ?_
  intro vs ls H9 E9 st hE
  refine res_ex (by kernel_rfl) (end_flat st.inn hE (.inr rfl) (a := .flt .f32 none) (by kernel_rfl) (Grew.trans g7 (gk st)) rfl ⟨?_, rfl⟩)
  unfold cosF; rw [if_neg (by rw [show fin32 x = false from f3]; decide)]
 ·
  intro vs ls H10 E10 st hE
  have f11 : (ford .f32 (fop .sub .f32 x x) (some 0) == some .eq) = true := bf st 0
  obtain ⟨w12, hw12⟩ : ∃ z, z = (fop .add .f64 (fop .quo .f64 (wid x) (some 4618760256179416344)) (some 4598175219545276416)) := ⟨_, rfl⟩
  have b13 : E10 11 = .flt .f64 w12 := by rw [hw12]; exact eo st hE 11 _
  have g14 : Grew H H10 := (gk st)
  have g15 : Grew H H10 := Grew.trans (Grew.refl _) g14
  clear st hE vs ls
  refine res_call (d := (some 12)) (f := 126) (args := [.tmp 11]) (by kernel_rfl) (R := fun z H' => z = .flt .f32 (sinV w12) ∧ H' = H10) ?_ ?_
  ·
   show ACalls _ _ [E10 11] _ _
   rw [b13]
   exact k_spec_l02Sine H10 w12 _ (show Bnd w12 130 from by rw [hw12]; exact turns4_bnd (wid_bnd hx f11)) (by decide)
  rintro z H10 ⟨rfl, rfl⟩
  have q16 := q1.app (.cons ⟨_, rfl, hw12 ▸ fop_ok⟩ (.cons ⟨_, rfl, (sinV_ok (show Bnd w12 130 from by rw [hw12]; exact turns4_bnd (wid_bnd hx f11)) (by decide)).2⟩ .nil) : KdsL [.flt .f64, KF] [.flt .f64 w12, .flt .f32 (sinV w12)])
  refine run_mc (φ := φT) (pm := pmT 0 [] 0) 20 (ws := []) (env := [(11, .nd 1 (.flt .f64)), (12, nF 2)]) q16 .nil (sepOk_ro rfl) .nil (eC q16 (.cons (put_ne rfl b13) (.cons put_same .nil))) tb_ok apT_ok ?_
  refine all1 (by kernel_rfl) ?_
  intro vs ls H17 E17 st hE
  refine res_ex (by kernel_rfl) (end_flat st.inn hE (.inr rfl) (a := .flt .f32 (sinV w12)) (by kernel_rfl) (Grew.trans g15 (gk st)) rfl ⟨?_, rfl⟩)
  unfold cosF; rw [if_pos (show fin32 x = true from f11)]
  rw [hw12]; rfl
theorem k_impl_SineOf (H : AHeap) (x : Option Nat) (hx : fOk .f32 x) : APure Try.prog 92 [.flt .f32 x] H (.flt .f32 (sinF x)) := by
 refine res_start h_impl_SineOf (by simp) ?_
 have q1 : KdsL [KF] [.flt .f32 x] := .cons ⟨_, rfl, hx⟩ .nil
 refine run_mc (φ := φT) (pm := pmT 0 [(.call 114 [], .lit (.flt .f32 none))] 0) 20 (ws := []) (env := [(0, nF 0)]) q1 .nil (sepOk_ro rfl) (.cons (rule_call (args := []) (dL q1) (dE q1) (fun H9 hk => k_impl_notANumber H9)) .nil) (eC q1 (.cons (t := 0) rfl .nil)) tb_ok apT_ok ?_
 refine all2 (by kernel_rfl) ?_ ?_
 ·
  intro vs ls H2 E2 st hE
  have f3 : (ford .f32 (fop .sub .f32 x x) (some 0) == some .eq) = false := bf st 0
  refine res_ex (by kernel_rfl) (end_flat st.inn hE (.inr rfl) (a := .flt .f32 none) (by kernel_rfl) (Grew.trans (Grew.refl _) (gk st)) rfl ⟨?_, rfl⟩)
  unfold sinF; rw [if_neg (by rw [show fin32 x = false from f3]; decide)]
 ·
  intro vs ls H4 E4 st hE
  have f5 : (ford .f32 (fop .sub .f32 x x) (some 0) == some .eq) = true := bf st 0
  obtain ⟨w6, hw6⟩ : ∃ z, z = (fop .quo .f64 (wid x) (some 4618760256179416344)) := ⟨_, rfl⟩
  have b7 : E4 9 = .flt .f64 w6 := by rw [hw6]; exact eo st hE 9 _
  have g8 : Grew H H4 := (gk st)
  have g9 : Grew H H4 := Grew.trans (Grew.refl _) g8
  clear st hE vs ls
  refine res_call (d := (some 10)) (f := 115) (args := [.tmp 9]) (by kernel_rfl) (R := fun z H' => z = .flt .f32 (sinV w6) ∧ H' = H4) ?_ ?_
  ·
   show ACalls _ _ [E4 9] _ _
   rw [b7]
   exact k_impl_sineOfTurns H4 w6 _ (show Bnd w6 129 from by rw [hw6]; exact turns_bnd (wid_bnd hx f5)) (by decide)
  rintro z H4 ⟨rfl, rfl⟩
  have q10 := q1.app (.cons ⟨_, rfl, hw6 ▸ fop_ok⟩ (.cons ⟨_, rfl, (sinV_ok (show Bnd w6 129 from by rw [hw6]; exact turns_bnd (wid_bnd hx f5)) (by decide)).2⟩ .nil) : KdsL [.flt .f64, KF] [.flt .f64 w6, .flt .f32 (sinV w6)])
  refine run_mc (φ := φT) (pm := pmT 0 [] 0) 20 (ws := []) (env := [(9, .nd 1 (.flt .f64)), (10, nF 2)]) q10 .nil (sepOk_ro rfl) .nil (eC q10 (.cons (put_ne rfl b7) (.cons put_same .nil))) tb_ok apT_ok ?_
  refine all1 (by kernel_rfl) ?_
  intro vs ls H11 E11 st hE
  refine res_ex (by kernel_rfl) (end_flat st.inn hE (.inr rfl) (a := .flt .f32 (sinV w6)) (by kernel_rfl) (Grew.trans g9 (gk st)) rfl ⟨?_, rfl⟩)
  unfold sinF; rw [if_pos (show fin32 x = true from f5)]
  rw [hw6]; rfl
theorem k_impl_CosineOf (H : AHeap) (x : Option Nat) (hx : fOk .f32 x) : APure Try.prog 91 [.flt .f32 x] H (.flt .f32 (cosF x)) := by
 refine res_start h_impl_CosineOf (by simp) ?_
 have q1 : KdsL [KF] [.flt .f32 x] := .cons ⟨_, rfl, hx⟩ .nil
 refine run_mc (φ := φT) (pm := pmT 0 [(.call 114 [], .lit (.flt .f32 none))] 0) 20 (ws := []) (env := [(0, nF 0)]) q1 .nil (sepOk_ro rfl) (.cons (rule_call (args := []) (dL q1) (dE q1) (fun H9 hk => k_impl_notANumber H9)) .nil) (eC q1 (.cons (t := 0) rfl .nil)) tb_ok apT_ok ?_
 refine all2 (by kernel_rfl) ?_ ?_
 ·
  intro vs ls H2 E2 st hE
  have f3 : (ford .f32 (fop .sub .f32 x x) (some 0) == some .eq) = false := bf st 0
  refine res_ex (by kernel_rfl) (end_flat st.inn hE (.inr rfl) (a := .flt .f32 none) (by kernel_rfl) (Grew.trans (Grew.refl _) (gk st)) rfl ⟨?_, rfl⟩)
  unfold cosF; rw [if_neg (by rw [show fin32 x = false from f3]; decide)]
 ·
  intro vs ls H4 E4 st hE
  have f5 : (ford .f32 (fop .sub .f32 x x) (some 0) == some .eq) = true := bf st 0
  obtain ⟨w6, hw6⟩ : ∃ z, z = (fop .add .f64 (fop .quo .f64 (wid x) (some 4618760256179416344)) (some 4598175219545276416)) := ⟨_, rfl⟩
  have b7 : E4 10 = .flt .f64 w6 := by rw [hw6]; exact eo st hE 10 _
  have g8 : Grew H H4 := (gk st)
  have g9 : Grew H H4 := Grew.trans (Grew.refl _) g8
  clear st hE vs ls
  refine res_call (d := (some 11)) (f := 115) (args := [.tmp 10]) (by kernel_rfl) (R := fun z H' => z = .flt .f32 (sinV w6) ∧ H' = H4) ?_ ?_
  ·
   show ACalls _ _ [E4 10] _ _
   rw [b7]
   exact k_impl_sineOfTurns H4 w6 _ (show Bnd w6 130 from by rw [hw6]; exact turns4_bnd (wid_bnd hx f5)) (by decide)
  rintro z H4 ⟨rfl, rfl⟩
  have q10 := q1.app (.cons ⟨_, rfl, hw6 ▸ fop_ok⟩ (.cons ⟨_, rfl, (sinV_ok (show Bnd w6 130 from by rw [hw6]; exact turns4_bnd (wid_bnd hx f5)) (by decide)).2⟩ .nil) : KdsL [.flt .f64, KF] [.flt .f64 w6, .flt .f32 (sinV w6)])
  refine run_mc (φ := φT) (pm := pmT 0 [] 0) 20 (ws := []) (env := [(10, .nd 1 (.flt .f64)), (11, nF 2)]) q10 .nil (sepOk_ro rfl) .nil (eC q10 (.cons (put_ne rfl b7) (.cons put_same .nil))) tb_ok apT_ok ?_
  refine all1 (by kernel_rfl) ?_
  intro vs ls H11 E11 st hE
  refine res_ex (by kernel_rfl) (end_flat st.inn hE (.inr rfl) (a := .flt .f32 (sinV w6)) (by kernel_rfl) (Grew.trans g9 (gk st)) rfl ⟨?_, rfl⟩)
  unfold cosF; rw [if_pos (show fin32 x = true from f5)]
  rw [hw6]; rfl
theorem k_spec_l02Wrap (H : AHeap) (x : Option Nat) (hx : fOk .f32 x) : APure Try.prog 123 [.flt .f32 x] H (.flt .f32 (wrapF x)) := by
 refine res_start h_spec_l02Wrap (by simp) ?_
 have q1 : KdsL [KF] [.flt .f32 x] := .cons ⟨_, rfl, hx⟩ .nil
 refine run_mc (φ := φT) (pm := pmT 0 [(.call 124 [], .lit (.flt .f64 none))] 0) 20 (ws := []) (env := [(0, nF 0)]) q1 .nil (sepOk_ro rfl) (.cons (rule_call (args := []) (dL q1) (dE q1) (fun H9 hk => k_math_NaN H9)) .nil) (eC q1 (.cons (t := 0) rfl .nil)) tb_ok apT_ok ?_
 refine all2 (by kernel_rfl) ?_ ?_
 ·
  intro vs ls H2 E2 st hE
  have f3 : (ford .f32 (fop .sub .f32 x x) (some 0) == some .eq) = false := bf st 0
  have b4 := eo st hE 8 (.flt .f64 none)
  have b5 := eo st hE 0 (.flt .f32 x)
  have g6 : Grew H H2 := (gk st)
  have g7 : Grew H H2 := Grew.trans (Grew.refl _) g6
  clear st hE vs ls
  refine res_conv (d := some 9) (c := .ff .f32) (x := .tmp 8) (r := .flt .f32 none) (by kernel_rfl) (cv_ff b4 rfl) ?_
  have q8 := q1.app (.cons ⟨_, rfl, none_ok⟩ .nil : KdsL [KF] [.flt .f32 none])
  refine run_mc (φ := φT) (pm := pmT 0 [] 0) 20 (ws := []) (env := [(8, .lit (.flt .f64 none)), (0, nF 0), (9, nF 1)]) q8 .nil (sepOk_ro rfl) .nil (eC q8 (.cons (put_ne rfl b4) (.cons (put_ne rfl b5) (.cons put_same .nil)))) tb_ok apT_ok ?_
  refine all1 (by kernel_rfl) ?_
  intro vs ls H9 E9 st hE
  refine res_ex (by kernel_rfl) (end_flat st.inn hE (.inr rfl) (a := .flt .f32 none) (by kernel_rfl) (Grew.trans g7 (gk st)) rfl ⟨?_, rfl⟩)
  unfold wrapF; rw [if_neg (by rw [show fin32 x = false from f3]; decide)]
 ·
  intro vs ls H10 E10 st hE
  have f11 : (ford .f32 (fop .sub .f32 x x) (some 0) == some .eq) = true := bf st 0
  obtain ⟨w12, hw12⟩ : ∃ z, z = (fop .sub .f64 (wid x) (fop .mul .f64 (some 4618760256179416344) (fInt .even (fop .quo .f64 (wid x) (some 4618760256179416344))))) := ⟨_, rfl⟩
  have b13 : E10 18 = .flt .f64 w12 := by rw [hw12]; exact eo st hE 18 _
  have g14 : Grew H H10 := (gk st)
  have g15 : Grew H H10 := Grew.trans (Grew.refl _) g14
  clear st hE vs ls
  refine res_conv (d := some 19) (c := .ff .f32) (x := .tmp 18) (r := .flt .f32 (nar (wrapD (wid x)))) (by kernel_rfl) (cv_ff b13 (by rw [hw12]; exact ((wrapD_bnd (wid_bnd hx f11)).nar (by decide)).1)) ?_
  have q16 := q1.app (.cons ⟨_, rfl, hw12 ▸ fop_ok⟩ (.cons ⟨_, rfl, ((wrapD_bnd (wid_bnd hx f11)).nar (by decide)).2⟩ .nil) : KdsL [.flt .f64, KF] [.flt .f64 w12, .flt .f32 (nar (wrapD (wid x)))])
  refine run_mc (φ := φT) (pm := pmT 0 [] 0) 20 (ws := []) (env := [(18, .nd 1 (.flt .f64)), (19, nF 2)]) q16 .nil (sepOk_ro rfl) .nil (eC q16 (.cons (put_ne rfl b13) (.cons put_same .nil))) tb_ok apT_ok ?_
  refine all3 (by kernel_rfl) ?_ ?_ ?_
  ·
   intro vs ls H17 E17 st hE
   have f18 : (ford .f32 (some 1078530011) (nar (wrapD (wid x))) == some .lt) = true := bf st 0
   refine res_ex (by kernel_rfl) (end_flat st.inn hE (.inr rfl) (a := .flt .f32 (some 1078530011)) (by kernel_rfl) (Grew.trans g15 (gk st)) rfl ⟨?_, rfl⟩)
   unfold wrapF; rw [if_pos (show fin32 x = true from f11)]
   unfold wrapV clampV; simp only [show some 1078530011 = pi32 from rfl, show some 3226013659 = npi32 from rfl] at *; simp only [f18, if_true, Bool.false_eq_true, if_false]
  ·
   intro vs ls H19 E19 st hE
   have f20 : (ford .f32 (nar (wrapD (wid x))) (some 3226013659) == some .lt) = true := bf st 0
   have f21 : (ford .f32 (some 1078530011) (nar (wrapD (wid x))) == some .lt) = false := bf st 1
   refine res_ex (by kernel_rfl) (end_flat st.inn hE (.inr rfl) (a := .flt .f32 (some 3226013659)) (by kernel_rfl) (Grew.trans g15 (gk st)) rfl ⟨?_, rfl⟩)
   unfold wrapF; rw [if_pos (show fin32 x = true from f11)]
   unfold wrapV clampV; simp only [show some 1078530011 = pi32 from rfl, show some 3226013659 = npi32 from rfl] at *; simp only [f20, f21, if_true, Bool.false_eq_true, if_false]
  ·
   intro vs ls H22 E22 st hE
   have f23 : (ford .f32 (nar (wrapD (wid x))) (some 3226013659) == some .lt) = false := bf st 0
   have f24 : (ford .f32 (some 1078530011) (nar (wrapD (wid x))) == some .lt) = false := bf st 1
   refine res_ex (by kernel_rfl) (end_flat st.inn hE (.inr rfl) (a := .flt .f32 (nar (wrapD (wid x)))) (by kernel_rfl) (Grew.trans g15 (gk st)) rfl ⟨?_, rfl⟩)
   unfold wrapF; rw [if_pos (show fin32 x = true from f11)]
   unfold wrapV clampV; simp only [show some 1078530011 = pi32 from rfl, show some 3226013659 = npi32 from rfl] at *; simp only [f23, f24, if_true, Bool.false_eq_true, if_false]
theorem k_impl_WrapAngle (H : AHeap) (x : Option Nat) (hx : fOk .f32 x) : APure Try.prog 93 [.flt .f32 x] H (.flt .f32 (wrapF x)) := by
 refine res_start h_impl_WrapAngle (by simp) ?_
 have q1 : KdsL [KF] [.flt .f32 x] := .cons ⟨_, rfl, hx⟩ .nil
 refine run_mc (φ := φT) (pm := pmT 0 [(.call 114 [], .lit (.flt .f32 none))] 0) 20 (ws := []) (env := [(0, nF 0)]) q1 .nil (sepOk_ro rfl) (.cons (rule_call (args := []) (dL q1) (dE q1) (fun H9 hk => k_impl_notANumber H9)) .nil) (eC q1 (.cons (t := 0) rfl .nil)) tb_ok apT_ok ?_
 refine all3 (by kernel_rfl) ?_ ?_ ?_
 ·
  intro vs ls H2 E2 st hE
  have f3 : (ford .f32 (fop .sub .f32 x x) (some 0) == some .eq) = false := bf st 0
  refine res_ex (by kernel_rfl) (end_flat st.inn hE (.inr rfl) (a := .flt .f32 none) (by kernel_rfl) (Grew.trans (Grew.refl _) (gk st)) rfl ⟨?_, rfl⟩)
  unfold wrapF; rw [if_neg (by rw [show fin32 x = false from f3]; decide)]
 ·
  intro vs ls H4 E4 st hE
  have f5 : (ford .f64 (fop .sub .f64 (wid x) (fop .mul .f64 (some 4618760256179416344) (fInt .even (fop .quo .f64 (wid x) (some 4618760256179416344))))) (some 0) == some .eq) = true := bf st 0
  have f6 : (ford .f32 (fop .sub .f32 x x) (some 0) == some .eq) = true := bf st 1
  have b7 := eo st hE 20 (.flt .f64 (some 0))
  have g8 : Grew H H4 := (gk st)
  have g9 : Grew H H4 := Grew.trans (Grew.refl _) g8
  clear st hE vs ls
  refine res_conv (d := some 21) (c := .ff .f32) (x := .tmp 20) (r := .flt .f32 (nar (wrapD (wid x)))) (by kernel_rfl) (cv_ff b7 (by rw [show some 0 = wrapD (wid x) from (wrapD_zero (wid_bnd hx f6) f5).symm]; exact ((wrapD_bnd (wid_bnd hx f6)).nar (by decide)).1)) ?_
  have q10 := q1.app (.cons ⟨_, rfl, ((wrapD_bnd (wid_bnd hx f6)).nar (by decide)).2⟩ .nil : KdsL [KF] [.flt .f32 (nar (wrapD (wid x)))])
  refine run_mc (φ := φT) (pm := pmT 0 [] 0) 20 (ws := []) (env := [(20, .lit (.flt .f64 (some 0))), (21, nF 1)]) q10 .nil (sepOk_ro rfl) .nil (eC q10 (.cons (put_ne rfl b7) (.cons put_same .nil))) tb_ok apT_ok ?_
  refine all1 (by kernel_rfl) ?_
  intro vs ls H11 E11 st hE
  refine res_ex (by kernel_rfl) (end_flat st.inn hE (.inr rfl) (a := .flt .f32 (minF .f32 (some 1078530011) (maxF .f32 (some 3226013659) (nar (wrapD (wid x)))))) (by kernel_rfl) (Grew.trans g9 (gk st)) rfl ⟨?_, rfl⟩)
  unfold wrapF; rw [if_pos (show fin32 x = true from f6)]
  exact congrArg (AV.flt .f32) (clamp_mm ((wrapD_bnd (wid_bnd hx f6)).nar (by decide)).2 (nar_some (wrapD_bnd (wid_bnd hx f6)) (by decide)))
 ·
  intro vs ls H12 E12 st hE
  have f13 : (ford .f64 (fop .sub .f64 (wid x) (fop .mul .f64 (some 4618760256179416344) (fInt .even (fop .quo .f64 (wid x) (some 4618760256179416344))))) (some 0) == some .eq) = false := bf st 0
  have f14 : (ford .f32 (fop .sub .f32 x x) (some 0) == some .eq) = true := bf st 1
  obtain ⟨w15, hw15⟩ : ∃ z, z = (fop .sub .f64 (wid x) (fop .mul .f64 (some 4618760256179416344) (fInt .even (fop .quo .f64 (wid x) (some 4618760256179416344))))) := ⟨_, rfl⟩
  have b16 : E12 20 = .flt .f64 w15 := by rw [hw15]; exact eo st hE 20 _
  have g17 : Grew H H12 := (gk st)
  have g18 : Grew H H12 := Grew.trans (Grew.refl _) g17
  clear st hE vs ls
  refine res_conv (d := some 21) (c := .ff .f32) (x := .tmp 20) (r := .flt .f32 (nar (wrapD (wid x)))) (by kernel_rfl) (cv_ff b16 (by rw [hw15]; exact ((wrapD_bnd (wid_bnd hx f14)).nar (by decide)).1)) ?_
  have q19 := q1.app (.cons ⟨_, rfl, hw15 ▸ fop_ok⟩ (.cons ⟨_, rfl, ((wrapD_bnd (wid_bnd hx f14)).nar (by decide)).2⟩ .nil) : KdsL [.flt .f64, KF] [.flt .f64 w15, .flt .f32 (nar (wrapD (wid x)))])
  refine run_mc (φ := φT) (pm := pmT 0 [] 0) 20 (ws := []) (env := [(20, .nd 1 (.flt .f64)), (21, nF 2)]) q19 .nil (sepOk_ro rfl) .nil (eC q19 (.cons (put_ne rfl b16) (.cons put_same .nil))) tb_ok apT_ok ?_
  refine all1 (by kernel_rfl) ?_
  intro vs ls H20 E20 st hE
  refine res_ex (by kernel_rfl) (end_flat st.inn hE (.inr rfl) (a := .flt .f32 (minF .f32 (some 1078530011) (maxF .f32 (some 3226013659) (nar (wrapD (wid x)))))) (by kernel_rfl) (Grew.trans g18 (gk st)) rfl ⟨?_, rfl⟩)
  unfold wrapF; rw [if_pos (show fin32 x = true from f14)]
  exact congrArg (AV.flt .f32) (clamp_mm ((wrapD_bnd (wid_bnd hx f14)).nar (by decide)).2 (nar_some (wrapD_bnd (wid_bnd hx f14)) (by decide)))
end Go.Proofs.Ytcmoeocemmeofaa
