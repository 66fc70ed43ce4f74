/- Contracts: SpotsBetween, by both. -/
import Derived.Test.YtnleibiniajbnaaTSpotB
set_option linter.unusedVariables false
set_option linter.unusedSimpArgs false
namespace Go.Proofs.Ytnleibiniajbnaa
open Go.Ab
set_option maxRecDepth 100000
set_option maxHeartbeats 1000000
attribute [local irreducible] Res
def okSp (a0 a1 b0 b1 : Int) : Bool := decide ((0 ≤ a0 ∧ a0 ≤ 23) ∧ (0 ≤ a1 ∧ a1 ≤ 23) ∧ (0 ≤ b0 ∧ b0 ≤ 23) ∧ (0 ≤ b1 ∧ b1 ≤ 23))
def spotsV (a0 a1 b0 b1 : Int) : List (List AV) × Int := if okSp a0 a1 b0 b1 = true then (lineT a0 a1 b0 b1 ((nX a0 a1 b0 b1).toNat + 1), 0) else ([], 2)
theorem spotsV_ok {a0 a1 b0 b1 : Int} {L : List (List AV)} {c : Int} (h : spotsV a0 a1 b0 b1 = (L, c)) : Recs KS L ∧ L.length ≤ 1048576 := by
 unfold spotsV at h
 split at h
 ·
  rename_i hk
  obtain ⟨h1, h2, h3, h4⟩ := of_decide_eq_true hk
  have hn := nX_bd h1 h2 h3 h4
  cases h
  exact ⟨lineT_recs _ _ _ _ _, by rw [lineT_len]; omega⟩
 ·
  cases h; exact ⟨.nil, by decide⟩
theorem k_impl_SpotsBetween (H : AHeap) (a0 a1 b0 b1 : Int) (r0 : -32768 ≤ a0 ∧ a0 ≤ 32767) (r1 : -32768 ≤ a1 ∧ a1 ≤ 32767) (r2 : -32768 ≤ b0 ∧ b0 ≤ 32767) (r3 : -32768 ≤ b1 ∧ b1 ≤ 32767) : ACalls Try.prog 26 [.agg [.int .i16 a0, .int .i16 a1], .agg [.int .i16 b0, .int .i16 b1]] H fun r H' => Grew H H' ∧ ∃ S', r = .tuple [S', .int .i64 (spotsV a0 a1 b0 b1).2] ∧ SlW H' 2 (spotsV a0 a1 b0 b1).1 S' ∧ FreshS H.next S' := by
 refine res_start h_impl_SpotsBetween (by simp) ?_
 have ea0 : IntKind.i64.wrap a0 = a0 := wrap_i64 (by omega) (by omega)
 have ea1 : IntKind.i64.wrap a1 = a1 := wrap_i64 (by omega) (by omega)
 have eb0 : IntKind.i64.wrap b0 = b0 := wrap_i64 (by omega) (by omega)
 have eb1 : IntKind.i64.wrap b1 = b1 := wrap_i64 (by omega) (by omega)
 have q1 : KdsL [.int .i16, .int .i16, .int .i16, .int .i16] [.int .i16 a0, .int .i16 a1, .int .i16 b0, .int .i16 b1] := .cons ⟨_, rfl⟩ (.cons ⟨_, rfl⟩ (.cons ⟨_, rfl⟩ (.cons ⟨_, rfl⟩ .nil)))
 refine run_mc (φ := φ0) (pm := pmR 0 [] 8) 20 (ws := []) (env := [(0, .agg [.nd 0 (.int .i16), .nd 1 (.int .i16)]), (1, .agg [.nd 2 (.int .i16), .nd 3 (.int .i16)])]) q1 .nil (sepOk_ro rfl) .nil (eC q1 (.cons (t := 0) rfl (.cons (t := 1) rfl .nil))) tb_ok ap_ok ?_
 refine all9 (by kernel_rfl) ?_ ?_ ?_ ?_ ?_ ?_ ?_ ?_ ?_
 ·
  intro vs ls H2 E2 st hE
  have f3 : 23 < (IntKind.wrap .i64 a0) := dt st 0
  simp only [ea0, ea1, eb0, eb1] at f3
  have f4 : ¬ ((IntKind.wrap .i64 a0) < 0) := df st 1
  simp only [ea0, ea1, eb0, eb1] at f4
  have gz : Grew H H2 := (Grew.trans (Grew.refl _) (gk st))
  have hc : spotsV a0 a1 b0 b1 = ([], 2) := by
   unfold spotsV; rw [if_neg (show ¬ okSp a0 a1 b0 b1 = true from fun h => by have := of_decide_eq_true h; omega)]
  exact res_ex (by kernel_rfl) (end_same st.inn hE (.inr rfl) (a := .tuple [.nilslice, .int .i64 2]) (by kernel_rfl) gz.next (by rw [hc]; exact ⟨gz, _, rfl, (.nil rfl), FreshS.nil⟩))
 ·
  intro vs ls H5 E5 st hE
  have f6 : 23 < (IntKind.wrap .i64 a1) := dt st 0
  simp only [ea0, ea1, eb0, eb1] at f6
  have f7 : ¬ ((IntKind.wrap .i64 a1) < 0) := df st 1
  simp only [ea0, ea1, eb0, eb1] at f7
  have f8 : ¬ (23 < (IntKind.wrap .i64 a0)) := df st 2
  simp only [ea0, ea1, eb0, eb1] at f8
  have f9 : ¬ ((IntKind.wrap .i64 a0) < 0) := df st 3
  simp only [ea0, ea1, eb0, eb1] at f9
  have gz : Grew H H5 := (Grew.trans (Grew.refl _) (gk st))
  have hc : spotsV a0 a1 b0 b1 = ([], 2) := by
   unfold spotsV; rw [if_neg (show ¬ okSp a0 a1 b0 b1 = true from fun h => by have := of_decide_eq_true h; omega)]
  exact res_ex (by kernel_rfl) (end_same st.inn hE (.inr rfl) (a := .tuple [.nilslice, .int .i64 2]) (by kernel_rfl) gz.next (by rw [hc]; exact ⟨gz, _, rfl, (.nil rfl), FreshS.nil⟩))
 ·
  intro vs ls H10 E10 st hE
  have f11 : 23 < (IntKind.wrap .i64 b0) := dt st 0
  simp only [ea0, ea1, eb0, eb1] at f11
  have f12 : ¬ ((IntKind.wrap .i64 b0) < 0) := df st 1
  simp only [ea0, ea1, eb0, eb1] at f12
  have f13 : ¬ (23 < (IntKind.wrap .i64 a1)) := df st 2
  simp only [ea0, ea1, eb0, eb1] at f13
  have f14 : ¬ ((IntKind.wrap .i64 a1) < 0) := df st 3
  simp only [ea0, ea1, eb0, eb1] at f14
  have f15 : ¬ (23 < (IntKind.wrap .i64 a0)) := df st 4
  simp only [ea0, ea1, eb0, eb1] at f15
  have f16 : ¬ ((IntKind.wrap .i64 a0) < 0) := df st 5
  simp only [ea0, ea1, eb0, eb1] at f16
  have gz : Grew H H10 := (Grew.trans (Grew.refl _) (gk st))
  have hc : spotsV a0 a1 b0 b1 = ([], 2) := by
   unfold spotsV; rw [if_neg (show ¬ okSp a0 a1 b0 b1 = true from fun h => by have := of_decide_eq_true h; omega)]
  exact res_ex (by kernel_rfl) (end_same st.inn hE (.inr rfl) (a := .tuple [.nilslice, .int .i64 2]) (by kernel_rfl) gz.next (by rw [hc]; exact ⟨gz, _, rfl, (.nil rfl), FreshS.nil⟩))
 ·
  intro vs ls H17 E17 st hE
  have f18 : 23 < (IntKind.wrap .i64 b1) := dt st 0
  simp only [ea0, ea1, eb0, eb1] at f18
  have f19 : ¬ ((IntKind.wrap .i64 b1) < 0) := df st 1
  simp only [ea0, ea1, eb0, eb1] at f19
  have f20 : ¬ (23 < (IntKind.wrap .i64 b0)) := df st 2
  simp only [ea0, ea1, eb0, eb1] at f20
  have f21 : ¬ ((IntKind.wrap .i64 b0) < 0) := df st 3
  simp only [ea0, ea1, eb0, eb1] at f21
  have f22 : ¬ (23 < (IntKind.wrap .i64 a1)) := df st 4
  simp only [ea0, ea1, eb0, eb1] at f22
  have f23 : ¬ ((IntKind.wrap .i64 a1) < 0) := df st 5
  simp only [ea0, ea1, eb0, eb1] at f23
  have f24 : ¬ (23 < (IntKind.wrap .i64 a0)) := df st 6
  simp only [ea0, ea1, eb0, eb1] at f24
  have f25 : ¬ ((IntKind.wrap .i64 a0) < 0) := df st 7
  simp only [ea0, ea1, eb0, eb1] at f25
  have gz : Grew H H17 := (Grew.trans (Grew.refl _) (gk st))
  have hc : spotsV a0 a1 b0 b1 = ([], 2) := by
   unfold spotsV; rw [if_neg (show ¬ okSp a0 a1 b0 b1 = true from fun h => by have := of_decide_eq_true h; omega)]
  exact res_ex (by kernel_rfl) (end_same st.inn hE (.inr rfl) (a := .tuple [.nilslice, .int .i64 2]) (by kernel_rfl) gz.next (by rw [hc]; exact ⟨gz, _, rfl, (.nil rfl), FreshS.nil⟩))
 ·
  intro vs ls H26 E26 st hE
  have f27 : ¬ (23 < (IntKind.wrap .i64 b1)) := df st 0
  simp only [ea0, ea1, eb0, eb1] at f27
  have f28 : ¬ ((IntKind.wrap .i64 b1) < 0) := df st 1
  simp only [ea0, ea1, eb0, eb1] at f28
  have f29 : ¬ (23 < (IntKind.wrap .i64 b0)) := df st 2
  simp only [ea0, ea1, eb0, eb1] at f29
  have f30 : ¬ ((IntKind.wrap .i64 b0) < 0) := df st 3
  simp only [ea0, ea1, eb0, eb1] at f30
  have f31 : ¬ (23 < (IntKind.wrap .i64 a1)) := df st 4
  simp only [ea0, ea1, eb0, eb1] at f31
  have f32 : ¬ ((IntKind.wrap .i64 a1) < 0) := df st 5
  simp only [ea0, ea1, eb0, eb1] at f32
  have f33 : ¬ (23 < (IntKind.wrap .i64 a0)) := df st 6
  simp only [ea0, ea1, eb0, eb1] at f33
  have f34 : ¬ ((IntKind.wrap .i64 a0) < 0) := df st 7
  simp only [ea0, ea1, eb0, eb1] at f34
  have b35 := eo st hE 27 (.agg [.int .i16 a0, .int .i16 a1])
  have b36 := eo st hE 28 (.agg [.int .i16 b0, .int .i16 b1])
  have g37 : Grew H H26 := (gk st)
  have g38 : Grew H H26 := Grew.trans (Grew.refl _) g37
  clear st hE vs ls
  refine res_call (d := (some 29)) (f := 74) (args := [.tmp 27, .tmp 28]) (by kernel_rfl) (R := fun z H' => Grew H26 H' ∧ SlW H' 2 (lineT a0 a1 b0 b1 ((nX a0 a1 b0 b1).toNat + 1)) z ∧ FreshS H26.next z) ?_ ?_
  ·
   show ACalls _ _ [E26 27, E26 28] _ _
   rw [b35, b36]
   exact k_spotsBetween H26 a0 a1 b0 b1 (by omega) (by omega) (by omega) (by omega)
  rintro S40 H39 ⟨gH39, sS40, fS40⟩
  have fr41 : FreshS H.next (S40) := fS40.mono g38.next
  have g42 : Grew H H39 := Grew.trans g38 gH39
  have q43 := q1.app (.cons sS40.one .nil : KdsL [.one] [S40])
  refine run_mc (φ := φ0) (pm := pmR 0 [] 8) 20 (ws := []) (env := [(27, .agg [.nd 0 (.int .i16), .nd 1 (.int .i16)]), (28, .agg [.nd 2 (.int .i16), .nd 3 (.int .i16)]), (29, n1 4)]) q43 .nil (sepOk_ro rfl) .nil (eC q43 (.cons (put_ne rfl b35) (.cons (put_ne rfl b36) (.cons put_same .nil)))) tb_ok ap_ok ?_
  refine all1 (by kernel_rfl) ?_
  intro vs ls H44 E44 st hE
  have gz : Grew H H44 := (Grew.trans g42 (gk st))
  have hc : spotsV a0 a1 b0 b1 = (lineT a0 a1 b0 b1 ((nX a0 a1 b0 b1).toNat + 1), 0) := by
   unfold spotsV; rw [if_pos (show okSp a0 a1 b0 b1 = true from decide_eq_true (by omega))]
  exact res_ex (by kernel_rfl) (end_same st.inn hE (.inr rfl) (a := .tuple [S40, .int .i64 0]) (by kernel_rfl) gz.next (by rw [hc]; exact ⟨gz, _, rfl, (sS40.grew (st.inn.kept.grew (Nat.le_refl _))), fr41⟩))
 ·
  intro vs ls H45 E45 st hE
  have f46 : (IntKind.wrap .i64 b1) < 0 := dt st 0
  simp only [ea0, ea1, eb0, eb1] at f46
  have f47 : ¬ (23 < (IntKind.wrap .i64 b0)) := df st 1
  simp only [ea0, ea1, eb0, eb1] at f47
  have f48 : ¬ ((IntKind.wrap .i64 b0) < 0) := df st 2
  simp only [ea0, ea1, eb0, eb1] at f48
  have f49 : ¬ (23 < (IntKind.wrap .i64 a1)) := df st 3
  simp only [ea0, ea1, eb0, eb1] at f49
  have f50 : ¬ ((IntKind.wrap .i64 a1) < 0) := df st 4
  simp only [ea0, ea1, eb0, eb1] at f50
  have f51 : ¬ (23 < (IntKind.wrap .i64 a0)) := df st 5
  simp only [ea0, ea1, eb0, eb1] at f51
  have f52 : ¬ ((IntKind.wrap .i64 a0) < 0) := df st 6
  simp only [ea0, ea1, eb0, eb1] at f52
  have gz : Grew H H45 := (Grew.trans (Grew.refl _) (gk st))
  have hc : spotsV a0 a1 b0 b1 = ([], 2) := by
   unfold spotsV; rw [if_neg (show ¬ okSp a0 a1 b0 b1 = true from fun h => by have := of_decide_eq_true h; omega)]
  exact res_ex (by kernel_rfl) (end_same st.inn hE (.inr rfl) (a := .tuple [.nilslice, .int .i64 2]) (by kernel_rfl) gz.next (by rw [hc]; exact ⟨gz, _, rfl, (.nil rfl), FreshS.nil⟩))
 ·
  intro vs ls H53 E53 st hE
  have f54 : (IntKind.wrap .i64 b0) < 0 := dt st 0
  simp only [ea0, ea1, eb0, eb1] at f54
  have f55 : ¬ (23 < (IntKind.wrap .i64 a1)) := df st 1
  simp only [ea0, ea1, eb0, eb1] at f55
  have f56 : ¬ ((IntKind.wrap .i64 a1) < 0) := df st 2
  simp only [ea0, ea1, eb0, eb1] at f56
  have f57 : ¬ (23 < (IntKind.wrap .i64 a0)) := df st 3
  simp only [ea0, ea1, eb0, eb1] at f57
  have f58 : ¬ ((IntKind.wrap .i64 a0) < 0) := df st 4
  simp only [ea0, ea1, eb0, eb1] at f58
  have gz : Grew H H53 := (Grew.trans (Grew.refl _) (gk st))
  have hc : spotsV a0 a1 b0 b1 = ([], 2) := by
   unfold spotsV; rw [if_neg (show ¬ okSp a0 a1 b0 b1 = true from fun h => by have := of_decide_eq_true h; omega)]
  exact res_ex (by kernel_rfl) (end_same st.inn hE (.inr rfl) (a := .tuple [.nilslice, .int .i64 2]) (by kernel_rfl) gz.next (by rw [hc]; exact ⟨gz, _, rfl, (.nil rfl), FreshS.nil⟩))
 ·
  intro vs ls H59 E59 st hE
  have f60 : (IntKind.wrap .i64 a1) < 0 := dt st 0
  simp only [ea0, ea1, eb0, eb1] at f60
  have f61 : ¬ (23 < (IntKind.wrap .i64 a0)) := df st 1
  simp only [ea0, ea1, eb0, eb1] at f61
  have f62 : ¬ ((IntKind.wrap .i64 a0) < 0) := df st 2
  simp only [ea0, ea1, eb0, eb1] at f62
  have gz : Grew H H59 := (Grew.trans (Grew.refl _) (gk st))
  have hc : spotsV a0 a1 b0 b1 = ([], 2) := by
   unfold spotsV; rw [if_neg (show ¬ okSp a0 a1 b0 b1 = true from fun h => by have := of_decide_eq_true h; omega)]
  exact res_ex (by kernel_rfl) (end_same st.inn hE (.inr rfl) (a := .tuple [.nilslice, .int .i64 2]) (by kernel_rfl) gz.next (by rw [hc]; exact ⟨gz, _, rfl, (.nil rfl), FreshS.nil⟩))
 ·
  intro vs ls H63 E63 st hE
  have f64 : (IntKind.wrap .i64 a0) < 0 := dt st 0
  simp only [ea0, ea1, eb0, eb1] at f64
  have gz : Grew H H63 := (Grew.trans (Grew.refl _) (gk st))
  have hc : spotsV a0 a1 b0 b1 = ([], 2) := by
   unfold spotsV; rw [if_neg (show ¬ okSp a0 a1 b0 b1 = true from fun h => by have := of_decide_eq_true h; omega)]
  exact res_ex (by kernel_rfl) (end_same st.inn hE (.inr rfl) (a := .tuple [.nilslice, .int .i64 2]) (by kernel_rfl) gz.next (by rw [hc]; exact ⟨gz, _, rfl, (.nil rfl), FreshS.nil⟩))
theorem k_spec_SpotsBetween (H : AHeap) (a0 a1 b0 b1 : Int) (r0 : -32768 ≤ a0 ∧ a0 ≤ 32767) (r1 : -32768 ≤ a1 ∧ a1 ≤ 32767) (r2 : -32768 ≤ b0 ∧ b0 ≤ 32767) (r3 : -32768 ≤ b1 ∧ b1 ≤ 32767) : ACalls Try.prog 24 [.agg [.int .i16 a0, .int .i16 a1], .agg [.int .i16 b0, .int .i16 b1]] H fun r H' => Grew H H' ∧ ∃ S', r = .tuple [S', .int .i64 (spotsV a0 a1 b0 b1).2] ∧ SlW H' 2 (spotsV a0 a1 b0 b1).1 S' ∧ FreshS H.next S' := by
 refine res_start h_spec_SpotsBetween (by simp) ?_
 have ea0 : IntKind.i64.wrap a0 = a0 := wrap_i64 (by omega) (by omega)
 have ea1 : IntKind.i64.wrap a1 = a1 := wrap_i64 (by omega) (by omega)
 have eb0 : IntKind.i64.wrap b0 = b0 := wrap_i64 (by omega) (by omega)
 have eb1 : IntKind.i64.wrap b1 = b1 := wrap_i64 (by omega) (by omega)
 have q1 : KdsL [.int .i16, .int .i16, .int .i16, .int .i16] [.int .i16 a0, .int .i16 a1, .int .i16 b0, .int .i16 b1] := .cons ⟨_, rfl⟩ (.cons ⟨_, rfl⟩ (.cons ⟨_, rfl⟩ (.cons ⟨_, rfl⟩ .nil)))
 refine run_mc (φ := φ0) (pm := pmR 0 [] 8) 20 (ws := []) (env := [(0, .agg [.nd 0 (.int .i16), .nd 1 (.int .i16)]), (1, .agg [.nd 2 (.int .i16), .nd 3 (.int .i16)])]) q1 .nil (sepOk_ro rfl) .nil (eC q1 (.cons (t := 0) rfl (.cons (t := 1) rfl .nil))) tb_ok ap_ok ?_
 refine all9 (by kernel_rfl) ?_ ?_ ?_ ?_ ?_ ?_ ?_ ?_ ?_
 ·
  intro vs ls H2 E2 st hE
  have f3 : 23 < (IntKind.wrap .i64 a0) := dt st 0
  simp only [ea0, ea1, eb0, eb1] at f3
  have f4 : ¬ ((IntKind.wrap .i64 a0) < 0) := df st 1
  simp only [ea0, ea1, eb0, eb1] at f4
  have gz : Grew H H2 := (Grew.trans (Grew.refl _) (gk st))
  have hc : spotsV a0 a1 b0 b1 = ([], 2) := by
   unfold spotsV; rw [if_neg (show ¬ okSp a0 a1 b0 b1 = true from fun h => by have := of_decide_eq_true h; omega)]
  obtain ⟨pz, ez, rz, nz⟩ := sl_of st.inn hE 4 2 0 0 2 (by kernel_rfl) (ds := []) (by kernel_rfl)
  have oz : H.next ≤ pz := Nat.le_trans (Nat.le_refl _) (nz (Nat.le_of_ble_eq_true rfl))
  have e7 : E2 5 = .int .i64 2 := env_of st.inn hE 5 (by kernel_rfl)
  exact res_ex (by kernel_rfl) (end_tmps (.inr rfl) ez e7 gz.next (by rw [hc]; exact ⟨gz, _, rfl, .sl (by simpa using rz) rfl (Nat.le_refl _), .of_le oz⟩))
 ·
  intro vs ls H5 E5 st hE
  have f6 : 23 < (IntKind.wrap .i64 b0) := dt st 0
  simp only [ea0, ea1, eb0, eb1] at f6
  have f7 : ¬ ((IntKind.wrap .i64 b0) < 0) := df st 1
  simp only [ea0, ea1, eb0, eb1] at f7
  have f8 : ¬ (23 < (IntKind.wrap .i64 a0)) := df st 2
  simp only [ea0, ea1, eb0, eb1] at f8
  have f9 : ¬ ((IntKind.wrap .i64 a0) < 0) := df st 3
  simp only [ea0, ea1, eb0, eb1] at f9
  have gz : Grew H H5 := (Grew.trans (Grew.refl _) (gk st))
  have hc : spotsV a0 a1 b0 b1 = ([], 2) := by
   unfold spotsV; rw [if_neg (show ¬ okSp a0 a1 b0 b1 = true from fun h => by have := of_decide_eq_true h; omega)]
  obtain ⟨pz, ez, rz, nz⟩ := sl_of st.inn hE 4 2 0 0 2 (by kernel_rfl) (ds := []) (by kernel_rfl)
  have oz : H.next ≤ pz := Nat.le_trans (Nat.le_refl _) (nz (Nat.le_of_ble_eq_true rfl))
  have e7 : E5 5 = .int .i64 2 := env_of st.inn hE 5 (by kernel_rfl)
  exact res_ex (by kernel_rfl) (end_tmps (.inr rfl) ez e7 gz.next (by rw [hc]; exact ⟨gz, _, rfl, .sl (by simpa using rz) rfl (Nat.le_refl _), .of_le oz⟩))
 ·
  intro vs ls H10 E10 st hE
  have f11 : 23 < (IntKind.wrap .i64 a1) := dt st 0
  simp only [ea0, ea1, eb0, eb1] at f11
  have f12 : ¬ ((IntKind.wrap .i64 a1) < 0) := df st 1
  simp only [ea0, ea1, eb0, eb1] at f12
  have f13 : ¬ (23 < (IntKind.wrap .i64 b0)) := df st 2
  simp only [ea0, ea1, eb0, eb1] at f13
  have f14 : ¬ ((IntKind.wrap .i64 b0) < 0) := df st 3
  simp only [ea0, ea1, eb0, eb1] at f14
  have f15 : ¬ (23 < (IntKind.wrap .i64 a0)) := df st 4
  simp only [ea0, ea1, eb0, eb1] at f15
  have f16 : ¬ ((IntKind.wrap .i64 a0) < 0) := df st 5
  simp only [ea0, ea1, eb0, eb1] at f16
  have gz : Grew H H10 := (Grew.trans (Grew.refl _) (gk st))
  have hc : spotsV a0 a1 b0 b1 = ([], 2) := by
   unfold spotsV; rw [if_neg (show ¬ okSp a0 a1 b0 b1 = true from fun h => by have := of_decide_eq_true h; omega)]
  obtain ⟨pz, ez, rz, nz⟩ := sl_of st.inn hE 4 2 0 0 2 (by kernel_rfl) (ds := []) (by kernel_rfl)
  have oz : H.next ≤ pz := Nat.le_trans (Nat.le_refl _) (nz (Nat.le_of_ble_eq_true rfl))
  have e7 : E10 5 = .int .i64 2 := env_of st.inn hE 5 (by kernel_rfl)
  exact res_ex (by kernel_rfl) (end_tmps (.inr rfl) ez e7 gz.next (by rw [hc]; exact ⟨gz, _, rfl, .sl (by simpa using rz) rfl (Nat.le_refl _), .of_le oz⟩))
 ·
  intro vs ls H17 E17 st hE
  have f18 : 23 < (IntKind.wrap .i64 b1) := dt st 0
  simp only [ea0, ea1, eb0, eb1] at f18
  have f19 : ¬ ((IntKind.wrap .i64 b1) < 0) := df st 1
  simp only [ea0, ea1, eb0, eb1] at f19
  have f20 : ¬ (23 < (IntKind.wrap .i64 a1)) := df st 2
  simp only [ea0, ea1, eb0, eb1] at f20
  have f21 : ¬ ((IntKind.wrap .i64 a1) < 0) := df st 3
  simp only [ea0, ea1, eb0, eb1] at f21
  have f22 : ¬ (23 < (IntKind.wrap .i64 b0)) := df st 4
  simp only [ea0, ea1, eb0, eb1] at f22
  have f23 : ¬ ((IntKind.wrap .i64 b0) < 0) := df st 5
  simp only [ea0, ea1, eb0, eb1] at f23
  have f24 : ¬ (23 < (IntKind.wrap .i64 a0)) := df st 6
  simp only [ea0, ea1, eb0, eb1] at f24
  have f25 : ¬ ((IntKind.wrap .i64 a0) < 0) := df st 7
  simp only [ea0, ea1, eb0, eb1] at f25
  have gz : Grew H H17 := (Grew.trans (Grew.refl _) (gk st))
  have hc : spotsV a0 a1 b0 b1 = ([], 2) := by
   unfold spotsV; rw [if_neg (show ¬ okSp a0 a1 b0 b1 = true from fun h => by have := of_decide_eq_true h; omega)]
  obtain ⟨pz, ez, rz, nz⟩ := sl_of st.inn hE 4 2 0 0 2 (by kernel_rfl) (ds := []) (by kernel_rfl)
  have oz : H.next ≤ pz := Nat.le_trans (Nat.le_refl _) (nz (Nat.le_of_ble_eq_true rfl))
  have e7 : E17 5 = .int .i64 2 := env_of st.inn hE 5 (by kernel_rfl)
  exact res_ex (by kernel_rfl) (end_tmps (.inr rfl) ez e7 gz.next (by rw [hc]; exact ⟨gz, _, rfl, .sl (by simpa using rz) rfl (Nat.le_refl _), .of_le oz⟩))
 ·
  intro vs ls H26 E26 st hE
  have f27 : ¬ (23 < (IntKind.wrap .i64 b1)) := df st 0
  simp only [ea0, ea1, eb0, eb1] at f27
  have f28 : ¬ ((IntKind.wrap .i64 b1) < 0) := df st 1
  simp only [ea0, ea1, eb0, eb1] at f28
  have f29 : ¬ (23 < (IntKind.wrap .i64 a1)) := df st 2
  simp only [ea0, ea1, eb0, eb1] at f29
  have f30 : ¬ ((IntKind.wrap .i64 a1) < 0) := df st 3
  simp only [ea0, ea1, eb0, eb1] at f30
  have f31 : ¬ (23 < (IntKind.wrap .i64 b0)) := df st 4
  simp only [ea0, ea1, eb0, eb1] at f31
  have f32 : ¬ ((IntKind.wrap .i64 b0) < 0) := df st 5
  simp only [ea0, ea1, eb0, eb1] at f32
  have f33 : ¬ (23 < (IntKind.wrap .i64 a0)) := df st 6
  simp only [ea0, ea1, eb0, eb1] at f33
  have f34 : ¬ ((IntKind.wrap .i64 a0) < 0) := df st 7
  simp only [ea0, ea1, eb0, eb1] at f34
  have b35 := eo st hE 26 (.agg [.int .i16 a0, .int .i16 a1])
  have b36 := eo st hE 27 (.agg [.int .i16 b0, .int .i16 b1])
  have g37 : Grew H H26 := (gk st)
  have g38 : Grew H H26 := Grew.trans (Grew.refl _) g37
  clear st hE vs ls
  refine res_call (d := (some 28)) (f := 73) (args := [.tmp 26, .tmp 27]) (by kernel_rfl) (R := fun z H' => Grew H26 H' ∧ SlW H' 2 (lineT a0 a1 b0 b1 ((nX a0 a1 b0 b1).toNat + 1)) z ∧ FreshS H26.next z) ?_ ?_
  ·
   show ACalls _ _ [E26 26, E26 27] _ _
   rw [b35, b36]
   exact k_l07Line H26 a0 a1 b0 b1 (by omega) (by omega) (by omega) (by omega)
  rintro S40 H39 ⟨gH39, sS40, fS40⟩
  have fr41 : FreshS H.next (S40) := fS40.mono g38.next
  have g42 : Grew H H39 := Grew.trans g38 gH39
  have q43 := q1.app (.cons sS40.one .nil : KdsL [.one] [S40])
  refine run_mc (φ := φ0) (pm := pmR 0 [] 8) 20 (ws := []) (env := [(26, .agg [.nd 0 (.int .i16), .nd 1 (.int .i16)]), (27, .agg [.nd 2 (.int .i16), .nd 3 (.int .i16)]), (28, n1 4)]) q43 .nil (sepOk_ro rfl) .nil (eC q43 (.cons (put_ne rfl b35) (.cons (put_ne rfl b36) (.cons put_same .nil)))) tb_ok ap_ok ?_
  refine all1 (by kernel_rfl) ?_
  intro vs ls H44 E44 st hE
  have gz : Grew H H44 := (Grew.trans g42 (gk st))
  have hc : spotsV a0 a1 b0 b1 = (lineT a0 a1 b0 b1 ((nX a0 a1 b0 b1).toNat + 1), 0) := by
   unfold spotsV; rw [if_pos (show okSp a0 a1 b0 b1 = true from decide_eq_true (by omega))]
  exact res_ex (by kernel_rfl) (end_same st.inn hE (.inr rfl) (a := .tuple [S40, .int .i64 0]) (by kernel_rfl) gz.next (by rw [hc]; exact ⟨gz, _, rfl, (sS40.grew (st.inn.kept.grew (Nat.le_refl _))), fr41⟩))
 ·
  intro vs ls H45 E45 st hE
  have f46 : (IntKind.wrap .i64 b1) < 0 := dt st 0
  simp only [ea0, ea1, eb0, eb1] at f46
  have f47 : ¬ (23 < (IntKind.wrap .i64 a1)) := df st 1
  simp only [ea0, ea1, eb0, eb1] at f47
  have f48 : ¬ ((IntKind.wrap .i64 a1) < 0) := df st 2
  simp only [ea0, ea1, eb0, eb1] at f48
  have f49 : ¬ (23 < (IntKind.wrap .i64 b0)) := df st 3
  simp only [ea0, ea1, eb0, eb1] at f49
  have f50 : ¬ ((IntKind.wrap .i64 b0) < 0) := df st 4
  simp only [ea0, ea1, eb0, eb1] at f50
  have f51 : ¬ (23 < (IntKind.wrap .i64 a0)) := df st 5
  simp only [ea0, ea1, eb0, eb1] at f51
  have f52 : ¬ ((IntKind.wrap .i64 a0) < 0) := df st 6
  simp only [ea0, ea1, eb0, eb1] at f52
  have gz : Grew H H45 := (Grew.trans (Grew.refl _) (gk st))
  have hc : spotsV a0 a1 b0 b1 = ([], 2) := by
   unfold spotsV; rw [if_neg (show ¬ okSp a0 a1 b0 b1 = true from fun h => by have := of_decide_eq_true h; omega)]
  obtain ⟨pz, ez, rz, nz⟩ := sl_of st.inn hE 4 2 0 0 2 (by kernel_rfl) (ds := []) (by kernel_rfl)
  have oz : H.next ≤ pz := Nat.le_trans (Nat.le_refl _) (nz (Nat.le_of_ble_eq_true rfl))
  have e7 : E45 5 = .int .i64 2 := env_of st.inn hE 5 (by kernel_rfl)
  exact res_ex (by kernel_rfl) (end_tmps (.inr rfl) ez e7 gz.next (by rw [hc]; exact ⟨gz, _, rfl, .sl (by simpa using rz) rfl (Nat.le_refl _), .of_le oz⟩))
 ·
  intro vs ls H53 E53 st hE
  have f54 : (IntKind.wrap .i64 a1) < 0 := dt st 0
  simp only [ea0, ea1, eb0, eb1] at f54
  have f55 : ¬ (23 < (IntKind.wrap .i64 b0)) := df st 1
  simp only [ea0, ea1, eb0, eb1] at f55
  have f56 : ¬ ((IntKind.wrap .i64 b0) < 0) := df st 2
  simp only [ea0, ea1, eb0, eb1] at f56
  have f57 : ¬ (23 < (IntKind.wrap .i64 a0)) := df st 3
  simp only [ea0, ea1, eb0, eb1] at f57
  have f58 : ¬ ((IntKind.wrap .i64 a0) < 0) := df st 4
  simp only [ea0, ea1, eb0, eb1] at f58
  have gz : Grew H H53 := (Grew.trans (Grew.refl _) (gk st))
  have hc : spotsV a0 a1 b0 b1 = ([], 2) := by
   unfold spotsV; rw [if_neg (show ¬ okSp a0 a1 b0 b1 = true from fun h => by have := of_decide_eq_true h; omega)]
  obtain ⟨pz, ez, rz, nz⟩ := sl_of st.inn hE 4 2 0 0 2 (by kernel_rfl) (ds := []) (by kernel_rfl)
  have oz : H.next ≤ pz := Nat.le_trans (Nat.le_refl _) (nz (Nat.le_of_ble_eq_true rfl))
  have e7 : E53 5 = .int .i64 2 := env_of st.inn hE 5 (by kernel_rfl)
  exact res_ex (by kernel_rfl) (end_tmps (.inr rfl) ez e7 gz.next (by rw [hc]; exact ⟨gz, _, rfl, .sl (by simpa using rz) rfl (Nat.le_refl _), .of_le oz⟩))
 ·
  intro vs ls H59 E59 st hE
  have f60 : (IntKind.wrap .i64 b0) < 0 := dt st 0
  simp only [ea0, ea1, eb0, eb1] at f60
  have f61 : ¬ (23 < (IntKind.wrap .i64 a0)) := df st 1
  simp only [ea0, ea1, eb0, eb1] at f61
  have f62 : ¬ ((IntKind.wrap .i64 a0) < 0) := df st 2
  simp only [ea0, ea1, eb0, eb1] at f62
  have gz : Grew H H59 := (Grew.trans (Grew.refl _) (gk st))
  have hc : spotsV a0 a1 b0 b1 = ([], 2) := by
   unfold spotsV; rw [if_neg (show ¬ okSp a0 a1 b0 b1 = true from fun h => by have := of_decide_eq_true h; omega)]
  obtain ⟨pz, ez, rz, nz⟩ := sl_of st.inn hE 4 2 0 0 2 (by kernel_rfl) (ds := []) (by kernel_rfl)
  have oz : H.next ≤ pz := Nat.le_trans (Nat.le_refl _) (nz (Nat.le_of_ble_eq_true rfl))
  have e7 : E59 5 = .int .i64 2 := env_of st.inn hE 5 (by kernel_rfl)
  exact res_ex (by kernel_rfl) (end_tmps (.inr rfl) ez e7 gz.next (by rw [hc]; exact ⟨gz, _, rfl, .sl (by simpa using rz) rfl (Nat.le_refl _), .of_le oz⟩))
 ·
  intro vs ls H63 E63 st hE
  have f64 : (IntKind.wrap .i64 a0) < 0 := dt st 0
  simp only [ea0, ea1, eb0, eb1] at f64
  have gz : Grew H H63 := (Grew.trans (Grew.refl _) (gk st))
  have hc : spotsV a0 a1 b0 b1 = ([], 2) := by
   unfold spotsV; rw [if_neg (show ¬ okSp a0 a1 b0 b1 = true from fun h => by have := of_decide_eq_true h; omega)]
  obtain ⟨pz, ez, rz, nz⟩ := sl_of st.inn hE 4 2 0 0 2 (by kernel_rfl) (ds := []) (by kernel_rfl)
  have oz : H.next ≤ pz := Nat.le_trans (Nat.le_refl _) (nz (Nat.le_of_ble_eq_true rfl))
  have e7 : E63 5 = .int .i64 2 := env_of st.inn hE 5 (by kernel_rfl)
  exact res_ex (by kernel_rfl) (end_tmps (.inr rfl) ez e7 gz.next (by rw [hc]; exact ⟨gz, _, rfl, .sl (by simpa using rz) rfl (Nat.le_refl _), .of_le oz⟩))
end Go.Proofs.Ytnleibiniajbnaa
